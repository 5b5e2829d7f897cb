/- Steps and lemmas for the walks. -/
import Derived.Test.YteehplloacefmaaGreatGw
import Derived.Test.YteehplloacefmaaGreatGu
import Derived.Test.YteehplloacefmaaGreatCz
import Derived.Test.YteehplloacefmaaGreatGr
set_option linter.unusedVariables false
set_option linter.unusedSimpArgs false
set_option maxRecDepth 100000
namespace Go.Proofs.YteehplloacefmaaGreat
open Go.Vc
abbrev l8:List PanicEntry:=[{ v:=.iface 118 (.agg #[]),recovered:=false }]
theorem nR {w:World}:ae Tryz.prog 73 #[.bool true] w (fun o w'=>o=.tuple #[]∧aX w w'):=by
  refine aL 6 Tryz.func73 Z Z (by simp) ?_
  refine V ?_
  have E:=ao.refl (K:=aP) w
  refine O zd (aa (bH Z) (aa (cg Z) ?_))
  refine ac (U (am Z Z (fun h=>?_) (fun h=>?_)))
  · skip
    cases h
  · skip
    refine ar (ti Z ?_)
    exact ⟨rfl,E⟩
theorem l9 {w:World}:bt Tryz.prog 73 #[.bool false] w (fun ch w'=>ch=l8∧aX w w'):=by
  refine mw 6 Tryz.func73 Z Z (by simp) ?_
  refine V ?_
  have E:=ao.refl (K:=aP) w
  refine O zd (aa (bH Z) (aa (cg Z) ?_))
  refine ac (U (am Z Z (fun h=>?_) (fun h=>?_)))
  · skip
    refine O zd (aa (aV (pl:=[]) (z:=.agg #[]) (zl:=[]) zk (by unfold aE;kernel_rfl) Z Z (cells:=[]) Z) ?_)
    refine aa (qR zk Z) ?_
    refine cj (rE Z ?_)
    refine oM ?_
    exact ⟨rfl,E⟩
  · skip
    cases h
def eF (most:Int) (l:List UInt8):Option (Nat × List UInt8):=match cK l with
  | none=>none
  | some (n,r)=>if (n:Int)≤most then some (n,r) else none
def dU (most:Nat) (l:List UInt8):Option (List UInt8 × List UInt8):=match br most l with
  | .ok x=>some x
  | .error _=>none
theorem gl {w:World} {b:Nat} {F:Nat→Prop} {l:List UInt8} {most:Int} {n:Nat} {r:List UInt8} (HR:Rd ef w b F l) (hF:¬ F b) (hm:0≤most) (hm2:most≤9223372036854775807) (h:eF most l=some (n,r)) :
    ae Tryz.prog 68 #[.pointer (some ⟨b,0,none⟩),.int .i64 most] w (fun o w'=>o=.int .i64 n∧Rd ef w' b F r∧ao (fun k=>k=b) w w'):=by
  have hblt:b < w.heap.size:=by obtain ⟨_,_,h,_⟩:=HR;exact h.lt
  obtain ⟨hn,hle⟩:cK l=some (n,r)∧(n:Int)≤most:=by
    unfold eF at h
    split at h
    · cases h
    · next n' r' hd=>
                       by_cases hle:(n':Int)≤most
                       · rw [if_pos hle] at h;cases h;exact ⟨hd,hle⟩
                       · rw [if_neg hle] at h;cases h
  refine aL 23 Tryz.func68 Z Z (by simp) ?_
  refine V ?_
  have E:=ao.refl (K:=fun k=>k=b) w
  refine O zd (aa (ad Z) (ac (U (V (O zd (aa (bK Z) (ah (av zk (ci Z) (ae.mono (cd HR hF) ?_)))))))))
  rintro o1 w1 ⟨ho1,HR1,k1⟩
  have:=k1.size
  have hr1:ca l=r:=by rw [ca,hn]
  rw [hr1] at HR1
  rw [fk,hn] at ho1
  subst ho1
  refine aa (dY Z) (aa (ai (t:=.int _ _) Z Z) (aa (ai (t:=.int _ _) Z Z) (aa (bO Z) (aa (bO Z) (ac (U (V (O zd (aa (aQ Z) ?_)))))))))
  refine aa (aG.as (b:=true) (aJ Z Z) (by simp)) ?_
  refine aa (bH Z) (dE Z Z (bx.of_v (aQ Z) ?_))
  refine dE Z Z (bx.of_v (aQ Z) ?_)
  refine dE Z Z (bx.of_v (bS (ds:=.int .i64) zk zk Z (by first | exact cq zo zo | rfl)) ?_)
  refine dE Z Z (bx.of_v (aG.as (b:=true) (fT Z Z) (by rw [decide_eq_true_eq];exact hle)) ?_)
  refine aa (dn Z Z) ?_
  refine ah (av zk (cE Z) (ae.mono ((show ae _ _ #[.bool true] _ _ from nR)) ?_))
  rintro _ w101 ⟨rfl,e101⟩
  have:=e101.size
  refine ac (U (V (O zd (aa (aQ Z) (aa (bS (ds:=.int .u64) zk zk Z (by first | exact bn zo zo | rfl)) ?_)))))
  refine aa (bO Z) (ac (U (aw (aU Z zq (bB Z) ?_))))
  replace E:=(E.step k1 bi).trans e101.keep
  replace HR1:=HR1.ext e101
  exact ⟨by simp,HR1,E⟩
theorem gk {w:World} {b:Nat} {F:Nat→Prop} {l:List UInt8} {most:Int} (HR:Rd ef w b F l) (hF:¬ F b) (hm:0≤most) (hm2:most≤9223372036854775807) (h:eF most l=none) :
    bt Tryz.prog 68 #[.pointer (some ⟨b,0,none⟩),.int .i64 most] w (fun ch w'=>ch=l8∧ao (fun k=>k=b) w w'):=by
 have hblt:b < w.heap.size:=by obtain ⟨_,_,h,_⟩:=HR;exact h.lt
 rcases hd:cK l with _ | ⟨n,r⟩
 ·
  refine mw 23 Tryz.func68 Z Z (by simp) ?_
  refine V ?_
  have E:=ao.refl (K:=fun k=>k=b) w
  refine O zd (aa (ad Z) (ac (U (V (O zd (aa (bK Z) (ah (av zk (ci Z) (ae.mono (cd HR hF) ?_)))))))))
  rintro o1 w1 ⟨ho1,HR1,k1⟩
  have:=k1.size
  rw [fk,hd] at ho1
  subst ho1
  refine aa (dY Z) (aa (ai (t:=.int _ _) Z Z) (aa (ai (t:=.int _ _) Z Z) (aa (bO Z) (aa (bO Z) (ac (U (V (O zd (aa (aQ Z) ?_)))))))))
  refine aa (aG.as (b:=false) (aJ Z Z) (by simp)) ?_
  refine aa (bH Z) (dz (u:=.bool false) Z Z Z ?_)
  refine dz (u:=.bool false) Z Z Z ?_
  refine dz (u:=.bool false) Z Z Z ?_
  refine dz (u:=.bool false) Z Z Z ?_
  refine aa (fG Z) ?_
  refine cj (cJ zk (cE Z) (bt.mono ((show bt _ _ #[.bool false] _ _ from l9)) ?_))
  rintro ch w2 ⟨hch,e2⟩
  have:=e2.size
  refine bC ?_
  refine oM ?_
  replace E:=(E.step k1 bi).trans e2.keep
  exact ⟨hch,E⟩
 have hle:¬ (n:Int)≤most:=by
  intro hle;unfold eF at h;rw [hd] at h;simp only [if_pos hle] at h;cases h
 refine mw 23 Tryz.func68 Z Z (by simp) ?_
 refine V ?_
 have E:=ao.refl (K:=fun k=>k=b) w
 refine O zd (aa (ad Z) (ac (U (V (O zd (aa (bK Z) (ah (av zk (ci Z) (ae.mono (cd HR hF) ?_)))))))))
 rintro o1 w1 ⟨ho1,HR1,k1⟩
 have:=k1.size
 rw [fk,hd] at ho1
 subst ho1
 refine aa (dY Z) (aa (ai (t:=.int _ _) Z Z) (aa (ai (t:=.int _ _) Z Z) (aa (bO Z) (aa (bO Z) (ac (U (V (O zd (aa (aQ Z) ?_)))))))))
 refine aa (aG.as (b:=true) (aJ Z Z) (by simp)) ?_
 refine aa (bH Z) (dE Z Z (bx.of_v (aQ Z) ?_))
 refine dE Z Z (bx.of_v (aQ Z) ?_)
 refine dE Z Z (bx.of_v (bS (ds:=.int .i64) zk zk Z (by first | exact cq zo zo | rfl)) ?_)
 refine dE Z Z (bx.of_v (aG.as (b:=false) (fT Z Z) (by rw [decide_eq_false_iff_not];exact hle)) ?_)
 refine aa (dn Z Z) ?_
 refine cj (cJ zk (cE Z) (bt.mono ((show bt _ _ #[.bool false] _ _ from l9)) ?_))
 rintro ch w2 ⟨hch,e2⟩
 have:=e2.size
 refine bC ?_
 refine oM ?_
 replace E:=(E.step k1 bi).trans e2.keep
 exact ⟨hch,E⟩
theorem iU {w:World} {b:Nat} {F:Nat→Prop} {l:List UInt8} {most:Int} {x r:List UInt8} (HR:Rd ef w b F l) (hF:∀ k,F k→k < b) (hm:0≤most) (hm2:most≤9223372036854775807) (hl:l.length≤140737488355300) (h:dU most.toNat l=some (x,r)) :
    ae Tryz.prog 72 #[.pointer (some ⟨b,0,none⟩),.int .i64 most] w (fun o w'=>(∃ a c,o=.slice a x.length c∧fO w' (fun k=>w.heap.size≤k) (.slice a x.length c) x)∧Rd ef w' b F r∧ao (fun k=>k=b) w w'):=by
 have hblt:b < w.heap.size:=by obtain ⟨_,_,h,_⟩:=HR;exact h.lt
 have hq:br most.toNat l=.ok (x,r):=by
  unfold dU at h
  split at h
  ·
   next hq=>rw [hq,Option.some.inj h]
  cases h
 refine aL 17 Tryz.func72 Z Z (by simp) ?_
 refine V ?_
 have E:=ao.refl (K:=fun k=>k=b) w
 refine O zd (aa (ad Z) (ac (U (V (O zd (aa (bK Z) (aa (aQ Z) (ah (aW zk (ci Z) (bB Z) (ae.mono (fZ HR hF hm hm2 hl) ?_))))))))))
 rintro o1 w1 ⟨ho1,k1⟩
 have:=k1.size
 obtain ⟨a3,c3,er3,fr,l1,rfl,HO3,HR3,hx3⟩:=eL ho1
 obtain ⟨rfl,rfl,rfl⟩:er3=0∧fr=x∧l1=r:=by
  rcases hx3 with ⟨he,hq3⟩ | ⟨_,_,_,_,_,hq3⟩
  ·
   rw [show br most.toNat l=_ from hq3] at hq;cases hq;exact ⟨he,rfl,rfl⟩
  rw [show br most.toNat l=_ from hq3] at hq;cases hq
 have zo_HO3:=fun (b:Nat) h=>HO3.own_lt (b:=b) h
 have HF3:fO w1 (fun k=>w.heap.size≤k∨w.heap.size≤k) _ _:=HO3.byF
 refine aa (dY Z) (aa (ai (t:=.slice _ _ _) Z Z) (aa (ai (t:=.int _ _) Z Z) (aa (cF Z) (aa (bO Z) (ac (U (V (O zd (aa (aQ Z) ?_)))))))))
 refine aa (aJ Z Z) ?_
 refine ah (av zk (cE Z) (ae.mono ((show ae _ _ #[.bool true] _ _ from nR)) ?_))
 rintro _ w101 ⟨rfl,e101⟩
 have:=e101.size
 refine ac (U (V (O zd (aa (bP Z) (aa (cF Z) (ac (U (aw (aU Z zq (bI Z) ?_)))))))))
 replace E:=(E.step k1 bi).trans e101.keep
 replace HR3:=HR3.ext e101
 replace HF3:=HF3.ext e101
 exact ⟨⟨_,_,rfl,HF3.mono fun i _ h=>h.elim (fun h=>h) (fun h=>h)⟩,HR3,E⟩
theorem iT {w:World} {b:Nat} {F:Nat→Prop} {l:List UInt8} {most:Int} (HR:Rd ef w b F l) (hF:∀ k,F k→k < b) (hm:0≤most) (hm2:most≤9223372036854775807) (hl:l.length≤140737488355300) (h:dU most.toNat l=none) :
    bt Tryz.prog 72 #[.pointer (some ⟨b,0,none⟩),.int .i64 most] w (fun ch w'=>ch=l8∧ao (fun k=>k=b) w w'):=by
  have hblt:b < w.heap.size:=by obtain ⟨_,_,h,_⟩:=HR;exact h.lt
  obtain ⟨er,hq⟩:∃ er,br most.toNat l=.error er:=by
    unfold dU at h
    split at h
    · cases h
    · next er hq=>exact ⟨er,hq⟩
  refine mw 17 Tryz.func72 Z Z (by simp) ?_
  refine V ?_
  have E:=ao.refl (K:=fun k=>k=b) w
  refine O zd (aa (ad Z) (ac (U (V (O zd (aa (bK Z) (aa (aQ Z) (ah (aW zk (ci Z) (bB Z) (ae.mono (fZ HR hF hm hm2 hl) ?_))))))))))
  rintro o1 w1 ⟨ho1,k1⟩
  have:=k1.size
  obtain ⟨a3,c3,er3,fr,l1,rfl,HO3,HR3,hx3⟩:=eL ho1
  have he3:¬ er3=0:=by
    rcases hx3 with ⟨he,hq3⟩ | ⟨he,_⟩
    · rw [show br most.toNat l=_ from hq3] at hq;cases hq
    · exact he
  have zo_HO3:=fun (b:Nat) h=>HO3.own_lt (b:=b) h
  refine aa (dY Z) (aa (ai (t:=.slice _ _ _) Z Z) (aa (ai (t:=.int _ _) Z Z) (aa (cF Z) (aa (bO Z) (ac (U (V (O zd (aa (aQ Z) ?_)))))))))
  refine aa (aJ Z Z) ?_
  refine cj (cJ zk (cE Z) (bt.mono ((show bt _ _ #[.bool (decide (er3=0))] _ _ by rw [decide_eq_false he3];exact l9)) ?_))
  rintro ch w2 ⟨hch,e2⟩
  have:=e2.size
  refine bC ?_
  refine oM ?_
  replace E:=(E.step k1 bi).trans e2.keep
  exact ⟨hch,E⟩
theorem s8 {w:World} {b:Nat} {F:Nat→Prop} {l:List UInt8} {x:Bool} {r:List UInt8} (HR:Rd ef w b F l) (hF:¬ F b) (h:dM l=some (x,r)) :
    ae Tryz.prog 109 #[.pointer (some ⟨b,0,none⟩)] w (fun o w'=>o=.bool x∧Rd ef w' b F r∧ao (fun k=>k=b) w w'):=by
  have hblt:b < w.heap.size:=by obtain ⟨_,_,h,_⟩:=HR;exact h.lt
  refine aL 14 Tryz.func109 Z Z (by simp) ?_
  refine V ?_
  have E:=ao.refl (K:=fun k=>k=b) w
  refine O zd (aa (ad Z) (ac (U (V (O zd (aa (bK Z) (ah (av zk (ci Z) (ae.mono (nQ HR hF) ?_)))))))))
  rintro o1 w1 ⟨ho1,HR1,k1⟩
  have:=k1.size
  have hr1:iQ l=r:=by rw [iQ,h]
  rw [hr1] at HR1
  rw [kr,h] at ho1
  subst ho1
  refine aa (dY Z) (aa (ai (t:=.bool _) Z Z) (aa (ai (t:=.int _ _) Z Z) (aa (dl Z) (aa (bO Z) (ac (U (V (O zd (aa (aQ Z) ?_)))))))))
  refine aa (aJ Z Z) ?_
  refine ah (av zk (cE Z) (ae.mono ((show ae _ _ #[.bool true] _ _ from nR)) ?_))
  rintro _ w101 ⟨rfl,e101⟩
  have:=e101.size
  refine ac (U (V (O zd (aa (bH Z) (aa (dl Z) (ac (U (aw (aU Z zq (cE Z) ?_)))))))))
  replace E:=(E.step k1 bi).trans e101.keep
  replace HR1:=HR1.ext e101
  exact ⟨rfl,HR1,E⟩
theorem s7 {w:World} {b:Nat} {F:Nat→Prop} {l:List UInt8} (HR:Rd ef w b F l) (hF:¬ F b) (h:dM l=none) :
    bt Tryz.prog 109 #[.pointer (some ⟨b,0,none⟩)] w (fun ch w'=>ch=l8∧ao (fun k=>k=b) w w'):=by
  have hblt:b < w.heap.size:=by obtain ⟨_,_,h,_⟩:=HR;exact h.lt
  refine mw 14 Tryz.func109 Z Z (by simp) ?_
  refine V ?_
  have E:=ao.refl (K:=fun k=>k=b) w
  refine O zd (aa (ad Z) (ac (U (V (O zd (aa (bK Z) (ah (av zk (ci Z) (ae.mono (nQ HR hF) ?_)))))))))
  rintro o1 w1 ⟨ho1,HR1,k1⟩
  have:=k1.size
  rw [kr,h] at ho1
  subst ho1
  refine aa (dY Z) (aa (ai (t:=.bool _) Z Z) (aa (ai (t:=.int _ _) Z Z) (aa (dl Z) (aa (bO Z) (ac (U (V (O zd (aa (aQ Z) ?_)))))))))
  refine aa (aJ Z Z) ?_
  refine cj (cJ zk (cE Z) (bt.mono ((show bt _ _ #[.bool false] _ _ from l9)) ?_))
  rintro ch w2 ⟨hch,e2⟩
  have:=e2.size
  refine bC ?_
  refine oM ?_
  replace E:=(E.step k1 bi).trans e2.keep
  exact ⟨hch,E⟩
end Go.Proofs.YteehplloacefmaaGreat
namespace Go.Proofs.YteehplloacefmaaGreat
open Go.Vc
theorem pU {w:World} {F:Nat→Prop} {v:Value} {k:List UInt8} (HS1:Bv w F v k):ae Tryz.prog 99 #[v] w (fun o w'=>o=.bool (ep k)∧aX w w'):=by
  obtain ⟨a,c,rfl⟩:=HS1.shape
  refine aL 11 Tryz.func99 Z Z (by simp) ?_
  refine V ?_
  have E:=ao.refl (K:=aP) w
  replace HS1:=HS1.all
  refine O zd (aa (ad Z) (ac (U (V (O zd (aa (bP Z) (aa (ba (et:=5) zk Z) ?_)))))))
  refine aa (fc Z Z) ?_
  refine aa (bH Z) (aj Z Z (fun hG=>bP Z) (aj Z Z (fun hG=>ba (et:=5) zk (gd hG Z)) ?_))
  refine aj Z Z (fun hG=>fT (gd hG Z) Z) ?_
  refine aa (bu Z Z) ?_
  refine aa (dl Z) (ac (U (aw (aU Z zq (cE Z) ?_))))
  refine ⟨?_,E⟩
  congr 1;unfold ep;rw [Bool.eq_iff_iff];simp
  omega
theorem mC {w:World} {n:Int}:ae Tryz.prog 98 #[.int .i64 n] w (fun o w'=>o=.bool (dJ n)∧aX w w'):=by
  refine aL 9 Tryz.func98 Z Z (by simp) ?_
  refine V ?_
  have E:=ao.refl (K:=aP) w
  refine O zd (aa (ad Z) (ac (U (V (O zd (aa (aQ Z) (aa (fc Z Z) ?_)))))))
  refine aa (bH Z) (aj Z Z (fun hG=>aQ Z) (aj Z Z (fun hG=>bw (gd hG Z) Z) ?_))
  refine aa (bu Z Z) ?_
  refine aa (dl Z) (ac (U (aw (aU Z zq (cE Z) ?_))))
  exact ⟨rfl,E⟩
theorem nz {w:World} {n:Int}:ae Tryz.prog 97 #[.int .i64 n] w (fun o w'=>o=.bool (t8 n)∧aX w w'):=by
  refine aL 9 Tryz.func97 Z Z (by simp) ?_
  refine V ?_
  have E:=ao.refl (K:=aP) w
  refine O zd (aa (ad Z) (ac (U (V (O zd (aa (aQ Z) (aa (fc Z Z) ?_)))))))
  refine aa (bH Z) (aj Z Z (fun hG=>aQ Z) (aj Z Z (fun hG=>fT (gd hG Z) Z) ?_))
  refine aa (bu Z Z) ?_
  refine aa (dl Z) (ac (U (aw (aU Z zq (cE Z) ?_))))
  exact ⟨rfl,E⟩
def uV:Array Value:=#[.bool false,.bool false,.bool false,.bool false,.bool false,.bool true,.bool false,.bool false,.bool false,.bool false,.bool true,.bool false,.bool true,.bool false,.bool false,.bool true,.bool false,.bool false,.bool false,.bool false,.bool true,.bool false,.bool true,.bool true,.bool false,.bool false,.bool true,.bool false,.bool false,.bool true]
def nmC (k:Int):Value:=.agg #[.bool (dR k).1,.bool (dR k).2.1,.bool (dR k).2.2.1,.bool (dR k).2.2.2.1,.bool (dR k).2.2.2.2]
theorem pG {k:Int} (h0:0≤k) (h5:k≤5):Value.agg (uV.extract (k.toNat * 5) (k.toNat * 5 + 5))=nmC k:=by
  obtain ⟨m,rfl⟩:=Int.eq_ofNat_of_zero_le h0
  have hm:m≤5:=by omega
  match m,hm with
  | 0,_=>rfl
  | 1,_=>rfl
  | 2,_=>rfl
  | 3,_=>rfl
  | 4,_=>rfl
  | 5,_=>rfl
theorem pW {w:World}:ae Tryz.prog 100 #[] w (fun o w'=>o=.agg uV∧aX w w'):=by
 refine aL 7 Tryz.func100 Z Z (by simp) ?_
 refine V ?_
 have E:=ao.refl (K:=aP) w
 refine O zd (ah (aD (z:=(.agg #[.bool false,.bool false,.bool false,.bool false,.bool false,.bool false,.bool false,.bool false,.bool false,.bool false,.bool false,.bool false,.bool false,.bool false,.bool false,.bool false,.bool false,.bool false,.bool false,.bool false,.bool false,.bool false,.bool false,.bool false,.bool false,.bool false,.bool false,.bool false,.bool false,.bool false])) (by unfold aE;kernel_rfl) ?_))
 rintro b1 w1 zb1 HB1 e1 z1
 have:=e1.size
 try simp only [Value.cells] at HB1
 refine ac (U (V (O zd (aa (aV (pl:=[(0,1),(1,1),(2,1),(3,1),(4,1)]) (z:=.agg #[.bool false,.bool false,.bool false,.bool false,.bool false]) (zl:=[.bool false,.bool false,.bool false,.bool false,.bool false]) zk (by unfold aE;kernel_rfl) Z Z (cells:=[_,_,_,_,_]) Z) ?_))))
 refine aa (aV (pl:=[(0,1),(1,1),(2,1),(3,1),(4,1)]) (z:=.agg #[.bool false,.bool false,.bool false,.bool false,.bool false]) (zl:=[.bool false,.bool false,.bool false,.bool false,.bool false]) zk (by unfold aE;kernel_rfl) Z Z (cells:=[_,_,_,_,_]) Z) ?_
 refine aa (aV (pl:=[(0,1),(1,1),(2,1),(3,1),(4,1)]) (z:=.agg #[.bool false,.bool false,.bool false,.bool false,.bool false]) (zl:=[.bool false,.bool false,.bool false,.bool false,.bool false]) zk (by unfold aE;kernel_rfl) Z Z (cells:=[_,_,_,_,_]) Z) ?_
 refine aa (aV (pl:=[(0,1),(1,1),(2,1),(3,1),(4,1)]) (z:=.agg #[.bool false,.bool false,.bool false,.bool false,.bool false]) (zl:=[.bool false,.bool false,.bool false,.bool false,.bool false]) zk (by unfold aE;kernel_rfl) Z Z (cells:=[_,_,_,_,_]) Z) ?_
 refine aa (aV (pl:=[(0,1),(1,1),(2,1),(3,1),(4,1)]) (z:=.agg #[.bool false,.bool false,.bool false,.bool false,.bool false]) (zl:=[.bool false,.bool false,.bool false,.bool false,.bool false]) zk (by unfold aE;kernel_rfl) Z Z (cells:=[_,_,_,_,_]) Z) ?_
 refine aa (pk (et:=149) (n:=6) (sz:=5) (z:=.agg #[.bool false,.bool false,.bool false,.bool false,.bool false,.bool false,.bool false,.bool false,.bool false,.bool false,.bool false,.bool false,.bool false,.bool false,.bool false,.bool false,.bool false,.bool false,.bool false,.bool false,.bool false,.bool false,.bool false,.bool false,.bool false,.bool false,.bool false,.bool false,.bool false,.bool false]) (zl:=[.bool false,.bool false,.bool false,.bool false,.bool false,.bool false,.bool false,.bool false,.bool false,.bool false,.bool false,.bool false,.bool false,.bool false,.bool false,.bool false,.bool false,.bool false,.bool false,.bool false,.bool false,.bool false,.bool false,.bool false,.bool false,.bool false,.bool false,.bool false,.bool false,.bool false]) zk (by unfold aE;kernel_rfl) Z Z (cells:=[_,_,_,_,_,_,_,_,_,_,_,_,_,_,_,_,_,_,_,_,_,_,_,_,_,_,_,_,_,_]) Z) ?_
 refine ah (aq (n:=30) Z Z (aZ Z) zk Z cT HB1 bV ?_)
 rintro w101 HB1 k101 z101
 have:=k101.size
 try simp only [zS,Nat.zero_add,Nat.reduceAdd,List.drop_nil] at HB1
 refine ac (U (aw (jD (n:=30) Z zq Z zk HB1.pv Z ?_)))
 replace E:=(E.trans e1.keep).step k101 bi
 exact ⟨rfl,E⟩
theorem vz {w:World} {is:Bool} {n:Int}:ae Tryz.prog 131 (#[.bool is,.int .i64 n] ++ #[]) w (fun o w'=>o=.int .i64 (if is then n else 0)∧aX w w'):=by
  show ae _ _ #[_,_] _ _
  refine aL 8 Tryz.func131 Z Z (by simp) ?_
  refine V ?_
  have E:=ao.refl (K:=aP) w
  refine O zd (aa (ad Z) (ac (U (V (V (O zd (aa (bH Z) (aa (cg Z) ?_))))))))
  refine ac (U (am Z Z (fun h=>?_) (fun h=>?_)))
  · skip
    refine V (O zd (aa (ad Z) (ac (U (aw (ay (aU Z zq (bB Z) ?_)))))))
    refine ⟨?_,E⟩
    cases is <;> simp_all
  · skip
    refine ar (U (V (O zd (aa (aQ Z) (aa (bO Z) (ac (U (aw (aU Z zq (bB Z) ?_)))))))))
    refine ⟨?_,E⟩
    cases is <;> simp_all
end Go.Proofs.YteehplloacefmaaGreat
namespace Go.Proofs.YteehplloacefmaaGreat
open Go.Vc
theorem rx {k:Int} {key to val was:List UInt8} {no:Bool} {most:Int} (h:(decide (k < 1) || decide (5 < k))=true):fD (k,key,to,val,was,no,most)=false:=by
  simp only [Bool.or_eq_true,decide_eq_true_eq] at h
  simp only [fD]
  rw [if_neg zo,if_neg zo,if_neg zo,if_neg zo]
def mc (is:Bool) (n:Int):Int:=if is then n else 0
theorem sQ {k:Int} {key to val was:List UInt8} {no:Bool} {most:Int} (h:(decide (k < 1) || decide (5 < k))=false) :
    (((((((!(dR k).1 || decide (0 < (key.length:Int))) && decide ((key.length:Int)≤24)) && decide ((to.length:Int)≤mc (dR k).2.1 24))) &&
      (((decide ((val.length:Int)≤mc (dR k).2.2.1 40) && decide ((was.length:Int)≤mc (dR k).2.2.2.1 40)) && (!no || ((dR k).2.2.2.1 && decide ((was.length:Int)=0)))))) &&
      decide (mc (dR k).2.2.2.2 1≤most)) && decide (most≤mc (dR k).2.2.2.2 32))=fD (k,key,to,val,was,no,most):=by
  simp only [Bool.or_eq_false_iff,decide_eq_false_iff_not] at h
  obtain ⟨m,rfl⟩:=Int.eq_ofNat_of_zero_le (show 0≤k by omega)
  have h0:1≤m:=by omega
  have hm:m≤5:=by omega
  have le:∀ (l:List UInt8),l.isEmpty=decide (l.length=0):=fun l=>by cases l <;> simp
  match m,h0,hm with
  | 1,_,_=>simp only [fD,ep,le];generalize key.length=x1;generalize to.length=x2;generalize val.length=x3;generalize was.length=x4;rw [Bool.eq_iff_iff];cases no <;> simp [dR,mc] <;> omega
  | 2,_,_=>simp only [fD,ep,le];generalize key.length=x1;generalize to.length=x2;generalize val.length=x3;generalize was.length=x4;rw [Bool.eq_iff_iff];cases no <;> simp [dR,mc] <;> omega
  | 3,_,_=>simp only [fD,ep,le];generalize key.length=x1;generalize to.length=x2;generalize val.length=x3;generalize was.length=x4;rw [Bool.eq_iff_iff];cases no <;> simp [dR,mc] <;> omega
  | 4,_,_=>simp only [fD,ep,le];generalize key.length=x1;generalize to.length=x2;generalize val.length=x3;generalize was.length=x4;rw [Bool.eq_iff_iff];cases no <;> simp [dR,mc] <;> omega
  | 5,_,_=>simp only [fD,ep,le];generalize key.length=x1;generalize to.length=x2;generalize val.length=x3;generalize was.length=x4;rw [Bool.eq_iff_iff];cases no <;> simp [dR,mc] <;> omega
theorem mf {w:World} {is:Bool} {n:Int}:ae Tryz.prog 131 (#[.bool is,.int .i64 n] ++ #[]) w (fun o w'=>o=.int .i64 (mc is n)∧aX w w'):=vz
theorem tG {w:World} {F:Nat→Prop} {v:Value} {a:mN} (HG1:aY qY w F v a):ae Tryz.prog 128 #[v] w (fun o w'=>o=.bool (fD a)∧aX w w'):=by
 obtain ⟨k,key,to,val,was,no,most⟩:=a
 obtain ⟨a1,c1,a2,c2,a3,c3,a4,c4,rfl,HS1,HS2,HS3,HS4,hi1,hi2⟩:=HG1.ak
 simp only [] at HS1 HS2 HS3 HS4 hi1 hi2 ⊢
 refine aL 99 Tryz.func128 Z Z (by simp) ?_
 refine V ?_
 have E:=ao.refl (K:=aP) w
 replace HS1:=HS1.all
 replace HS2:=HS2.all
 replace HS3:=HS3.all
 replace HS4:=HS4.all
 refine O zd (ah (aS (aZ Z) ?_))
 rintro b1 w1 zb1 HB1 e1 z1
 have:=e1.size
 try simp only [Value.cells] at HB1
 refine aa (ad Z) (ac (U (V (V (O zd (aa (aA 0 40 Z) (aa (ag zk Z (by first | exact HB1.pv 0 _ rfl | assumption)) ?_)))))))
 refine aa (bw Z Z) ?_
 refine aa (bH Z) (aj Z Z (fun hG=>aA 0 40 Z) ?_)
 refine aj Z Z (fun hG=>ag zk (gd hG Z) (by first | exact HB1.pv 0 _ rfl | assumption)) ?_
 refine aj Z Z (fun hG=>bX (gd hG Z) Z) ?_
 refine aa (bF Z Z) ?_
 replace E:=E.trans e1.keep
 replace HS1:=HS1.ext e1
 replace HS2:=HS2.ext e1
 replace HS3:=HS3.ext e1
 replace HS4:=HS4.ext e1
 refine ac (U (am Z Z (fun hc=>?_) (fun hc=>?_)))
 ·
  refine V (O zd (aa (ad Z) (ac (U (aw (ay (aU Z zq (cE Z) ?_)))))))
  exact ⟨by rw [rx hc],E⟩
 have hk:1≤k∧k≤5:=by simp at hc;omega
 refine ar (U (V (cN zk ?_)))
 have e101:aX w1 { w1 with drawn:=w1.drawn + 1 }:=ao.drawn _ _
 generalize hw101:({ w1 with drawn:=w1.drawn + 1 }:World)=w101 at e101 ⊢
 clear hw101
 have:=e101.size
 refine bT 5 Z zd zd zd ?_
 refine eH (fun k=>w101.heap.size≤k) (iP w101.heap.size [⟨4,none,149,([.bool false,.bool false,.bool false,.bool false,.bool false]:List Value),([.bool false,.bool false,.bool false,.bool false,.bool false]:List Value)⟩]) zd zd (fun ab done hd=>iP.start (Nat.le_refl _) (fun a ha=>hd a.al (mG (n:=5) Z a ha))) ?_
 refine fJ (fun done ab w hR hcl hdk hJ hdn hd=>j0 zk (pW)) (fun done ab w w1 hdk hJ e=>hJ.src e Z) ?_
 refine aI (fun done ab w hR hcl hdk hJ hdn hd=>aA 0 40 Z) (fun _ _ _ _ j=>j.src (ao.refl _) Z) ?_
 replace HB1:=HB1.ext e101
 refine aI (fun done ab w hR hcl hdk hJ hdn hd=>ag zk (hd 1 Z) (by first | exact (HB1.keep hR aH).pv 0 _ rfl | assumption)) (fun _ _ _ _ j=>j.src (ao.refl _) Z) ?_
 refine aI (fun done ab w hR hcl hdk hJ hdn hd=>lG (et:=149) (n:=6) (sz:=5) (k:=k.toNat) zk zk (hd 0 Z) (hd 2 Z) zo zo (Value.agg.inj (pG zo zo))) (fun _ _ _ _ j=>j.src (ao.refl _) Z) ?_
 refine ea (fun done ab w hR hcl hdk hJ hdn hd=>aD (z:=.agg #[.bool false,.bool false,.bool false,.bool false,.bool false]) (by unfold aE;kernel_rfl) fun b w1 hb hB e hz=>⟨aX.keep e,hJ.al (i:=0) Z Z hdk hcl (fun m a hm he=>ej (i:=0) (m:=m) Z Z hm he) (fun a ha=>eP Z ha (List.mem_of_getElem? (i:=0) Z)) (fun s hs=>by cases hs) hb hB e⟩) ?_
 refine dq (fun ab w102 k102 J102=>?_)
 rintro _ - rfl _ - rfl _ - rfl _ - rfl v3 qv3 -
 have:=k102.size
 obtain ⟨b3,hb3,zb3,HB3⟩:=J102.fin (i:=0) rfl
 try dsimp only at HB3
 have zl3:=HB3.lt
 obtain rfl:=qv3.trans hb3
 refine ct (U (bZ zd Z ?_))
 refine ah (aq (n:=5) Z Z (aZ Z) zk Z cT HB3 bV ?_)
 rintro w103 HB3 k103 z103
 have:=k103.size
 try simp only [zS,Nat.zero_add,Nat.reduceAdd,List.drop_nil] at HB3
 refine ac (U (V (O zd (aa (zaF Z) (ac (U (V (dx (aP) zk zd zd ?_))))))))
 refine aB (fun ab w hR hd=>aA 0 4 Z) ?_
 replace HB1:=(HB1.keep k102 aH).keep k103 aH
 refine aB (fun ab w hR hd=>ag zk (hd 0 Z) (by first | exact (HB3.ext hR).pv 0 _ rfl | exact (HB1.ext hR).pv 0 _ rfl | assumption)) ?_
 refine aB (fun ab w hR hd=>cg (hd 1 Z)) ?_
 refine aB (fun ab w hR hd=>be (t:=.bool _) (hd 2 Z)) ?_
 refine bh Z (fun ab w hd=>hd 3 Z) (fun ab w hR hd hG=>aA 1 28 Z) ?_
 refine bh Z (fun ab w hd=>hd 3 Z) (fun ab w hR hd hG=>ag zk (gd hG (hd 4 Z)) (by first | exact (HB3.ext hR).pv 1 _ rfl | exact (HB1.ext hR).pv 1 _ rfl | assumption)) ?_
 refine bh Z (fun ab w hd=>hd 3 Z) (fun ab w hR hd hG=>ba (et:=5) zk (gd hG (hd 5 Z))) ?_
 refine bh Z (fun ab w hd=>hd 3 Z) (fun ab w hR hd hG=>bX (gd hG (hd 6 Z)) Z) ?_
 refine aB (fun ab w hR hd=>bF (hd 3 Z) (hd 7 Z)) ?_
 refine aB (fun ab w hR hd=>be (t:=.bool _) (hd 8 Z)) ?_
 refine bh Z (fun ab w hd=>hd 9 Z) (fun ab w hR hd hG=>aA 1 28 Z) ?_
 refine bh Z (fun ab w hd=>hd 9 Z) (fun ab w hR hd hG=>ag zk (gd hG (hd 10 Z)) (by first | exact (HB3.ext hR).pv 1 _ rfl | exact (HB1.ext hR).pv 1 _ rfl | assumption)) ?_
 refine bh Z (fun ab w hd=>hd 9 Z) (fun ab w hR hd hG=>ba (et:=5) zk (gd hG (hd 11 Z))) ?_
 refine bh Z (fun ab w hd=>hd 9 Z) (fun ab w hR hd hG=>fT (gd hG (hd 12 Z)) Z) ?_
 refine aB (fun ab w hR hd=>bu (hd 9 Z) (hd 13 Z)) ?_
 refine aB (fun ab w hR hd=>be (t:=.bool _) (hd 14 Z)) ?_
 refine bh Z (fun ab w hd=>hd 15 Z) (fun ab w hR hd hG=>aA 2 28 Z) ?_
 refine bh Z (fun ab w hd=>hd 15 Z) (fun ab w hR hd hG=>ag zk (gd hG (hd 16 Z)) (by first | exact (HB3.ext hR).pv 2 _ rfl | exact (HB1.ext hR).pv 2 _ rfl | assumption)) ?_
 refine bh Z (fun ab w hd=>hd 15 Z) (fun ab w hR hd hG=>ba (et:=5) zk (gd hG (hd 17 Z))) ?_
 refine bh Z (fun ab w hd=>hd 15 Z) (fun ab w hR hd hG=>jA Z) ?_
 refine bh Z (fun ab w hd=>hd 15 Z) (fun ab w hR hd hG=>aA 1 4 Z) ?_
 refine bh Z (fun ab w hd=>hd 15 Z) (fun ab w hR hd hG=>ag zk (gd hG (hd 20 Z)) (by first | exact (HB3.ext hR).pv 1 _ rfl | exact (HB1.ext hR).pv 1 _ rfl | assumption)) ?_
 refine gx Z (fun ab w hd=>hd 15 Z) (fun ab w hR hd hG=>dd (by first | assumption | kernel_rfl) (gd hG (hd 19 Z)) (gd hG (hd 21 Z)) (bB Z) (mf)) ?_
 refine bh Z (fun ab w hd=>hd 15 Z) (fun ab w hR hd hG=>fT (gd hG (hd 18 Z)) (gd hG (hd 22 Z))) ?_
 refine aB (fun ab w hR hd=>bu (hd 15 Z) (hd 23 Z)) ?_
 refine aB (fun ab w hR hd=>ad (t:=.bool _) (hd 24 Z)) ?_
 refine bU (fun w104 e104=>?_)
 replace HS1:=((HS1.ext e101).keep k102 aC).keep k103 aC
 replace HS2:=((HS2.ext e101).keep k102 aC).keep k103 aC
 replace HS3:=((HS3.ext e101).keep k102 aC).keep k103 aC
 replace HS4:=((HS4.ext e101).keep k102 aC).keep k103 aC
 rintro _ rfl _ rfl _ rfl _ rfl _ rfl _ rfl _ rfl _ rfl _ rfl _ rfl _ rfl _ rfl _ rfl _ rfl _ rfl _ rfl _ rfl _ rfl _ rfl _ rfl _ rfl _ rfl _ rfl _ rfl _ rfl _ rfl
 have:=e104.size
 refine bG (U (V (dx (aP) zk zd zd ?_)))
 refine aB (fun ab w hR hd=>aA 3 28 Z) ?_
 replace HB1:=HB1.ext e104
 replace HB3:=HB3.ext e104
 refine aB (fun ab w hR hd=>ag zk (hd 0 Z) (by first | exact (HB3.ext hR).pv 3 _ rfl | exact (HB1.ext hR).pv 3 _ rfl | assumption)) ?_
 refine aB (fun ab w hR hd=>ba (et:=5) zk (hd 1 Z)) ?_
 refine aB (fun ab w hR hd=>jA Z) ?_
 refine aB (fun ab w hR hd=>aA 2 4 Z) ?_
 refine aB (fun ab w hR hd=>ag zk (hd 4 Z) (by first | exact (HB3.ext hR).pv 2 _ rfl | exact (HB1.ext hR).pv 2 _ rfl | assumption)) ?_
 refine kY (fun ab w hR hd=>dd (by first | assumption | kernel_rfl) (hd 3 Z) (hd 5 Z) (bB Z) (mf)) ?_
 refine aB (fun ab w hR hd=>fT (hd 2 Z) (hd 6 Z)) ?_
 refine aB (fun ab w hR hd=>be (t:=.bool _) (hd 7 Z)) ?_
 refine bh Z (fun ab w hd=>hd 8 Z) (fun ab w hR hd hG=>aA 4 28 Z) ?_
 refine bh Z (fun ab w hd=>hd 8 Z) (fun ab w hR hd hG=>ag zk (gd hG (hd 9 Z)) (by first | exact (HB3.ext hR).pv 4 _ rfl | exact (HB1.ext hR).pv 4 _ rfl | assumption)) ?_
 refine bh Z (fun ab w hd=>hd 8 Z) (fun ab w hR hd hG=>ba (et:=5) zk (gd hG (hd 10 Z))) ?_
 refine bh Z (fun ab w hd=>hd 8 Z) (fun ab w hR hd hG=>jA Z) ?_
 refine bh Z (fun ab w hd=>hd 8 Z) (fun ab w hR hd hG=>aA 3 4 Z) ?_
 refine bh Z (fun ab w hd=>hd 8 Z) (fun ab w hR hd hG=>ag zk (gd hG (hd 13 Z)) (by first | exact (HB3.ext hR).pv 3 _ rfl | exact (HB1.ext hR).pv 3 _ rfl | assumption)) ?_
 refine gx Z (fun ab w hd=>hd 8 Z) (fun ab w hR hd hG=>dd (by first | assumption | kernel_rfl) (gd hG (hd 12 Z)) (gd hG (hd 14 Z)) (bB Z) (mf)) ?_
 refine bh Z (fun ab w hd=>hd 8 Z) (fun ab w hR hd hG=>fT (gd hG (hd 11 Z)) (gd hG (hd 15 Z))) ?_
 refine aB (fun ab w hR hd=>bu (hd 8 Z) (hd 16 Z)) ?_
 refine aB (fun ab w hR hd=>be (t:=.bool _) (hd 17 Z)) ?_
 refine bh Z (fun ab w hd=>hd 18 Z) (fun ab w hR hd hG=>aA 5 4 Z) ?_
 refine bh Z (fun ab w hd=>hd 18 Z) (fun ab w hR hd hG=>ag zk (gd hG (hd 19 Z)) (by first | exact (HB3.ext hR).pv 5 _ rfl | exact (HB1.ext hR).pv 5 _ rfl | assumption)) ?_
 refine bh Z (fun ab w hd=>hd 18 Z) (fun ab w hR hd hG=>cg (gd hG (hd 20 Z))) ?_
 refine bh Z (fun ab w hd=>hd 18 Z) (fun ab w hR hd hG=>be (t:=.bool _) (gd hG (hd 21 Z))) ?_
 refine db Z (fun ab w hd=>hd 22 Z) (fun ab w hR hd hG=>aA 3 4 Z) ?_
 refine db Z (fun ab w hd=>hd 22 Z) (fun ab w hR hd hG=>ag zk (gd hG (hd 23 Z)) (by first | exact (HB3.ext hR).pv 3 _ rfl | exact (HB1.ext hR).pv 3 _ rfl | assumption)) ?_
 refine db Z (fun ab w hd=>hd 22 Z) (fun ab w hR hd hG=>be (t:=.bool _) (gd hG (hd 24 Z))) ?_
 refine db Z (fun ab w hd=>hd 25 Z) (fun ab w hR hd hG=>aA 4 28 Z) ?_
 refine db Z (fun ab w hd=>hd 25 Z) (fun ab w hR hd hG=>ag zk (gd hG (hd 26 Z)) (by first | exact (HB3.ext hR).pv 4 _ rfl | exact (HB1.ext hR).pv 4 _ rfl | assumption)) ?_
 refine db Z (fun ab w hd=>hd 25 Z) (fun ab w hR hd hG=>ba (et:=5) zk (gd hG (hd 27 Z))) ?_
 refine db Z (fun ab w hd=>hd 25 Z) (fun ab w hR hd hG=>aJ (gd hG (hd 28 Z)) Z) ?_
 refine db Z (fun ab w hd=>hd 22 Z) (fun ab w hR hd hG=>bu (gd hG (hd 25 Z)) (sY hG (hd 29 Z))) ?_
 refine bh Z (fun ab w hd=>hd 18 Z) (fun ab w hR hd hG=>bF (gd hG (hd 22 Z)) (sY hG (hd 30 Z))) ?_
 refine aB (fun ab w hR hd=>bu (hd 18 Z) (hd 31 Z)) ?_
 refine aB (fun ab w hR hd=>ad (t:=.bool _) (hd 32 Z)) ?_
 refine bU (fun w105 e105=>?_)
 rintro _ rfl _ rfl _ rfl _ rfl _ rfl _ rfl _ rfl _ rfl _ rfl _ rfl _ rfl _ rfl _ rfl _ rfl _ rfl _ rfl _ rfl _ rfl _ rfl _ rfl _ rfl _ rfl _ rfl _ rfl _ rfl _ rfl _ rfl _ rfl _ rfl _ rfl _ rfl _ rfl _ rfl _ rfl
 have:=e105.size
 refine bG (U (V (dx (aP) zk zd zd ?_)))
 refine aB (fun ab w hR hd=>bH Z) ?_
 refine aB (fun ab w hR hd=>be (t:=.bool _) (hd 0 Z)) ?_
 refine bh Z (fun ab w hd=>hd 1 Z) (fun ab w hR hd hG=>bH Z) ?_
 refine aB (fun ab w hR hd=>bu (hd 1 Z) (hd 2 Z)) ?_
 refine aB (fun ab w hR hd=>be (t:=.bool _) (hd 3 Z)) ?_
 refine bh Z (fun ab w hd=>hd 4 Z) (fun ab w hR hd hG=>aA 6 3 Z) ?_
 replace HB1:=HB1.ext e105
 replace HB3:=HB3.ext e105
 refine bh Z (fun ab w hd=>hd 4 Z) (fun ab w hR hd hG=>ag zk (gd hG (hd 5 Z)) (by first | exact (HB3.ext hR).pv 6 _ rfl | exact (HB1.ext hR).pv 6 _ rfl | assumption)) ?_
 refine bh Z (fun ab w hd=>hd 4 Z) (fun ab w hR hd hG=>jA Z) ?_
 refine bh Z (fun ab w hd=>hd 4 Z) (fun ab w hR hd hG=>aA 4 4 Z) ?_
 refine bh Z (fun ab w hd=>hd 4 Z) (fun ab w hR hd hG=>ag zk (gd hG (hd 8 Z)) (by first | exact (HB3.ext hR).pv 4 _ rfl | exact (HB1.ext hR).pv 4 _ rfl | assumption)) ?_
 refine gx Z (fun ab w hd=>hd 4 Z) (fun ab w hR hd hG=>dd (by first | assumption | kernel_rfl) (gd hG (hd 7 Z)) (gd hG (hd 9 Z)) (bB Z) (mf)) ?_
 refine bh Z (fun ab w hd=>hd 4 Z) (fun ab w hR hd hG=>fc (gd hG (hd 6 Z)) (gd hG (hd 10 Z))) ?_
 refine aB (fun ab w hR hd=>bu (hd 4 Z) (hd 11 Z)) ?_
 refine aB (fun ab w hR hd=>be (t:=.bool _) (hd 12 Z)) ?_
 refine bh Z (fun ab w hd=>hd 13 Z) (fun ab w hR hd hG=>aA 6 3 Z) ?_
 refine bh Z (fun ab w hd=>hd 13 Z) (fun ab w hR hd hG=>ag zk (gd hG (hd 14 Z)) (by first | exact (HB3.ext hR).pv 6 _ rfl | exact (HB1.ext hR).pv 6 _ rfl | assumption)) ?_
 refine bh Z (fun ab w hd=>hd 13 Z) (fun ab w hR hd hG=>jA Z) ?_
 refine bh Z (fun ab w hd=>hd 13 Z) (fun ab w hR hd hG=>aA 4 4 Z) ?_
 refine bh Z (fun ab w hd=>hd 13 Z) (fun ab w hR hd hG=>ag zk (gd hG (hd 17 Z)) (by first | exact (HB3.ext hR).pv 4 _ rfl | exact (HB1.ext hR).pv 4 _ rfl | assumption)) ?_
 refine gx Z (fun ab w hd=>hd 13 Z) (fun ab w hR hd hG=>dd (by first | assumption | kernel_rfl) (gd hG (hd 16 Z)) (gd hG (hd 18 Z)) (bB Z) (mf)) ?_
 refine bh Z (fun ab w hd=>hd 13 Z) (fun ab w hR hd hG=>fT (gd hG (hd 15 Z)) (gd hG (hd 19 Z))) ?_
 refine aB (fun ab w hR hd=>bu (hd 13 Z) (hd 20 Z)) ?_
 refine aB (fun ab w hR hd=>ad (t:=.bool _) (hd 21 Z)) ?_
 refine bU (fun w106 e106=>?_)
 rintro _ rfl _ rfl _ rfl _ rfl _ rfl _ rfl _ rfl _ rfl _ rfl _ rfl _ rfl _ rfl _ rfl _ rfl _ rfl _ rfl _ rfl _ rfl _ rfl _ rfl _ rfl _ rfl _ rfl
 have:=e106.size
 refine bG (U (aw (aU Z zq (cE Z) ?_)))
 replace E:=(((((E.trans e101.keep).step k102 bi).step k103 bi).trans e104.keep).trans e105.keep).trans e106.keep
 exact ⟨by rw [sQ hc],E⟩
theorem om {w:World} {F:Nat→Prop} {v:Value} {a:ov} (HG1:aY si w F v a):ae Tryz.prog 115 #[v] w (fun o w'=>o=.bool (oO a)∧aX w w'):=by
 obtain ⟨c,n,k,key,to,val,was,no,most⟩:=a
 obtain ⟨a1,c1,a2,c2,a3,c3,a4,c4,rfl,HG2,hi1,hi2⟩:=HG1.rq
 clear HG1
 refine aL 21 Tryz.func115 Z Z (by simp) ?_
 refine V ?_
 have E:=ao.refl (K:=aP) w
 replace HG2:=HG2.all
 refine O zd (ah (aS (aZ Z) ?_))
 rintro b1 w1 zb1 HB1 e1 z1
 have:=e1.size
 try simp only [Value.cells] at HB1
 refine aa (ad Z) (ac (U (V (O zd (aa (aA 0 3 Z) (aa (ag zk Z (by first | exact HB1.pv 0 _ rfl | assumption)) ?_))))))
 refine aa (fc Z Z) ?_
 refine aa (bH Z) (aj Z Z (fun hG=>aA 0 3 Z) ?_)
 refine aj Z Z (fun hG=>ag zk (gd hG Z) (by first | exact HB1.pv 0 _ rfl | assumption)) ?_
 refine aj Z Z (fun hG=>fT (gd hG Z) Z) ?_
 refine aa (bu Z Z) ?_
 refine aa (bH Z) (aj Z Z (fun hG=>aA 1 2 Z) ?_)
 refine aj Z Z (fun hG=>ag zk (gd hG Z) (by first | exact HB1.pv 1 _ rfl | assumption)) ?_
 refine cI Z Z (fun hG=>av zk (gd hG Z) (nz)) ?_
 rintro w101 e101
 have:=e101.size
 refine aa (bu Z Z) ?_
 refine aa (bH Z) (aj Z Z (fun hG=>aA 2 42 Z) ?_)
 replace HB1:=HB1.ext e101
 refine aj Z Z (fun hG=>ap zk (gd hG Z) (by first | exact (show Pv _ _ [_,_,_,_,_,_,_] from aN 2 7 HB1.pv) | exact bg 2 HB1.pv | assumption) Z) ?_
 replace HG2:=(HG2.ext e1).ext e101
 refine cI Z Z (fun hG=>av zk (gd hG Z) (tG HG2)) ?_
 rintro w102 e102
 have:=e102.size
 refine aa (bu Z Z) ?_
 refine aa (dl Z) (ac (U (aw (aU Z zq (cE Z) ?_))))
 replace E:=((E.trans e1.keep).trans e101.keep).trans e102.keep
 exact ⟨rfl,E⟩
theorem sK {n o g:Int} {f t:List UInt8} {e:Bool} (h:((((!t8 n || decide ((24:Int) < f.length)) || !dJ o) || !dJ g) || decide (o=g))=true):di (n,f,t,e,o,g)=false:=by
  simp only [di]
  simp only [Bool.or_eq_true,decide_eq_true_eq,Bool.not_eq_true'] at h
  rcases h with (((h | h) | h) | h) | h
  · simp [h]
  · rw [decide_eq_false (show ¬ f.length≤24 by omega)];simp
  · simp [h]
  · simp [h]
  · simp [h]
theorem sL {n o g:Int} {f t:List UInt8} {e:Bool} (h:((((!t8 n || decide ((24:Int) < f.length)) || !dJ o) || !dJ g) || decide (o=g))=false) :
    di (n,f,t,e,o,g)=((!e && decide ((t.length:Int)=0)) || ((e && ep t) && decide (fm f t < 0))):=by
  simp only [di]
  have le:∀ (l:List UInt8),l.isEmpty=decide (l.length=0):=fun l=>by cases l <;> simp
  simp only [Bool.or_eq_false_iff,decide_eq_false_iff_not,Bool.not_eq_false'] at h
  obtain ⟨⟨⟨⟨h1,h2⟩,h3⟩,h4⟩,h5⟩:=h
  rw [h1,h3,h4,decide_eq_true (show f.length≤24 by omega),decide_eq_false h5]
  cases e <;> simp [le,ky] <;> (rw [Bool.eq_iff_iff];simp)
theorem gr {w:World} {F:Nat→Prop} {v:Value} {a:iJ} (HG1:aY jU w F v a):ae Tryz.prog 49 #[v] w (fun o w'=>o=.bool (di a)∧aX w w'):=by
 obtain ⟨n,f,t,e,og,ng⟩:=a
 obtain ⟨a1,c1,a2,c2,rfl,HS1,HS2,hi1,hi2,hi3⟩:=HG1.mv
 simp only [] at HS1 HS2 hi1 hi2 hi3 ⊢
 refine aL 58 Tryz.func49 Z Z (by simp) ?_
 refine V ?_
 have E:=ao.refl (K:=aP) w
 replace HS1:=HS1.all
 replace HS2:=HS2.all
 refine O zd (ah (aS (aZ Z) ?_))
 rintro b1 w1 zb1 HB1 e1 z1
 have:=e1.size
 try simp only [Value.cells] at HB1
 refine aa (ad Z) (ac (U (V (V (O zd (aa (aA 0 2 Z) (aa (ag zk Z (by first | exact HB1.pv 0 _ rfl | assumption)) ?_)))))))
 refine ah (av zk (bB Z) (ae.mono (nz) ?_))
 rintro _ w101 ⟨rfl,e101⟩
 have:=e101.size
 refine aa (cg Z) ?_
 refine aa (bH Z) (aj Z Z (fun hG=>aA 1 28 Z) ?_)
 replace HB1:=HB1.ext e101
 refine aj Z Z (fun hG=>ag zk (gd hG Z) (by first | exact HB1.pv 1 _ rfl | assumption)) ?_
 refine aj Z Z (fun hG=>ba (et:=5) zk (gd hG Z)) ?_
 refine aj Z Z (fun hG=>bX (gd hG Z) Z) ?_
 refine aa (bF Z Z) ?_
 refine aa (bH Z) (aj Z Z (fun hG=>aA 4 3 Z) ?_)
 refine aj Z Z (fun hG=>ag zk (gd hG Z) (by first | exact HB1.pv 4 _ rfl | assumption)) ?_
 refine cI Z Z (fun hG=>av zk (gd hG Z) (mC)) ?_
 rintro w102 e102
 have:=e102.size
 refine aj Z Z (fun hG=>cg (gd hG Z)) ?_
 refine aa (bF Z Z) ?_
 refine aa (bH Z) (aj Z Z (fun hG=>aA 5 3 Z) ?_)
 replace HB1:=HB1.ext e102
 refine aj Z Z (fun hG=>ag zk (gd hG Z) (by first | exact HB1.pv 5 _ rfl | assumption)) ?_
 refine cI Z Z (fun hG=>av zk (gd hG Z) (mC)) ?_
 rintro w103 e103
 have:=e103.size
 refine aj Z Z (fun hG=>cg (gd hG Z)) ?_
 refine aa (bF Z Z) ?_
 refine aa (bH Z) (aj Z Z (fun hG=>aA 4 3 Z) ?_)
 replace HB1:=HB1.ext e103
 refine aj Z Z (fun hG=>ag zk (gd hG Z) (by first | exact HB1.pv 4 _ rfl | assumption)) ?_
 refine aj Z Z (fun hG=>aA 5 3 Z) ?_
 refine aj Z Z (fun hG=>ag zk (gd hG Z) (by first | exact HB1.pv 5 _ rfl | assumption)) ?_
 refine aj Z Z (fun hG=>aJ (gd hG Z) (gd hG Z)) ?_
 refine aa (bF Z Z) ?_
 replace E:=(((E.trans e1.keep).trans e101.keep).trans e102.keep).trans e103.keep
 replace HS1:=(((HS1.ext e1).ext e101).ext e102).ext e103
 replace HS2:=(((HS2.ext e1).ext e101).ext e102).ext e103
 refine ac (U (am Z Z (fun hc=>?_) (fun hc=>?_)))
 ·
  refine V (O zd (aa (ad Z) (ac (U (aw (ay (aU Z zq (cE Z) ?_)))))))
  exact ⟨by rw [sK hc],E⟩
 refine ar (U (V (O zd (aa (aA 3 4 Z) (aa (ag zk Z (by first | exact HB1.pv 3 _ rfl | assumption)) ?_)))))
 refine aa (cg Z) ?_
 refine aa (bH Z) (aj Z Z (fun hG=>aA 2 28 Z) ?_)
 refine aj Z Z (fun hG=>ag zk (gd hG Z) (by first | exact HB1.pv 2 _ rfl | assumption)) ?_
 refine aj Z Z (fun hG=>ba (et:=5) zk (gd hG Z)) ?_
 refine aj Z Z (fun hG=>aJ (gd hG Z) Z) ?_
 refine aa (bu Z Z) ?_
 refine aa (bH Z) (aj Z Z (fun hG=>aA 3 4 Z) ?_)
 refine aj Z Z (fun hG=>ag zk (gd hG Z) (by first | exact HB1.pv 3 _ rfl | assumption)) ?_
 refine aj Z Z (fun hG=>be (t:=.bool _) (gd hG Z)) ?_
 refine gX Z Z (fun hG=>aA 2 28 Z) ?_
 refine gX Z Z (fun hG=>ag zk (gd hG Z) (by first | exact HB1.pv 2 _ rfl | assumption)) ?_
 refine sS Z Z (fun hG=>av zk (gd hG Z) (pU HS2)) ?_
 rintro w104 e104
 have:=e104.size
 refine aj Z Z (fun hG=>bu (gd hG Z) (sY hG Z)) ?_
 refine aj Z Z (fun hG=>be (t:=.bool _) (gd hG Z)) ?_
 refine gX Z Z (fun hG=>aA 1 28 Z) ?_
 replace HB1:=HB1.ext e104
 refine gX Z Z (fun hG=>ag zk (gd hG Z) (by first | exact HB1.pv 1 _ rfl | assumption)) ?_
 refine gX Z Z (fun hG=>aA 2 28 Z) ?_
 refine gX Z Z (fun hG=>ag zk (gd hG Z) (by first | exact HB1.pv 2 _ rfl | assumption)) ?_
 replace HS1:=HS1.ext e104
 replace HS2:=HS2.ext e104
 refine sS Z Z (fun hG=>aW zk (gd hG Z) (gd hG Z) (ip HS1 HS2)) ?_
 rintro w105 e105
 have:=e105.size
 refine gX Z Z (fun hG=>bw (gd hG Z) Z) ?_
 refine aj Z Z (fun hG=>bu (gd hG Z) (sY hG Z)) ?_
 refine aa (bF Z Z) ?_
 refine aa (dl Z) (ac (U (aw (aU Z zq (cE Z) ?_))))
 replace E:=(E.trans e104.keep).trans e105.keep
 exact ⟨by rw [sL hc],E⟩
theorem wB {k k':Int} {x x' y y' z z' u u':List UInt8} {b b':Bool} {m m':Int}:decide ((k,x,y,z,u,b,m)=((k',x',y',z',u',b',m'):mN))=(decide (k=k') && decide (x=x') && decide (y=y') && decide (z=z') && decide (u=u') && decide (b=b') && decide (m=m')):=by
  rw [Bool.eq_iff_iff];simp [and_assoc]
theorem rL {w:World} {F G:Nat→Prop} {v u:Value} {a b:mN} (HG1:aY qY w F v a) (HG2:aY qY w G u b):ae Tryz.prog 117 #[v,u] w (fun o w'=>o=.bool (decide (a=b))∧aX w w'):=by
 obtain ⟨a1,c1,a2,c2,a3,c3,a4,c4,rfl,HS1,HS2,HS3,HS4,_⟩:=HG1.ak
 obtain ⟨a5,c5,a6,c6,a7,c7,a8,c8,rfl,HS5,HS6,HS7,HS8,_⟩:=HG2.ak
 obtain ⟨k,key,to,val,was,no,most⟩:=a
 obtain ⟨k',key',to',val',was',no',most'⟩:=b
 clear HG1 HG2
 refine aL 54 Tryz.func117 Z Z (by simp) ?_
 refine V ?_
 have E:=ao.refl (K:=aP) w
 replace HS1:=HS1.all
 replace HS2:=HS2.all
 replace HS3:=HS3.all
 replace HS4:=HS4.all
 replace HS5:=HS5.all
 replace HS6:=HS6.all
 replace HS7:=HS7.all
 replace HS8:=HS8.all
 refine O zd (ah (aS (aZ Z) ?_))
 rintro b1 w1 zb1 HB1 e1 z1
 have:=e1.size
 try simp only [Value.cells] at HB1
 refine ah (aS (aZ Z) ?_)
 rintro b2 w2 zb2 HB2 e2 z2
 have:=e2.size
 try simp only [Value.cells] at HB2
 replace HB1:=HB1.ext e2
 refine aa (ad Z) (ac (U (V (O zd (aa (aA 1 28 Z) (aa (ag zk Z (by first | exact HB2.pv 1 _ rfl | exact HB1.pv 1 _ rfl | assumption)) ?_))))))
 refine aa (aA 1 28 Z) (aa (ag zk Z (by first | exact HB2.pv 1 _ rfl | exact HB1.pv 1 _ rfl | assumption)) ?_)
 replace HS1:=(HS1.ext e1).ext e2
 replace HS5:=(HS5.ext e1).ext e2
 refine ah (aW zk (bI Z) (bI Z) (ae.mono (dI HS1 HS5) ?_))
 rintro _ w101 ⟨rfl,e101⟩
 have:=e101.size
 refine aa (bH Z) (aj Z Z (fun hG=>aA 2 28 Z) ?_)
 replace HB1:=HB1.ext e101
 replace HB2:=HB2.ext e101
 refine aj Z Z (fun hG=>ag zk (gd hG Z) (by first | exact HB2.pv 2 _ rfl | exact HB1.pv 2 _ rfl | assumption)) ?_
 refine aj Z Z (fun hG=>aA 2 28 Z) ?_
 refine aj Z Z (fun hG=>ag zk (gd hG Z) (by first | exact HB2.pv 2 _ rfl | exact HB1.pv 2 _ rfl | assumption)) ?_
 replace HS2:=((HS2.ext e1).ext e2).ext e101
 replace HS6:=((HS6.ext e1).ext e2).ext e101
 refine cI Z Z (fun hG=>aW zk (gd hG Z) (gd hG Z) (dI HS2 HS6)) ?_
 rintro w102 e102
 have:=e102.size
 refine aa (bu Z Z) ?_
 refine aa (bH Z) (aj Z Z (fun hG=>aA 3 28 Z) ?_)
 replace HB1:=HB1.ext e102
 replace HB2:=HB2.ext e102
 refine aj Z Z (fun hG=>ag zk (gd hG Z) (by first | exact HB2.pv 3 _ rfl | exact HB1.pv 3 _ rfl | assumption)) ?_
 refine aj Z Z (fun hG=>aA 3 28 Z) ?_
 refine aj Z Z (fun hG=>ag zk (gd hG Z) (by first | exact HB2.pv 3 _ rfl | exact HB1.pv 3 _ rfl | assumption)) ?_
 replace HS3:=(((HS3.ext e1).ext e2).ext e101).ext e102
 replace HS7:=(((HS7.ext e1).ext e2).ext e101).ext e102
 refine cI Z Z (fun hG=>aW zk (gd hG Z) (gd hG Z) (dI HS3 HS7)) ?_
 rintro w103 e103
 have:=e103.size
 refine aa (bu Z Z) ?_
 refine aa (bH Z) (aj Z Z (fun hG=>aA 4 28 Z) ?_)
 replace HB1:=HB1.ext e103
 replace HB2:=HB2.ext e103
 refine aj Z Z (fun hG=>ag zk (gd hG Z) (by first | exact HB2.pv 4 _ rfl | exact HB1.pv 4 _ rfl | assumption)) ?_
 refine aj Z Z (fun hG=>aA 4 28 Z) ?_
 refine aj Z Z (fun hG=>ag zk (gd hG Z) (by first | exact HB2.pv 4 _ rfl | exact HB1.pv 4 _ rfl | assumption)) ?_
 replace HS4:=((((HS4.ext e1).ext e2).ext e101).ext e102).ext e103
 replace HS8:=((((HS8.ext e1).ext e2).ext e101).ext e102).ext e103
 refine cI Z Z (fun hG=>aW zk (gd hG Z) (gd hG Z) (dI HS4 HS8)) ?_
 rintro w104 e104
 have:=e104.size
 refine aa (bu Z Z) ?_
 refine aa (dl Z) (ac (U (V (O zd (aa (bH Z) (aa (bH Z) (aj Z Z (fun hG=>aA 0 40 Z) ?_)))))))
 replace HB1:=HB1.ext e104
 replace HB2:=HB2.ext e104
 refine aj Z Z (fun hG=>ag zk (gd hG Z) (by first | exact HB2.pv 0 _ rfl | exact HB1.pv 0 _ rfl | assumption)) ?_
 refine aj Z Z (fun hG=>aA 0 40 Z) ?_
 refine aj Z Z (fun hG=>ag zk (gd hG Z) (by first | exact HB2.pv 0 _ rfl | exact HB1.pv 0 _ rfl | assumption)) ?_
 refine aj Z Z (fun hG=>aJ (gd hG Z) (gd hG Z)) ?_
 refine aa (bu Z Z) ?_
 refine aa (bH Z) (aj Z Z (fun hG=>aA 5 4 Z) ?_)
 refine aj Z Z (fun hG=>ag zk (gd hG Z) (by first | exact HB2.pv 5 _ rfl | exact HB1.pv 5 _ rfl | assumption)) ?_
 refine aj Z Z (fun hG=>aA 5 4 Z) ?_
 refine aj Z Z (fun hG=>ag zk (gd hG Z) (by first | exact HB2.pv 5 _ rfl | exact HB1.pv 5 _ rfl | assumption)) ?_
 refine aj Z Z (fun hG=>nD zk (gd hG Z) (gd hG Z)) ?_
 refine aa (bu Z Z) ?_
 refine aa (bH Z) (aj Z Z (fun hG=>aA 6 3 Z) ?_)
 refine aj Z Z (fun hG=>ag zk (gd hG Z) (by first | exact HB2.pv 6 _ rfl | exact HB1.pv 6 _ rfl | assumption)) ?_
 refine aj Z Z (fun hG=>aA 6 3 Z) ?_
 refine aj Z Z (fun hG=>ag zk (gd hG Z) (by first | exact HB2.pv 6 _ rfl | exact HB1.pv 6 _ rfl | assumption)) ?_
 refine aj Z Z (fun hG=>aJ (gd hG Z) (gd hG Z)) ?_
 refine aa (bu Z Z) ?_
 refine aa (dl Z) (ac (U (aw (aU Z zq (cE Z) ?_))))
 replace E:=(((((E.trans e1.keep).trans e2.keep).trans e101.keep).trans e102.keep).trans e103.keep).trans e104.keep
 refine ⟨?_,E⟩
 rw [wB]
 congr 1;rw [Bool.eq_iff_iff];simp only [Bool.and_eq_true,decide_eq_true_eq,beq_iff_eq,and_assoc];exact ⟨fun ⟨a,b,c,d,e,f,g⟩=>⟨e,a,b,c,d,f,g⟩,fun ⟨e,a,b,c,d,f,g⟩=>⟨a,b,c,d,e,f,g⟩⟩
theorem wu {n n':Int} {x x' y y':List UInt8} {b b':Bool} {o o' g g':Int}:decide ((n,x,y,b,o,g)=((n',x',y',b',o',g'):iJ))=(decide (n=n') && decide (x=x') && decide (y=y') && decide (b=b') && decide (o=o') && decide (g=g')):=by
  rw [Bool.eq_iff_iff];simp [and_assoc]
theorem mH {w:World} {F G:Nat→Prop} {v u:Value} {a b:iJ} (HG1:aY jU w F v a) (HG2:aY jU w G u b):ae Tryz.prog 92 #[v,u] w (fun o w'=>o=.bool (decide (a=b))∧aX w w'):=by
 obtain ⟨a1,c1,a2,c2,rfl,HS1,HS2,_⟩:=HG1.mv
 obtain ⟨a5,c5,a6,c6,rfl,HS5,HS6,_⟩:=HG2.mv
 obtain ⟨n,x,y,d,o,g⟩:=a
 obtain ⟨n',x',y',d',o',g'⟩:=b
 clear HG1 HG2
 refine aL 45 Tryz.func92 Z Z (by simp) ?_
 refine V ?_
 have E:=ao.refl (K:=aP) w
 replace HS1:=HS1.all
 replace HS2:=HS2.all
 replace HS5:=HS5.all
 replace HS6:=HS6.all
 refine O zd (ah (aS (aZ Z) ?_))
 rintro b1 w1 zb1 HB1 e1 z1
 have:=e1.size
 try simp only [Value.cells] at HB1
 refine ah (aS (aZ Z) ?_)
 rintro b2 w2 zb2 HB2 e2 z2
 have:=e2.size
 try simp only [Value.cells] at HB2
 replace HB1:=HB1.ext e2
 refine aa (ad Z) (ac (U (V (O zd (aa (aA 0 2 Z) (aa (ag zk Z (by first | exact HB2.pv 0 _ rfl | exact HB1.pv 0 _ rfl | assumption)) ?_))))))
 refine aa (aA 0 2 Z) (aa (ag zk Z (by first | exact HB2.pv 0 _ rfl | exact HB1.pv 0 _ rfl | assumption)) ?_)
 refine aa (aJ Z Z) ?_
 refine aa (bH Z) (aj Z Z (fun hG=>aA 1 28 Z) ?_)
 refine aj Z Z (fun hG=>ag zk (gd hG Z) (by first | exact HB2.pv 1 _ rfl | exact HB1.pv 1 _ rfl | assumption)) ?_
 refine aj Z Z (fun hG=>aA 1 28 Z) ?_
 refine aj Z Z (fun hG=>ag zk (gd hG Z) (by first | exact HB2.pv 1 _ rfl | exact HB1.pv 1 _ rfl | assumption)) ?_
 replace HS1:=(HS1.ext e1).ext e2
 replace HS5:=(HS5.ext e1).ext e2
 refine cI Z Z (fun hG=>aW zk (gd hG Z) (gd hG Z) (dI HS1 HS5)) ?_
 rintro w101 e101
 have:=e101.size
 refine aa (bu Z Z) ?_
 refine aa (bH Z) (aj Z Z (fun hG=>aA 2 28 Z) ?_)
 replace HB1:=HB1.ext e101
 replace HB2:=HB2.ext e101
 refine aj Z Z (fun hG=>ag zk (gd hG Z) (by first | exact HB2.pv 2 _ rfl | exact HB1.pv 2 _ rfl | assumption)) ?_
 refine aj Z Z (fun hG=>aA 2 28 Z) ?_
 refine aj Z Z (fun hG=>ag zk (gd hG Z) (by first | exact HB2.pv 2 _ rfl | exact HB1.pv 2 _ rfl | assumption)) ?_
 replace HS2:=((HS2.ext e1).ext e2).ext e101
 replace HS6:=((HS6.ext e1).ext e2).ext e101
 refine cI Z Z (fun hG=>aW zk (gd hG Z) (gd hG Z) (dI HS2 HS6)) ?_
 rintro w102 e102
 have:=e102.size
 refine aa (bu Z Z) ?_
 refine aa (bH Z) (aj Z Z (fun hG=>aA 3 4 Z) ?_)
 replace HB1:=HB1.ext e102
 replace HB2:=HB2.ext e102
 refine aj Z Z (fun hG=>ag zk (gd hG Z) (by first | exact HB2.pv 3 _ rfl | exact HB1.pv 3 _ rfl | assumption)) ?_
 refine aj Z Z (fun hG=>aA 3 4 Z) ?_
 refine aj Z Z (fun hG=>ag zk (gd hG Z) (by first | exact HB2.pv 3 _ rfl | exact HB1.pv 3 _ rfl | assumption)) ?_
 refine aj Z Z (fun hG=>nD zk (gd hG Z) (gd hG Z)) ?_
 refine aa (bu Z Z) ?_
 refine aa (bH Z) (aj Z Z (fun hG=>aA 4 3 Z) ?_)
 refine aj Z Z (fun hG=>ag zk (gd hG Z) (by first | exact HB2.pv 4 _ rfl | exact HB1.pv 4 _ rfl | assumption)) ?_
 refine aj Z Z (fun hG=>aA 4 3 Z) ?_
 refine aj Z Z (fun hG=>ag zk (gd hG Z) (by first | exact HB2.pv 4 _ rfl | exact HB1.pv 4 _ rfl | assumption)) ?_
 refine aj Z Z (fun hG=>aJ (gd hG Z) (gd hG Z)) ?_
 refine aa (bu Z Z) ?_
 refine aa (bH Z) (aj Z Z (fun hG=>aA 5 3 Z) ?_)
 refine aj Z Z (fun hG=>ag zk (gd hG Z) (by first | exact HB2.pv 5 _ rfl | exact HB1.pv 5 _ rfl | assumption)) ?_
 refine aj Z Z (fun hG=>aA 5 3 Z) ?_
 refine aj Z Z (fun hG=>ag zk (gd hG Z) (by first | exact HB2.pv 5 _ rfl | exact HB1.pv 5 _ rfl | assumption)) ?_
 refine aj Z Z (fun hG=>aJ (gd hG Z) (gd hG Z)) ?_
 refine aa (bu Z Z) ?_
 refine aa (dl Z) (ac (U (aw (aU Z zq (cE Z) ?_))))
 replace E:=(((E.trans e1.keep).trans e2.keep).trans e101.keep).trans e102.keep
 refine ⟨?_,E⟩
 rw [wu]
 first | (congr 1;done) | (congr 1;rw [Bool.eq_iff_iff];simp)
end Go.Proofs.YteehplloacefmaaGreat

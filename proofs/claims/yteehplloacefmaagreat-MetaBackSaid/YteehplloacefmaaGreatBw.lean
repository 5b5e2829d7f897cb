/- Steps and lemmas for the walks. -/
import Derived.Test.YteehplloacefmaaGreatGu
import Derived.Test.YteehplloacefmaaGreatGv
set_option linter.unusedVariables false
set_option linter.unusedSimpArgs false
set_option maxRecDepth 100000
namespace Go.Proofs.YteehplloacefmaaGreat
open Go.Vc
theorem lY (l:List UInt8):∃ (n:Nat) (e:Int),fk l=.tuple #[.int .u64 n,.int .i64 e]∧n < 18446744073709551616∧((e=0∧l=aT n ++ ca l∧cK l=some (n,ca l))∨(e=4∧n=0∧ca l=l∧cK l=none)):=by
  rcases hd:cK l with _ | ⟨n,r⟩
  · exact ⟨0,4,by rw [fk,hd];rfl,by omega,.inr ⟨rfl,rfl,by rw [ca,hd],rfl⟩⟩
  · have hr:ca l=r:=by rw [ca,hd]
    exact ⟨n,0,by rw [fk,hd],gy hd,.inl ⟨rfl,by rw [hr];exact cX hd,by rw [hr]⟩⟩
def mQ (l:List UInt8):Except Int (cO × List UInt8):=match br 24 l with
  | .error _=>.error 4
  | .ok (fr,l1)=>match cK l1 with
    | none=>.error 4
    | some (n,l2)=>if n < 5 then .ok ((fr,[],false,(n:Int)),l2) else .error 4
theorem fb {m:Nat} {l:List UInt8} {x:List UInt8} {r:List UInt8} (h:br m l=.ok (x,r)):r.length≤l.length∧x.length≤m∧l=az x ++ r:=by
  rw [br,bR] at h
  rcases hd:cK l with _ | ⟨n,l'⟩
  · rw [hd] at h;cases h
  · rw [hd] at h
    simp only [] at h
    have hf:=cX hd
    by_cases hn:n≤m
    · rw [if_pos hn,fa] at h
      by_cases h2:n≤l'.length
      · rw [if_pos h2] at h
        cases h
        have hl:=congrArg List.length hf
        rw [List.length_append] at hl
        have e1:(l'.take n).length=n:=by rw [List.length_take];omega
        refine ⟨by rw [List.length_drop];omega,by omega,?_⟩
        rw [az,e1,List.append_assoc,List.take_append_drop];exact hf
      · rw [if_neg h2] at h;cases h
    · rw [if_neg hn] at h;cases h
theorem rb:∀ l x r,mQ l=.ok (x,r)→r.length < l.length:=by
  intro l x r h
  rw [mQ] at h
  rcases hd:br 24 l with e | ⟨fr,l1⟩
  · rw [hd] at h;cases h
  · rw [hd] at h;simp only [] at h
    have h1:=(fb hd).1
    rcases hd2:cK l1 with _ | ⟨n,l2⟩
    · rw [hd2] at h;cases h
    · rw [hd2] at h;simp only [] at h
      by_cases h5:n < 5
      · rw [if_pos h5] at h;cases h
        have:=congrArg List.length (cX hd2)
        rw [List.length_append] at this
        have:=jW n
        omega
      · rw [if_neg h5] at h;cases h
def qN (w1 w2:World) (c:Nat) (F:Nat→Prop):Except Int (cO × List UInt8)→Value→Prop
  | .ok (x,l2),r=>∃ cs,r=.tuple #[.agg cs.toArray,.int .i64 0]∧(dv).rep w2 (fun b=>w1.heap.size≤b) cs x∧Rd ef w2 c F l2
  | .error e,r=>e≠0∧∃ cs x,r=.tuple #[.agg cs.toArray,.int .i64 e]∧(dv).rep w2 (fun b=>w1.heap.size≤b) cs x
theorem rM {w1 w2:World} {c:Nat} {F:Nat→Prop} {q:Except Int (cO × List UInt8)} {r:Value} (h:qN w1 w2 c F q r):∃ (cs:List Value) (x:cO) (er:Int),r=.tuple #[.agg cs.toArray,.int .i64 er]∧(dv).rep w2 (fun b=>w1.heap.size≤b) cs x ∧
    ((er=0∧∃ l2,q=.ok (x,l2)∧Rd ef w2 c F l2)∨(er≠0∧q=.error er)):=by
  match q,h with
  | .ok (x,l2),⟨cs,hr,h1,h2⟩=>exact ⟨cs,x,0,hr,h1,.inl ⟨rfl,l2,rfl,h2⟩⟩
  | .error e,⟨he,cs,x,hr,h1⟩=>exact ⟨cs,x,e,hr,h1,.inr ⟨he,rfl⟩⟩
theorem m6 {w:World} {b pf:Nat} {pT:TypeId} {F:Nat→Prop} {l:List UInt8} {n fr:Nat} {cap:Array Value} (hr:Rd ef w b F l) (hF:∀ k,F k→k < w.heap.size) (hFb:¬ F b) (hn:n≤9223372036854775807) (hl:l.length≤1000000000000) (hb:dj Tryz.prog fr=true)
    (hpf:dh w pf [.func (.func fr) #[] cap] pT) (hpb:pf≠b)
    (ρ:List UInt8→Except Int (cO × List UInt8)) (hρ:∀ l x l2,ρ l=.ok (x,l2)→l2.length < l.length)
    (hone:∀ (w1:World) (l1:List UInt8),ao (fun k=>k=b) w w1→Rd ef w1 b F l1→l1.length≤l.length→ae Tryz.prog fr (#[.pointer (some ⟨b,0,none⟩)] ++ cap) w1 (fun r w2=>qN w1 w2 b F (ρ l1) r∧ao (fun k=>k=b) w1 w2)) :
    ae Tryz.prog 114 #[.pointer (some ⟨b,0,none⟩),.int .i64 n,.pointer (some ⟨pf,0,none⟩)] w (fun r w'=>jg (dv) 53 ef w w' b F (bp ρ n l) r∧ao (fun k=>k=b) w w'):=by
 obtain ⟨w0,rfl⟩:∃ x,x=w:=⟨w,rfl⟩
 have hblt:b < w0.heap.size:=by obtain ⟨_,_,h,_⟩:=hr;exact h.lt
 have hplt:=hpf.lt
 refine aL 28 Tryz.func114 Z Z (by simp) ?_
 refine V (O zd (aa (ad Z) (aa (ad Z) (ac (U (V (aO (cy (τ:=Option Addr × Nat × Int × List (cO) × List UInt8) [5,6,7,8,9,10,11,12,13,14,15,16,17,18,19,20,21,22,23,24,25] (fun (a1,c1,er,xs,l1)=>[(5,.slice a1 xs.length c1),(6,.int .i64 er)]) (fun (a1,c1,er,xs,l1) w=>ck (dv) 53 w w0.heap.size (fun k=>w0.heap.size≤k) (.slice a1 xs.length c1) xs∧ao (fun k=>k=b) w0 w∧xs.length≤n∧((er=0∧Rd ef w b F l1∧xs.length + l1.length≤l.length∧bp ρ n l=je xs (bp ρ (n - xs.length) l1))∨(er≠0∧bp ρ n l=.error er))) (fun (a1,c1,er,xs,l1)=>n - xs.length) (none,0,0,[],l) (by exact ⟨rfl,rfl,trivial⟩) (by exact ⟨ck.nil _ _ _ _ _,ao.refl _,Nat.zero_le _,.inl ⟨rfl,hr,by simp,by simp [kR]⟩⟩) ?_))))))))
 rintro ⟨a1,c1,er,xs,l1⟩ w1 j ⟨o1,k1,h1,h1c⟩
 refine V (V (O zd (aa (bP Z) (aa (ba (et:=53) zk Z) ?_))))
 refine aa (aQ Z) (aa (bw Z Z) ?_)
 refine aa (bH Z) (aj Z Z (fun hG=>aQ Z) (aj Z Z (fun hG=>aJ (gd hG Z) Z) ?_))
 refine aa (bu Z Z) ?_
 refine ac (U (am Z Z (fun hc=>?_) (fun hc=>?_)))
 ·
  have hcl:xs.length < n:=by simp at hc;omega
  have hce:er=0:=by simp at hc;omega
  obtain ⟨_,r1,hll,hrd⟩:=h1c.resolve_right (fun h=>h.1 hce)
  have:=k1.size
  refine ar (U (aO (V (O zd (ah (aD (z:=(.agg #[.slice none 0 0,.slice none 0 0,.bool false,.int .i64 0])) (by unfold aE;kernel_rfl) ?_))))))
  rintro b2 w2 rfl hb2 e2 z2
  have:=e2.size
  refine ac (U (V (O zd (aa (ag zk Z ((((hpf.keep k1 hpb)).ext e2).pv 0 _ Z)) ?_))))
  refine aa (bK Z) (ah (eV hb Z (ci Z) (ae.mono ((hone w2 l1 (k1.trans (e2.mono fun _ _ h=>h.elim)) (r1.ext e2) zo)) ?_)))
  rintro r w3 ⟨hr3,k3⟩
  have:=k3.size
  obtain ⟨cs,x,er2,hr3,hrep,hnx⟩:=rM hr3
  subst hr3
  have hrep1:=hrep
  obtain ⟨a9,c9,a8,c8,rfl,_,_,hgx⟩:=bN hrep
  refine aa (dY Z) (aa (ai (t:=.agg _) Z Z) (aa (ai (t:=.int _ _) Z Z) (ah (aq (n:=4) Z Z (aZ Z) zk Z (by first | (simp [cL];done) | (simp only [List.forall_mem_cons,List.cons_append,List.nil_append];repeat' (first | exact rfl | apply And.intro | (intro u hu;cases hu;done)))) (hb2.keep k3 zo) bV ?_))))
  rintro w4 h4 k4 z4
  have:=k4.size
  have hrep4:=(dv).keep hrep1 k4 (fun i hi h hk=>by omega)
  have o4:=((((o1.mono (F':=fun k=>w0.heap.size≤k∧k < w1.heap.size) (fun i hi h=>⟨h,hi⟩)).ext e2).keep k3 (fun i hi h=>by have:=(o1.own_lt hi).1;omega) (fun i _ hi _ h=>by omega)).keep k4 (fun i hi h=>by have:=(o1.own_lt hi).2;omega) (fun i _ hi _ h=>by omega)).mono (F':=fun k=>w0.heap.size≤k) (fun i _ h=>h.1)
  have k46:ao (fun k=>k=b) w0 w4:=(((k1.trans (e2.mono fun _ _ h=>h.elim)).trans k3).step k4 (fun i hi h=>by omega))
  have hnx4:(er2=0∧∃ l2,ρ l1=.ok (x,l2)∧Rd ef w4 b F l2)∨(er2≠0∧ρ l1=.error er2):=by
   rcases hnx with ⟨he2,l2,hq,r3⟩ | h
   ·
    exact .inl ⟨he2,l2,hq,r3.keep k4 zo (fun i hi h=>by have:=hF i hi;omega)⟩
   exact .inr h
  refine aa (bO Z) (ac (U (O zd (aa (bP Z) (aa (ap zk Z h4.pv Z) ?_)))))
  refine ah (cp (t:=dv) (et:=53) (bytes:=64) zk zq (aZ Z) (hrep4) ?_)
  rintro b5 w5 rfl o5 e5 z5
  have:=e5.size
  refine ah (cv (et:=53) (bytes:=64) zk (bI Z) (o4.ext e5) (bI Z) o5.view ((jw o1 (by intro i hi;omega) zo)) (by first | omega | (simp;done) | (simp;omega)) (by simp only [maxLen];first | omega | (simp;done) | (simp;omega)) zo ?_)
  rintro a6 n6 c6 w6 o6 hn6 k6 b6 i6
  have:=k6.size
  subst hn6
  have k36:ao (fun k=>k=b) w0 w6:=(k46.trans (e5.mono fun _ _ h=>h.elim)).step k6 (fun i hi h=>by have:=(o1.own_lt h).1;omega)
  have hsub:n - xs.length=(n - (xs ++ [x]).length) + 1:=by simp only [List.length_append,List.length_singleton];omega
  obtain ⟨l2,hinv⟩:∃ l2,((er2=0∧Rd ef w6 b F l2∧(xs ++ [x]).length + l2.length≤l.length∧bp ρ n l=je (xs ++ [x]) (bp ρ (n - (xs ++ [x]).length) l2))∨(er2≠0∧bp ρ n l=.error er2)):=by
   rcases hnx4 with ⟨he2,l2,hq,r4⟩ | ⟨hne,hq⟩
   ·
    refine ⟨l2,.inl ⟨he2,?_,?_,?_⟩⟩
    ·
     exact (r4.ext e5).keep k6 (fun h=>by have:=(o1.own_lt h).1;omega) (fun i hi h=>by have:=(o1.own_lt h).1;have:=hF i hi;omega)
    ·
     have:=hρ _ _ _ hq;simp only [List.length_append,List.length_singleton];omega
    rw [hrd,hsub];exact kM hq
   exact ⟨[],.inr ⟨hne,by rw [hrd,hsub];exact jN hq⟩⟩
  refine aa (cF Z) (ac (bE (U (⟨(a6,c6,er2,xs ++ [x],l2),_,rfl,by (repeat (first | exact cD.of_over _ _ _ | refine cD.upd ?_ zq _ | refine cD.overs ?_ zq _)),⟨by first | rfl | exact congrArg (Value.int _) zo | (simp;done),by first | rfl | exact congrArg (Value.int _) zo | (simp;done),trivial⟩,?_,?_⟩))))
  ·
   exact ⟨o6,k36,by simp only [List.length_append,List.length_singleton];omega,hinv⟩
  simp only [List.length_append,List.length_singleton];omega
 refine cl (bm (bm (cV (U (V (O zd (aa (bP Z) (aa (aQ Z) (aa (cF Z) ?_)))))))))
 refine aa (bO Z) (ac (U (aw (ee Z zq zq ?_))))
 refine ⟨?_,k1⟩
 rcases h1c with ⟨he,r1,_,hrd⟩ | ⟨hne,hq⟩
 ·
  have hcl:¬ xs.length < n:=by subst he;simpa using hc
  rw [hrd,show n - xs.length=0 by omega]
  subst he
  show jg _ _ _ _ _ _ _ (.ok (xs ++ [],l1)) _
  rw [List.append_nil]
  exact ⟨a1,c1,rfl,o1,r1⟩
 rw [hq]
 exact ⟨hne,_,_,_,rfl⟩
theorem sb {w:World} {b:Nat} {F:Nat→Prop} {l:List UInt8} {most:Int} {fr:Nat} {cap:Array Value} (hr:Rd ef w b F l) (hF:∀ k,F k→k < b) (hm:0≤most) (hm2:most≤9223372036854775807) (hb:dj Tryz.prog fr=true)
    (ρ:Nat→List UInt8→Except Int (List cO × List UInt8))
    (hread:∀ (w1:World) (c:Nat) (l1:List UInt8) (n:Nat),aX w w1→w.heap.size≤c→Rd ef w1 c F l1→l1.length≤l.length→(n:Int)≤most→ae Tryz.prog fr (#[.pointer (some ⟨c,0,none⟩),.int .i64 n] ++ cap) w1 (fun r w2=>jg (dv) 53 ef w1 w2 c F (ρ n l1) r∧ao (fun k=>k=c) w1 w2)) :
    ae Tryz.prog 113 #[.pointer (some ⟨b,0,none⟩),.int .i64 most,.func (.func fr) #[] cap] w (fun r w'=>od (dv) 53 ef w w' b F l (bR ρ most.toNat l) r∧ao (fun k=>k=b) w w'):=by
 have hnF:¬ F b:=fun h=>absurd (hF b h) (Nat.lt_irrefl b)
 obtain ⟨a,c,hb0,hv⟩:=hr
 have hblt:=hb0.lt
 rcases hd:cK l with _ | ⟨n,l'⟩
 ·
  obtain ⟨er,her⟩:∃ er:Int,er=4:=⟨4,rfl⟩
  have htr:bR ρ most.toNat l=.error er:=by rw [bR,hd,her]
  refine aL 56 Tryz.func113 Z Z (by simp) ?_
  refine V (O zd (aa (ad Z) (aa (ad Z) (ac (U (V (O zd (aa (ad Z) (ac ?_)))))))))
  refine U (V (V (O zd (aa (bK Z) (ah (av zk (ci Z) (ae.mono (cU hb0) ?_)))))))
  rintro _ w1 ⟨rfl,e1⟩
  have:=e1.size
  refine ac (U (am Z Z (fun hc=>?_) (fun hc=>?_)))
  ·
   cases hc
  refine ar (U (V (V (O zd (aa (aQ Z) (aa (bw Z Z) ?_))))))
  refine ac (U (am Z Z (fun hc2=>?_) (fun hc2=>?_)))
  ·
   have:=bl hc2;omega
  refine ar (U (V (O zd (aa (bK Z) (aa (aM Z) ?_)))))
  refine aa (aA 0 28 Z) (aa (ag zk Z ((hb0.ext e1).pv 0 _ Z)) ?_)
  refine aa (aV (pl:=[(0,1)]) (z:=.agg #[.slice none 0 0]) (zl:=[.slice none 0 0]) zk (by unfold aE;kernel_rfl) Z Z (cells:=[_]) Z) ?_
  refine ah (aS (aZ Z) ?_)
  rintro b2 w2 rfl hb2 e2 z2
  have:=e2.size
  have e12:=e1.trans e2
  refine aa (mO Z) (ac (U (V (O zd (aa (bK Z) (ah (av zk (ci Z) (ae.mono (cd (b:=w1.heap.size) (l:=l) (F:=F) ⟨a,c,hb2,hv.ext e12⟩ (fun h=>by have:=hF _ h;omega)) ?_))))))))
  rintro r w3 ⟨hr3,h3,k3⟩
  have:=k3.size
  rw [fk,hd,← her] at hr3
  subst hr3
  have e3:aX w w3:=e12.step k3 fun i hi h=>by omega
  refine aa (dY Z) (aa (ai (t:=.int _ _) Z Z) (aa (ai (t:=.int _ _) Z Z) (aa (bO Z) (aa (bO Z) (ac (U (V (V (O zd ?_)))))))))
  refine aa (aQ Z) (aa (aJ Z Z) ?_)
  refine aa (bH Z) (aj Z Z (fun hG=>aQ Z) (aj Z Z (fun hG=>aQ Z) (aj Z Z (fun hG=>bS (ds:=.int .i64) zk zk (gd hG Z) (by first | exact cq zo zo | rfl)) ?_)))
  refine aj Z Z (fun hG=>bX (gd hG Z) (gd hG Z)) ?_
  refine aa (bu Z Z) ?_
  refine ac (U (am Z Z (fun hc3=>?_) (fun hc3=>?_)))
  ·
   simp at hc3;omega
  refine ar (U (V (V (O zd (aa (aQ Z) (aa (aJ Z Z) ?_))))))
  refine ac (U (am Z Z (fun hc4=>?_) (fun hc4=>?_)))
  ·
   have:=bl hc4;omega
  refine ar (U (V (V (O zd (aa (aQ Z) (aa (bD Z Z) ?_))))))
  refine ac (U (am Z Z (fun hc5=>?_) (fun hc5=>?_)))
  ·
   refine V (O zd (aa (bP Z) (aa (aQ Z) (aa (cF Z) (aa (bO Z) (ac (U (aw (ay ?_)))))))))
   refine ee Z zq zq ?_
   refine ⟨?_,e3.keep⟩
   rw [htr]
   exact ⟨by omega,rfl,⟨a,c,hb0.ext e3,hv.ext e3⟩⟩
  simp at hc5;omega
 have hlt:=gy hd
 have hll:l'.length≤l.length:=by obtain ⟨k,_,_,h⟩:=ff l 0 hd;rw [h,List.length_drop];omega
 obtain ⟨z,hz⟩:∃ z:Int,z=0:=⟨0,rfl⟩
 by_cases hnm:(n:Int)≤most
 ·
  have htr:bR ρ most.toNat l=ρ n l':=by rw [bR,hd];simp only [];rw [if_pos zo]
  cases hρ:ρ n l' with
  | error er=>
   refine aL 56 Tryz.func113 Z Z (by simp) ?_
   refine V (O zd (aa (ad Z) (aa (ad Z) (ac (U (V (O zd (aa (ad Z) (ac ?_)))))))))
   refine U (V (V (O zd (aa (bK Z) (ah (av zk (ci Z) (ae.mono (cU hb0) ?_)))))))
   rintro _ w1 ⟨rfl,e1⟩
   have:=e1.size
   refine ac (U (am Z Z (fun hc=>?_) (fun hc=>?_)))
   ·
    cases hc
   refine ar (U (V (V (O zd (aa (aQ Z) (aa (bw Z Z) ?_))))))
   refine ac (U (am Z Z (fun hc2=>?_) (fun hc2=>?_)))
   ·
    have:=bl hc2;omega
   refine ar (U (V (O zd (aa (bK Z) (aa (aM Z) ?_)))))
   refine aa (aA 0 28 Z) (aa (ag zk Z ((hb0.ext e1).pv 0 _ Z)) ?_)
   refine aa (aV (pl:=[(0,1)]) (z:=.agg #[.slice none 0 0]) (zl:=[.slice none 0 0]) zk (by unfold aE;kernel_rfl) Z Z (cells:=[_]) Z) ?_
   refine ah (aS (aZ Z) ?_)
   rintro b2 w2 rfl hb2 e2 z2
   have:=e2.size
   have e12:=e1.trans e2
   refine aa (mO Z) (ac (U (V (O zd (aa (bK Z) (ah (av zk (ci Z) (ae.mono (cd (b:=w1.heap.size) (l:=l) (F:=F) ⟨a,c,hb2,hv.ext e12⟩ (fun h=>by have:=hF _ h;omega)) ?_))))))))
   rintro r w3 ⟨hr3,h3,k3⟩
   have:=k3.size
   rw [fk,hd] at hr3
   simp only [] at hr3
   rw [← hz] at hr3
   subst hr3
   have e3:aX w w3:=e12.step k3 fun i hi h=>by omega
   have hrest:ca l=l':=by rw [ca,hd]
   rw [hrest] at h3
   refine aa (dY Z) (aa (ai (t:=.int _ _) Z Z) (aa (ai (t:=.int _ _) Z Z) (aa (bO Z) (aa (bO Z) (ac (U (V (V (O zd ?_)))))))))
   refine aa (aQ Z) (aa (aJ Z Z) ?_)
   refine aa (bH Z) (aj Z Z (fun hG=>aQ Z) (aj Z Z (fun hG=>aQ Z) (aj Z Z (fun hG=>bS (ds:=.int .i64) zk zk (gd hG Z) (by first | exact cq zo zo | rfl)) ?_)))
   refine aj Z Z (fun hG=>bX (gd hG Z) (gd hG Z)) ?_
   refine aa (bu Z Z) ?_
   refine ac (U (am Z Z (fun hc3=>?_) (fun hc3=>?_)))
   ·
    simp at hc3;omega
   refine ar (U (V (V (O zd (aa (aQ Z) (aa (aJ Z Z) ?_))))))
   refine ac (U (am Z Z (fun hc4=>?_) (fun hc4=>?_)))
   ·
    refine O zd (aa (jA Z) (aa (bK Z) (aa (aQ Z) (aa (bS (ds:=.int .u64) zk zk Z (by first | exact bn zo zo | rfl)) ?_))))
    refine ah (dd hb Z (ci Z) (bB Z) (ae.mono (hread w3 _ l' n e3 zo h3 hll hnm) ?_))
    rintro r4 w4 ⟨hr4,k4⟩
    have:=k4.size
    rw [hρ] at hr4
    obtain ⟨her,va,vn,vc,hr4⟩:=hr4
    subst hr4
    have e4:aX w w4:=e3.step k4 fun i hi h=>by omega
    refine aa (dY Z) (aa (ai (t:=.slice _ _ _) Z Z) (aa (ai (t:=.int _ _) Z Z) (aa (cF Z) (aa (bO Z) (ac (U (V (V (O zd ?_)))))))))
    refine aa (aQ Z) (aa (bD Z Z) ?_)
    refine ac (U (am Z Z (fun hc5=>?_) (fun hc5=>?_)))
    ·
     refine V (O zd (aa (bP Z) (aa (aQ Z) (aa (cF Z) (aa (bO Z) (ac (U (aw (ay ?_)))))))))
     refine ee Z zq zq ?_
     refine ⟨?_,e4.keep⟩
     rw [htr,hρ]
     exact ⟨her,rfl,⟨a,c,hb0.ext e4,hv.ext e4⟩⟩
    simp at hc5;omega
   have:=bf hc4;omega
  | ok xl=>
   obtain ⟨x,l2⟩:=xl
   refine aL 56 Tryz.func113 Z Z (by simp) ?_
   refine V (O zd (aa (ad Z) (aa (ad Z) (ac (U (V (O zd (aa (ad Z) (ac ?_)))))))))
   refine U (V (V (O zd (aa (bK Z) (ah (av zk (ci Z) (ae.mono (cU hb0) ?_)))))))
   rintro _ w1 ⟨rfl,e1⟩
   have:=e1.size
   refine ac (U (am Z Z (fun hc=>?_) (fun hc=>?_)))
   ·
    cases hc
   refine ar (U (V (V (O zd (aa (aQ Z) (aa (bw Z Z) ?_))))))
   refine ac (U (am Z Z (fun hc2=>?_) (fun hc2=>?_)))
   ·
    have:=bl hc2;omega
   refine ar (U (V (O zd (aa (bK Z) (aa (aM Z) ?_)))))
   refine aa (aA 0 28 Z) (aa (ag zk Z ((hb0.ext e1).pv 0 _ Z)) ?_)
   refine aa (aV (pl:=[(0,1)]) (z:=.agg #[.slice none 0 0]) (zl:=[.slice none 0 0]) zk (by unfold aE;kernel_rfl) Z Z (cells:=[_]) Z) ?_
   refine ah (aS (aZ Z) ?_)
   rintro b2 w2 rfl hb2 e2 z2
   have:=e2.size
   have e12:=e1.trans e2
   refine aa (mO Z) (ac (U (V (O zd (aa (bK Z) (ah (av zk (ci Z) (ae.mono (cd (b:=w1.heap.size) (l:=l) (F:=F) ⟨a,c,hb2,hv.ext e12⟩ (fun h=>by have:=hF _ h;omega)) ?_))))))))
   rintro r w3 ⟨hr3,h3,k3⟩
   have:=k3.size
   rw [fk,hd] at hr3
   simp only [] at hr3
   rw [← hz] at hr3
   subst hr3
   have e3:aX w w3:=e12.step k3 fun i hi h=>by omega
   have hrest:ca l=l':=by rw [ca,hd]
   rw [hrest] at h3
   refine aa (dY Z) (aa (ai (t:=.int _ _) Z Z) (aa (ai (t:=.int _ _) Z Z) (aa (bO Z) (aa (bO Z) (ac (U (V (V (O zd ?_)))))))))
   refine aa (aQ Z) (aa (aJ Z Z) ?_)
   refine aa (bH Z) (aj Z Z (fun hG=>aQ Z) (aj Z Z (fun hG=>aQ Z) (aj Z Z (fun hG=>bS (ds:=.int .i64) zk zk (gd hG Z) (by first | exact cq zo zo | rfl)) ?_)))
   refine aj Z Z (fun hG=>bX (gd hG Z) (gd hG Z)) ?_
   refine aa (bu Z Z) ?_
   refine ac (U (am Z Z (fun hc3=>?_) (fun hc3=>?_)))
   ·
    simp at hc3;omega
   refine ar (U (V (V (O zd (aa (aQ Z) (aa (aJ Z Z) ?_))))))
   refine ac (U (am Z Z (fun hc4=>?_) (fun hc4=>?_)))
   ·
    refine O zd (aa (jA Z) (aa (bK Z) (aa (aQ Z) (aa (bS (ds:=.int .u64) zk zk Z (by first | exact bn zo zo | rfl)) ?_))))
    refine ah (dd hb Z (ci Z) (bB Z) (ae.mono (hread w3 _ l' n e3 zo h3 hll hnm) ?_))
    rintro r4 w4 ⟨hr4,k4⟩
    have:=k4.size
    rw [hρ] at hr4
    obtain ⟨a4,c4,hr4,hx4,a5,c5,hb5,hv5⟩:=hr4
    subst hr4
    have e4:aX w w4:=e3.step k4 fun i hi h=>by omega
    refine aa (dY Z) (aa (ai (t:=.slice _ _ _) Z Z) (aa (ai (t:=.int _ _) Z Z) (aa (cF Z) (aa (bO Z) (ac (U (V (V (O zd ?_)))))))))
    refine aa (aQ Z) (aa (bD Z Z) ?_)
    refine ac (U (am Z Z (fun hc5=>?_) (fun hc5=>?_)))
    ·
     simp at hc5
    refine ar (U (V (O zd (aa (bK Z) (aa (bK Z) (aa (aM Z) ?_))))))
    refine aa (ap zk Z hb5.pv Z) ?_
    refine aa (aM Z) ?_
    refine ah (aq (n:=1) Z Z (aZ Z) zk Z (by first | (simp [cL];done) | (simp only [List.forall_mem_cons,List.cons_append,List.nil_append];repeat' (first | exact rfl | apply And.intro | (intro u hu;cases hu;done)))) (hb0.ext e4) bV ?_)
    rintro w5 h5 k5 z5
    have:=k5.size
    refine ac (U (V (O zd (aa (bP Z) (aa (cF Z) (aa (ad Z) (ac (U (aw ?_)))))))))
    refine ee Z zq zq ?_
    refine ⟨?_,e4.keep.trans k5⟩
    rw [htr,hρ]
    refine ⟨_,_,rfl,(hx4.base zo).mono (F':=fun k=>w.heap.size≤k) (fun i _ hi=>by omega) |>.keep k5 (fun i hi h=>?_) (fun i _ hi _ h=>by omega),a5,c5,h5,hv5.keep k5 fun i _ hi h=>hnF (by subst h;exact hi)⟩
    have:=(hx4.own_lt hi).1
    omega
   have:=bf hc4;omega
 have htr:bR ρ most.toNat l=.error 3:=by rw [bR,hd];simp only [];rw [if_neg zo]
 refine aL 56 Tryz.func113 Z Z (by simp) ?_
 refine V (O zd (aa (ad Z) (aa (ad Z) (ac (U (V (O zd (aa (ad Z) (ac ?_)))))))))
 refine U (V (V (O zd (aa (bK Z) (ah (av zk (ci Z) (ae.mono (cU hb0) ?_)))))))
 rintro _ w1 ⟨rfl,e1⟩
 have:=e1.size
 refine ac (U (am Z Z (fun hc=>?_) (fun hc=>?_)))
 ·
  cases hc
 refine ar (U (V (V (O zd (aa (aQ Z) (aa (bw Z Z) ?_))))))
 refine ac (U (am Z Z (fun hc2=>?_) (fun hc2=>?_)))
 ·
  have:=bl hc2;omega
 refine ar (U (V (O zd (aa (bK Z) (aa (aM Z) ?_)))))
 refine aa (aA 0 28 Z) (aa (ag zk Z ((hb0.ext e1).pv 0 _ Z)) ?_)
 refine aa (aV (pl:=[(0,1)]) (z:=.agg #[.slice none 0 0]) (zl:=[.slice none 0 0]) zk (by unfold aE;kernel_rfl) Z Z (cells:=[_]) Z) ?_
 refine ah (aS (aZ Z) ?_)
 rintro b2 w2 rfl hb2 e2 z2
 have:=e2.size
 have e12:=e1.trans e2
 refine aa (mO Z) (ac (U (V (O zd (aa (bK Z) (ah (av zk (ci Z) (ae.mono (cd (b:=w1.heap.size) (l:=l) (F:=F) ⟨a,c,hb2,hv.ext e12⟩ (fun h=>by have:=hF _ h;omega)) ?_))))))))
 rintro r w3 ⟨hr3,h3,k3⟩
 have:=k3.size
 rw [fk,hd] at hr3
 simp only [] at hr3
 rw [← hz] at hr3
 subst hr3
 have e3:aX w w3:=e12.step k3 fun i hi h=>by omega
 refine aa (dY Z) (aa (ai (t:=.int _ _) Z Z) (aa (ai (t:=.int _ _) Z Z) (aa (bO Z) (aa (bO Z) (ac (U (V (V (O zd ?_)))))))))
 refine aa (aQ Z) (aa (aJ Z Z) ?_)
 refine aa (bH Z) (aj Z Z (fun hG=>aQ Z) (aj Z Z (fun hG=>aQ Z) (aj Z Z (fun hG=>bS (ds:=.int .i64) zk zk (gd hG Z) (by first | exact cq zo zo | rfl)) ?_)))
 refine aj Z Z (fun hG=>bX (gd hG Z) (gd hG Z)) ?_
 refine aa (bu Z Z) ?_
 refine ac (U (am Z Z (fun hc3=>?_) (fun hc3=>?_)))
 ·
  refine O zd (aa (ad Z) (ac (U (V (V (O zd (aa (aQ Z) (aa (aJ Z Z) ?_))))))))
  refine ac (U (am Z Z (fun hc4=>?_) (fun hc4=>?_)))
  ·
   have:=bl hc4;omega
  refine ar (U (V (V (O zd (aa (aQ Z) (aa (bD Z Z) ?_))))))
  refine ac (U (am Z Z (fun hc5=>?_) (fun hc5=>?_)))
  ·
   refine V (O zd (aa (bP Z) (aa (aQ Z) (aa (cF Z) (aa (bO Z) (ac (U (aw (ay ?_)))))))))
   refine ee Z zq zq ?_
   refine ⟨?_,e3.keep⟩
   rw [htr]
   exact ⟨by omega,rfl,⟨a,c,hb0.ext e3,hv.ext e3⟩⟩
  simp at hc5
 simp at hc3;omega
theorem tT {w:World} {b:Nat} {F:Nat→Prop} {l:List UInt8} {most:Int} {fr:Nat} {cap:Array Value} (hr:Rd ef w b F l) (hF:∀ k,F k→k < b) (hm:0≤most) (hm2:most≤9223372036854775807) (hl:l.length≤1000000000000) (hb:dj Tryz.prog fr=true)
    (ρ:List UInt8→Except Int (cO × List UInt8)) (hρ:∀ l x l2,ρ l=.ok (x,l2)→l2.length < l.length)
    (hone:∀ (w1:World) (c:Nat) (l1:List UInt8),aX w w1→w.heap.size≤c→Rd ef w1 c F l1→l1.length≤l.length→ae Tryz.prog fr (#[.pointer (some ⟨c,0,none⟩)] ++ cap) w1 (fun r w2=>qN w1 w2 c F (ρ l1) r∧ao (fun k=>k=c) w1 w2)) :
    ae Tryz.prog 74 #[.pointer (some ⟨b,0,none⟩),.int .i64 most,.func (.func fr) #[] cap] w (fun r w'=>od (dv) 53 ef w w' b F l (bR (bp ρ) most.toNat l) r∧ao (fun k=>k=b) w w'):=by
 have hblt:b < w.heap.size:=by obtain ⟨_,_,h,_⟩:=hr;exact h.lt
 cases hq:bR (bp ρ) most.toNat l with
 | error er=>
  refine aL 16 Tryz.func74 Z Z (by simp) ?_
  refine V (O zd (ah (aS (show _=(Value.func _ _ _) from Z) ?_)))
  rintro b1 w1 rfl hb1 e1 z1
  have:=e1.size
  refine aa (ad Z) (aa (ad Z) (ac (U (V (V (O zd (aa (ag zk Z (hb1.pv 0 _ Z)) ?_)))))))
  refine aa (eM (ps:=#[73]) (rs:=#[53,31]) (v:=false) zk Z Z) ?_
  refine ac (U (am Z Z (fun hc=>?_) (fun hc=>?_)))
  ·
   cases hc
  refine ar (U (V (O zd (aa (bK Z) (aa (aQ Z) (aa (cC (by simp [ev];rfl) (by simp [ev];rfl)) ?_))))))
  refine ah (gM zk (ci Z) (bB Z) (show _=(Value.func _ _ _) from Z) (ae.mono (sb (cap:=#[.pointer (some ⟨w.heap.size,0,none⟩)]) (hr.ext e1) hF hm hm2 zk (bp ρ) (fun w2 c l1 n e2 hc1 hr1 hl1 hn1=>by simpa using m6 hr1 (fun k hk=>by have:=hF k hk;have:=e2.size;omega) (fun h=>by have:=hF _ h;omega) zo zo hb (hb1.ext e2) zo ρ hρ (fun w3 l3 k3 hr3 hl3=>hone w3 c l3 ((e1.trans e2).step k3 (fun i hi h=>by omega)) zo hr3 zo))) ?_))
  rintro r w2 ⟨h2,k2⟩
  have:=k2.size
  rw [hq] at h2
  obtain ⟨her,rfl,h3⟩:=h2
  refine aa (ai (t:=.slice _ _ _) Z Z) (aa (ai (t:=.int _ _) Z Z) (aa (cF Z) (aa (bO Z) (ac (U (aw (ee Z zq zq ?_)))))))
  exact ⟨⟨her,rfl,h3⟩,(e1.mono fun _ _ h=>h.elim).trans k2⟩
 | ok xl=>
  obtain ⟨x,l2⟩:=xl
  refine aL 16 Tryz.func74 Z Z (by simp) ?_
  refine V (O zd (ah (aS (show _=(Value.func _ _ _) from Z) ?_)))
  rintro b1 w1 rfl hb1 e1 z1
  have:=e1.size
  refine aa (ad Z) (aa (ad Z) (ac (U (V (V (O zd (aa (ag zk Z (hb1.pv 0 _ Z)) ?_)))))))
  refine aa (eM (ps:=#[73]) (rs:=#[53,31]) (v:=false) zk Z Z) ?_
  refine ac (U (am Z Z (fun hc=>?_) (fun hc=>?_)))
  ·
   cases hc
  refine ar (U (V (O zd (aa (bK Z) (aa (aQ Z) (aa (cC (by simp [ev];rfl) (by simp [ev];rfl)) ?_))))))
  refine ah (gM zk (ci Z) (bB Z) (show _=(Value.func _ _ _) from Z) (ae.mono (sb (cap:=#[.pointer (some ⟨w.heap.size,0,none⟩)]) (hr.ext e1) hF hm hm2 zk (bp ρ) (fun w2 c l1 n e2 hc1 hr1 hl1 hn1=>by simpa using m6 hr1 (fun k hk=>by have:=hF k hk;have:=e2.size;omega) (fun h=>by have:=hF _ h;omega) zo zo hb (hb1.ext e2) zo ρ hρ (fun w3 l3 k3 hr3 hl3=>hone w3 c l3 ((e1.trans e2).step k3 (fun i hi h=>by omega)) zo hr3 zo))) ?_))
  rintro r w2 ⟨h2,k2⟩
  have:=k2.size
  rw [hq] at h2
  obtain ⟨a4,c4,rfl,o4,h4⟩:=h2
  refine aa (ai (t:=.slice _ _ _) Z Z) (aa (ai (t:=.int _ _) Z Z) (aa (cF Z) (aa (bO Z) (ac (U (aw (ee Z zq zq ?_)))))))
  exact ⟨⟨a4,c4,rfl,(o4.base zo).mono (fun i _ h=>by omega),h4⟩,(e1.mono fun _ _ h=>h.elim).trans k2⟩
end Go.Proofs.YteehplloacefmaaGreat
namespace Go.Proofs.YteehplloacefmaaGreat
open Go.Vc
theorem vr {w:World} {b:Nat} {F:Nat→Prop} {l:List UInt8} (HR:Rd ef w b F l) (hF:∀ k,F k→k < b) (hl:l.length≤100000):ae Tryz.prog 75 (#[.pointer (some ⟨b,0,none⟩)] ++ #[]) w (fun r w2=>qN w w2 b F (mQ l) r∧ao (fun k=>k=b) w w2):=by
 have hblt:b < w.heap.size:=by obtain ⟨_,_,h,_⟩:=HR;exact h.lt
 have hnF:¬ F b:=fun h=>absurd (hF b h) (Nat.lt_irrefl b)
 show ae _ _ #[_] _ _
 refine aL 33 Tryz.func75 Z Z (by simp) ?_
 refine V ?_
 have E:=ao.refl (K:=fun k=>k=b) w
 refine O zd (ah (aD (z:=(.agg #[.slice none 0 0,.slice none 0 0,.bool false,.int .i64 0])) (by unfold aE;kernel_rfl) ?_))
 rintro b2 w2 zb2 HB2 e2 z2
 have:=e2.size
 try simp only [Value.cells] at HB2
 replace HR:=HR.ext e2
 refine aa (ad Z) (ac (U (V (O zd (aa (bK Z) (ah (aW zk (ci Z) (bB Z) (ae.mono (fZ (most:=24) HR hF zq zq zo) ?_))))))))
 rintro r w3 ⟨hr3,k3⟩
 have:=k3.size
 obtain ⟨a3,c3,er3,fr,l1,rfl,HO3,HR3,hx3⟩:=eL hr3
 have zo_HO3:=fun (b:Nat) h=>HO3.own_lt (b:=b) h
 refine aa (dY Z) (aa (ai (t:=.slice _ _ _) Z Z) (aa (ai (t:=.int _ _) Z Z) (aa (cF Z) (aa (bO Z) (ac (U (V (O zd (aa (bK Z) ?_)))))))))
 refine ah (av zk (ci Z) (ae.mono (cd HR3 hnF) ?_))
 rintro r w4 ⟨hr4,HR4,k4⟩
 have:=k4.size
 obtain ⟨n,ne,hn,hnl,hnx⟩:=lY l1
 rw [hn] at hr4
 subst hr4
 refine aa (dY Z) (aa (ai (t:=.int _ _) Z Z) (aa (ai (t:=.int _ _) Z Z) (aa (bO Z) (aa (bO Z) (ac (U (V (V (O zd ?_)))))))))
 refine aa (aQ Z) (aa (bD Z Z) ?_)
 refine aa (bH Z) (aj Z Z (fun hG=>aQ Z) (aj Z Z (fun hG=>bD (gd hG Z) Z) ?_))
 refine aa (bF Z Z) ?_
 refine aa (bH Z) (aj Z Z (fun hG=>aQ Z) (aj Z Z (fun hG=>fc (gd hG Z) Z) ?_))
 refine aa (bF Z Z) ?_
 replace E:=((E.trans e2.keep).step k3 bi).step k4 bi
 replace HB2:=(HB2.keep k3 aH).keep k4 aH
 replace HO3:=HO3.keep k4 (by intro i ho he;have he0:=he;have ho0:=ho;(try dsimp only [aP] at he);(try simp only [Value.ownBlock,Option.some.injEq,reduceCtorEq] at ho);(try simp only [Value.ownBlock,Option.some.injEq,reduceCtorEq] at he);first | exact he.elim | exact ho.elim | omega | (have:=zo_HO3 _ ho0;omega)) (by intro i _ hi _ he;have he0:=he;have hi:=hi;have he:=he;(try dsimp only [aP,bj] at hi he);(try simp only [Value.ownBlock,Option.some.injEq,reduceCtorEq] at he);all_goals first | exact hi.elim | exact hi.1.elim | exact he.elim | omega | (rcases hi with hi | hi <;> omega) | (rcases he with he | he <;> omega))
 refine ac (U (am Z Z (fun hc=>?_) (fun hc=>?_)))
 ·
  refine V (O zd (aa (aV (pl:=[(0,1),(1,1),(2,1),(3,1)]) (z:=.agg #[.slice none 0 0,.slice none 0 0,.bool false,.int .i64 0]) (zl:=[.slice none 0 0,.slice none 0 0,.bool false,.int .i64 0]) zk (by unfold aE;kernel_rfl) Z Z (cells:=[_,_,_,_]) Z) ?_))
  refine ah (aq (n:=4) Z Z (aZ Z) zk Z cT HB2 bV ?_)
  rintro w101 HB2 k101 z101
  have:=k101.size
  try simp only [zS,Nat.zero_add,Nat.reduceAdd,List.drop_nil] at HB2
  refine aa (ad Z) (ac (U (aw (ay (bL (n:=4) Z zq zq Z zk HB2.pv Z (bB Z) ?_)))))
  replace E:=E.step k101 bi
  refine ⟨?_,E⟩
  replace HO3:=HO3.keep k101 (by intro i ho he;have he0:=he;have ho0:=ho;(try dsimp only [aP] at he);(try simp only [Value.ownBlock,Option.some.injEq,reduceCtorEq] at ho);(try simp only [Value.ownBlock,Option.some.injEq,reduceCtorEq] at he);first | exact he.elim | exact ho.elim | omega | (have:=zo_HO3 _ ho0;omega)) (by intro i _ hi _ he;have he0:=he;have hi:=hi;have he:=he;(try dsimp only [aP,bj] at hi he);(try simp only [Value.ownBlock,Option.some.injEq,reduceCtorEq] at he);all_goals first | exact hi.elim | exact hi.1.elim | exact he.elim | omega | (rcases hi with hi | hi <;> omega) | (rcases he with he | he <;> omega))
  replace HR4:=HR4.keep k101 fB (by intro i hi he;have hi0:=hi;have hi:=hi;have he:=he;(try dsimp only [aP] at hi he);first | exact he.elim | omega | (have:=hF i hi0;omega))
  have h:mQ l=.error 4:=by
   rw [mQ]
   rcases hx3 with ⟨he,hq⟩ | ⟨_,_,_,_,_,hq⟩
   ·
    rw [show br 24 l=_ from hq]
    rcases hnx with ⟨hne,_,hd⟩ | ⟨_,_,_,hd⟩
    ·
     simp only [hd]
     rw [if_neg]
     intro h5
     simp only [Bool.or_eq_true,decide_eq_true_eq,Bool.not_eq_true',decide_eq_false_iff_not,ne_eq] at hc
     omega
    simp only [hd]
   rw [show br 24 l=_ from hq]
  rw [h]
  exact ⟨by decide,_,([],[],false,0),rfl,gu (bs.nil _ _ _) (bs.nil _ _ _) zq⟩
 simp only [Bool.or_eq_false_iff,decide_eq_false_iff_not,Bool.not_eq_false',decide_eq_true_eq,ne_eq,Decidable.not_not] at hc
 refine ar (U (V (O zd (aa (bP Z) (aa (aQ Z) (aa (bS (ds:=.int .u64) zk zk Z (by first | exact bn zo zo | rfl)) ?_))))))
 refine aa (aV (pl:=[(0,1),(1,1),(2,1),(3,1)]) (z:=.agg #[.slice none 0 0,.slice none 0 0,.bool false,.int .i64 0]) (zl:=[.slice none 0 0,.slice none 0 0,.bool false,.int .i64 0]) zk (by unfold aE;kernel_rfl) Z Z (cells:=[_,_,_,_]) Z) ?_
 refine ah (aq (n:=4) Z Z (aZ Z) zk Z cT HB2 bV ?_)
 rintro w102 HB2 k102 z102
 have:=k102.size
 try simp only [zS,Nat.zero_add,Nat.reduceAdd,List.drop_nil] at HB2
 refine aa (ad Z) (ac (U (aw (bL (n:=4) Z zq zq Z zk HB2.pv Z (bB Z) ?_))))
 replace E:=E.step k102 bi
 refine ⟨?_,E⟩
 replace HO3:=HO3.keep k102 (by intro i ho he;have he0:=he;have ho0:=ho;(try dsimp only [aP] at he);(try simp only [Value.ownBlock,Option.some.injEq,reduceCtorEq] at ho);(try simp only [Value.ownBlock,Option.some.injEq,reduceCtorEq] at he);first | exact he.elim | exact ho.elim | omega | (have:=zo_HO3 _ ho0;omega)) (by intro i _ hi _ he;have he0:=he;have hi:=hi;have he:=he;(try dsimp only [aP,bj] at hi he);(try simp only [Value.ownBlock,Option.some.injEq,reduceCtorEq] at he);all_goals first | exact hi.elim | exact hi.1.elim | exact he.elim | omega | (rcases hi with hi | hi <;> omega) | (rcases he with he | he <;> omega))
 replace HR4:=HR4.keep k102 fB (by intro i hi he;have hi0:=hi;have hi:=hi;have he:=he;(try dsimp only [aP] at hi he);first | exact he.elim | omega | (have:=hF i hi0;omega))
 rcases hx3 with ⟨he,hq⟩ | ⟨he,_,_,_,_,hq⟩
 ·
  rcases hnx with ⟨hne,_,hd⟩ | ⟨hne,_,_,hd⟩
  ·
   have h:mQ l=.ok ((fr,[],false,(n:Int)),ca l1):=by
    rw [mQ,show br 24 l=_ from hq]
    simp only [hd]
    rw [if_pos zo]
   rw [h,he]
   exact ⟨_,rfl,gu (HO3.view.mono fun b _ h=>by rcases h with h | h <;> omega) (bs.nil _ _ _) zo,HR4⟩
  omega
 omega
def gK:List cO→List cO
  | r :: s :: t=>(r.1,s.1,true,r.2.2.2) :: gK (s :: t)
  | l=>l
theorem ks:∀ l,(gK l).length=l.length
  | []=>rfl
  | [_]=>rfl
  | r :: s :: t=>by rw [gK,List.length_cons,ks (s :: t)];rfl
theorem nu:∀ (l:List cO) (p x:cO),gK (l ++ [p] ++ [x])=(gK (l ++ [p])).set l.length (p.1,x.1,true,p.2.2.2) ++ [x]
  | [],p,x=>rfl
  | [r],p,x=>rfl
  | r :: s :: t,p,x=>by
    have h:=nu (s :: t) p x
    simp only [List.cons_append] at h ⊢
    rw [gK,gK,h];rfl
theorem nv:∀ (l:List cO) (p:cO),(gK (l ++ [p]))[l.length]? = some p
  | [],p=>rfl
  | [r],p=>rfl
  | r :: s :: t,p=>by
    have h:=nv (s :: t) p
    simp only [List.cons_append] at h ⊢
    rw [gK,List.length_cons,List.getElem?_cons_succ];exact h
def iz (i:Nat) (l:List cO):List cO:=gK (l.take i) ++ l.drop i
theorem tb (i:Nat) (l:List cO):(iz i l).length=l.length:=by
  rw [iz,List.length_append,ks,← List.length_append,List.take_append_drop]
theorem nt (l:List cO):iz 0 l=l:=by simp [iz,gK]
theorem ta (l:List cO):iz 1 l=l:=by
  cases l with
  | nil=>rfl
  | cons r l=>simp [iz,gK]
theorem tc {l:List cO} {i:Nat} (h:l.length≤i):iz i l=gK l:=by
  rw [iz,List.take_of_length_le h,List.drop_eq_nil_of_le h,List.append_nil]
theorem pO {l:List cO} {i:Nat} {p x:cO} (hp:l[i]? = some p) (hx:l[i + 1]? = some x) :
    (iz (i + 1) l)[i]? = some p∧(iz (i + 1) l)[i + 1]? = some x∧iz (i + 2) l=(iz (i + 1) l).set i (p.1,x.1,true,p.2.2.2):=by
  have hlt:=(List.getElem?_eq_some_iff.1 hx).1
  have e1:l.take (i + 1)=l.take i ++ [p]:=by rw [List.take_add_one,hp];rfl
  have e2:l.take (i + 1 + 1)=l.take i ++ [p] ++ [x]:=by rw [List.take_add_one,hx,e1];rfl
  have e3:l.drop (i + 1)=x :: l.drop (i + 1 + 1):=by rw [List.drop_eq_getElem?_toList_append,hx];rfl
  have e4:(l.take i).length=i:=by rw [List.length_take];omega
  have h1:=nv (l.take i) p
  have h2:=nu (l.take i) p x
  rw [e4] at h1 h2
  have e5:(gK (l.take i ++ [p])).length=i + 1:=by rw [ks,List.length_append,e4];rfl
  refine ⟨?_,?_,?_⟩
  · rw [iz,e1,List.getElem?_append_left zo];exact h1
  · rw [iz,e1,List.getElem?_append_right zo,e5,e3,Nat.sub_self];rfl
  · rw [iz,iz,show i + 2=i + 1 + 1 from rfl,e2,h2,e1,List.set_append_left _ _ zo,List.append_assoc]
    congr 1
    rw [e3];rfl
def gi (l:List UInt8):lz × Int:=match cK l with
  | none=>(oN,4)
  | some (n,l1)=>match bR (bp mQ) 16 l1 with
    | .error _=>(oN,4)
    | .ok (rs,l2)=>if l2=[]∧n≤2147483647∧cY ((n:Int),gK rs)=true then (((n:Int),gK rs),0) else (oN,4)
theorem la {α:Type} {ρ:List UInt8→Except Int (α × List UInt8)} {p:α→Prop} (h:∀ l x r,ρ l=.ok (x,r)→p x):∀ (n:Nat) (l:List UInt8) (xs:List α) (r:List UInt8),bp ρ n l=.ok (xs,r)→xs.length=n∧∀ x ∈ xs,p x
  | 0,l,xs,r,h1=>by cases h1;exact ⟨rfl,fun x hx=>by cases hx⟩
  | n + 1,l,xs,r,h1=>by
    rw [bp] at h1
    rcases hq:ρ l with e | ⟨x,l2⟩
    · rw [hq] at h1;cases h1
    · rw [hq] at h1
      simp only [] at h1
      rcases hq2:bp ρ n l2 with e | ⟨ys,l3⟩
      · rw [hq2] at h1;cases h1
      · rw [hq2] at h1
        cases h1
        obtain ⟨h2,h3⟩:=la h n l2 ys _ hq2
        exact ⟨by rw [List.length_cons,h2],fun y hy=>by rcases List.mem_cons.1 hy with rfl | hy;exact h _ _ _ hq;exact h3 y hy⟩
theorem q8:∀ l x r,mQ l=.ok (x,r)→x.1.length≤24:=by
  intro l x r h
  rw [mQ] at h
  rcases hd:br 24 l with e | ⟨fr,l1⟩
  · rw [hd] at h;cases h
  · rw [hd] at h;simp only [] at h
    have h1:=(fb hd).2.1
    rcases hd2:cK l1 with _ | ⟨n,l2⟩
    · rw [hd2] at h;cases h
    · rw [hd2] at h;simp only [] at h
      by_cases h5:n < 5
      · rw [if_pos h5] at h;cases h;exact h1
      · rw [if_neg h5] at h;cases h
theorem oz {m:Nat} {l:List UInt8} {rs:List cO} {l2:List UInt8} (h:bR (bp mQ) m l=.ok (rs,l2)):rs.length≤m∧∀ r ∈ rs,r.1.length≤24:=by
  rw [bR] at h
  rcases hd:cK l with _ | ⟨k,l'⟩
  · rw [hd] at h;cases h
  · rw [hd] at h;simp only [] at h
    by_cases hm:k≤m
    · rw [if_pos hm] at h
      obtain ⟨h1,h2⟩:=la q8 _ _ _ _ h
      exact ⟨by omega,h2⟩
    · rw [if_neg hm] at h;cases h
theorem rX (n:Int):-9223372036854775808≤IntKind.i64.wrap n∧IntKind.i64.wrap n≤9223372036854775807:=by rw [IntKind.wrap_i64];omega
theorem t2 {w:World} {F0:Nat→Prop} {v:Value} {l:List UInt8} (HS1:Bv w F0 v l) (hl:l.length≤100000):ae Tryz.prog 34 #[v] w (fun o w'=>(∃ x,o=.tuple #[x,.int .i64 (gi l).2]∧aY li w' (fun b=>w.heap.size≤b) x (gi l).1)∧aX w w'):=by
 obtain ⟨a1,c1,rfl⟩:=HS1.shape
 refine aL 73 Tryz.func34 Z Z (by simp) ?_
 refine V ?_
 have E:=ao.refl (K:=aP) w
 replace HS1:=HS1.all
 refine O zd (ah (aD (z:=(.agg #[.int .i64 0,.slice none 0 0])) (by unfold aE;kernel_rfl) ?_))
 rintro b2 w2 zb2 HB2 e2 z2
 have:=e2.size
 try simp only [Value.cells] at HB2
 replace HS1:=HS1.ext e2
 refine aa (ad Z) (ac (U (V (O zd (aa (bP Z) (ah (av zk (bI Z) (ae.mono (mJ HS1 zo) ?_))))))))
 rintro _ w3 ⟨b4,rfl,HR4,hb4,e4,hlt4⟩
 have:=e4.size
 have hF:∀ k,(w2.heap.size≤k∧k < b4)→k < b4:=fun k h=>h.2
 refine aa (mO Z) (ac (U (V (O zd (aa (bK Z) (ah (av zk (ci Z) (ae.mono (cd HR4 (fun h=>by omega)) ?_))))))))
 rintro r w5 ⟨hr5,HR5,k5⟩
 have:=k5.size
 obtain ⟨n,ne,hn,hnl,hnx⟩:=lY l
 rw [hn] at hr5
 subst hr5
 replace E:=(E.trans e2.keep).trans e4.keep
 replace HB2:=HB2.ext e4
 have hrl:(ca l).length≤l.length:=by
  rcases hnx with ⟨_,h,_⟩ | ⟨_,_,h,_⟩
  ·
   have:=congrArg List.length h;rw [List.length_append] at this;omega
  rw [h];omega
 refine aa (dY Z) (aa (ai (t:=.int _ _) Z Z) (aa (ai (t:=.int _ _) Z Z) (aa (bO Z) (aa (bO Z) (ac (U (V (O zd (aa (bK Z) ?_)))))))))
 refine ah (gM zk (ci Z) (bB Z) Z (ae.mono (tT (cap:=#[]) (most:=16) HR5 hF zq zq zo zk mQ rb (fun w1 c l1 e1 hc1 hr1 hl1=>vr hr1 (fun k h=>by have:=h.2;omega) zo)) ?_))
 rintro r w6 ⟨hr6,k6⟩
 have:=k6.size
 obtain ⟨a6,c6,er6,rs,l2,rfl,HO6,HR6,hx6⟩:=eL hr6
 replace E:=E.step k5 bi
 replace HB2:=HB2.keep k5 aH
 have hlen:rs.length≤16∧∀ r ∈ rs,r.1.length≤24:=by
  rcases hx6 with ⟨_,hq⟩ | ⟨_,h,_⟩
  ·
   exact oz hq
  rw [h];simp
 obtain ⟨hlen,hfl⟩:=hlen
 have HOx0:ck dv 53 w6 w5.heap.size (fun b=>w5.heap.size≤b∧b < w6.heap.size) (.slice a6 rs.length c6) (iz 0 rs):=by rw [nt];exact (HO6.mono fun b hb h=>⟨by omega,hb⟩).base zo
 have zo_HO6:=fun (b:Nat) h=>HO6.own_lt (b:=b) h
 have zo_HOx0:=fun (b:Nat) h=>HOx0.own_lt (b:=b) h
 refine aa (dY Z) (aa (ai (t:=.slice _ _ _) Z Z) (aa (ai (t:=.int _ _) Z Z) (aa (cF Z) (aa (bO Z) (ac (U (V (V (O zd ?_)))))))))
 refine aa (bP Z) (aa (ba (et:=53) zk Z) ?_)
 replace E:=E.step k6 bi
 refine aa (be Z) (ac (U (aO (cy (τ:=Nat) [9,25,26,27,28,29,30,31,32,33,34,35,36,37,38,39,40,41,42,43,44,45,46] (fun i=>[(25,.int .i64 i)]) (fun i W=>aX w W∧ao (fun b=>w5.heap.size≤b) w6 W∧i≤rs.length∧ck dv 53 W w5.heap.size (fun b=>w5.heap.size≤b∧b < W.heap.size) (.slice a6 rs.length c6) (iz i rs)) (fun i=>rs.length - i) 0 (by exact ⟨rfl,trivial⟩) (by exact ⟨E,ao.refl _,Nat.zero_le _,HOx0⟩) ?_))))
 rintro i w101 j ⟨E,EL1,h1,HOx⟩
 have:=EL1.size
 have zo_HOx:=fun (b:Nat) h=>HOx.own_lt (b:=b) h
 refine V (O zd (aa (bw Z Z) ?_))
 replace HB2:=(HB2.keep k6 aH).keep EL1 aH
 replace HR6:=HR6.keep EL1 fB (by intro i hi he;have hi0:=hi;have hi:=hi;have he:=he;(try dsimp only [aP] at hi he);first | exact he.elim | omega | (have:=hF i hi0;omega))
 refine ac (U (V (am Z Z (fun hlt=>?_) (fun hlt=>?_))))
 ·
  have hlt:=bl hlt
  refine ar (U (V (aO (V (O zd (aa (aQ Z) (aa (bO Z) (ac (U ?_)))))))))
  refine V (O zd (aa (aQ Z) (aa (bX Z Z) ?_)))
  refine ac (U (am Z Z (fun hi=>?_) (fun hi=>?_)))
  ·
   have hi:=bl hi
   obtain ⟨j,rfl⟩:∃ j,i=j + 1:=⟨i - 1,by omega⟩
   obtain ⟨p,hp,_⟩:=eC (l:=rs) (i:=j) zo
   obtain ⟨x,hx,_⟩:=eC (l:=rs) (i:=j + 1) zo
   obtain ⟨hfp,hfx,hfs⟩:=pO hp hx
   have hx1:=hfl x (List.mem_of_getElem? hx)
   obtain ⟨bo,rfl,hbo1,hbo2⟩:=HOx.addr (fun h=>by have:=congrArg List.length h;rw [tb,List.length_nil] at this;omega)
   obtain ⟨q,cs,hq,hFq,hqb,HPq,hrx⟩:=HOx.view.el hfx
   cases hq
   obtain ⟨b7,d7,b8,d8,rfl,HSf,_,hgx⟩:=bN hrx
   refine O zd (aa (bP Z) (aa (aQ Z) (aa (iE Z Z (by first | exact bn zo zo | rfl)) ?_)))
   refine aa (bP Z) (aa (aQ Z) (aa (iE Z Z (by first | exact bn zo zo | rfl)) ?_))
   refine aa (bP Z) (aa (aQ Z) (aa (aF (et:=53) (sz:=4) (k:=j + 1) zk zk Z Z (by first | rfl | omega) zo) ?_))
   refine aa (aA 0 28 Z) (aa (ag zk Z (by first | exact HPq 0 _ rfl | exact HB2.pv 0 _ rfl | assumption)) ?_)
   refine ah (av zk (bI Z) (ae.mono (iD HSf zo) ?_))
   rintro _ w41 ⟨HO41,e41⟩
   have:=e41.size
   obtain ⟨a41,c41,rfl⟩:=HO41.shape
   have zo_HO41:=fun (b:Nat) h=>HO41.own_lt (b:=b) h
   replace HOx:=HOx.ext e41
   have HOy:=HOx.mono (F':=fun b=>w5.heap.size≤b) (fun b _ h=>h.1)
   refine aa (aF (et:=53) (sz:=4) (k:=j) zk zk Z Z (by first | rfl | omega) zo) ?_
   refine aa (aA 1 28 Z) (ah (hC (k:=j) (off:=1) Z (by rw [show dv.sz=4 from rfl];simp [eE]) (by first | decide | exact (of_decide_eq_true rfl:1 < 2)) (bI Z) Z zk HOy (x1:=(p.1,x.1,p.2.2.1,p.2.2.2)) hfp (fun cs h=>by obtain ⟨y1,d1,y2,d2,rfl,h1,h2,h3⟩:=bN h;exact gu h1 (HO41.view.mono fun b hb hF=>⟨by have h5:=hF.resolve_right (fun h=>h);(try dsimp only at h5);omega,by have h5:=hF.resolve_right (fun h=>h);(try dsimp only at h5);omega⟩) h3) ?_))
   rintro w43 HOz k43 z43
   have:=k43.size
   have zo_HOz:=fun (b:Nat) h=>HOz.own_lt (b:=b) h
   refine aa (aF (et:=53) (sz:=4) (k:=j) zk zk Z Z (by first | rfl | omega) zo) ?_
   refine aa (aA 2 4 Z) (ah (hC (k:=j) (off:=2) Z (by rw [show dv.sz=4 from rfl];simp [eE]) (by first | decide | exact (of_decide_eq_true rfl:2 < 2)) (cE Z) Z zk HOz (x1:=(p.1,x.1,true,p.2.2.2)) (List.getElem?_set_self (by have:=(List.getElem?_eq_some_iff.1 hfp).1;exact this)) (fun cs h=>by obtain ⟨y1,d1,y2,d2,rfl,h1,h2,h3⟩:=bN h;exact gu h1 h2 h3) ?_))
   rintro w45 HO45 k45 z45
   have:=k45.size
   have zo_HO45:=fun (b:Nat) h=>HO45.own_lt (b:=b) h
   refine ac (bE (U (O zd (aa (cn Z Z (by first | exact bn zo zo | rfl)) ?_))))
   replace E:=((E.trans e41.keep).step k43 bi).step k45 bi
   replace HB2:=((HB2.ext e41).keep k43 aH).keep k45 aH
   replace HR6:=((HR6.ext e41).keep k43 fB (by intro i hi he;have hi0:=hi;have hi:=hi;have he:=he;(try dsimp only [aP] at hi he);first | exact he.elim | omega | (have:=hF i hi0;omega))).keep k45 fB (by intro i hi he;have hi0:=hi;have hi:=hi;have he:=he;(try dsimp only [aP] at hi he);first | exact he.elim | omega | (have:=hF i hi0;omega))
   replace EL1:=((EL1.trans e41.keep).step k43 bi).step k45 bi
   replace HPq:=HPq.ext e41
   replace HSf:=HSf.ext e41
   refine aa (aQ Z) (ac (U (⟨j + 1 + 1,_,rfl,by (repeat (first | exact cD.of_over _ _ _ | refine cD.upd ?_ zq _ | refine cD.overs ?_ zq _)),⟨by first | rfl | exact congrArg (Value.int _) zo | (simp;done),trivial⟩,⟨E,EL1,?_⟩,?_⟩)))
   ·
    refine ⟨by omega,?_⟩
    rw [show j + 1 + 1=j + 2 from rfl,hfs]
    rw [List.set_set] at HO45
    exact HO45.mono fun b hb h=>⟨h,hb⟩
   (dsimp only;omega)
  have hi0:i=0:=by have:=bf hi;omega
  subst hi0
  refine ar (bE (U (O zd (aa (cn Z Z (by first | exact bn zo zo | rfl)) ?_))))
  refine aa (aQ Z) (ac (U (⟨0 + 1,_,rfl,by (repeat (first | exact cD.of_over _ _ _ | refine cD.upd ?_ zq _ | refine cD.overs ?_ zq _)),⟨by first | rfl | exact congrArg (Value.int _) zo | (simp;done),trivial⟩,⟨E,EL1,?_⟩,?_⟩)))
  ·
   refine ⟨by omega,?_⟩
   rw [ta];rw [nt] at HOx;exact HOx.mono fun b hb h=>⟨h.1,hb⟩
  (dsimp only;omega)
 have h2:=bf hlt
 have hall:iz i rs=gK rs:=tc zo
 rw [hall] at HOx
 have HGm:=aY.mkMp (HOx.view.mono (F':=fun b=>w5.heap.size≤b∧b < _) fun b hb h=>⟨by rcases h with h | h <;> omega,hb⟩) (rX n)
 refine cl (bm (bm (cV (U (V (O zd (aa (aQ Z) (aa (bS (t:=IntKind.i64.wrap n) (ds:=.int .u64) zk zk Z (rfl)) ?_))))))))
 refine aa (bP Z) (aa (aV (pl:=[(0,1),(1,1)]) (z:=.agg #[.int .i64 0,.slice none 0 0]) (zl:=[.int .i64 0,.slice none 0 0]) zk (by unfold aE;kernel_rfl) Z Z (cells:=[_,_]) Z) ?_)
 refine ah (aD (z:=(.agg #[.int .i64 0,.slice none 0 0])) (by unfold aE;kernel_rfl) ?_)
 rintro b10 w10 zb10 HB10 e10 z10
 have:=e10.size
 try simp only [Value.cells] at HB10
 refine ah (aq (n:=2) Z Z (aZ Z) zk Z cT HB10 bV ?_)
 rintro w102 HB10 k102 z102
 have:=k102.size
 try simp only [zS,Nat.zero_add,Nat.reduceAdd,List.drop_nil] at HB10
 refine ac (U (V (V (O zd (aa (aQ Z) (aa (bD Z Z) ?_))))))
 refine aa (bH Z) (aj Z Z (fun hG=>aQ Z) (aj Z Z (fun hG=>bD (gd hG Z) Z) ?_))
 refine aa (bF Z Z) ?_
 replace HR6:=(HR6.ext e10).keep k102 fB (by intro i hi he;have hi0:=hi;have hi:=hi;have he:=he;(try dsimp only [aP] at hi he);first | exact he.elim | omega | (have:=hF i hi0;omega))
 refine aa (bH Z) (aj Z Z (fun hG=>bK Z) (cI Z Z (fun hG=>av zk (gd hG Z) (nA HR6)) ?_))
 rintro w103 e103
 have:=e103.size
 refine aj Z Z (fun hG=>bD (gd hG Z) Z) ?_
 refine aa (bF Z Z) ?_
 refine aa (bH Z) (aj Z Z (fun hG=>aQ Z) (aj Z Z (fun hG=>bX (gd hG Z) Z) ?_))
 refine aa (bF Z Z) ?_
 replace HB2:=((HB2.ext e10).keep k102 aH).ext e103
 replace HB10:=HB10.ext e103
 refine aa (bH Z) (aj Z Z (fun hG=>ap zk Z (by first | exact HB10.pv | exact HB2.pv | assumption) Z) ?_)
 replace HGm:=((HGm.ext e10).keep k102 aC).ext e103
 refine cI Z Z (fun hG=>av zk (gd hG Z) (mL HGm)) ?_
 rintro w104 e104
 have:=e104.size
 refine aj Z Z (fun hG=>cg (gd hG Z)) ?_
 refine aa (bF Z Z) ?_
 replace E:=(((E.trans e10.keep).step k102 bi).trans e103.keep).trans e104.keep
 replace HOx:=(((HOx.ext e10).keep k102 (by intro i ho he;have he0:=he;have ho0:=ho;(try dsimp only [aP] at he);(try simp only [Value.ownBlock,Option.some.injEq,reduceCtorEq] at ho);(try simp only [Value.ownBlock,Option.some.injEq,reduceCtorEq] at he);first | exact he.elim | exact ho.elim | omega | (have:=zo_HOx _ ho0;omega)) (by intro i _ hi _ he;have he0:=he;have hi:=hi;have he:=he;(try dsimp only [aP,bj] at hi he);(try simp only [Value.ownBlock,Option.some.injEq,reduceCtorEq] at he);all_goals first | exact hi.elim | exact hi.1.elim | exact he.elim | omega | (rcases hi with hi | hi <;> omega) | (rcases he with he | he <;> omega))).ext e103).ext e104
 replace HR6:=(HR6.ext e103).ext e104
 replace HB2:=HB2.ext e104
 replace HGm:=HGm.ext e104
 replace HB10:=HB10.ext e104
 refine ac (U (am Z Z (fun hc=>?_) (fun hc=>?_)))
 ·
  refine V (O zd (aa (aV (pl:=[(0,1),(1,1)]) (z:=.agg #[.int .i64 0,.slice none 0 0]) (zl:=[.int .i64 0,.slice none 0 0]) zk (by unfold aE;kernel_rfl) Z Z (cells:=[_,_]) Z) ?_))
  refine ah (aq (n:=2) Z Z (aZ Z) zk Z cT HB2 bV ?_)
  rintro w105 HB2 k105 z105
  have:=k105.size
  try simp only [zS,Nat.zero_add,Nat.reduceAdd,List.drop_nil] at HB2
  refine aa (ad Z) (ac (U (aw (ay (bL (n:=2) Z zq zq Z zk HB2.pv Z (bB Z) ?_)))))
  replace E:=E.step k105 bi
  replace HR6:=HR6.keep k105 fB (by intro i hi he;have hi0:=hi;have hi:=hi;have he:=he;(try dsimp only [aP] at hi he);first | exact he.elim | omega | (have:=hF i hi0;omega))
  replace HOx:=HOx.keep k105 (by intro i ho he;have he0:=he;have ho0:=ho;(try dsimp only [aP] at he);(try simp only [Value.ownBlock,Option.some.injEq,reduceCtorEq] at ho);(try simp only [Value.ownBlock,Option.some.injEq,reduceCtorEq] at he);first | exact he.elim | exact ho.elim | omega | (have:=zo_HOx _ ho0;omega)) (by intro i _ hi _ he;have he0:=he;have hi:=hi;have he:=he;(try dsimp only [aP,bj] at hi he);(try simp only [Value.ownBlock,Option.some.injEq,reduceCtorEq] at he);all_goals first | exact hi.elim | exact hi.1.elim | exact he.elim | omega | (rcases hi with hi | hi <;> omega) | (rcases he with he | he <;> omega))
  replace HGm:=HGm.keep k105 aC
  replace HB10:=HB10.keep k105 aH
  have h:gi l=(oN,4):=by
   rw [gi]
   rcases hnx with ⟨hne,_,hd⟩ | ⟨_,_,_,hd⟩
   ·
    simp only [hd]
    rcases hx6 with ⟨he,hq⟩ | ⟨_,_,_,_,_,hq⟩
    ·
     rw [show bR (bp mQ) 16 (ca l)=_ from hq]
     simp only []
     rw [if_neg]
     rintro ⟨h1,h2,h3⟩
     have hw:IntKind.i64.wrap n=n:=bn zo zo
     rw [hne,he,h1,hw,h3,decide_eq_false (by omega:¬ (2147483647:Int) < (n:Int))] at hc
     simp at hc
    rw [show bR (bp mQ) 16 (ca l)=_ from hq]
   simp only [hd]
  rw [h]
  exact ⟨⟨_,rfl,aY.mkMp (bs.nil _ _ _) zq⟩,E⟩
 simp only [Bool.or_eq_false_iff,decide_eq_false_iff_not,Bool.not_eq_false',decide_eq_true_eq] at hc
 obtain ⟨⟨⟨⟨hc1,hc2⟩,hc3⟩,hc4⟩,hc5⟩:=hc
 have hw:IntKind.i64.wrap n=n:=bn zo zo
 rw [hw] at hc5 HGm HB10
 rw [hw]
 refine ar (U (V (O zd (aa (ap zk Z (by first | exact HB10.pv | exact HB2.pv | assumption) Z) ?_))))
 refine ah (aq (n:=2) Z Z (aZ Z) zk Z cT HB2 bV ?_)
 rintro w106 HB2 k106 z106
 have:=k106.size
 try simp only [zS,Nat.zero_add,Nat.reduceAdd,List.drop_nil] at HB2
 refine aa (ad Z) (ac (U (aw (bL (n:=2) Z zq zq Z zk HB2.pv Z (bB Z) ?_))))
 replace E:=E.step k106 bi
 replace HR6:=HR6.keep k106 fB (by intro i hi he;have hi0:=hi;have hi:=hi;have he:=he;(try dsimp only [aP] at hi he);first | exact he.elim | omega | (have:=hF i hi0;omega))
 replace HOx:=HOx.keep k106 (by intro i ho he;have he0:=he;have ho0:=ho;(try dsimp only [aP] at he);(try simp only [Value.ownBlock,Option.some.injEq,reduceCtorEq] at ho);(try simp only [Value.ownBlock,Option.some.injEq,reduceCtorEq] at he);first | exact he.elim | exact ho.elim | omega | (have:=zo_HOx _ ho0;omega)) (by intro i _ hi _ he;have he0:=he;have hi:=hi;have he:=he;(try dsimp only [aP,bj] at hi he);(try simp only [Value.ownBlock,Option.some.injEq,reduceCtorEq] at he);all_goals first | exact hi.elim | exact hi.1.elim | exact he.elim | omega | (rcases hi with hi | hi <;> omega) | (rcases he with he | he <;> omega))
 replace HGm:=HGm.keep k106 aC
 replace HB10:=HB10.keep k106 aH
 have h:gi l=(((n:Int),gK rs),0):=by
  rw [gi]
  rcases hnx with ⟨hne,_,hd⟩ | ⟨_,_,_,hd⟩
  ·
   simp only [hd]
   rcases hx6 with ⟨he,hq⟩ | ⟨_,_,_,_,_,hq⟩
   ·
    rw [show bR (bp mQ) 16 (ca l)=_ from hq]
    simp only []
    rw [if_pos ⟨by by_cases h0:l2=[];exact h0;(rw [if_neg h0] at hc3;omega),by omega,hc5⟩]
   omega
  omega
 rw [h]
 exact ⟨⟨_,rfl,HGm.mono fun b _ h=>by omega⟩,E⟩
end Go.Proofs.YteehplloacefmaaGreat

/- Steps and lemmas for the walks. -/
import Derived.Test.YteehplloacefmaaGreatGu
import Derived.Test.YteehplloacefmaaGreatGt
set_option linter.unusedVariables false
set_option linter.unusedSimpArgs false
set_option maxRecDepth 100000
namespace Go.Proofs.YteehplloacefmaaGreat
open Go.Vc
def mP (x:cO):List UInt8:=az x.1 ++ aT x.2.2.2.toNat
def jz (m:lz):List UInt8:=aT m.1.toNat ++ bQ mP m.2
theorem vg {w:World} {v:Value} {F:Nat→Prop} {xs:List (cO)} {fr:Nat} {cap:Array Value} (hv:bs (dv) w F v xs) (hb:dj Tryz.prog fr=true) (sp:cO→List UInt8)
    (hform:∀ (w1:World) (cs:List Value) (x:cO),aX w w1→(dv).rep w1 F cs x→x ∈ xs→ae Tryz.prog fr (#[.agg cs.toArray] ++ cap) w1 (fun r w2=>ck cw iF w2 w1.heap.size aP r (sp x)∧aX w1 w2))
    (hl:(bQ sp xs).length≤140737488355300) (hn:xs.length≤5000000000000) :
    ae Tryz.prog 51 #[v,.func (.func fr) #[] cap] w (fun r w'=>∃ q c,r=.tuple #[.slice (some q) (bQ sp xs).length c,.int .i64 0]∧ck cw iF w' w.heap.size aP (.slice (some q) (bQ sp xs).length c) (bQ sp xs)∧aX w w'):=by
 obtain ⟨a,c,rfl⟩:=hv.shape
 obtain ⟨w0,rfl⟩:∃ x,x=w:=⟨w,rfl⟩
 refine aL 32 Tryz.func51 Z Z (by simp) ?_
 refine V (O zd (aa (ad Z) (aa (ad Z) (ac (U (V (V (O zd (aa (jA Z) ?_)))))))))
 refine aa (eM (ps:=#[53]) (rs:=#[28]) (v:=false) zk Z Z) ?_
 refine ac (U (am Z Z (fun hc=>?_) (fun hc=>?_)))
 ·
  cases hc
 refine ar (U (V (O zd (aa (bP Z) (aa (ba (et:=53) zk Z) ?_)))))
 refine aa (bS (ds:=.int .i64) zk zk Z (by first | exact cq zo zo | rfl)) ?_
 refine ah (av zk (bB Z) (ae.mono (ew (n:=xs.length) zo) ?_))
 rintro _ w1 ⟨o1,⟨q1,c1,rfl⟩,e1⟩
 have:=e1.size
 refine ah (cp (t:=dB cw) (et:=28) (bytes:=24) zk zq (bI Z) ((show (dB cw).rep _ _ [_] _ from ⟨_,rfl,o1.view⟩)) ?_)
 rintro b2 w2 rfl o2 e2 z2
 have:=e2.size
 refine aa (cF Z) (ac (U (V (V (O zd (aa (bP Z) (aa (ba (et:=53) zk Z) ?_)))))))
 refine aa (be Z) (ac (U (aO (cy (τ:=Option Addr × Nat × Nat) [6,7,17,18,19,20,21,22,23,24,25,26,27,28,29] (fun (a1,c1,k)=>[(6,.slice a1 (k + 1) c1),(17,.int .i64 k)]) (fun (a1,c1,k) w=>ck (dB cw) nSl w w0.heap.size (fun b=>w0.heap.size≤b) (.slice a1 (k + 1) c1) (aT xs.length :: (xs.take k).map sp)∧aX w0 w∧k≤xs.length) (fun (a1,c1,k)=>xs.length - k) (some ⟨w1.heap.size,0,none⟩,1,0) (by exact ⟨rfl,rfl,trivial⟩) (by exact ⟨(o2.base zo).mono (fun b _ h=>by rcases h.1 with h | h;exact h;exact h.elim),e1.trans e2,Nat.zero_le _⟩) ?_))))
 rintro ⟨a1,c1,k⟩ w3 j ⟨o3,e3,h3⟩
 refine V (O zd (aa (bw Z Z) ?_))
 refine ac (U (V (am Z Z (fun hc2=>?_) (fun hc2=>?_))))
 ·
  have hc2:=bl hc2
  have:=e3.size
  obtain ⟨x,hx⟩:∃ x,xs[k]? = some x:=⟨xs[k]'zo,by simp [show k < xs.length by omega]⟩
  have hlk:(aT xs.length :: (xs.take k).map sp).length=k + 1:=by simp;omega
  refine ar (U (V (aO (V (O zd (aa (aQ Z) (aa (bO Z) (ac (U ?_)))))))))
  refine O zd (aa (bP Z) (aa (jA Z) (aa (bP Z) (aa (aQ Z) (ah (ed (et:=53) zk zk (bI Z) (hv.ext e3) (bB Z) Z hx ?_))))))
  rintro q cs hF hp hr
  skip
  refine aa (ap (n:=4) zk Z hp (dv.len hr)) ?_
  refine ah (eV hb Z (aZ Z) (ae.mono ((hform w3 _ x e3 hr (List.mem_of_getElem? hx))) ?_))
  rintro _ w4 ⟨o4,e4⟩
  have:=e4.size
  obtain ⟨a4,c4,rfl⟩:=o4.shape
  refine ah (cp (t:=dB cw) (et:=28) (bytes:=24) zk zq (bI Z) ((show (dB cw).rep _ _ [_] _ from ⟨_,rfl,o4.view⟩)) ?_)
  rintro b5 w5 rfl o5 e5 z5
  have:=e5.size
  refine ah (cv (et:=28) (bytes:=24) zk (bI Z) (o3.ext (e4.trans e5)) (bI Z) o5.view ((jw o3 (by intro b hb;simp only [aP,or_false] at hb;omega) zo)) (by first | omega | (simp;done) | (simp;omega)) (by simp only [maxLen];first | omega | (simp;done) | (simp;omega)) zo ?_)
  rintro a6 n6 c6 w6 o6 hn6 k6 b6 i6
  have:=k6.size
  have hlk2:((aT xs.length :: (xs.take k).map sp) ++ [sp x]).length=k + 1 + 1:=by simp;omega
  rw [hlk2] at hn6
  subst hn6
  have e6:aX w0 w6:=((e3.trans e4).trans e5).step k6 fun b hb h=>by have:=(o3.own_lt h).1;omega
  have htk:(xs.take (k + 1)).map sp=(xs.take k).map sp ++ [sp x]:=by rw [List.take_add_one,hx];simp
  refine aa (cF Z) (ac (bE (U (O zd (aa (cn Z Z (by first | exact bn zo zo | rfl)) ?_)))))
  refine aa (aQ Z) (ac (U (⟨(a6,c6,k + 1),_,rfl,by (repeat (first | exact cD.of_over _ _ _ | refine cD.upd ?_ zq _ | refine cD.overs ?_ zq _)),⟨by first | rfl | exact congrArg (Value.int _) zo | (simp;done),by first | rfl | exact congrArg (Value.int _) zo | (simp;done),trivial⟩,?_,?_⟩)))
  ·
   exact ⟨by rw [htk];exact o6,e6,by omega⟩
  dsimp only;omega
 have hc2:=bf hc2
 obtain rfl:k=xs.length:=by omega
 rw [List.take_length] at o3
 have:=e3.size
 refine cl (bm (bm (cV (U (V (O zd (aa (bP Z) (ah (av zk (bI Z) (ae.mono (dN o3.view (by simpa [bQ] using hl)) ?_))))))))))
 rintro _ w4 ⟨o4,⟨q4,c4,rfl⟩,e4⟩
 have:=e4.size
 refine aa (cF Z) (aa (ad Z) (ac (U (aw (ee Z zq zq ?_)))))
 have hfl:(aT xs.length :: xs.map sp).flatten=bQ sp xs:=by simp [bQ]
 rw [hfl] at o4 ⊢
 exact ⟨q4,c4,rfl,o4.base zo,e3.trans e4⟩
theorem tO {w:World} {F:Nat→Prop} {cs:List Value} {x:cO} (hr:dv.rep w F cs x) (hl:x.1.length≤1000) (h0:0≤x.2.2.2):ae Tryz.prog 52 (#[.agg cs.toArray] ++ #[]) w (fun r w2=>ck cw iF w2 w.heap.size aP r (mP x)∧aX w w2):=by
 obtain ⟨fr,t,en,g⟩:=x
 obtain ⟨a1,c1,a2,c2,rfl,HS1,_,hg⟩:=bN hr
 simp only at hl h0 hg HS1
 obtain ⟨n,rfl⟩:=Int.eq_ofNat_of_zero_le h0
 have hwl:=bA (n:=n) zo
 have hwb:(az fr).length≤fr.length + 10:=by have:=bA (n:=fr.length) zo;rw [az,List.length_append];omega
 show ae _ _ #[_] _ _
 refine aL 12 Tryz.func52 Z Z (by simp) ?_
 refine V ?_
 have E:=ao.refl (K:=aP) w
 replace HS1:=HS1.all
 refine O zd (ah (aS (aZ Z) ?_))
 rintro b1 w1 zb1 HB1 e1 z1
 have:=e1.size
 try simp only [Value.cells] at HB1
 refine aa (ad Z) (ac (U (V (cN zk ?_))))
 have e101:aX w1 { w1 with drawn:=w1.drawn + 1 }:=ao.drawn _ _
 generalize hw101:({ w1 with drawn:=w1.drawn + 1 }:World)=w101 at e101 ⊢
 clear hw101
 have:=e101.size
 refine bT 6 Z zd zd zd ?_
 refine cf (aP) zd zd ?_
 refine aB (fun ab w hR hd=>aA 0 28 Z) ?_
 replace HB1:=HB1.ext e101
 refine aB (fun ab w hR hd=>ag zk (hd 0 Z) (by first | exact (HB1.ext hR).pv 0 _ rfl | assumption)) ?_
 replace HS1:=(HS1.ext e1).ext e101
 refine cr (fun v W=>Bv W bj v (az fr)) (fun v w w' h k=>h.ext k) (fun ab w hR hd=>av zk (hd 1 Z) (ae.mono (dT (HS1.ext hR) zo) fun v w1 ⟨h,_,e⟩=>⟨e,h.view.allB⟩)) ?_
 refine aB (fun ab w hR hd=>aA 3 3 Z) ?_
 refine aB (fun ab w hR hd=>ag zk (hd 3 Z) (by first | exact (HB1.ext hR).pv 3 _ rfl | assumption)) ?_
 refine aB (fun ab w hR hd=>bS (ds:=.int .i64) zk zk (hd 4 Z) (by first | exact cq zo zo | rfl)) ?_
 refine bU (fun w102 e102=>?_)
 rintro _ rfl _ rfl v5 HS5 _ rfl _ rfl _ rfl
 have:=e102.size
 obtain ⟨a5,d5,rfl⟩:=HS5.shape
 refine bG (U (bT 1 Z zd zd zd ?_))
 refine bZ zd Z ?_
 refine ah (av zk (bB Z) (ae.mono (ew (n:=n) zo) ?_))
 rintro _ w9 ⟨HO9,⟨q9,c9,rfl⟩,e9⟩
 have:=e9.size
 have zo_HO9:=fun (b:Nat) h=>HO9.own_lt (b:=b) h
 refine ac (U (bT 1 Z zd zd zd ?_))
 refine bZ zd Z ?_
 replace HS5:=HS5.ext e9
 refine ah (cz (t:=dB cw) (xs:=[az fr,aT n]) (et:=28) (bytes:=24) (zl:=[.slice none 0 0,.slice none 0 0]) zk zq zq (by unfold cQ;kernel_rfl) Z (cells:=[_,_]) Z Z Z ((nb (t:=dB cw) (c1:=[_]) (c2:=[_]) ⟨_,rfl,HS5⟩ ⟨_,rfl,HO9.view.allB⟩)) ?_)
 rintro b10 w10 zb10 HO10 e10 z10
 have:=e10.size
 have zo_HO10:=fun (b:Nat) h=>HO10.own_lt (b:=b) h
 refine ac (U (bT 1 Z zd zd zd ?_))
 refine bZ zd Z ?_
 refine ah (av zk (bI Z) (ae.mono (dN HO10.view (by simp;omega)) ?_))
 rintro _ w11 ⟨HO11,⟨q11,c11,rfl⟩,e11⟩
 have:=e11.size
 have zo_HO11:=fun (b:Nat) h=>HO11.own_lt (b:=b) h
 refine ac (U (bZ zd Z ?_))
 refine aa (cF Z) (ac (U (aw (aU Z zq (bI Z) ?_))))
 replace E:=(((((E.trans e1.keep).trans e101.keep).trans e102.keep).trans e9.keep).trans e10.keep).trans e11.keep
 refine ⟨?_,E⟩
 have h:[az fr,aT n].flatten=mP (fr,t,en,(n:Int)):=by simp [mP]
 rw [h] at HO11 ⊢
 exact HO11.base zo
theorem gZ {l:List UInt8} (h:l.length≤100000):(az l).length≤l.length + 10:=by have:=bA (n:=l.length) zo;rw [az,List.length_append];omega
theorem u6 {r:cO} (h:r.1.length≤24) (h2:r.2.2.2 < 5):(mP r).length≤44:=by
  have h1:=gZ (l:=r.1) zo
  have h3:=bA (n:=r.2.2.2.toNat) zo
  rw [mP,List.length_append];omega
theorem kp {e:Int} {rs:List cO} (hm:cY (e,rs)=true):(bQ mP rs).length≤714∧(jz (e,rs)).length≤724:=by
  obtain ⟨hp1,hp2,_,hp4,_,_⟩:=cP hm
  have hl:=eA hm
  simp only at hp1 hp2 hp4 hl
  have h1:=lq (sp:=mP) (k:=44) rs fun r hr=>u6 (hl r hr).1 (gF (hl r hr).2.2).2
  have h2:=bA (n:=rs.length) zo
  have h3:=bA (n:=e.toNat) zo
  have h4:(bQ mP rs).length≤714:=by rw [bQ,List.length_append];omega
  refine ⟨h4,?_⟩
  show (aT e.toNat ++ bQ mP rs).length≤724
  rw [List.length_append];omega
theorem sG {w:World} {F:Nat→Prop} {v:Value} {e:Int} {rs:List cO} (HG1:aY li w F v (e,rs)):ae Tryz.prog 15 #[v] w (fun o w'=>(∃ x,o=.tuple #[x,.int .i64 (if cY (e,rs)=true then 0 else 2)]∧Bv w' (fun b=>w.heap.size≤b) x (if cY (e,rs)=true then jz (e,rs) else []))∧aX w w'):=by
 obtain ⟨a,c,rfl,HSr,he⟩:=HG1.mp
 simp only at HSr he
 refine aL 22 Tryz.func15 Z Z (by simp) ?_
 refine V ?_
 have E:=ao.refl (K:=aP) w
 replace HG1:=HG1.all
 replace HSr:=HSr.all
 refine O zd (ah (aS (aZ Z) ?_))
 rintro b1 w1 zb1 HB1 e1 z1
 have:=e1.size
 try simp only [Value.cells] at HB1
 refine aa (ad Z) (aa (ad Z) (ac (U (V (V (O zd (aa (ap zk Z (by first | exact HB1.pv | assumption) Z) ?_)))))))
 replace HG1:=HG1.ext e1
 refine ah (av zk (aZ Z) (ae.mono (mL HG1) ?_))
 rintro _ w101 ⟨rfl,e101⟩
 have:=e101.size
 refine aa (cg Z) ?_
 replace E:=(E.trans e1.keep).trans e101.keep
 replace HSr:=(HSr.ext e1).ext e101
 replace HG1:=HG1.ext e101
 replace HB1:=HB1.ext e101
 refine ac (U (am Z Z (fun hc=>?_) (fun hc=>?_)))
 ·
  refine V (O zd (aa (ad Z) (aa (ad Z) (ac (U (aw (ay (fu Z zq zq (bI Z) (bB Z) ?_))))))))
  have hm:¬ cY (e,rs)=true:=by revert hc;cases cY (e,rs) <;> simp
  rw [if_neg hm,if_neg hm]
  exact ⟨⟨_,rfl,bs.nil _ _ _⟩,E⟩
 have hm:cY (e,rs)=true:=by revert hc;cases cY (e,rs) <;> simp
 obtain ⟨hp1,hp2,_,hp4,_,_⟩:=cP hm
 have hl:=eA hm
 simp only at hp1 hp2 hp4 hl
 obtain ⟨hw1,hw2⟩:=kp hm
 obtain ⟨n,rfl⟩:=Int.eq_ofNat_of_zero_le (show 0≤e by omega)
 refine ar (U (V (O zd (aa (aA 1 22 Z) (aa (ag zk Z (by first | exact HB1.pv 1 _ rfl | assumption)) ?_)))))
 refine ah (aW zk (bI Z) Z (ae.mono (vg (cap:=#[]) HSr zk mP (fun w1 cs x e1 hr hx=>tO hr (by have:=(hl x hx).1;omega) (by have:=(gF (hl x hx).2.2).1;omega)) zo zo) ?_))
 rintro _ w2 ⟨q2,c2,rfl,HO2,e2⟩
 have:=e2.size
 have zo_HO2:=fun (b:Nat) h=>HO2.own_lt (b:=b) h
 refine aa (dY Z) (aa (ai (t:=.slice _ _ _) Z Z) (aa (ai (t:=.int _ _) Z Z) (aa (cF Z) (aa (bO Z) (ac (U (V (O zd (aa (aA 0 2 Z) ?_)))))))))
 replace HB1:=HB1.ext e2
 refine aa (ag zk Z (by first | exact HB1.pv 0 _ rfl | assumption)) ?_
 refine aa (bS (ds:=.int .i64) zk zk Z (by first | exact cq zo zo | rfl)) ?_
 refine ah (av zk (bB Z) (ae.mono (ew (n:=n) zo) ?_))
 rintro _ w3 ⟨HO3,⟨q3,c3,rfl⟩,e3⟩
 have:=e3.size
 have zo_HO3:=fun (b:Nat) h=>HO3.own_lt (b:=b) h
 replace HO2:=HO2.ext e3
 refine aa (bP Z) (ah (cz (t:=dB cw) (xs:=[aT n,bQ mP rs]) (et:=28) (bytes:=24) (zl:=[.slice none 0 0,.slice none 0 0]) zk zq zq (by unfold cQ;kernel_rfl) Z (cells:=[_,_]) Z Z Z ((nb (t:=dB cw) (c1:=[_]) (c2:=[_]) ⟨_,rfl,HO3.view.allB⟩ ⟨_,rfl,HO2.view.allB⟩)) ?_))
 rintro b10 w10 zb10 HO10 e10 z10
 have:=e10.size
 have zo_HO10:=fun (b:Nat) h=>HO10.own_lt (b:=b) h
 refine ah (av zk (bI Z) (ae.mono (dN HO10.view (by have h:=hw2;rw [jz] at h;simp only [Int.toNat_natCast] at h;simp only [List.flatten_cons,List.flatten_nil,List.append_nil];omega)) ?_))
 rintro _ w11 ⟨HO11,⟨q11,c11,rfl⟩,e11⟩
 have:=e11.size
 have zo_HO11:=fun (b:Nat) h=>HO11.own_lt (b:=b) h
 refine aa (cF Z) (aa (ad Z) (ac (U (aw (fu Z zq zq (bI Z) (bB Z) ?_)))))
 rw [if_pos hm,if_pos hm]
 have h:[aT n,bQ mP rs].flatten=jz ((n:Int),rs):=by simp [jz]
 rw [h] at HO11 ⊢
 replace E:=(((E.trans e2.keep).trans e3.keep).trans e10.keep).trans e11.keep
 exact ⟨⟨_,rfl,HO11.view.mono fun b _ hb=>hb.elim (fun h=>by omega) (fun h=>h.elim)⟩,E⟩
end Go.Proofs.YteehplloacefmaaGreat

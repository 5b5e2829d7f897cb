/- Steps and lemmas for the walks. -/
import Derived.Test.YteehplloacefmaaGreatGu
import Derived.Test.YteehplloacefmaaGreatGv
import Derived.Test.YteehplloacefmaaGreatCd
import Derived.Test.YteehplloacefmaaGreatM10
import Derived.Test.YteehplloacefmaaGreatBw
import Derived.Test.YteehplloacefmaaGreatC17
set_option linter.unusedVariables false
set_option linter.unusedSimpArgs false
set_option maxRecDepth 100000
namespace Go.Proofs.YteehplloacefmaaGreat
open Go.Vc
def qG (m:iJ):iq:=(9,gm,m,[],[],[],0)
def mU (x:fy):List UInt8:=az (eY (qG x.1)) ++ dk x.2
def rT (s:it):List UInt8:=az (jz s.1) ++ aT s.2.1.toNat ++ bQ mU s.2.2
theorem t3 {w:World} {v:Value} {F:Nat→Prop} {xs:List (fy)} {fr:Nat} {cap:Array Value} (hv:bs (eQ) w F v xs) (hb:dj Tryz.prog fr=true) (sp:fy→List UInt8)
    (hform:∀ (w1:World) (cs:List Value) (x:fy),aX w w1→(eQ).rep w1 F cs x→x ∈ xs→ae Tryz.prog fr (#[.agg cs.toArray] ++ cap) w1 (fun r w2=>ck cw iF w2 w1.heap.size aP r (sp x)∧aX w1 w2))
    (hl:(bQ sp xs).length≤140737488355300) (hn:xs.length≤5000000000000) :
    ae Tryz.prog 16 #[v,.func (.func fr) #[] cap] w (fun r w'=>∃ q c,r=.tuple #[.slice (some q) (bQ sp xs).length c,.int .i64 0]∧ck cw iF w' w.heap.size aP (.slice (some q) (bQ sp xs).length c) (bQ sp xs)∧aX w w'):=by
 obtain ⟨a,c,rfl⟩:=hv.shape
 obtain ⟨w0,rfl⟩:∃ x,x=w:=⟨w,rfl⟩
 refine aL 32 Tryz.func16 Z Z (by simp) ?_
 refine V (O zd (aa (ad Z) (aa (ad Z) (ac (U (V (V (O zd (aa (jA Z) ?_)))))))))
 refine aa (eM (ps:=#[55]) (rs:=#[28]) (v:=false) zk Z Z) ?_
 refine ac (U (am Z Z (fun hc=>?_) (fun hc=>?_)))
 ·
  cases hc
 refine ar (U (V (O zd (aa (bP Z) (aa (ba (et:=55) zk Z) ?_)))))
 refine aa (bS (ds:=.int .i64) zk zk Z (by first | exact cq zo zo | rfl)) ?_
 refine ah (av zk (bB Z) (ae.mono (ew (n:=xs.length) zo) ?_))
 rintro _ w1 ⟨o1,⟨q1,c1,rfl⟩,e1⟩
 have:=e1.size
 refine ah (cp (t:=dB cw) (et:=28) (bytes:=24) zk zq (bI Z) ((show (dB cw).rep _ _ [_] _ from ⟨_,rfl,o1.view⟩)) ?_)
 rintro b2 w2 rfl o2 e2 z2
 have:=e2.size
 refine aa (cF Z) (ac (U (V (V (O zd (aa (bP Z) (aa (ba (et:=55) zk Z) ?_)))))))
 refine aa (be Z) (ac (U (aO (cy (τ:=Option Addr × Nat × Nat) [6,7,17,18,19,20,21,22,23,24,25,26,27,28,29] (fun (a1,c1,k)=>[(6,.slice a1 (k + 1) c1),(17,.int .i64 k)]) (fun (a1,c1,k) w=>ck (dB cw) nSl w w0.heap.size (fun b=>w0.heap.size≤b) (.slice a1 (k + 1) c1) (aT xs.length :: (xs.take k).map sp)∧aX w0 w∧k≤xs.length) (fun (a1,c1,k)=>xs.length - k) (some ⟨w1.heap.size,0,none⟩,1,0) (by exact ⟨rfl,rfl,trivial⟩) (by exact ⟨(o2.base zo).mono (fun b _ h=>by rcases h.1 with h | h;exact h;exact h.elim),e1.trans e2,Nat.zero_le _⟩) ?_))))
 rintro ⟨a1,c1,k⟩ w3 j ⟨o3,e3,h3⟩
 refine V (O zd (aa (bw Z Z) ?_))
 refine ac (U (V (am Z Z (fun hc2=>?_) (fun hc2=>?_))))
 ·
  have hc2:=bl hc2
  have:=e3.size
  obtain ⟨x,hx⟩:∃ x,xs[k]? = some x:=⟨xs[k]'zo,by simp [show k < xs.length by omega]⟩
  have hlk:(aT xs.length :: (xs.take k).map sp).length=k + 1:=by simp;omega
  refine ar (U (V (aO (V (O zd (aa (aQ Z) (aa (bO Z) (ac (U ?_)))))))))
  refine O zd (aa (bP Z) (aa (jA Z) (aa (bP Z) (aa (aQ Z) (ah (ed (et:=55) zk zk (bI Z) (hv.ext e3) (bB Z) Z hx ?_))))))
  rintro q cs hF hp hr
  skip
  refine aa (ap (n:=7) zk Z hp (eQ.len hr)) ?_
  refine ah (eV hb Z (aZ Z) (ae.mono ((hform w3 _ x e3 hr (List.mem_of_getElem? hx))) ?_))
  rintro _ w4 ⟨o4,e4⟩
  have:=e4.size
  obtain ⟨a4,c4,rfl⟩:=o4.shape
  refine ah (cp (t:=dB cw) (et:=28) (bytes:=24) zk zq (bI Z) ((show (dB cw).rep _ _ [_] _ from ⟨_,rfl,o4.view⟩)) ?_)
  rintro b5 w5 rfl o5 e5 z5
  have:=e5.size
  refine ah (cv (et:=28) (bytes:=24) zk (bI Z) (o3.ext (e4.trans e5)) (bI Z) o5.view ((jw o3 (by intro b hb;simp only [aP,or_false] at hb;omega) zo)) (by first | omega | (simp;done) | (simp;omega)) (by simp only [maxLen];first | omega | (simp;done) | (simp;omega)) zo ?_)
  rintro a6 n6 c6 w6 o6 hn6 k6 b6 i6
  have:=k6.size
  have hlk2:((aT xs.length :: (xs.take k).map sp) ++ [sp x]).length=k + 1 + 1:=by simp;omega
  rw [hlk2] at hn6
  subst hn6
  have e6:aX w0 w6:=((e3.trans e4).trans e5).step k6 fun b hb h=>by have:=(o3.own_lt h).1;omega
  have htk:(xs.take (k + 1)).map sp=(xs.take k).map sp ++ [sp x]:=by rw [List.take_add_one,hx];simp
  refine aa (cF Z) (ac (bE (U (O zd (aa (cn Z Z (by first | exact bn zo zo | rfl)) ?_)))))
  refine aa (aQ Z) (ac (U (⟨(a6,c6,k + 1),_,rfl,by (repeat (first | exact cD.of_over _ _ _ | refine cD.upd ?_ zq _ | refine cD.overs ?_ zq _)),⟨by first | rfl | exact congrArg (Value.int _) zo | (simp;done),by first | rfl | exact congrArg (Value.int _) zo | (simp;done),trivial⟩,?_,?_⟩)))
  ·
   exact ⟨by rw [htk];exact o6,e6,by omega⟩
  dsimp only;omega
 have hc2:=bf hc2
 obtain rfl:k=xs.length:=by omega
 rw [List.take_length] at o3
 have:=e3.size
 refine cl (bm (bm (cV (U (V (O zd (aa (bP Z) (ah (av zk (bI Z) (ae.mono (dN o3.view (by simpa [bQ] using hl)) ?_))))))))))
 rintro _ w4 ⟨o4,⟨q4,c4,rfl⟩,e4⟩
 have:=e4.size
 refine aa (cF Z) (aa (ad Z) (ac (U (aw (ee Z zq zq ?_)))))
 have hfl:(aT xs.length :: xs.map sp).flatten=bQ sp xs:=by simp [bQ]
 rw [hfl] at o4 ⊢
 exact ⟨q4,c4,rfl,o4.base zo,e3.trans e4⟩
theorem qF {m:iJ} (hm:di m=true):eh (qG m)=true:=by
  have h:gI (qG m)=((9,gm,m,[],[],[],0),di m):=rfl
  rw [eh,h]
  simp [hm,qG]
theorem pS {m:iJ} (hm:di m=true):(eY (qG m)).length≤300:=by
  have h1:=jQ hm
  have h2:=bA (n:=9) zo
  simp [eY,qG] at *
  omega
theorem rQ {w:World} {F:Nat→Prop} {cs:List Value} {x:fy} (hr:eQ.rep w F cs x) (hm:di x.1=true):ae Tryz.prog 17 (#[.agg cs.toArray] ++ #[]) w (fun r w2=>ck cw iF w2 w.heap.size aP r (mU x)∧aX w w2):=by
 have HG0:aY eQ w F (.agg cs.toArray) x:=⟨cs,rfl,hr⟩
 obtain ⟨a1,c1,a2,c2,rfl,_,_,i1,i2,i3⟩:=cR hr
 have HG3:=aY.maMv HG0
 have hcl:=pS hm
 have hwb:(az (eY (qG x.1))).length≤(eY (qG x.1)).length + 10:=gZ zo
 show ae _ _ #[_] _ _
 refine aL 19 Tryz.func17 Z Z (by simp) ?_
 refine V ?_
 have E:=ao.refl (K:=aP) w
 replace HG3:=HG3.all
 refine O zd (ah (aS (aZ Z) ?_))
 rintro b1 w1 zb1 HB1 e1 z1
 have:=e1.size
 try simp only [Value.cells] at HB1
 refine aa (ad Z) (ac (U (V (O zd (aa (aA 0 46 Z) (aa (ap zk Z (by first | exact (show Pv _ _ [_,_,_,_,_,_] from aN 0 6 HB1.pv) | exact bg 0 HB1.pv | assumption) Z) ?_))))))
 refine aa (aV (pl:=[(0,1),(1,9),(10,6),(16,1),(17,1),(18,1),(19,1)]) (z:=.agg #[.int .i64 0,.int .i64 0,.int .i64 0,.int .i64 0,.slice none 0 0,.slice none 0 0,.slice none 0 0,.slice none 0 0,.bool false,.int .i64 0,.int .i64 0,.slice none 0 0,.slice none 0 0,.bool false,.int .i64 0,.int .i64 0,.slice none 0 0,.slice none 0 0,.slice none 0 0,.int .i64 0]) (zl:=[.int .i64 0,.int .i64 0,.int .i64 0,.int .i64 0,.slice none 0 0,.slice none 0 0,.slice none 0 0,.slice none 0 0,.bool false,.int .i64 0,.int .i64 0,.slice none 0 0,.slice none 0 0,.bool false,.int .i64 0,.int .i64 0,.slice none 0 0,.slice none 0 0,.slice none 0 0,.int .i64 0]) zk (by unfold aE;kernel_rfl) Z Z (cells:=[_,_,_,_,_,_,_,_,_,_,_,_,_,_,_,_,_,_,_,_]) Z) ?_
 replace HG3:=HG3.ext e1
 refine ah (av zk (aZ Z) (ae.mono (tN (c:=(9,gm,x.1,[],[],[],0)) (aY.mkCm ⟨by decide,by decide⟩ eI HG3 (bs.nil _ _ _) (bs.nil _ _ _) (bs.nil _ _ _) ⟨by decide,by decide⟩) (qF hm)) ?_))
 rintro _ w9 ⟨⟨q9,c9,rfl,HS9⟩,e9⟩
 have:=e9.size
 refine aa (dY Z) (aa (ai (t:=.slice _ _ _) Z Z) (aa (ai (t:=.int _ _) Z Z) (aa (cF Z) (aa (bO Z) (ac (U (V (cN zk ?_))))))))
 have e101:aX w9 { w9 with drawn:=w9.drawn + 1 }:=ao.drawn _ _
 generalize hw101:({ w9 with drawn:=w9.drawn + 1 }:World)=w101 at e101 ⊢
 clear hw101
 have:=e101.size
 refine bT 4 Z zd zd zd ?_
 refine cf (aP) zd zd ?_
 refine aB (fun ab w hR hd=>bP Z) ?_
 replace HS9:=HS9.ext e101
 refine cr (fun v W=>Bv W bj v (az (eY (qG x.1)))) (fun v w w' h k=>h.ext k) (fun ab w hR hd=>av zk (hd 0 Z) (ae.mono (dT (show Bv _ _ _ (eY (qG x.1)) from HS9.ext hR) zo) fun v w1 ⟨h,_,e⟩=>⟨e,h.view.allB⟩)) ?_
 refine aB (fun ab w hR hd=>aA 6 4 Z) ?_
 replace HB1:=(HB1.ext e9).ext e101
 refine aB (fun ab w hR hd=>ag zk (hd 2 Z) (by first | exact (HB1.ext hR).pv 6 _ rfl | assumption)) ?_
 refine bU (fun w102 e102=>?_)
 rintro _ rfl v13 HS13 _ rfl _ rfl
 have:=e102.size
 obtain ⟨a13,d13,rfl⟩:=bs.shape HS13
 refine bG (U (bT 1 Z zd zd zd ?_))
 refine bZ zd Z ?_
 refine ah (av zk (cE Z) (ae.mono (p5) ?_))
 rintro _ w16 ⟨HO16,⟨q16,c16,rfl⟩,e16⟩
 have:=e16.size
 have zo_HO16:=fun (b:Nat) h=>HO16.own_lt (b:=b) h
 refine ac (U (bT 1 Z zd zd zd ?_))
 refine bZ zd Z ?_
 replace HS13:=HS13.ext e16
 refine ah (cz (t:=dB cw) (xs:=[az (eY (qG x.1)),dk x.2]) (et:=28) (bytes:=24) (zl:=[.slice none 0 0,.slice none 0 0]) zk zq zq (by unfold cQ;kernel_rfl) Z (cells:=[_,_]) Z Z Z ((nb (t:=dB cw) (c1:=[_]) (c2:=[_]) ⟨_,rfl,HS13⟩ ⟨_,rfl,HO16.view.allB⟩)) ?_)
 rintro b17 w17 zb17 HO17 e17 z17
 have:=e17.size
 have zo_HO17:=fun (b:Nat) h=>HO17.own_lt (b:=b) h
 refine ac (U (bT 1 Z zd zd zd ?_))
 refine bZ zd Z ?_
 refine ah (av zk (bI Z) (ae.mono (dN HO17.view (by simp [dk];omega)) ?_))
 rintro _ w18 ⟨HO18,⟨q18,c18,rfl⟩,e18⟩
 have:=e18.size
 have zo_HO18:=fun (b:Nat) h=>HO18.own_lt (b:=b) h
 refine ac (U (bZ zd Z ?_))
 refine aa (cF Z) (ac (U (aw (aU Z zq (bI Z) ?_))))
 replace E:=((((((E.trans e1.keep).trans e9.keep).trans e101.keep).trans e102.keep).trans e16.keep).trans e17.keep).trans e18.keep
 refine ⟨?_,E⟩
 have h:[az (eY (qG x.1)),dk x.2].flatten=mU x:=by simp [mU]
 rw [h] at HO18 ⊢
 exact HO18.base zo
theorem sk {x:fy} (hm:di x.1=true):(mU x).length≤320:=by
  have h1:=pS hm
  have h2:=gZ (l:=eY (qG x.1)) zo
  rw [mU,List.length_append,dk];simp;omega
theorem vw {s:it} (hs:dA s=true) (hn:s.2.2.length≤1000):(bQ mU s.2.2).length≤330000∧(rT s).length≤340000:=by
  obtain ⟨p1,p2,p3,p4⟩:=eg.1 hs
  obtain ⟨⟨e,rs⟩,n,ms⟩:=s
  simp only at *
  have h1:=lq (sp:=mU) (k:=320) ms fun x hx=>sk (p4.1 x hx).1
  have h2:=bA (n:=ms.length) zo
  have h3:=bA (n:=n.toNat) zo
  have h4:=(kp p1).2
  have h5:=gZ (l:=jz (e,rs)) zo
  have h6:(bQ mU ms).length≤330000:=by rw [bQ,List.length_append];omega
  refine ⟨h6,?_⟩
  rw [rT,List.length_append,List.length_append];simp only;omega
theorem wl {α:Type} {t:Ty α} {w:World} {F:Nat→Prop} {c1 c2 c3:List Value} {x1 x2 x3:α} (h1:t.rep w F c1 x1) (h2:t.rep w F c2 x2) (h3:t.rep w F c3 x3):∀ i x,[x1,x2,x3][i]? = some x→t.rep w F (((c1 ++ (c2 ++ c3)).drop (i * t.sz)).take t.sz) x:=by
  intro i x hx
  have l1:=t.len h1
  have l2:=t.len h2
  have l3:=t.len h3
  match i,hx with
  | 0,hx=>cases hx;rw [Nat.zero_mul,List.drop_zero,← l1,List.take_left' rfl];exact h1
  | 1,hx=>cases hx;rw [Nat.one_mul,← l1,List.drop_left' rfl,l1,← l2,List.take_left' rfl];exact h2
  | 2,hx=>cases hx;rw [Nat.two_mul,← List.drop_drop,List.drop_left' l1,List.drop_left' l2,← l3,List.take_length];exact h3
theorem kS {w:World} {F:Nat→Prop} {v:Value} {e n:Int} {rs:List cO} {ms:List fy} (HG1:aY iK w F v ((e,rs),n,ms)) (hn:ms.length≤1000):ae Tryz.prog 6 #[v] w (fun o w'=>(∃ x,o=.tuple #[x,.int .i64 (if dA ((e,rs),n,ms)=true then 0 else 2)]∧Bv w' (fun b=>w.heap.size≤b) x (if dA ((e,rs),n,ms)=true then rT ((e,rs),n,ms) else []))∧aX w w'):=by
 obtain ⟨a,c,a2,c2,rfl,HSr,HSm,ie,im⟩:=HG1.mt
 simp only at HSr HSm ie im
 have HGm:=aY.mpOf HSr ie
 refine aL 32 Tryz.func6 Z Z (by simp) ?_
 refine V ?_
 have E:=ao.refl (K:=aP) w
 replace HG1:=HG1.all
 replace HGm:=HGm.all
 replace HSm:=HSm.all
 refine O zd (ah (aS (aZ Z) ?_))
 rintro b1 w1 zb1 HB1 e1 z1
 have:=e1.size
 try simp only [Value.cells] at HB1
 refine aa (ad Z) (aa (ad Z) (ac (U (V (V (O zd (aa (ap zk Z (by first | exact HB1.pv | assumption) Z) ?_)))))))
 replace HG1:=HG1.ext e1
 refine ah (av zk (aZ Z) (ae.mono (jx HG1) ?_))
 rintro _ w101 ⟨rfl,e101⟩
 have:=e101.size
 refine aa (cg Z) ?_
 replace E:=(E.trans e1.keep).trans e101.keep
 replace HGm:=(HGm.ext e1).ext e101
 replace HSm:=(HSm.ext e1).ext e101
 replace HG1:=HG1.ext e101
 replace HB1:=HB1.ext e101
 refine ac (U (am Z Z (fun hc=>?_) (fun hc=>?_)))
 ·
  refine V (O zd (aa (ad Z) (aa (ad Z) (ac (U (aw (ay (fu Z zq zq (bI Z) (bB Z) ?_))))))))
  have hm:¬ dA ((e,rs),n,ms)=true:=by simpa using hc
  rw [if_neg hm,if_neg hm]
  exact ⟨⟨_,rfl,bs.nil _ _ _⟩,E⟩
 have hm:dA ((e,rs),n,ms)=true:=by simpa using hc
 obtain ⟨hw1,hw2⟩:=vw hm hn
 obtain ⟨p1,p2,p3,p4⟩:=eg.1 hm
 simp only at p1 p2 p3 p4 hw1
 have hmw:=(kp p1).2
 obtain ⟨k,rfl⟩:=Int.eq_ofNat_of_zero_le (show 0≤n by omega)
 refine ar (U (V (O zd (aa (aA 0 24 Z) (aa (ap zk Z (by first | exact (show Pv _ _ [_,_] from aN 0 2 HB1.pv) | exact bg 0 HB1.pv | assumption) Z) ?_)))))
 refine ah (av zk (aZ Z) (ae.mono (sG HGm) ?_))
 rintro _ w15 ⟨⟨x15,rfl,HS15⟩,e15⟩
 have:=e15.size
 rw [if_pos p1] at HS15
 obtain ⟨a15,c15,rfl⟩:=HS15.shape
 replace HS15:=HS15.mono (F':=fun b=>b < w15.heap.size) fun b hb _=>hb
 refine aa (dY Z) (aa (ai (t:=.slice _ _ _) Z Z) (aa (ai (t:=.int _ _) Z Z) (aa (cF Z) (aa (bO Z) (ac (U (V (O zd (aa (aA 3 25 Z) ?_)))))))))
 replace HB1:=HB1.ext e15
 refine aa (ag zk Z (by first | exact HB1.pv 3 _ rfl | assumption)) ?_
 replace HSm:=HSm.ext e15
 refine ah (aW zk (bI Z) Z (ae.mono (t3 (cap:=#[]) HSm zk mU (fun w1 cs x e1 hr hx=>rQ hr (p4.1 x hx).1) zo zo) ?_))
 rintro _ w20 ⟨q20,c20,rfl,HO20,e20⟩
 have:=e20.size
 have zo_HO20:=fun (b:Nat) h=>HO20.own_lt (b:=b) h
 refine aa (dY Z) (aa (ai (t:=.slice _ _ _) Z Z) (aa (ai (t:=.int _ _) Z Z) (aa (cF Z) (aa (bO Z) (ac (U (V (cN zk ?_))))))))
 have e102:aX w20 { w20 with drawn:=w20.drawn + 1 }:=ao.drawn _ _
 generalize hw102:({ w20 with drawn:=w20.drawn + 1 }:World)=w102 at e102 ⊢
 clear hw102
 have:=e102.size
 refine bT 7 Z zd zd zd ?_
 refine cf (aP) zd zd ?_
 refine aB (fun ab w hR hd=>bP Z) ?_
 replace HS15:=(HS15.ext e20).ext e102
 refine cr (fun v W=>Bv W bj v (az (jz (e,rs)))) (fun v w w' h k=>h.ext k) (fun ab w hR hd=>av zk (hd 0 Z) (ae.mono (dT (HS15.ext hR) zo) fun v w1 ⟨h,_,e⟩=>⟨e,h.view.allB⟩)) ?_
 refine aB (fun ab w hR hd=>aA 2 2 Z) ?_
 replace HB1:=(HB1.ext e20).ext e102
 refine aB (fun ab w hR hd=>ag zk (hd 2 Z) (by first | exact (HB1.ext hR).pv 2 _ rfl | assumption)) ?_
 refine aB (fun ab w hR hd=>bS (ds:=.int .i64) zk zk (hd 3 Z) (by first | exact cq zo zo | rfl)) ?_
 refine cr (fun v W=>Bv W bj v (aT k)) (fun v w w' h k=>h.ext k) (fun ab w hR hd=>av zk (hd 4 Z) (ae.mono (ew (n:=k) zo) fun v w1 ⟨h,_,e⟩=>⟨e,h.view.allB⟩)) ?_
 refine aB (fun ab w hR hd=>bP Z) ?_
 refine bU (fun w103 e103=>?_)
 rintro _ rfl v24 HS24 _ rfl _ rfl _ rfl v28 HS28 _ rfl
 have:=e103.size
 obtain ⟨a24,d24,rfl⟩:=bs.shape HS24
 obtain ⟨a28,d28,rfl⟩:=bs.shape HS28
 refine bG (U (bT 1 Z zd zd zd ?_))
 refine bZ zd Z ?_
 replace HO20:=(HO20.ext e102).ext e103
 refine ah (cz (t:=dB cw) (xs:=[az (jz (e,rs)),aT k,bQ mU ms]) (et:=28) (bytes:=24) (zl:=[.slice none 0 0,.slice none 0 0,.slice none 0 0]) zk zq zq (by unfold cQ;kernel_rfl) Z (cells:=[_,_,_]) Z Z Z ((wl (t:=dB cw) (c1:=[_]) (c2:=[_]) (c3:=[_]) ⟨_,rfl,HS24⟩ ⟨_,rfl,HS28⟩ ⟨_,rfl,HO20.view.allB⟩)) ?_)
 rintro b30 w30 zb30 HO30 e30 z30
 have:=e30.size
 have zo_HO30:=fun (b:Nat) h=>HO30.own_lt (b:=b) h
 refine ac (U (bT 1 Z zd zd zd ?_))
 refine bZ zd Z ?_
 refine ah (av zk (bI Z) (ae.mono (dN HO30.view (by have h:=hw2;rw [rT] at h;simp only [Int.toNat_natCast] at h;simp only [List.flatten_cons,List.flatten_nil,List.append_nil];simp only [List.length_append] at h ⊢;omega)) ?_))
 rintro _ w31 ⟨HO31,⟨q31,c31,rfl⟩,e31⟩
 have:=e31.size
 have zo_HO31:=fun (b:Nat) h=>HO31.own_lt (b:=b) h
 refine ac (U (cf (aP) zd zd ?_))
 refine aB (fun ab w hR hd=>cF Z) ?_
 refine aB (fun ab w hR hd=>ad Z) ?_
 refine bU (fun w104 e104=>?_)
 rintro _ rfl _ rfl
 have:=e104.size
 refine bG (U (aw (fu Z zq zq (bI Z) (bB Z) ?_)))
 rw [if_pos hm,if_pos hm]
 have h:[az (jz (e,rs)),aT k,bQ mU ms].flatten=rT ((e,rs),(k:Int),ms):=by simp [rT]
 replace HO31:=HO31.ext e104
 rw [h] at HO31 ⊢
 replace E:=((((((E.trans e15.keep).trans e20.keep).trans e102.keep).trans e103.keep).trans e30.keep).trans e31.keep).trans e104.keep
 exact ⟨⟨_,rfl,HO31.view.mono fun b _ hb=>hb.elim (fun h=>by omega) (fun h=>h.elim)⟩,E⟩
end Go.Proofs.YteehplloacefmaaGreat
namespace Go.Proofs.YteehplloacefmaaGreat
open Go.Vc
def nN (l:List UInt8):Except Int (fy × List UInt8):=match br 1048576 l with
  | .error _=>.error 4
  | .ok (x,l1)=>match dM l1 with
    | none=>.error 4
    | some (f,l2)=>match bY x with
      | none=>.error 4
      | some c=>if c.1=9 then .ok ((c.2.2.1,f),l2) else .error 4
theorem wt {c:iq} (hm:eh c=true) (hk:c.1=9):c=qG c.2.2.1∧di c.2.2.1=true:=by
  obtain ⟨k,rq,mv,en,an,key,g⟩:=c
  simp only at hk;subst hk
  have h:gI (9,rq,mv,en,an,key,g)=((9,gm,mv,[],[],[],0),di mv):=rfl
  rw [eh,h,Bool.and_eq_true,decide_eq_true_eq] at hm
  exact ⟨hm.2.symm,hm.1⟩
theorem sD {l r:List UInt8} {x:fy} (h:nN l=.ok (x,r)):di x.1=true∧l=mU x ++ r:=by
  rw [nN] at h
  rcases hd:br 1048576 l with e | ⟨b,l1⟩
  · rw [hd] at h;cases h
  · rw [hd] at h;simp only [] at h
    rcases hf:dM l1 with _ | ⟨f,l2⟩
    · rw [hf] at h;cases h
    · rw [hf] at h;simp only [] at h
      rcases ha:bY b with _ | c
      · rw [ha] at h;cases h
      · rw [ha] at h;simp only [] at h
        by_cases h9:c.1=9
        · rw [if_pos h9] at h;cases h
          obtain ⟨hm,hw⟩:=sF ha
          obtain ⟨hc,hmv⟩:=wt hm h9
          refine ⟨hmv,?_⟩
          have h1:=(fb hd).2.2
          have h2:=(hQ hf).1
          rw [h1,h2,mU]
          simp only [List.append_assoc]
          rw [← hc,hw]
        · rw [if_neg h9] at h;cases h
theorem rd:∀ l x r,nN l=.ok (x,r)→r.length < l.length:=by
  intro l x r h
  rw [(sD h).2,mU]
  simp [dk];omega
theorem sE {x:fy} {r:List UInt8} (hm:di x.1=true):nN (mU x ++ r)=.ok (x,r):=by
  have h1:=pS hm
  rw [nN,mU,List.append_assoc,fg zo zq]
  simp only [iS,pC (qF hm)]
  rfl
def ol (w1 w2:World) (c:Nat) (F:Nat→Prop):Except Int (fy × List UInt8)→Value→Prop
  | .ok (x,l2),r=>∃ cs,r=.tuple #[.agg cs.toArray,.int .i64 0]∧(eQ).rep w2 (fun b=>w1.heap.size≤b) cs x∧Rd ef w2 c F l2
  | .error e,r=>e≠0∧∃ cs x,r=.tuple #[.agg cs.toArray,.int .i64 e]∧(eQ).rep w2 (fun b=>w1.heap.size≤b) cs x
theorem pY {w1 w2:World} {c:Nat} {F:Nat→Prop} {q:Except Int (fy × List UInt8)} {r:Value} (h:ol w1 w2 c F q r):∃ (cs:List Value) (x:fy) (er:Int),r=.tuple #[.agg cs.toArray,.int .i64 er]∧(eQ).rep w2 (fun b=>w1.heap.size≤b) cs x ∧
    ((er=0∧∃ l2,q=.ok (x,l2)∧Rd ef w2 c F l2)∨(er≠0∧q=.error er)):=by
  match q,h with
  | .ok (x,l2),⟨cs,hr,h1,h2⟩=>exact ⟨cs,x,0,hr,h1,.inl ⟨rfl,l2,rfl,h2⟩⟩
  | .error e,⟨he,cs,x,hr,h1⟩=>exact ⟨cs,x,e,hr,h1,.inr ⟨he,rfl⟩⟩
theorem lL {w:World} {b pf:Nat} {pT:TypeId} {F:Nat→Prop} {l:List UInt8} {n fr:Nat} {cap:Array Value} (hr:Rd ef w b F l) (hF:∀ k,F k→k < w.heap.size) (hFb:¬ F b) (hn:n≤9223372036854775807) (hl:l.length≤1000000000000) (hb:dj Tryz.prog fr=true)
    (hpf:dh w pf [.func (.func fr) #[] cap] pT) (hpb:pf≠b)
    (ρ:List UInt8→Except Int (fy × List UInt8)) (hρ:∀ l x l2,ρ l=.ok (x,l2)→l2.length < l.length)
    (hone:∀ (w1:World) (l1:List UInt8),ao (fun k=>k=b) w w1→Rd ef w1 b F l1→l1.length≤l.length→ae Tryz.prog fr (#[.pointer (some ⟨b,0,none⟩)] ++ cap) w1 (fun r w2=>ol w1 w2 b F (ρ l1) r∧ao (fun k=>k=b) w1 w2)) :
    ae Tryz.prog 66 #[.pointer (some ⟨b,0,none⟩),.int .i64 n,.pointer (some ⟨pf,0,none⟩)] w (fun r w'=>jg (eQ) 55 ef w w' b F (bp ρ n l) r∧ao (fun k=>k=b) w w'):=by
 obtain ⟨w0,rfl⟩:∃ x,x=w:=⟨w,rfl⟩
 have hblt:b < w0.heap.size:=by obtain ⟨_,_,h,_⟩:=hr;exact h.lt
 have hplt:=hpf.lt
 refine aL 28 Tryz.func66 Z Z (by simp) ?_
 refine V (O zd (aa (ad Z) (aa (ad Z) (ac (U (V (aO (cy (τ:=Option Addr × Nat × Int × List (fy) × List UInt8) [5,6,7,8,9,10,11,12,13,14,15,16,17,18,19,20,21,22,23,24,25] (fun (a1,c1,er,xs,l1)=>[(5,.slice a1 xs.length c1),(6,.int .i64 er)]) (fun (a1,c1,er,xs,l1) w=>ck (eQ) 55 w w0.heap.size (fun k=>w0.heap.size≤k) (.slice a1 xs.length c1) xs∧ao (fun k=>k=b) w0 w∧xs.length≤n∧((er=0∧Rd ef w b F l1∧xs.length + l1.length≤l.length∧bp ρ n l=je xs (bp ρ (n - xs.length) l1))∨(er≠0∧bp ρ n l=.error er))) (fun (a1,c1,er,xs,l1)=>n - xs.length) (none,0,0,[],l) (by exact ⟨rfl,rfl,trivial⟩) (by exact ⟨ck.nil _ _ _ _ _,ao.refl _,Nat.zero_le _,.inl ⟨rfl,hr,by simp,by simp [kR]⟩⟩) ?_))))))))
 rintro ⟨a1,c1,er,xs,l1⟩ w1 j ⟨o1,k1,h1,h1c⟩
 refine V (V (O zd (aa (bP Z) (aa (ba (et:=55) zk Z) ?_))))
 refine aa (aQ Z) (aa (bw Z Z) ?_)
 refine aa (bH Z) (aj Z Z (fun hG=>aQ Z) (aj Z Z (fun hG=>aJ (gd hG Z) Z) ?_))
 refine aa (bu Z Z) ?_
 refine ac (U (am Z Z (fun hc=>?_) (fun hc=>?_)))
 ·
  have hcl:xs.length < n:=by simp at hc;omega
  have hce:er=0:=by simp at hc;omega
  obtain ⟨_,r1,hll,hrd⟩:=h1c.resolve_right (fun h=>h.1 hce)
  have:=k1.size
  refine ar (U (aO (V (O zd (ah (aD (z:=(.agg #[.int .i64 0,.slice none 0 0,.slice none 0 0,.bool false,.int .i64 0,.int .i64 0,.bool false])) (by unfold aE;kernel_rfl) ?_))))))
  rintro b2 w2 rfl hb2 e2 z2
  have:=e2.size
  refine ac (U (V (O zd (aa (ag zk Z ((((hpf.keep k1 hpb)).ext e2).pv 0 _ Z)) ?_))))
  refine aa (bK Z) (ah (eV hb Z (ci Z) (ae.mono ((hone w2 l1 (k1.trans (e2.mono fun _ _ h=>h.elim)) (r1.ext e2) zo)) ?_)))
  rintro r w3 ⟨hr3,k3⟩
  have:=k3.size
  obtain ⟨cs,x,er2,hr3,hrep,hnx⟩:=pY hr3
  subst hr3
  have hrep1:=hrep
  obtain ⟨a9,c9,a8,c8,rfl,_,_,hgx⟩:=cR hrep
  refine aa (dY Z) (aa (ai (t:=.agg _) Z Z) (aa (ai (t:=.int _ _) Z Z) (ah (aq (n:=7) Z Z (aZ Z) zk Z (by first | (simp [cL];done) | (simp only [List.forall_mem_cons,List.cons_append,List.nil_append];repeat' (first | exact rfl | apply And.intro | (intro u hu;cases hu;done)))) (hb2.keep k3 zo) bV ?_))))
  rintro w4 h4 k4 z4
  have:=k4.size
  have hrep4:=(eQ).keep hrep1 k4 (fun i hi h hk=>by omega)
  have o4:=((((o1.mono (F':=fun k=>w0.heap.size≤k∧k < w1.heap.size) (fun i hi h=>⟨h,hi⟩)).ext e2).keep k3 (fun i hi h=>by have:=(o1.own_lt hi).1;omega) (fun i _ hi _ h=>by omega)).keep k4 (fun i hi h=>by have:=(o1.own_lt hi).2;omega) (fun i _ hi _ h=>by omega)).mono (F':=fun k=>w0.heap.size≤k) (fun i _ h=>h.1)
  have k46:ao (fun k=>k=b) w0 w4:=(((k1.trans (e2.mono fun _ _ h=>h.elim)).trans k3).step k4 (fun i hi h=>by omega))
  have hnx4:(er2=0∧∃ l2,ρ l1=.ok (x,l2)∧Rd ef w4 b F l2)∨(er2≠0∧ρ l1=.error er2):=by
   rcases hnx with ⟨he2,l2,hq,r3⟩ | h
   ·
    exact .inl ⟨he2,l2,hq,r3.keep k4 zo (fun i hi h=>by have:=hF i hi;omega)⟩
   exact .inr h
  refine aa (bO Z) (ac (U (O zd (aa (bP Z) (aa (ap zk Z h4.pv Z) ?_)))))
  refine ah (cp (t:=eQ) (et:=55) (bytes:=88) zk zq (aZ Z) (hrep4) ?_)
  rintro b5 w5 rfl o5 e5 z5
  have:=e5.size
  refine ah (cv (et:=55) (bytes:=88) zk (bI Z) (o4.ext e5) (bI Z) o5.view ((jw o1 (by intro i hi;omega) zo)) (by first | omega | (simp;done) | (simp;omega)) (by simp only [maxLen];first | omega | (simp;done) | (simp;omega)) zo ?_)
  rintro a6 n6 c6 w6 o6 hn6 k6 b6 i6
  have:=k6.size
  subst hn6
  have k36:ao (fun k=>k=b) w0 w6:=(k46.trans (e5.mono fun _ _ h=>h.elim)).step k6 (fun i hi h=>by have:=(o1.own_lt h).1;omega)
  have hsub:n - xs.length=(n - (xs ++ [x]).length) + 1:=by simp only [List.length_append,List.length_singleton];omega
  obtain ⟨l2,hinv⟩:∃ l2,((er2=0∧Rd ef w6 b F l2∧(xs ++ [x]).length + l2.length≤l.length∧bp ρ n l=je (xs ++ [x]) (bp ρ (n - (xs ++ [x]).length) l2))∨(er2≠0∧bp ρ n l=.error er2)):=by
   rcases hnx4 with ⟨he2,l2,hq,r4⟩ | ⟨hne,hq⟩
   ·
    refine ⟨l2,.inl ⟨he2,?_,?_,?_⟩⟩
    ·
     exact (r4.ext e5).keep k6 (fun h=>by have:=(o1.own_lt h).1;omega) (fun i hi h=>by have:=(o1.own_lt h).1;have:=hF i hi;omega)
    ·
     have:=hρ _ _ _ hq;simp only [List.length_append,List.length_singleton];omega
    rw [hrd,hsub];exact kM hq
   exact ⟨[],.inr ⟨hne,by rw [hrd,hsub];exact jN hq⟩⟩
  refine aa (cF Z) (ac (bE (U (⟨(a6,c6,er2,xs ++ [x],l2),_,rfl,by (repeat (first | exact cD.of_over _ _ _ | refine cD.upd ?_ zq _ | refine cD.overs ?_ zq _)),⟨by first | rfl | exact congrArg (Value.int _) zo | (simp;done),by first | rfl | exact congrArg (Value.int _) zo | (simp;done),trivial⟩,?_,?_⟩))))
  ·
   exact ⟨o6,k36,by simp only [List.length_append,List.length_singleton];omega,hinv⟩
  simp only [List.length_append,List.length_singleton];omega
 refine cl (bm (bm (cV (U (V (O zd (aa (bP Z) (aa (aQ Z) (aa (cF Z) ?_)))))))))
 refine aa (bO Z) (ac (U (aw (ee Z zq zq ?_))))
 refine ⟨?_,k1⟩
 rcases h1c with ⟨he,r1,_,hrd⟩ | ⟨hne,hq⟩
 ·
  have hcl:¬ xs.length < n:=by subst he;simpa using hc
  rw [hrd,show n - xs.length=0 by omega]
  subst he
  show jg _ _ _ _ _ _ _ (.ok (xs ++ [],l1)) _
  rw [List.append_nil]
  exact ⟨a1,c1,rfl,o1,r1⟩
 rw [hq]
 exact ⟨hne,_,_,_,rfl⟩
theorem p8 {w:World} {b:Nat} {F:Nat→Prop} {l:List UInt8} {most:Int} {fr:Nat} {cap:Array Value} (hr:Rd ef w b F l) (hF:∀ k,F k→k < b) (hm:0≤most) (hm2:most≤9223372036854775807) (hb:dj Tryz.prog fr=true)
    (ρ:Nat→List UInt8→Except Int (List fy × List UInt8))
    (hread:∀ (w1:World) (c:Nat) (l1:List UInt8) (n:Nat),aX w w1→w.heap.size≤c→Rd ef w1 c F l1→l1.length≤l.length→(n:Int)≤most→ae Tryz.prog fr (#[.pointer (some ⟨c,0,none⟩),.int .i64 n] ++ cap) w1 (fun r w2=>jg (eQ) 55 ef w1 w2 c F (ρ n l1) r∧ao (fun k=>k=c) w1 w2)) :
    ae Tryz.prog 65 #[.pointer (some ⟨b,0,none⟩),.int .i64 most,.func (.func fr) #[] cap] w (fun r w'=>od (eQ) 55 ef w w' b F l (bR ρ most.toNat l) r∧ao (fun k=>k=b) w w'):=by
 have hnF:¬ F b:=fun h=>absurd (hF b h) (Nat.lt_irrefl b)
 obtain ⟨a,c,hb0,hv⟩:=hr
 have hblt:=hb0.lt
 rcases hd:cK l with _ | ⟨n,l'⟩
 ·
  obtain ⟨er,her⟩:∃ er:Int,er=4:=⟨4,rfl⟩
  have htr:bR ρ most.toNat l=.error er:=by rw [bR,hd,her]
  refine aL 56 Tryz.func65 Z Z (by simp) ?_
  refine V (O zd (aa (ad Z) (aa (ad Z) (ac (U (V (O zd (aa (ad Z) (ac ?_)))))))))
  refine U (V (V (O zd (aa (bK Z) (ah (av zk (ci Z) (ae.mono (cU hb0) ?_)))))))
  rintro _ w1 ⟨rfl,e1⟩
  have:=e1.size
  refine ac (U (am Z Z (fun hc=>?_) (fun hc=>?_)))
  ·
   cases hc
  refine ar (U (V (V (O zd (aa (aQ Z) (aa (bw Z Z) ?_))))))
  refine ac (U (am Z Z (fun hc2=>?_) (fun hc2=>?_)))
  ·
   have:=bl hc2;omega
  refine ar (U (V (O zd (aa (bK Z) (aa (aM Z) ?_)))))
  refine aa (aA 0 28 Z) (aa (ag zk Z ((hb0.ext e1).pv 0 _ Z)) ?_)
  refine aa (aV (pl:=[(0,1)]) (z:=.agg #[.slice none 0 0]) (zl:=[.slice none 0 0]) zk (by unfold aE;kernel_rfl) Z Z (cells:=[_]) Z) ?_
  refine ah (aS (aZ Z) ?_)
  rintro b2 w2 rfl hb2 e2 z2
  have:=e2.size
  have e12:=e1.trans e2
  refine aa (mO Z) (ac (U (V (O zd (aa (bK Z) (ah (av zk (ci Z) (ae.mono (cd (b:=w1.heap.size) (l:=l) (F:=F) ⟨a,c,hb2,hv.ext e12⟩ (fun h=>by have:=hF _ h;omega)) ?_))))))))
  rintro r w3 ⟨hr3,h3,k3⟩
  have:=k3.size
  rw [fk,hd,← her] at hr3
  subst hr3
  have e3:aX w w3:=e12.step k3 fun i hi h=>by omega
  refine aa (dY Z) (aa (ai (t:=.int _ _) Z Z) (aa (ai (t:=.int _ _) Z Z) (aa (bO Z) (aa (bO Z) (ac (U (V (V (O zd ?_)))))))))
  refine aa (aQ Z) (aa (aJ Z Z) ?_)
  refine aa (bH Z) (aj Z Z (fun hG=>aQ Z) (aj Z Z (fun hG=>aQ Z) (aj Z Z (fun hG=>bS (ds:=.int .i64) zk zk (gd hG Z) (by first | exact cq zo zo | rfl)) ?_)))
  refine aj Z Z (fun hG=>bX (gd hG Z) (gd hG Z)) ?_
  refine aa (bu Z Z) ?_
  refine ac (U (am Z Z (fun hc3=>?_) (fun hc3=>?_)))
  ·
   simp at hc3;omega
  refine ar (U (V (V (O zd (aa (aQ Z) (aa (aJ Z Z) ?_))))))
  refine ac (U (am Z Z (fun hc4=>?_) (fun hc4=>?_)))
  ·
   have:=bl hc4;omega
  refine ar (U (V (V (O zd (aa (aQ Z) (aa (bD Z Z) ?_))))))
  refine ac (U (am Z Z (fun hc5=>?_) (fun hc5=>?_)))
  ·
   refine V (O zd (aa (bP Z) (aa (aQ Z) (aa (cF Z) (aa (bO Z) (ac (U (aw (ay ?_)))))))))
   refine ee Z zq zq ?_
   refine ⟨?_,e3.keep⟩
   rw [htr]
   exact ⟨by omega,rfl,⟨a,c,hb0.ext e3,hv.ext e3⟩⟩
  simp at hc5;omega
 have hlt:=gy hd
 have hll:l'.length≤l.length:=by obtain ⟨k,_,_,h⟩:=ff l 0 hd;rw [h,List.length_drop];omega
 obtain ⟨z,hz⟩:∃ z:Int,z=0:=⟨0,rfl⟩
 by_cases hnm:(n:Int)≤most
 ·
  have htr:bR ρ most.toNat l=ρ n l':=by rw [bR,hd];simp only [];rw [if_pos zo]
  cases hρ:ρ n l' with
  | error er=>
   refine aL 56 Tryz.func65 Z Z (by simp) ?_
   refine V (O zd (aa (ad Z) (aa (ad Z) (ac (U (V (O zd (aa (ad Z) (ac ?_)))))))))
   refine U (V (V (O zd (aa (bK Z) (ah (av zk (ci Z) (ae.mono (cU hb0) ?_)))))))
   rintro _ w1 ⟨rfl,e1⟩
   have:=e1.size
   refine ac (U (am Z Z (fun hc=>?_) (fun hc=>?_)))
   ·
    cases hc
   refine ar (U (V (V (O zd (aa (aQ Z) (aa (bw Z Z) ?_))))))
   refine ac (U (am Z Z (fun hc2=>?_) (fun hc2=>?_)))
   ·
    have:=bl hc2;omega
   refine ar (U (V (O zd (aa (bK Z) (aa (aM Z) ?_)))))
   refine aa (aA 0 28 Z) (aa (ag zk Z ((hb0.ext e1).pv 0 _ Z)) ?_)
   refine aa (aV (pl:=[(0,1)]) (z:=.agg #[.slice none 0 0]) (zl:=[.slice none 0 0]) zk (by unfold aE;kernel_rfl) Z Z (cells:=[_]) Z) ?_
   refine ah (aS (aZ Z) ?_)
   rintro b2 w2 rfl hb2 e2 z2
   have:=e2.size
   have e12:=e1.trans e2
   refine aa (mO Z) (ac (U (V (O zd (aa (bK Z) (ah (av zk (ci Z) (ae.mono (cd (b:=w1.heap.size) (l:=l) (F:=F) ⟨a,c,hb2,hv.ext e12⟩ (fun h=>by have:=hF _ h;omega)) ?_))))))))
   rintro r w3 ⟨hr3,h3,k3⟩
   have:=k3.size
   rw [fk,hd] at hr3
   simp only [] at hr3
   rw [← hz] at hr3
   subst hr3
   have e3:aX w w3:=e12.step k3 fun i hi h=>by omega
   have hrest:ca l=l':=by rw [ca,hd]
   rw [hrest] at h3
   refine aa (dY Z) (aa (ai (t:=.int _ _) Z Z) (aa (ai (t:=.int _ _) Z Z) (aa (bO Z) (aa (bO Z) (ac (U (V (V (O zd ?_)))))))))
   refine aa (aQ Z) (aa (aJ Z Z) ?_)
   refine aa (bH Z) (aj Z Z (fun hG=>aQ Z) (aj Z Z (fun hG=>aQ Z) (aj Z Z (fun hG=>bS (ds:=.int .i64) zk zk (gd hG Z) (by first | exact cq zo zo | rfl)) ?_)))
   refine aj Z Z (fun hG=>bX (gd hG Z) (gd hG Z)) ?_
   refine aa (bu Z Z) ?_
   refine ac (U (am Z Z (fun hc3=>?_) (fun hc3=>?_)))
   ·
    simp at hc3;omega
   refine ar (U (V (V (O zd (aa (aQ Z) (aa (aJ Z Z) ?_))))))
   refine ac (U (am Z Z (fun hc4=>?_) (fun hc4=>?_)))
   ·
    refine O zd (aa (jA Z) (aa (bK Z) (aa (aQ Z) (aa (bS (ds:=.int .u64) zk zk Z (by first | exact bn zo zo | rfl)) ?_))))
    refine ah (dd hb Z (ci Z) (bB Z) (ae.mono (hread w3 _ l' n e3 zo h3 hll hnm) ?_))
    rintro r4 w4 ⟨hr4,k4⟩
    have:=k4.size
    rw [hρ] at hr4
    obtain ⟨her,va,vn,vc,hr4⟩:=hr4
    subst hr4
    have e4:aX w w4:=e3.step k4 fun i hi h=>by omega
    refine aa (dY Z) (aa (ai (t:=.slice _ _ _) Z Z) (aa (ai (t:=.int _ _) Z Z) (aa (cF Z) (aa (bO Z) (ac (U (V (V (O zd ?_)))))))))
    refine aa (aQ Z) (aa (bD Z Z) ?_)
    refine ac (U (am Z Z (fun hc5=>?_) (fun hc5=>?_)))
    ·
     refine V (O zd (aa (bP Z) (aa (aQ Z) (aa (cF Z) (aa (bO Z) (ac (U (aw (ay ?_)))))))))
     refine ee Z zq zq ?_
     refine ⟨?_,e4.keep⟩
     rw [htr,hρ]
     exact ⟨her,rfl,⟨a,c,hb0.ext e4,hv.ext e4⟩⟩
    simp at hc5;omega
   have:=bf hc4;omega
  | ok xl=>
   obtain ⟨x,l2⟩:=xl
   refine aL 56 Tryz.func65 Z Z (by simp) ?_
   refine V (O zd (aa (ad Z) (aa (ad Z) (ac (U (V (O zd (aa (ad Z) (ac ?_)))))))))
   refine U (V (V (O zd (aa (bK Z) (ah (av zk (ci Z) (ae.mono (cU hb0) ?_)))))))
   rintro _ w1 ⟨rfl,e1⟩
   have:=e1.size
   refine ac (U (am Z Z (fun hc=>?_) (fun hc=>?_)))
   ·
    cases hc
   refine ar (U (V (V (O zd (aa (aQ Z) (aa (bw Z Z) ?_))))))
   refine ac (U (am Z Z (fun hc2=>?_) (fun hc2=>?_)))
   ·
    have:=bl hc2;omega
   refine ar (U (V (O zd (aa (bK Z) (aa (aM Z) ?_)))))
   refine aa (aA 0 28 Z) (aa (ag zk Z ((hb0.ext e1).pv 0 _ Z)) ?_)
   refine aa (aV (pl:=[(0,1)]) (z:=.agg #[.slice none 0 0]) (zl:=[.slice none 0 0]) zk (by unfold aE;kernel_rfl) Z Z (cells:=[_]) Z) ?_
   refine ah (aS (aZ Z) ?_)
   rintro b2 w2 rfl hb2 e2 z2
   have:=e2.size
   have e12:=e1.trans e2
   refine aa (mO Z) (ac (U (V (O zd (aa (bK Z) (ah (av zk (ci Z) (ae.mono (cd (b:=w1.heap.size) (l:=l) (F:=F) ⟨a,c,hb2,hv.ext e12⟩ (fun h=>by have:=hF _ h;omega)) ?_))))))))
   rintro r w3 ⟨hr3,h3,k3⟩
   have:=k3.size
   rw [fk,hd] at hr3
   simp only [] at hr3
   rw [← hz] at hr3
   subst hr3
   have e3:aX w w3:=e12.step k3 fun i hi h=>by omega
   have hrest:ca l=l':=by rw [ca,hd]
   rw [hrest] at h3
   refine aa (dY Z) (aa (ai (t:=.int _ _) Z Z) (aa (ai (t:=.int _ _) Z Z) (aa (bO Z) (aa (bO Z) (ac (U (V (V (O zd ?_)))))))))
   refine aa (aQ Z) (aa (aJ Z Z) ?_)
   refine aa (bH Z) (aj Z Z (fun hG=>aQ Z) (aj Z Z (fun hG=>aQ Z) (aj Z Z (fun hG=>bS (ds:=.int .i64) zk zk (gd hG Z) (by first | exact cq zo zo | rfl)) ?_)))
   refine aj Z Z (fun hG=>bX (gd hG Z) (gd hG Z)) ?_
   refine aa (bu Z Z) ?_
   refine ac (U (am Z Z (fun hc3=>?_) (fun hc3=>?_)))
   ·
    simp at hc3;omega
   refine ar (U (V (V (O zd (aa (aQ Z) (aa (aJ Z Z) ?_))))))
   refine ac (U (am Z Z (fun hc4=>?_) (fun hc4=>?_)))
   ·
    refine O zd (aa (jA Z) (aa (bK Z) (aa (aQ Z) (aa (bS (ds:=.int .u64) zk zk Z (by first | exact bn zo zo | rfl)) ?_))))
    refine ah (dd hb Z (ci Z) (bB Z) (ae.mono (hread w3 _ l' n e3 zo h3 hll hnm) ?_))
    rintro r4 w4 ⟨hr4,k4⟩
    have:=k4.size
    rw [hρ] at hr4
    obtain ⟨a4,c4,hr4,hx4,a5,c5,hb5,hv5⟩:=hr4
    subst hr4
    have e4:aX w w4:=e3.step k4 fun i hi h=>by omega
    refine aa (dY Z) (aa (ai (t:=.slice _ _ _) Z Z) (aa (ai (t:=.int _ _) Z Z) (aa (cF Z) (aa (bO Z) (ac (U (V (V (O zd ?_)))))))))
    refine aa (aQ Z) (aa (bD Z Z) ?_)
    refine ac (U (am Z Z (fun hc5=>?_) (fun hc5=>?_)))
    ·
     simp at hc5
    refine ar (U (V (O zd (aa (bK Z) (aa (bK Z) (aa (aM Z) ?_))))))
    refine aa (ap zk Z hb5.pv Z) ?_
    refine aa (aM Z) ?_
    refine ah (aq (n:=1) Z Z (aZ Z) zk Z (by first | (simp [cL];done) | (simp only [List.forall_mem_cons,List.cons_append,List.nil_append];repeat' (first | exact rfl | apply And.intro | (intro u hu;cases hu;done)))) (hb0.ext e4) bV ?_)
    rintro w5 h5 k5 z5
    have:=k5.size
    refine ac (U (V (O zd (aa (bP Z) (aa (cF Z) (aa (ad Z) (ac (U (aw ?_)))))))))
    refine ee Z zq zq ?_
    refine ⟨?_,e4.keep.trans k5⟩
    rw [htr,hρ]
    refine ⟨_,_,rfl,(hx4.base zo).mono (F':=fun k=>w.heap.size≤k) (fun i _ hi=>by omega) |>.keep k5 (fun i hi h=>?_) (fun i _ hi _ h=>by omega),a5,c5,h5,hv5.keep k5 fun i _ hi h=>hnF (by subst h;exact hi)⟩
    have:=(hx4.own_lt hi).1
    omega
   have:=bf hc4;omega
 have htr:bR ρ most.toNat l=.error 3:=by rw [bR,hd];simp only [];rw [if_neg zo]
 refine aL 56 Tryz.func65 Z Z (by simp) ?_
 refine V (O zd (aa (ad Z) (aa (ad Z) (ac (U (V (O zd (aa (ad Z) (ac ?_)))))))))
 refine U (V (V (O zd (aa (bK Z) (ah (av zk (ci Z) (ae.mono (cU hb0) ?_)))))))
 rintro _ w1 ⟨rfl,e1⟩
 have:=e1.size
 refine ac (U (am Z Z (fun hc=>?_) (fun hc=>?_)))
 ·
  cases hc
 refine ar (U (V (V (O zd (aa (aQ Z) (aa (bw Z Z) ?_))))))
 refine ac (U (am Z Z (fun hc2=>?_) (fun hc2=>?_)))
 ·
  have:=bl hc2;omega
 refine ar (U (V (O zd (aa (bK Z) (aa (aM Z) ?_)))))
 refine aa (aA 0 28 Z) (aa (ag zk Z ((hb0.ext e1).pv 0 _ Z)) ?_)
 refine aa (aV (pl:=[(0,1)]) (z:=.agg #[.slice none 0 0]) (zl:=[.slice none 0 0]) zk (by unfold aE;kernel_rfl) Z Z (cells:=[_]) Z) ?_
 refine ah (aS (aZ Z) ?_)
 rintro b2 w2 rfl hb2 e2 z2
 have:=e2.size
 have e12:=e1.trans e2
 refine aa (mO Z) (ac (U (V (O zd (aa (bK Z) (ah (av zk (ci Z) (ae.mono (cd (b:=w1.heap.size) (l:=l) (F:=F) ⟨a,c,hb2,hv.ext e12⟩ (fun h=>by have:=hF _ h;omega)) ?_))))))))
 rintro r w3 ⟨hr3,h3,k3⟩
 have:=k3.size
 rw [fk,hd] at hr3
 simp only [] at hr3
 rw [← hz] at hr3
 subst hr3
 have e3:aX w w3:=e12.step k3 fun i hi h=>by omega
 refine aa (dY Z) (aa (ai (t:=.int _ _) Z Z) (aa (ai (t:=.int _ _) Z Z) (aa (bO Z) (aa (bO Z) (ac (U (V (V (O zd ?_)))))))))
 refine aa (aQ Z) (aa (aJ Z Z) ?_)
 refine aa (bH Z) (aj Z Z (fun hG=>aQ Z) (aj Z Z (fun hG=>aQ Z) (aj Z Z (fun hG=>bS (ds:=.int .i64) zk zk (gd hG Z) (by first | exact cq zo zo | rfl)) ?_)))
 refine aj Z Z (fun hG=>bX (gd hG Z) (gd hG Z)) ?_
 refine aa (bu Z Z) ?_
 refine ac (U (am Z Z (fun hc3=>?_) (fun hc3=>?_)))
 ·
  refine O zd (aa (ad Z) (ac (U (V (V (O zd (aa (aQ Z) (aa (aJ Z Z) ?_))))))))
  refine ac (U (am Z Z (fun hc4=>?_) (fun hc4=>?_)))
  ·
   have:=bl hc4;omega
  refine ar (U (V (V (O zd (aa (aQ Z) (aa (bD Z Z) ?_))))))
  refine ac (U (am Z Z (fun hc5=>?_) (fun hc5=>?_)))
  ·
   refine V (O zd (aa (bP Z) (aa (aQ Z) (aa (cF Z) (aa (bO Z) (ac (U (aw (ay ?_)))))))))
   refine ee Z zq zq ?_
   refine ⟨?_,e3.keep⟩
   rw [htr]
   exact ⟨by omega,rfl,⟨a,c,hb0.ext e3,hv.ext e3⟩⟩
  simp at hc5
 simp at hc3;omega
theorem sf {w:World} {b:Nat} {F:Nat→Prop} {l:List UInt8} {most:Int} {fr:Nat} {cap:Array Value} (hr:Rd ef w b F l) (hF:∀ k,F k→k < b) (hm:0≤most) (hm2:most≤9223372036854775807) (hl:l.length≤1000000000000) (hb:dj Tryz.prog fr=true)
    (ρ:List UInt8→Except Int (fy × List UInt8)) (hρ:∀ l x l2,ρ l=.ok (x,l2)→l2.length < l.length)
    (hone:∀ (w1:World) (c:Nat) (l1:List UInt8),aX w w1→w.heap.size≤c→Rd ef w1 c F l1→l1.length≤l.length→ae Tryz.prog fr (#[.pointer (some ⟨c,0,none⟩)] ++ cap) w1 (fun r w2=>ol w1 w2 c F (ρ l1) r∧ao (fun k=>k=c) w1 w2)) :
    ae Tryz.prog 30 #[.pointer (some ⟨b,0,none⟩),.int .i64 most,.func (.func fr) #[] cap] w (fun r w'=>od (eQ) 55 ef w w' b F l (bR (bp ρ) most.toNat l) r∧ao (fun k=>k=b) w w'):=by
 have hblt:b < w.heap.size:=by obtain ⟨_,_,h,_⟩:=hr;exact h.lt
 cases hq:bR (bp ρ) most.toNat l with
 | error er=>
  refine aL 16 Tryz.func30 Z Z (by simp) ?_
  refine V (O zd (ah (aS (show _=(Value.func _ _ _) from Z) ?_)))
  rintro b1 w1 rfl hb1 e1 z1
  have:=e1.size
  refine aa (ad Z) (aa (ad Z) (ac (U (V (V (O zd (aa (ag zk Z (hb1.pv 0 _ Z)) ?_)))))))
  refine aa (eM (ps:=#[73]) (rs:=#[55,31]) (v:=false) zk Z Z) ?_
  refine ac (U (am Z Z (fun hc=>?_) (fun hc=>?_)))
  ·
   cases hc
  refine ar (U (V (O zd (aa (bK Z) (aa (aQ Z) (aa (cC (by simp [ev];rfl) (by simp [ev];rfl)) ?_))))))
  refine ah (gM zk (ci Z) (bB Z) (show _=(Value.func _ _ _) from Z) (ae.mono (p8 (cap:=#[.pointer (some ⟨w.heap.size,0,none⟩)]) (hr.ext e1) hF hm hm2 zk (bp ρ) (fun w2 c l1 n e2 hc1 hr1 hl1 hn1=>by simpa using lL hr1 (fun k hk=>by have:=hF k hk;have:=e2.size;omega) (fun h=>by have:=hF _ h;omega) zo zo hb (hb1.ext e2) zo ρ hρ (fun w3 l3 k3 hr3 hl3=>hone w3 c l3 ((e1.trans e2).step k3 (fun i hi h=>by omega)) zo hr3 zo))) ?_))
  rintro r w2 ⟨h2,k2⟩
  have:=k2.size
  rw [hq] at h2
  obtain ⟨her,rfl,h3⟩:=h2
  refine aa (ai (t:=.slice _ _ _) Z Z) (aa (ai (t:=.int _ _) Z Z) (aa (cF Z) (aa (bO Z) (ac (U (aw (ee Z zq zq ?_)))))))
  exact ⟨⟨her,rfl,h3⟩,(e1.mono fun _ _ h=>h.elim).trans k2⟩
 | ok xl=>
  obtain ⟨x,l2⟩:=xl
  refine aL 16 Tryz.func30 Z Z (by simp) ?_
  refine V (O zd (ah (aS (show _=(Value.func _ _ _) from Z) ?_)))
  rintro b1 w1 rfl hb1 e1 z1
  have:=e1.size
  refine aa (ad Z) (aa (ad Z) (ac (U (V (V (O zd (aa (ag zk Z (hb1.pv 0 _ Z)) ?_)))))))
  refine aa (eM (ps:=#[73]) (rs:=#[55,31]) (v:=false) zk Z Z) ?_
  refine ac (U (am Z Z (fun hc=>?_) (fun hc=>?_)))
  ·
   cases hc
  refine ar (U (V (O zd (aa (bK Z) (aa (aQ Z) (aa (cC (by simp [ev];rfl) (by simp [ev];rfl)) ?_))))))
  refine ah (gM zk (ci Z) (bB Z) (show _=(Value.func _ _ _) from Z) (ae.mono (p8 (cap:=#[.pointer (some ⟨w.heap.size,0,none⟩)]) (hr.ext e1) hF hm hm2 zk (bp ρ) (fun w2 c l1 n e2 hc1 hr1 hl1 hn1=>by simpa using lL hr1 (fun k hk=>by have:=hF k hk;have:=e2.size;omega) (fun h=>by have:=hF _ h;omega) zo zo hb (hb1.ext e2) zo ρ hρ (fun w3 l3 k3 hr3 hl3=>hone w3 c l3 ((e1.trans e2).step k3 (fun i hi h=>by omega)) zo hr3 zo))) ?_))
  rintro r w2 ⟨h2,k2⟩
  have:=k2.size
  rw [hq] at h2
  obtain ⟨a4,c4,rfl,o4,h4⟩:=h2
  refine aa (ai (t:=.slice _ _ _) Z Z) (aa (ai (t:=.int _ _) Z Z) (aa (cF Z) (aa (bO Z) (ac (U (aw (ee Z zq zq ?_)))))))
  exact ⟨⟨a4,c4,rfl,(o4.base zo).mono (fun i _ h=>by omega),h4⟩,(e1.mono fun _ _ h=>h.elim).trans k2⟩
theorem rB (l:List UInt8):∃ (f:Bool) (e:Int),kr l=.tuple #[.bool f,.int .i64 e]∧((e=0∧dM l=some (f,iQ l))∨(e=4∧iQ l=l∧dM l=none)):=by
  rcases hd:dM l with _ | ⟨f,r⟩
  · exact ⟨false,4,by rw [kr,hd],.inr ⟨rfl,by rw [iQ,hd],rfl⟩⟩
  · have hr:iQ l=r:=by rw [iQ,hd]
    exact ⟨f,0,by rw [kr,hd],.inl ⟨rfl,by rw [hr]⟩⟩
end Go.Proofs.YteehplloacefmaaGreat
namespace Go.Proofs.YteehplloacefmaaGreat
open Go.Vc
set_option maxHeartbeats 1000000 in
theorem vt {w:World} {b:Nat} {F:Nat→Prop} {l:List UInt8} (HR:Rd ef w b F l) (hF:∀ k,F k→k < b) (hl:l.length≤400000):ae Tryz.prog 31 (#[.pointer (some ⟨b,0,none⟩)] ++ #[]) w (fun r w2=>ol w w2 b F (nN l) r∧ao (fun k=>k=b) w w2):=by
 have hblt:b < w.heap.size:=by obtain ⟨_,_,h,_⟩:=HR;exact h.lt
 have hnF:¬ F b:=fun h=>absurd (hF b h) (Nat.lt_irrefl b)
 show ae _ _ #[_] _ _
 refine aL 45 Tryz.func31 Z Z (by simp) ?_
 refine V ?_
 have E:=ao.refl (K:=fun k=>k=b) w
 refine O zd (ah (aD (z:=(.agg #[.int .i64 0,.slice none 0 0,.slice none 0 0,.bool false,.int .i64 0,.int .i64 0,.bool false])) (by unfold aE;kernel_rfl) ?_))
 rintro b2 w2 zb2 HB2 e2 z2
 have:=e2.size
 try simp only [Value.cells] at HB2
 replace HR:=HR.ext e2
 refine aa (ad Z) (ac (U (V (O zd (aa (bK Z) (ah (aW zk (ci Z) (bB Z) (ae.mono (fZ (most:=1048576) HR hF zq zq zo) ?_))))))))
 rintro r w3 ⟨hr3,k3⟩
 have:=k3.size
 obtain ⟨a3,c3,er3,fr,l1,rfl,HO3,HR3,hx3⟩:=eL hr3
 replace E:=E.trans e2.keep
 have hfl:fr.length≤l.length:=by
  rcases hx3 with ⟨_,hq⟩ | ⟨_,h,_⟩
  ·
   have:=congrArg List.length (fb (m:=1048576) hq).2.2;rw [List.length_append,az,List.length_append] at this;omega
  rw [h];simp
 have zo_HO3:=fun (b:Nat) h=>HO3.own_lt (b:=b) h
 refine aa (dY Z) (aa (ai (t:=.slice _ _ _) Z Z) (aa (ai (t:=.int _ _) Z Z) (aa (cF Z) (aa (bO Z) (ac (U (V (O zd (aa (bK Z) ?_)))))))))
 refine ah (av zk (ci Z) (ae.mono (nQ HR3 hnF) ?_))
 rintro r w4 ⟨hr4,HR4,k4⟩
 have:=k4.size
 obtain ⟨f,fe,hfv,hfx⟩:=rB l1
 rw [hfv] at hr4
 subst hr4
 refine aa (dY Z) (aa (ai (t:=.bool _) Z Z) (aa (ai (t:=.int _ _) Z Z) (aa (dl Z) (aa (bO Z) (ac (U (V (O zd (aa (bP Z) ?_)))))))))
 replace HO3:=HO3.keep k4 (by intro i ho he;have he0:=he;have ho0:=ho;(try dsimp only [aP] at he);(try simp only [Value.ownBlock,Option.some.injEq,reduceCtorEq] at ho);(try simp only [Value.ownBlock,Option.some.injEq,reduceCtorEq] at he);first | exact he.elim | exact ho.elim | omega | (have:=zo_HO3 _ ho0;omega)) (by intro i _ hi _ he;have he0:=he;have hi:=hi;have he:=he;(try dsimp only [aP,bj] at hi he);(try simp only [Value.ownBlock,Option.some.injEq,reduceCtorEq] at he);all_goals first | exact hi.elim | exact hi.1.elim | exact he.elim | omega | (rcases hi with hi | hi <;> omega) | (rcases he with he | he <;> omega))
 refine ah (av zk (bI Z) (ae.mono (uG HO3.view zo) ?_))
 rintro _ w5 ⟨⟨u,c,ce,rfl,HGf,hxc⟩,e5⟩
 have:=e5.size
 obtain ⟨k,rq,mv,en,an,key,g⟩:=c
 have HGc:=aY.imp gE HGf
 replace E:=(E.step k3 bi).step k4 bi
 replace HB2:=(HB2.keep k3 aH).keep k4 aH
 replace HGc:=HGc.mono fun q hq h=>And.intro h hq
 obtain ⟨x1,d1,x2,d2,x3,d3,x4,d4,x5,d5,x6,d6,x7,d7,x8,d8,x9,d9,hvc,_,HGv,_⟩:=HGc.cm
 subst hvc
 refine aa (dY Z) (aa (ai (t:=.agg _) Z Z) (aa (ai (t:=.int _ _) Z Z) (ah (aD (z:=(.agg #[.int .i64 0,.int .i64 0,.int .i64 0,.int .i64 0,.slice none 0 0,.slice none 0 0,.slice none 0 0,.slice none 0 0,.bool false,.int .i64 0,.int .i64 0,.slice none 0 0,.slice none 0 0,.bool false,.int .i64 0,.int .i64 0,.slice none 0 0,.slice none 0 0,.slice none 0 0,.int .i64 0])) (by unfold aE;kernel_rfl) ?_))))
 rintro b8 w8 zb8 HB8 e8 z8
 have:=e8.size
 try simp only [Value.cells] at HB8
 refine ah (aq (n:=20) Z Z (aZ Z) zk Z cT HB8 bV ?_)
 rintro w101 HB8 k101 z101
 have:=k101.size
 try simp only [zS,Nat.zero_add,Nat.reduceAdd,List.drop_nil] at HB8
 refine aa (bO Z) (ac (U (V (V (O zd (aa (aQ Z) (aa (bD Z Z) ?_)))))))
 refine aa (bH Z) (aj Z Z (fun hG=>aQ Z) (aj Z Z (fun hG=>bD (gd hG Z) Z) ?_))
 refine aa (bF Z Z) ?_
 refine aa (bH Z) (aj Z Z (fun hG=>aQ Z) (aj Z Z (fun hG=>bD (gd hG Z) Z) ?_))
 refine aa (bF Z Z) ?_
 refine aa (bH Z) (aj Z Z (fun hG=>aA 0 38 Z) ?_)
 replace HB2:=((HB2.ext e5).ext e8).keep k101 aH
 refine aj Z Z (fun hG=>ag zk (gd hG Z) (by first | exact HB8.pv 0 _ rfl | exact HB2.pv 0 _ rfl | assumption)) ?_
 refine aj Z Z (fun hG=>bD (gd hG Z) Z) ?_
 refine aa (bF Z Z) ?_
 replace E:=((E.trans e5.keep).trans e8.keep).step k101 bi
 replace HO3:=HO3.ext e5
 replace HR4:=((HR4.ext e5).ext e8).keep k101 fB (by intro i hi he;have hi0:=hi;have hi:=hi;have he:=he;(try dsimp only [aP] at hi he);first | exact he.elim | omega | (have:=hF i hi0;omega))
 replace HGv:=(HGv.ext e8).keep k101 aC
 refine ac (U (am Z Z (fun hc=>?_) (fun hc=>?_)))
 ·
  refine V (O zd (aa (aV (pl:=[(0,6),(6,1)]) (z:=.agg #[.int .i64 0,.slice none 0 0,.slice none 0 0,.bool false,.int .i64 0,.int .i64 0,.bool false]) (zl:=[.int .i64 0,.slice none 0 0,.slice none 0 0,.bool false,.int .i64 0,.int .i64 0,.bool false]) zk (by unfold aE;kernel_rfl) Z Z (cells:=[_,_,_,_,_,_,_]) Z) ?_))
  refine ah (aq (n:=7) Z Z (aZ Z) zk Z cT HB2 bV ?_)
  rintro w102 HB2 k102 z102
  have:=k102.size
  try simp only [zS,Nat.zero_add,Nat.reduceAdd,List.drop_nil] at HB2
  refine aa (ad Z) (ac (U (aw (ay (bL (n:=7) Z zq zq Z zk HB2.pv Z (bB Z) ?_)))))
  replace E:=E.step k102 bi
  refine ⟨?_,E⟩
  replace HR4:=HR4.keep k102 fB (by intro i hi he;have hi0:=hi;have hi:=hi;have he:=he;(try dsimp only [aP] at hi he);first | exact he.elim | omega | (have:=hF i hi0;omega))
  replace HGv:=HGv.keep k102 aC
  replace HB8:=HB8.keep k102 aH
  have h:nN l=.error 4:=by
   rw [nN]
   rcases hx3 with ⟨he,hq⟩ | ⟨_,_,_,_,_,hq⟩
   ·
    rw [show br 1048576 l=_ from hq]
    rcases hfx with ⟨hfe,hf⟩ | ⟨_,_,hf⟩
    ·
     simp only [hf]
     rcases hxc with ⟨hce,hra⟩ | ⟨_,_,hra⟩
     ·
      simp only [hra]
      rw [if_neg]
      intro h9
      have h9:k=9:=h9
      rw [he,hfe,hce,h9] at hc;simp at hc
     simp only [hra]
    simp only [hf]
   rw [show br 1048576 l=_ from hq]
  rw [h]
  exact ⟨by decide,_,(jF,false),rfl,lN (bs.nil _ _ _) (bs.nil _ _ _) ⟨by decide,by decide⟩ ⟨by decide,by decide⟩ ⟨by decide,by decide⟩⟩
 have hg:er3=0∧fe=0∧ce=0∧k=9:=by simp at hc;omega
 obtain ⟨g1,g2,g3,g4⟩:=hg
 obtain ⟨y1,z1,y2,z2,hvm,HSa,HSb,i1,i2,i3⟩:=HGv.mv
 simp only [Value.agg.injEq,Array.mk.injEq,List.cons.injEq,Value.slice.injEq,and_true,true_and] at hvm
 obtain ⟨⟨rfl,rfl⟩,rfl,rfl⟩:=hvm
 refine ar (U (V (O zd (aa (aA 10 46 Z) (aa (ap zk Z (by first | exact (show Pv _ _ [_,_,_,_,_,_] from aN 10 6 HB8.pv) | exact (show Pv _ _ [_,_,_,_,_,_] from aN 10 6 HB2.pv) | exact bg 10 HB8.pv | exact bg 10 HB2.pv | assumption) Z) ?_)))))
 refine aa (bH Z) (aa (aV (pl:=[(0,6),(6,1)]) (z:=.agg #[.int .i64 0,.slice none 0 0,.slice none 0 0,.bool false,.int .i64 0,.int .i64 0,.bool false]) (zl:=[.int .i64 0,.slice none 0 0,.slice none 0 0,.bool false,.int .i64 0,.int .i64 0,.bool false]) zk (by unfold aE;kernel_rfl) Z Z (cells:=[_,_,_,_,_,_,_]) Z) ?_)
 refine ah (aq (n:=7) Z Z (aZ Z) zk Z cT HB2 bV ?_)
 rintro w103 HB2 k103 z103
 have:=k103.size
 try simp only [zS,Nat.zero_add,Nat.reduceAdd,List.drop_nil] at HB2
 refine aa (ad Z) (ac (U (aw (bL (n:=7) Z zq zq Z zk HB2.pv Z (bB Z) ?_))))
 replace E:=E.step k103 bi
 refine ⟨?_,E⟩
 replace HR4:=HR4.keep k103 fB (by intro i hi he;have hi0:=hi;have hi:=hi;have he:=he;(try dsimp only [aP] at hi he);first | exact he.elim | omega | (have:=hF i hi0;omega))
 replace HGv:=HGv.keep k103 aC
 replace HB8:=HB8.keep k103 aH
 replace HSa:=HSa.keep k103 aC
 replace HSb:=HSb.keep k103 aC
 have h:nN l=.ok ((mv,f),iQ l1):=by
  rw [nN]
  rcases hx3 with ⟨he,hq⟩ | ⟨he,_⟩
  ·
   rw [show br 1048576 l=_ from hq]
   rcases hfx with ⟨hfe,hf⟩ | ⟨hfe,_⟩
   ·
    simp only [hf]
    rcases hxc with ⟨hce,hra⟩ | ⟨hce,_⟩
    ·
     simp only [hra];rw [if_pos g4]
    omega
   omega
  exact absurd g1 he
 rw [h]
 exact ⟨_,rfl,lN (HSa.mono fun q _ h=>by have:=h.1;omega) (HSb.mono fun q _ h=>by have:=h.1;omega) i1 i2 i3,HR4⟩
end Go.Proofs.YteehplloacefmaaGreat
namespace Go.Proofs.YteehplloacefmaaGreat
open Go.Vc
def eJ (l:List UInt8):it × Int:=match br 1048576 l with
  | .error _=>(f0,4)
  | .ok (mb,l1)=>match cK l1 with
    | none=>(f0,4)
    | some (n,l2)=>match bR (bp nN) 16 l2 with
      | .error _=>(f0,4)
      | .ok (ms,l3)=>if (gi mb).2=0∧l3=[]∧n≤2147483647∧dA ((gi mb).1,(n:Int),ms)=true then (((gi mb).1,(n:Int),ms),0) else (f0,4)
set_option maxHeartbeats 1000000 in
theorem mK {w:World} {F0:Nat→Prop} {v:Value} {l:List UInt8} (HS1:Bv w F0 v l) (hl:l.length≤100000):ae Tryz.prog 8 #[v] w (fun o w'=>(∃ x,o=.tuple #[x,.int .i64 (eJ l).2]∧aY iK w' (fun b=>w.heap.size≤b) x (eJ l).1)∧aX w w'):=by
 obtain ⟨a1,c1,rfl⟩:=HS1.shape
 refine aL 70 Tryz.func8 Z Z (by simp) ?_
 refine V ?_
 have E:=ao.refl (K:=aP) w
 replace HS1:=HS1.all
 refine O zd (ah (aD (z:=(.agg #[.int .i64 0,.slice none 0 0,.int .i64 0,.slice none 0 0])) (by unfold aE;kernel_rfl) ?_))
 rintro b2 w2 zb2 HB2 e2 z2
 have:=e2.size
 try simp only [Value.cells] at HB2
 replace HS1:=HS1.ext e2
 refine aa (ad Z) (ac (U (V (O zd (aa (bP Z) (ah (av zk (bI Z) (ae.mono (mJ HS1 zo) ?_))))))))
 rintro _ w3 ⟨b4,rfl,HR4,hb4,e4,hlt4⟩
 have:=e4.size
 have hF:∀ k,(w2.heap.size≤k∧k < b4)→k < b4:=fun k h=>h.2
 refine aa (mO Z) (ac (U (V (O zd (aa (bK Z) (ah (aW zk (ci Z) (bB Z) (ae.mono (fZ (most:=1048576) HR4 hF zq zq zo) ?_))))))))
 rintro r w5 ⟨hr5,k5⟩
 have:=k5.size
 obtain ⟨a5,c5,er5,mb,l1,rfl,HO5,HR5,hx5⟩:=eL hr5
 replace E:=(E.trans e2.keep).trans e4.keep
 replace HB2:=HB2.ext e4
 have hfl:mb.length≤l.length∧l1.length≤l.length:=by
  rcases hx5 with ⟨_,hq⟩ | ⟨_,h,h2,_⟩
  ·
   have:=congrArg List.length (fb (m:=1048576) hq).2.2;rw [List.length_append,az,List.length_append] at this;omega
  rw [h,h2];simp
 have HS5:=HO5.view.mono (F':=fun b=>w3.heap.size≤b∧b < w5.heap.size) fun b hb h=>⟨by rcases h with h | h <;> omega,hb⟩
 have zo_HO5:=fun (b:Nat) h=>HO5.own_lt (b:=b) h
 refine aa (dY Z) (aa (ai (t:=.slice _ _ _) Z Z) (aa (ai (t:=.int _ _) Z Z) (aa (cF Z) (aa (bO Z) (ac (U (V (O zd (aa (bK Z) ?_)))))))))
 refine ah (av zk (ci Z) (ae.mono (cd HR5 (fun h=>by omega)) ?_))
 rintro r w6 ⟨hr6,HR6,k6⟩
 have:=k6.size
 obtain ⟨n,ne,hn,hnl,hnx⟩:=lY l1
 rw [hn] at hr6
 subst hr6
 replace E:=E.step k5 bi
 replace HB2:=HB2.keep k5 aH
 have hrl:(ca l1).length≤l1.length:=by
  rcases hnx with ⟨_,h,_⟩ | ⟨_,_,h,_⟩
  ·
   have:=congrArg List.length h;rw [List.length_append] at this;omega
  rw [h];omega
 refine aa (dY Z) (aa (ai (t:=.int _ _) Z Z) (aa (ai (t:=.int _ _) Z Z) (aa (bO Z) (aa (bO Z) (ac (U (V (O zd (aa (bK Z) ?_)))))))))
 refine ah (gM zk (ci Z) (bB Z) Z (ae.mono (sf (cap:=#[]) (most:=16) HR6 hF zq zq zo zk nN rd (fun w1 c l1 e1 hc1 hr1 hl1=>vt hr1 (fun k h=>by have:=h.2;omega) zo)) ?_))
 rintro r w7 ⟨hr7,k7⟩
 have:=k7.size
 obtain ⟨a7,c7,er7,ms,l3,rfl,HO7,HR7,hx7⟩:=eL hr7
 have HS7:=HO7.view.mono (F':=fun b=>w6.heap.size≤b∧b < w7.heap.size) fun b hb h=>⟨by rcases h with h | h <;> omega,hb⟩
 have zo_HO7:=fun (b:Nat) h=>HO7.own_lt (b:=b) h
 refine aa (dY Z) (aa (ai (t:=.slice _ _ _) Z Z) (aa (ai (t:=.int _ _) Z Z) (aa (cF Z) (aa (bO Z) (ac (U (V (O zd (aa (bP Z) ?_)))))))))
 replace HS5:=(HS5.keep k6 aC).keep k7 aC
 refine ah (av zk (bI Z) (ae.mono (t2 HS5 zo) ?_))
 rintro _ w8 ⟨⟨y8,rfl,HG8⟩,e8⟩
 have:=e8.size
 obtain ⟨⟨e',rs'⟩,her⟩:∃ x,x=(gi mb).1:=⟨_,rfl⟩
 rw [← her] at HG8
 replace E:=(E.step k6 bi).step k7 bi
 replace HB2:=(HB2.keep k6 aH).keep k7 aH
 replace HG8:=HG8.mono fun b hb h=>And.intro h hb
 obtain ⟨a8,c8,rfl,HS8,he8⟩:=HG8.mp
 simp only at HS8 he8
 refine aa (dY Z) (aa (ai (t:=.agg _) Z Z) (aa (ai (t:=.int _ _) Z Z) (ah (aD (z:=(.agg #[.int .i64 0,.slice none 0 0])) (by unfold aE;kernel_rfl) ?_))))
 rintro b11 w11 zb11 HB11 e11 z11
 have:=e11.size
 try simp only [Value.cells] at HB11
 refine ah (aq (n:=2) Z Z (aZ Z) zk Z cT HB11 bV ?_)
 rintro w101 HB11 k101 z101
 have:=k101.size
 try simp only [zS,Nat.zero_add,Nat.reduceAdd,List.drop_nil] at HB11
 refine aa (bO Z) (ac (U (V (V (O zd (aa (aQ Z) (aa (bD Z Z) ?_)))))))
 refine aa (bH Z) (aj Z Z (fun hG=>aQ Z) (aj Z Z (fun hG=>bD (gd hG Z) Z) ?_))
 refine aa (bF Z Z) ?_
 refine aa (bH Z) (aj Z Z (fun hG=>aQ Z) (aj Z Z (fun hG=>bD (gd hG Z) Z) ?_))
 refine aa (bF Z Z) ?_
 refine aa (bH Z) (aj Z Z (fun hG=>aQ Z) (aj Z Z (fun hG=>bD (gd hG Z) Z) ?_))
 refine aa (bF Z Z) ?_
 replace HR7:=((HR7.ext e8).ext e11).keep k101 fB (by intro i hi he;have hi0:=hi;have hi:=hi;have he:=he;(try dsimp only [aP] at hi he);first | exact he.elim | omega | (have:=hF i hi0;omega))
 refine aa (bH Z) (aj Z Z (fun hG=>bK Z) (cI Z Z (fun hG=>av zk (gd hG Z) (nA HR7)) ?_))
 rintro w12 e12
 have:=e12.size
 refine aj Z Z (fun hG=>bD (gd hG Z) Z) ?_
 refine aa (bF Z Z) ?_
 refine aa (bH Z) (aj Z Z (fun hG=>aQ Z) (aj Z Z (fun hG=>bX (gd hG Z) Z) ?_))
 refine aa (bF Z Z) ?_
 replace E:=(((E.trans e8.keep).trans e11.keep).step k101 bi).trans e12.keep
 replace HB2:=(((HB2.ext e8).ext e11).keep k101 aH).ext e12
 replace HS5:=HS5.ext e8
 replace HS7:=(((HS7.ext e8).ext e11).keep k101 aC).ext e12
 replace HS8:=((HS8.ext e11).keep k101 aC).ext e12
 replace HR7:=HR7.ext e12
 replace HB11:=HB11.ext e12
 refine ac (U (am Z Z (fun hc=>?_) (fun hc=>?_)))
 ·
  refine V (O zd (aa (aV (pl:=[(0,2),(2,1),(3,1)]) (z:=.agg #[.int .i64 0,.slice none 0 0,.int .i64 0,.slice none 0 0]) (zl:=[.int .i64 0,.slice none 0 0,.int .i64 0,.slice none 0 0]) zk (by unfold aE;kernel_rfl) Z Z (cells:=[_,_,_,_]) Z) ?_))
  refine ah (aq (n:=4) Z Z (aZ Z) zk Z cT HB2 bV ?_)
  rintro w102 HB2 k102 z102
  have:=k102.size
  try simp only [zS,Nat.zero_add,Nat.reduceAdd,List.drop_nil] at HB2
  refine aa (ad Z) (ac (U (aw (ay (bL (n:=4) Z zq zq Z zk HB2.pv Z (bB Z) ?_)))))
  replace E:=E.step k102 bi
  replace HR7:=HR7.keep k102 fB (by intro i hi he;have hi0:=hi;have hi:=hi;have he:=he;(try dsimp only [aP] at hi he);first | exact he.elim | omega | (have:=hF i hi0;omega))
  replace HS7:=HS7.keep k102 aC
  replace HS8:=HS8.keep k102 aC
  replace HB11:=HB11.keep k102 aH
  have h:eJ l=(f0,4):=by
   rw [eJ]
   rcases hx5 with ⟨h1,hq⟩ | ⟨_,_,_,_,_,hq⟩
   ·
    rw [show br 1048576 l=_ from hq]
    rcases hnx with ⟨h2,_,hd⟩ | ⟨_,_,_,hd⟩
    ·
     simp only [hd]
     rcases hx7 with ⟨h3,hq7⟩ | ⟨_,_,_,_,_,hq7⟩
     ·
      rw [show bR (bp nN) 16 (ca l1)=_ from hq7]
      simp only
      rw [if_neg]
      rintro ⟨g4,g5,g6,_⟩
      rw [h1,h2,h3,g4,g5] at hc;simp at hc;omega
     rw [show bR (bp nN) 16 (ca l1)=_ from hq7]
    simp only [hd]
   rw [show br 1048576 l=_ from hq]
  rw [h]
  exact ⟨⟨_,rfl,jR⟩,E⟩
 have hg:er5=0∧ne=0∧er7=0∧(gi mb).2=0∧l3=[]∧n≤2147483647:=by
  simp only [Bool.or_eq_false_iff,Bool.not_eq_false',decide_eq_false_iff_not,decide_eq_true_eq,ne_eq,Decidable.not_not] at hc
  obtain ⟨⟨⟨⟨⟨j1,j2⟩,j3⟩,j4⟩,j5⟩,j6⟩:=hc
  refine ⟨j1,j2,j3,j4,?_,by omega⟩
  by_cases h5:l3=[]
  ·
   exact h5
  rw [if_neg h5] at j5;cases j5
 obtain ⟨g1,g2,g3,g4,g5,g6⟩:=hg
 refine ar (U (V (O zd (aa (ap zk Z (by first | exact HB11.pv | exact HB2.pv | assumption) Z) ?_))))
 refine aa (aQ Z) (aa (bS (ds:=.int .u64) zk zk Z (by first | exact bn zo zo | rfl)) ?_)
 refine aa (bP Z) (aa (aV (pl:=[(0,2),(2,1),(3,1)]) (z:=.agg #[.int .i64 0,.slice none 0 0,.int .i64 0,.slice none 0 0]) (zl:=[.int .i64 0,.slice none 0 0,.int .i64 0,.slice none 0 0]) zk (by unfold aE;kernel_rfl) Z Z (cells:=[_,_,_,_]) Z) ?_)
 refine ah (aD (z:=(.agg #[.int .i64 0,.slice none 0 0,.int .i64 0,.slice none 0 0])) (by unfold aE;kernel_rfl) ?_)
 rintro b13 w13 zb13 HB13 e13 z13
 have:=e13.size
 try simp only [Value.cells] at HB13
 replace HS7:=HS7.ext e13
 replace HS8:=HS8.ext e13
 have HGs:aY iK _ (fun b=>b2 < b∧b < b13) _ ((e',rs'),(n:Int),ms):=aY.mkMt (HS8.mono fun b _ h=>⟨by have:=h.1;omega,by have:=h.2;omega⟩) (HS7.mono fun b _ h=>⟨by have:=h.1;omega,by have:=h.2;omega⟩) he8 ⟨by omega,by omega⟩
 refine ah (aq (n:=4) Z Z (aZ Z) zk Z cT HB13 bV ?_)
 rintro w103 HB13 k103 z103
 have:=k103.size
 try simp only [zS,Nat.zero_add,Nat.reduceAdd,List.drop_nil] at HB13
 replace HB2:=(HB2.ext e13).keep k103 aH
 replace HB11:=(HB11.ext e13).keep k103 aH
 refine ac (U (V (V (O zd (aa (ap zk Z (by first | exact HB13.pv | exact HB11.pv | exact HB2.pv | assumption) Z) ?_)))))
 replace HGs:=HGs.keep k103 aC
 refine ah (av zk (aZ Z) (ae.mono (jx HGs) ?_))
 replace HS7:=HS7.keep k103 aC
 replace HS8:=HS8.keep k103 aC
 rintro _ w104 ⟨rfl,e104⟩
 have:=e104.size
 refine aa (cg Z) ?_
 replace E:=((E.trans e13.keep).step k103 bi).trans e104.keep
 replace HB2:=HB2.ext e104
 replace HS7:=HS7.ext e104
 replace HS8:=HS8.ext e104
 replace HB11:=HB11.ext e104
 replace HB13:=HB13.ext e104
 replace HGs:=HGs.ext e104
 refine ac (U (am Z Z (fun h67=>?_) (fun h67=>?_)))
 ·
  refine V (O zd (aa (aV (pl:=[(0,2),(2,1),(3,1)]) (z:=.agg #[.int .i64 0,.slice none 0 0,.int .i64 0,.slice none 0 0]) (zl:=[.int .i64 0,.slice none 0 0,.int .i64 0,.slice none 0 0]) zk (by unfold aE;kernel_rfl) Z Z (cells:=[_,_,_,_]) Z) ?_))
  refine ah (aq (n:=4) Z Z (aZ Z) zk Z cT HB2 bV ?_)
  rintro w105 HB2 k105 z105
  have:=k105.size
  try simp only [zS,Nat.zero_add,Nat.reduceAdd,List.drop_nil] at HB2
  refine aa (ad Z) (ac (U (aw (ay (bL (n:=4) Z zq zq Z zk HB2.pv Z (bB Z) ?_)))))
  have hn:¬ dA ((e',rs'),(n:Int),ms)=true:=by simpa using h67
  replace E:=E.step k105 bi
  replace HS7:=HS7.keep k105 aC
  replace HS8:=HS8.keep k105 aC
  replace HB11:=HB11.keep k105 aH
  replace HB13:=HB13.keep k105 aH
  replace HGs:=HGs.keep k105 aC
  have h:eJ l=(f0,4):=by
   rw [eJ]
   rcases hx5 with ⟨_,hq⟩ | ⟨h9,_⟩
   ·
    rw [show br 1048576 l=_ from hq]
    rcases hnx with ⟨_,_,hd⟩ | ⟨h9,_⟩
    ·
     simp only [hd]
     rcases hx7 with ⟨_,hq7⟩ | ⟨h9,_⟩
     ·
      rw [show bR (bp nN) 16 (ca l1)=_ from hq7]
      simp only
      rw [if_neg]
      rintro ⟨_,_,_,h4⟩
      rw [← her] at h4
      exact hn h4
     exact absurd g3 h9
    omega
   exact absurd g1 h9
  rw [h]
  exact ⟨⟨_,rfl,jR⟩,E⟩
 have hn:dA ((e',rs'),(n:Int),ms)=true:=by simpa using h67
 refine ar (U (V (O zd (aa (ap zk Z (by first | exact HB13.pv | exact HB11.pv | exact HB2.pv | assumption) Z) ?_))))
 refine ah (aq (n:=4) Z Z (aZ Z) zk Z cT HB2 bV ?_)
 rintro w106 HB2 k106 z106
 have:=k106.size
 try simp only [zS,Nat.zero_add,Nat.reduceAdd,List.drop_nil] at HB2
 refine aa (ad Z) (ac (U (aw (bL (n:=4) Z zq zq Z zk HB2.pv Z (bB Z) ?_))))
 replace E:=E.step k106 bi
 replace HS7:=HS7.keep k106 aC
 replace HS8:=HS8.keep k106 aC
 replace HB11:=HB11.keep k106 aH
 replace HB13:=HB13.keep k106 aH
 replace HGs:=HGs.keep k106 aC
 have h:eJ l=(((e',rs'),(n:Int),ms),0):=by
  rw [eJ]
  rcases hx5 with ⟨_,hq⟩ | ⟨h9,_⟩
  ·
   rw [show br 1048576 l=_ from hq]
   rcases hnx with ⟨_,_,hd⟩ | ⟨h9,_⟩
   ·
    simp only [hd]
    rcases hx7 with ⟨_,hq7⟩ | ⟨h9,_⟩
    ·
     rw [show bR (bp nN) 16 (ca l1)=_ from hq7]
     simp only
     rw [← her,if_pos ⟨g4,g5,g6,hn⟩]
    exact absurd g3 h9
   omega
  exact absurd g1 h9
 rw [h]
 exact ⟨⟨_,rfl,HGs.mono fun b _ h=>by have:=h.1;omega⟩,E⟩
end Go.Proofs.YteehplloacefmaaGreat

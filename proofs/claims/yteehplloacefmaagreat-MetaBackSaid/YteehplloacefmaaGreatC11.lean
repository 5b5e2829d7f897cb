/- Steps and lemmas for the walks. -/
import Derived.Test.YteehplloacefmaaGreatCc
set_option linter.unusedVariables false
set_option linter.unusedSimpArgs false
set_option maxRecDepth 100000
namespace Go.Proofs.YteehplloacefmaaGreat
open Go.Vc
theorem dX {w:World} {F:Nat→Prop} {v:Value} {a:iq} {b:Bool} (HG1:aY pe w F v a) (hb:eh a=b):ae Tryz.prog 37 #[v] w (fun o w'=>o=.bool b∧aX w w'):=by subst hb;exact tM HG1
set_option maxHeartbeats 8000000 in
theorem tN {w:World} {F:Nat→Prop} {v:Value} {c:iq} (HG0:aY pe w F v c) (hm:eh c=true):ae Tryz.prog 18 #[v] w (fun o w'=>(∃ q d,o=.tuple #[.slice (some q) (eY c).length d,.int .i64 0]∧Bv w' (fun i=>w.heap.size≤i) (.slice (some q) (eY c).length d) (eY c))∧aX w w'):=by
 obtain ⟨k,⟨rc,rn,ra⟩,mv,en,an,key,g⟩:=c
 obtain ⟨a1,c1,a2,c2,a3,c3,a4,c4,a5,c5,a6,c6,a7,c7,a8,c8,a9,c9,hv0,HG1,HG2,HSe,HSa,HSk,hik,hig⟩:=HG0.cm
 subst hv0
 dsimp only at HG0 HG1 ⊢
 have HG5:=HG1.rqAk
 clear HG1
 obtain ⟨m1,m2,mrq,mmv,min,mke,mgr⟩:=qr hm
 obtain ⟨kn,rfl⟩:=Int.eq_ofNat_of_zero_le (show 0≤k by omega)
 have q0:=bA (n:=kn) zo
 refine aL 83 Tryz.func18 Z Z (by simp) ?_
 refine V ?_
 have E:=ao.refl (K:=aP) w
 replace HG0:=HG0.all
 replace HG2:=HG2.all
 replace HG5:=HG5.all
 replace HSe:=HSe.all
 replace HSa:=HSa.all
 replace HSk:=HSk.all
 refine O zd (ah (aS (aZ Z) ?_))
 rintro b31 w1 zb1 HB31 e1 z1
 have:=e1.size
 try simp only [Value.cells] at HB31
 refine aa (ad Z) (aa (ad Z) (ac (U (V (V (O zd (aa (ap zk Z (by first | exact HB31.pv | assumption) Z) ?_)))))))
 replace HG0:=HG0.ext e1
 refine ah (av zk (aZ Z) (ae.mono (dX HG0 hm) ?_))
 rintro _ w101 ⟨rfl,e101⟩
 have:=e101.size
 refine aa (cg Z) ?_
 replace E:=(E.trans e1.keep).trans e101.keep
 replace HG2:=(HG2.ext e1).ext e101
 replace HG5:=(HG5.ext e1).ext e101
 replace HSe:=(HSe.ext e1).ext e101
 replace HSa:=(HSa.ext e1).ext e101
 replace HSk:=(HSk.ext e1).ext e101
 replace HG0:=HG0.ext e101
 replace HB31:=HB31.ext e101
 refine ac (U (am Z Z (fun hc=>?_) (fun hc=>?_)))
 ·
  cases hc
 refine ar (U (V (O zd (aa (aA 0 38 Z) (aa (ag zk Z (by first | exact HB31.pv 0 _ rfl | assumption)) ?_)))))
 refine ah (av zk (bB Z) (ae.mono (vu (n:=(kn:Int)) zo zo) ?_))
 rintro _ w12 ⟨HO12,⟨q12,c12,rfl⟩,e12⟩
 have:=e12.size
 have zo_HO12:=fun (b:Nat) h=>HO12.own_lt (b:=b) h
 have hkn:((kn:Int)).toNat=kn:=by omega
 rw [hkn] at HO12 ⊢
 have HS12:=HO12.view.allB
 obtain ⟨n4,hn4⟩:∃ n,n=w.heap.size:=⟨_,rfl⟩
 replace HB31:=HB31.ext e12
 refine aa (cF Z) (ac (U (V (V (O zd (aa (aA 0 38 Z) (aa (ag zk Z (by first | exact HB31.pv 0 _ rfl | assumption)) ?_)))))))
 refine ac (U (aO (V (O zd (aa (aJ Z Z) ?_)))))
 replace E:=E.trans e12.keep
 replace HG2:=HG2.ext e12
 replace HG5:=HG5.ext e12
 replace HSe:=HSe.ext e12
 replace HSa:=HSa.ext e12
 replace HSk:=HSk.ext e12
 refine aa (dl Z) (ac (U (am Z Z (fun h2=>?_) (fun h2=>?_))))
 ·
  obtain rfl:kn=2:=by have:=bl h2;omega
  have hrq:=mrq rfl
  simp only [oO,t8,Bool.and_eq_true,decide_eq_true_eq] at hrq
  obtain ⟨⟨⟨r1,r2⟩,r3,r4⟩,r5⟩:=hrq
  have q1:=vJ r5
  have q2:=bA (n:=rc.toNat) zo
  have q3:=bA (n:=rn.toNat) zo
  refine cN zk ?_
  have e102:aX w12 { w12 with drawn:=w12.drawn + 1 }:=ao.drawn _ _
  generalize hw102:({ w12 with drawn:=w12.drawn + 1 }:World)=w102 at e102 ⊢
  clear hw102
  have:=e102.size
  refine bT 15 Z zd zd zd ?_
  refine cf (aP) zd zd ?_
  refine aB (fun ab w hR hd=>bP Z) ?_
  refine aB (fun ab w hR hd=>aA 1 44 Z) ?_
  refine aB (fun ab w hR hd=>aA 0 3 (hd 1 Z)) ?_
  replace HB31:=HB31.ext e102
  refine aB (fun ab w hR hd=>ag zk (hd 2 Z) (by first | exact (HB31.ext hR).pv 1 _ rfl | exact (HB31.ext hR).pv 0 _ rfl | assumption)) ?_
  refine cr (fun v W=>Bv W bj v (aT rc.toNat)) (fun v w w' h k=>h.ext k) (fun ab w hR hd=>av zk (hd 3 Z) (ae.mono (lZ zo zo) fun v w1 ⟨h,_,e⟩=>⟨e,h.view.allB⟩)) ?_
  refine aB (fun ab w hR hd=>aA 1 44 Z) ?_
  refine aB (fun ab w hR hd=>aA 1 2 (hd 5 Z)) ?_
  refine aB (fun ab w hR hd=>ag zk (hd 6 Z) (by first | exact (HB31.ext hR).pv 2 _ rfl | exact (HB31.ext hR).pv 1 _ rfl | assumption)) ?_
  refine cr (fun v W=>Bv W bj v (aT rn.toNat)) (fun v w w' h k=>h.ext k) (fun ab w hR hd=>av zk (hd 7 Z) (ae.mono (sH zo zo) fun v w1 ⟨h,_,e⟩=>⟨e,h.view.allB⟩)) ?_
  refine aB (fun ab w hR hd=>aA 1 44 Z) ?_
  refine aB (fun ab w hR hd=>aA 2 42 (hd 9 Z)) ?_
  refine aB (fun ab w hR hd=>ap zk (hd 10 Z) (by first | exact (show Pv _ _ [_,_,_,_,_,_,_] from aN 3 7 (HB31.ext hR).pv) | exact (show Pv _ _ [_,_,_,_,_,_,_] from aN 2 7 (HB31.ext hR).pv) | exact bg 2 (HB31.ext hR).pv | assumption) Z) ?_
  replace HG5:=HG5.ext e102
  refine cr (fun v W=>Bv W bj v (mS ra)) (fun v w w' h k=>h.ext k) (fun ab w hR hd=>av zk (hd 11 Z) (ae.mono (wA (HG5.ext hR) r5) fun v w1 ⟨_,_,_,h,e⟩=>⟨e,h.allB⟩)) ?_
  replace HS12:=HS12.ext e102
  refine cr (fun v W=>bs (dB cw) W bj v [aT 2,aT rc.toNat,aT rn.toNat,mS ra]) (fun v w w' h k=>h.ext k) (fun ab w hR hd=>lJ (et:=28) (bytes:=24) (z:=.slice none 0 0) zk (by unfold cQ;kernel_rfl) (hd 0 Z) (show _=ab 4 from Z) (show _=ab 8 from Z) (show _=ab 12 from Z) (HS12.ext hR) (show Bv _ bj _ (aT rc.toNat) from hd 4 Z) (show Bv _ bj _ (aT rn.toNat) from hd 8 Z) (show Bv _ bj _ (mS ra) from hd 12 Z) (fun b w1 hb HO e z=>⟨e,HO.view.allB⟩)) ?_
  refine cr (fun v W=>(∃ q c,v=.slice (some q) ([aT 2,aT rc.toNat,aT rn.toNat,mS ra].flatten).length c)∧ck cw iF W n4 aP v ([aT 2,aT rc.toNat,aT rn.toNat,mS ra].flatten)) (fun v w w' h k=>⟨h.1,h.2.ext k⟩) (fun ab w hR hd=>av zk (show _=ab 13 from Z) (ae.mono (dN (show bs (dB cw) _ bj _ [aT 2,aT rc.toNat,aT rn.toNat,mS ra] from hd 13 Z) (by simp only [List.flatten_cons,List.flatten_nil,List.append_nil,List.length_append];omega)) fun v w1 ⟨h,hv,e⟩=>⟨e,hv,h.base (by have:=hR.size;omega)⟩)) ?_
  refine bU (fun w103 e103=>?_)
  rintro _ rfl _ rfl _ rfl _ rfl v21 hs21 _ rfl _ rfl _ rfl v25 hs25 _ rfl _ rfl _ rfl v29 hs29 v30 hs30 v31 hs31
  have:=e103.size
  have hs31:(∃ q c,v31=.slice (some q) ([aT 2,aT rc.toNat,aT rn.toNat,mS ra].flatten).length c)∧ck cw iF _ n4 aP v31 ([aT 2,aT rc.toNat,aT rn.toNat,mS ra].flatten):=hs31
  obtain ⟨⟨q31,c31,rfl⟩,HO31⟩:=hs31
  refine bG (U (bZ zd Z ?_))
  refine aa (cF Z) (ac (bE (U (V (O zd (aa (bP Z) (aa (cF Z) (aa (ad Z) (ac ?_)))))))))
  refine U (aw (fu Z zq zq (bI Z) (bB Z) ?_))
  replace E:=(E.trans e102.keep).trans e103.keep
  refine ⟨?_,E⟩
  have h9:[aT 2,aT rc.toNat,aT rn.toNat,mS ra].flatten=eY (2,(rc,rn,ra),mv,en,an,key,g):=by simp [eY]
  rw [h9] at HO31
  simp only [h9]
  exact ⟨_,_,rfl,HO31.view.mono fun i _ h=>h.elim (fun h=>by omega) (fun h=>h.elim)⟩
 refine V (V (O zd (aa (aJ Z Z) ?_)))
 refine aa (dl Z) (ac (U (am Z Z (fun h3=>?_) (fun h3=>?_))))
 ·
  refine ar (U (am Z Z (fun hx=>?_) (fun hx=>?_)))
  ·
   obtain rfl:kn=3:=by have:=bl h3;omega
   have hmv:=mmv zq
   have q1:=jQ hmv
   refine O zd (aa (bP Z) (aa (aA 10 46 Z) (aa (ap zk Z (by first | exact (show Pv _ _ [_,_,_,_,_,_] from aN 10 6 HB31.pv) | exact bg 10 HB31.pv | assumption) Z) ?_)))
   refine ah (av zk (aZ Z) (ae.mono (me HG2 hmv) ?_))
   rintro _ w40 ⟨⟨q40,c40,rfl⟩,HO40,e40⟩
   have:=e40.size
   have zo_HO40:=fun (b:Nat) h=>HO40.own_lt (b:=b) h
   replace HS12:=HS12.ext e40
   refine ah (cz (t:=dB cw) (xs:=[aT 3,hU mv]) (et:=28) (bytes:=24) (zl:=[.slice none 0 0,.slice none 0 0]) zk zq zq (by unfold cQ;kernel_rfl) Z (cells:=[_,_]) Z Z Z ((jK HS12 HO40.view.allB)) ?_)
   rintro b41 w41 zb41 HO41 e41 z41
   have:=e41.size
   have zo_HO41:=fun (b:Nat) h=>HO41.own_lt (b:=b) h
   refine ah (av zk (bI Z) (ae.mono (dN HO41.view (by simp only [List.flatten_cons,List.flatten_nil,List.append_nil,List.length_append];omega)) ?_))
   rintro _ w42 ⟨HO42,⟨q42,c42,rfl⟩,e42⟩
   have:=e42.size
   have zo_HO42:=fun (b:Nat) h=>HO42.own_lt (b:=b) h
   refine aa (cF Z) (ac (bE (U (V (O zd (aa (bP Z) (aa (cF Z) (aa (ad Z) (ac ?_)))))))))
   refine U (aw (fu Z zq zq (bI Z) (bB Z) ?_))
   replace E:=((E.trans e40.keep).trans e41.keep).trans e42.keep
   refine ⟨?_,E⟩
   have h9:[aT 3,hU mv].flatten=eY (3,(rc,rn,ra),mv,en,an,key,g):=by simp [eY]
   rw [h9] at HO42
   simp only [h9]
   exact ⟨_,_,rfl,HO42.view.mono fun i _ h=>h.elim (fun h=>by omega) (fun h=>h.elim)⟩
  rw [h3] at hx;cases hx
 refine V (O zd (aa (aJ Z Z) ?_))
 refine aa (dl Z) (ac (U (am Z Z (fun h5=>?_) (fun h5=>?_))))
 ·
  refine ar (U (am Z Z (fun hx=>?_) (fun hx=>?_)))
  ·
   obtain rfl:kn=5:=by have:=bl h5;omega
   have hmv:=mmv zq
   have q1:=jQ hmv
   refine O zd (aa (bP Z) (aa (aA 10 46 Z) (aa (ap zk Z (by first | exact (show Pv _ _ [_,_,_,_,_,_] from aN 10 6 HB31.pv) | exact bg 10 HB31.pv | assumption) Z) ?_)))
   refine ah (av zk (aZ Z) (ae.mono (me HG2 hmv) ?_))
   rintro _ w40 ⟨⟨q40,c40,rfl⟩,HO40,e40⟩
   have:=e40.size
   have zo_HO40:=fun (b:Nat) h=>HO40.own_lt (b:=b) h
   replace HS12:=HS12.ext e40
   refine ah (cz (t:=dB cw) (xs:=[aT 5,hU mv]) (et:=28) (bytes:=24) (zl:=[.slice none 0 0,.slice none 0 0]) zk zq zq (by unfold cQ;kernel_rfl) Z (cells:=[_,_]) Z Z Z ((jK HS12 HO40.view.allB)) ?_)
   rintro b41 w41 zb41 HO41 e41 z41
   have:=e41.size
   have zo_HO41:=fun (b:Nat) h=>HO41.own_lt (b:=b) h
   refine ah (av zk (bI Z) (ae.mono (dN HO41.view (by simp only [List.flatten_cons,List.flatten_nil,List.append_nil,List.length_append];omega)) ?_))
   rintro _ w42 ⟨HO42,⟨q42,c42,rfl⟩,e42⟩
   have:=e42.size
   have zo_HO42:=fun (b:Nat) h=>HO42.own_lt (b:=b) h
   refine aa (cF Z) (ac (bE (U (V (O zd (aa (bP Z) (aa (cF Z) (aa (ad Z) (ac ?_)))))))))
   refine U (aw (fu Z zq zq (bI Z) (bB Z) ?_))
   replace E:=((E.trans e40.keep).trans e41.keep).trans e42.keep
   refine ⟨?_,E⟩
   have h9:[aT 5,hU mv].flatten=eY (5,(rc,rn,ra),mv,en,an,key,g):=by simp [eY]
   rw [h9] at HO42
   simp only [h9]
   exact ⟨_,_,rfl,HO42.view.mono fun i _ h=>h.elim (fun h=>by omega) (fun h=>h.elim)⟩
  rw [h5] at hx;cases hx
 refine V (O zd (aa (aJ Z Z) ?_))
 refine aa (dl Z) (ac (U (am Z Z (fun h9=>?_) (fun h9=>?_))))
 ·
  refine ar (U (am Z Z (fun hx=>?_) (fun hx=>?_)))
  ·
   obtain rfl:kn=9:=by have:=bl h9;omega
   have hmv:=mmv zq
   have q1:=jQ hmv
   refine O zd (aa (bP Z) (aa (aA 10 46 Z) (aa (ap zk Z (by first | exact (show Pv _ _ [_,_,_,_,_,_] from aN 10 6 HB31.pv) | exact bg 10 HB31.pv | assumption) Z) ?_)))
   refine ah (av zk (aZ Z) (ae.mono (me HG2 hmv) ?_))
   rintro _ w40 ⟨⟨q40,c40,rfl⟩,HO40,e40⟩
   have:=e40.size
   have zo_HO40:=fun (b:Nat) h=>HO40.own_lt (b:=b) h
   replace HS12:=HS12.ext e40
   refine ah (cz (t:=dB cw) (xs:=[aT 9,hU mv]) (et:=28) (bytes:=24) (zl:=[.slice none 0 0,.slice none 0 0]) zk zq zq (by unfold cQ;kernel_rfl) Z (cells:=[_,_]) Z Z Z ((jK HS12 HO40.view.allB)) ?_)
   rintro b41 w41 zb41 HO41 e41 z41
   have:=e41.size
   have zo_HO41:=fun (b:Nat) h=>HO41.own_lt (b:=b) h
   refine ah (av zk (bI Z) (ae.mono (dN HO41.view (by simp only [List.flatten_cons,List.flatten_nil,List.append_nil,List.length_append];omega)) ?_))
   rintro _ w42 ⟨HO42,⟨q42,c42,rfl⟩,e42⟩
   have:=e42.size
   have zo_HO42:=fun (b:Nat) h=>HO42.own_lt (b:=b) h
   refine aa (cF Z) (ac (bE (U (V (O zd (aa (bP Z) (aa (cF Z) (aa (ad Z) (ac ?_)))))))))
   refine U (aw (fu Z zq zq (bI Z) (bB Z) ?_))
   replace E:=((E.trans e40.keep).trans e41.keep).trans e42.keep
   refine ⟨?_,E⟩
   have h9:[aT 9,hU mv].flatten=eY (9,(rc,rn,ra),mv,en,an,key,g):=by simp [eY]
   rw [h9] at HO42
   simp only [h9]
   exact ⟨_,_,rfl,HO42.view.mono fun i _ h=>h.elim (fun h=>by omega) (fun h=>h.elim)⟩
  rw [h9] at hx;cases hx
 refine O zd (aa (aJ Z Z) ?_)
 refine aa (dl Z) (ac (U (am Z Z (fun h10=>?_) (fun h10=>?_))))
 ·
  obtain rfl:kn=10:=by have:=bl h10;omega
  have hmv:=mmv zq
  have q1:=jQ hmv
  refine O zd (aa (bP Z) (aa (aA 10 46 Z) (aa (ap zk Z (by first | exact (show Pv _ _ [_,_,_,_,_,_] from aN 10 6 HB31.pv) | exact bg 10 HB31.pv | assumption) Z) ?_)))
  refine ah (av zk (aZ Z) (ae.mono (me HG2 hmv) ?_))
  rintro _ w40 ⟨⟨q40,c40,rfl⟩,HO40,e40⟩
  have:=e40.size
  have zo_HO40:=fun (b:Nat) h=>HO40.own_lt (b:=b) h
  replace HS12:=HS12.ext e40
  refine ah (cz (t:=dB cw) (xs:=[aT 10,hU mv]) (et:=28) (bytes:=24) (zl:=[.slice none 0 0,.slice none 0 0]) zk zq zq (by unfold cQ;kernel_rfl) Z (cells:=[_,_]) Z Z Z ((jK HS12 HO40.view.allB)) ?_)
  rintro b41 w41 zb41 HO41 e41 z41
  have:=e41.size
  have zo_HO41:=fun (b:Nat) h=>HO41.own_lt (b:=b) h
  refine ah (av zk (bI Z) (ae.mono (dN HO41.view (by simp only [List.flatten_cons,List.flatten_nil,List.append_nil,List.length_append];omega)) ?_))
  rintro _ w42 ⟨HO42,⟨q42,c42,rfl⟩,e42⟩
  have:=e42.size
  have zo_HO42:=fun (b:Nat) h=>HO42.own_lt (b:=b) h
  refine aa (cF Z) (ac (bE (U (V (O zd (aa (bP Z) (aa (cF Z) (aa (ad Z) (ac ?_)))))))))
  refine U (aw (fu Z zq zq (bI Z) (bB Z) ?_))
  replace E:=((E.trans e40.keep).trans e41.keep).trans e42.keep
  refine ⟨?_,E⟩
  have h9:[aT 10,hU mv].flatten=eY (10,(rc,rn,ra),mv,en,an,key,g):=by simp [eY]
  rw [h9] at HO42
  simp only [h9]
  exact ⟨_,_,rfl,HO42.view.mono fun i _ h=>h.elim (fun h=>by omega) (fun h=>h.elim)⟩
 refine V (O zd (aa (aJ Z Z) ?_))
 refine aa (dl Z) (ac (U (am Z Z (fun h4=>?_) (fun h4=>?_))))
 ·
  obtain rfl:kn=4:=by have:=bl h4;omega
  obtain ⟨hmv,hre,hel,hal⟩:=min rfl
  have q1:=jQ hmv
  have hem:=oF hre
  have q2:=pK hem hel
  have q3:=ec (l:=bQ jV en) zo
  have q4:=ec (l:=an) zo
  refine V (O zd (aa (aA 16 47 Z) (aa (ag zk Z (by first | exact HB31.pv 16 _ rfl | assumption)) ?_)))
  refine ah (av zk (bI Z) (ae.mono (vM HSe hem hel) ?_))
  rintro _ w48 ⟨⟨q48,c48,rfl,HO48⟩,e48⟩
  have:=e48.size
  have zo_HO48:=fun (b:Nat) h=>HO48.own_lt (b:=b) h
  have HS48:=HO48.view.allB
  refine aa (dY Z) (aa (ai (t:=.slice _ _ _) Z Z) (aa (ai (t:=.int _ _) Z Z) (aa (cF Z) (aa (bO Z) (ac (U (cN zk ?_)))))))
  have e104:aX w48 { w48 with drawn:=w48.drawn + 1 }:=ao.drawn _ _
  generalize hw104:({ w48 with drawn:=w48.drawn + 1 }:World)=w104 at e104 ⊢
  clear hw104
  have:=e104.size
  refine bT 11 Z zd zd zd ?_
  refine cf (aP) zd zd ?_
  refine aB (fun ab w hR hd=>bP Z) ?_
  refine aB (fun ab w hR hd=>aA 10 46 Z) ?_
  replace HB31:=(HB31.ext e48).ext e104
  refine aB (fun ab w hR hd=>ap zk (hd 1 Z) (by first | exact (show Pv _ _ [_,_,_,_,_,_] from aN 10 6 (HB31.ext hR).pv) | exact bg 10 (HB31.ext hR).pv | assumption) Z) ?_
  replace HG2:=(HG2.ext e48).ext e104
  refine cr (fun v W=>Bv W bj v (hU mv)) (fun v w w' h k=>h.ext k) (fun ab w hR hd=>av zk (hd 2 Z) (ae.mono (me (HG2.ext hR) hmv) fun v w1 ⟨_,h,e⟩=>⟨e,h.view.allB⟩)) ?_
  refine aB (fun ab w hR hd=>bP Z) ?_
  replace HS48:=HS48.ext e104
  refine cr (fun v W=>Bv W bj v (az (bQ jV en))) (fun v w w' h k=>h.ext k) (fun ab w hR hd=>av zk (hd 4 Z) (ae.mono (dT (HS48.ext hR) zo) fun v w1 ⟨h,_,e⟩=>⟨e,h.view.allB⟩)) ?_
  refine aB (fun ab w hR hd=>aA 17 28 Z) ?_
  refine aB (fun ab w hR hd=>ag zk (hd 6 Z) (by first | exact (HB31.ext hR).pv 17 _ rfl | assumption)) ?_
  replace HSa:=(HSa.ext e48).ext e104
  refine cr (fun v W=>Bv W bj v (az an)) (fun v w w' h k=>h.ext k) (fun ab w hR hd=>av zk (hd 7 Z) (ae.mono (dT (HSa.ext hR) zo) fun v w1 ⟨h,_,e⟩=>⟨e,h.view.allB⟩)) ?_
  replace HS12:=(HS12.ext e48).ext e104
  refine cr (fun v W=>bs (dB cw) W bj v [aT 4,hU mv,az (bQ jV en),az an]) (fun v w w' h k=>h.ext k) (fun ab w hR hd=>lJ (et:=28) (bytes:=24) (z:=.slice none 0 0) zk (by unfold cQ;kernel_rfl) (hd 0 Z) (show _=ab 3 from Z) (show _=ab 5 from Z) (show _=ab 8 from Z) (HS12.ext hR) (show Bv _ bj _ (hU mv) from hd 3 Z) (show Bv _ bj _ (az (bQ jV en)) from hd 5 Z) (show Bv _ bj _ (az an) from hd 8 Z) (fun b w1 hb HO e z=>⟨e,HO.view.allB⟩)) ?_
  refine cr (fun v W=>(∃ q c,v=.slice (some q) ([aT 4,hU mv,az (bQ jV en),az an].flatten).length c)∧ck cw iF W n4 aP v ([aT 4,hU mv,az (bQ jV en),az an].flatten)) (fun v w w' h k=>⟨h.1,h.2.ext k⟩) (fun ab w hR hd=>av zk (show _=ab 9 from Z) (ae.mono (dN (show bs (dB cw) _ bj _ [aT 4,hU mv,az (bQ jV en),az an] from hd 9 Z) (by simp only [List.flatten_cons,List.flatten_nil,List.append_nil,List.length_append];omega)) fun v w1 ⟨h,hv,e⟩=>⟨e,hv,h.base (by have:=hR.size;omega)⟩)) ?_
  refine bU (fun w105 e105=>?_)
  rintro _ rfl _ rfl _ rfl v54 hs54 _ rfl v56 hs56 _ rfl _ rfl v59 hs59 v60 hs60 v61 hs61
  have:=e105.size
  have hs61:(∃ q c,v61=.slice (some q) ([aT 4,hU mv,az (bQ jV en),az an].flatten).length c)∧ck cw iF _ n4 aP v61 ([aT 4,hU mv,az (bQ jV en),az an].flatten):=hs61
  obtain ⟨⟨q61,c61,rfl⟩,HO61⟩:=hs61
  refine bG (U (bZ zd Z ?_))
  refine aa (cF Z) (ac (bE (U (V (O zd (aa (bP Z) (aa (cF Z) (aa (ad Z) (ac ?_)))))))))
  refine U (aw (fu Z zq zq (bI Z) (bB Z) ?_))
  replace E:=((E.trans e48.keep).trans e104.keep).trans e105.keep
  refine ⟨?_,E⟩
  have h9:[aT 4,hU mv,az (bQ jV en),az an].flatten=eY (4,(rc,rn,ra),mv,en,an,key,g):=by simp [eY]
  rw [h9] at HO61
  simp only [h9]
  exact ⟨_,_,rfl,HO61.view.mono fun i _ h=>h.elim (fun h=>by omega) (fun h=>h.elim)⟩
 refine V (V (O zd (aa (aJ Z Z) ?_)))
 refine aa (dl Z) (ac (U (am Z Z (fun h6=>?_) (fun h6=>?_))))
 ·
  refine ar (U (am Z Z (fun hx=>?_) (fun hx=>?_)))
  ·
   obtain rfl:kn=6:=by have:=bl h6;omega
   have hke:=mke zq
   have q1:=ec (l:=key) zo
   refine O zd (aa (bP Z) (aa (aA 18 28 Z) (aa (ag zk Z (by first | exact HB31.pv 18 _ rfl | assumption)) ?_)))
   refine ah (av zk (bI Z) (ae.mono (dT HSk zo) ?_))
   rintro _ w68 ⟨HO68,⟨q68,c68,rfl⟩,e68⟩
   have:=e68.size
   have zo_HO68:=fun (b:Nat) h=>HO68.own_lt (b:=b) h
   replace HS12:=HS12.ext e68
   refine ah (cz (t:=dB cw) (xs:=[aT 6,az key]) (et:=28) (bytes:=24) (zl:=[.slice none 0 0,.slice none 0 0]) zk zq zq (by unfold cQ;kernel_rfl) Z (cells:=[_,_]) Z Z Z ((jK HS12 HO68.view.allB)) ?_)
   rintro b69 w69 zb69 HO69 e69 z69
   have:=e69.size
   have zo_HO69:=fun (b:Nat) h=>HO69.own_lt (b:=b) h
   refine ah (av zk (bI Z) (ae.mono (dN HO69.view (by simp only [List.flatten_cons,List.flatten_nil,List.append_nil,List.length_append];omega)) ?_))
   rintro _ w70 ⟨HO70,⟨q70,c70,rfl⟩,e70⟩
   have:=e70.size
   have zo_HO70:=fun (b:Nat) h=>HO70.own_lt (b:=b) h
   refine aa (cF Z) (ac (bE (U (V (O zd (aa (bP Z) (aa (cF Z) (aa (ad Z) (ac ?_)))))))))
   refine U (aw (fu Z zq zq (bI Z) (bB Z) ?_))
   replace E:=((E.trans e68.keep).trans e69.keep).trans e70.keep
   refine ⟨?_,E⟩
   have h9:[aT 6,az key].flatten=eY (6,(rc,rn,ra),mv,en,an,key,g):=by simp [eY]
   rw [h9] at HO70
   simp only [h9]
   exact ⟨_,_,rfl,HO70.view.mono fun i _ h=>h.elim (fun h=>by omega) (fun h=>h.elim)⟩
  rw [h6] at hx;cases hx
 refine O zd (aa (aJ Z Z) ?_)
 refine aa (dl Z) (ac (U (am Z Z (fun h7=>?_) (fun h7=>?_))))
 ·
  obtain rfl:kn=7:=by have:=bl h7;omega
  have hke:=mke zq
  have q1:=ec (l:=key) zo
  refine O zd (aa (bP Z) (aa (aA 18 28 Z) (aa (ag zk Z (by first | exact HB31.pv 18 _ rfl | assumption)) ?_)))
  refine ah (av zk (bI Z) (ae.mono (dT HSk zo) ?_))
  rintro _ w68 ⟨HO68,⟨q68,c68,rfl⟩,e68⟩
  have:=e68.size
  have zo_HO68:=fun (b:Nat) h=>HO68.own_lt (b:=b) h
  replace HS12:=HS12.ext e68
  refine ah (cz (t:=dB cw) (xs:=[aT 7,az key]) (et:=28) (bytes:=24) (zl:=[.slice none 0 0,.slice none 0 0]) zk zq zq (by unfold cQ;kernel_rfl) Z (cells:=[_,_]) Z Z Z ((jK HS12 HO68.view.allB)) ?_)
  rintro b69 w69 zb69 HO69 e69 z69
  have:=e69.size
  have zo_HO69:=fun (b:Nat) h=>HO69.own_lt (b:=b) h
  refine ah (av zk (bI Z) (ae.mono (dN HO69.view (by simp only [List.flatten_cons,List.flatten_nil,List.append_nil,List.length_append];omega)) ?_))
  rintro _ w70 ⟨HO70,⟨q70,c70,rfl⟩,e70⟩
  have:=e70.size
  have zo_HO70:=fun (b:Nat) h=>HO70.own_lt (b:=b) h
  refine aa (cF Z) (ac (bE (U (V (O zd (aa (bP Z) (aa (cF Z) (aa (ad Z) (ac ?_)))))))))
  refine U (aw (fu Z zq zq (bI Z) (bB Z) ?_))
  replace E:=((E.trans e68.keep).trans e69.keep).trans e70.keep
  refine ⟨?_,E⟩
  have h9:[aT 7,az key].flatten=eY (7,(rc,rn,ra),mv,en,an,key,g):=by simp [eY]
  rw [h9] at HO70
  simp only [h9]
  exact ⟨_,_,rfl,HO70.view.mono fun i _ h=>h.elim (fun h=>by omega) (fun h=>h.elim)⟩
 refine V (O zd (aa (aJ Z Z) ?_))
 refine aa (dl Z) (ac (U (am Z Z (fun h8=>?_) (fun h8=>?_))))
 ·
  obtain rfl:kn=8:=by have:=bl h8;omega
  obtain ⟨g1,g2,g3⟩:=mgr rfl
  have q1:=ec (l:=key) zo
  have q2:=bA (n:=g.toNat) zo
  refine cN zk ?_
  have e106:aX w12 { w12 with drawn:=w12.drawn + 1 }:=ao.drawn _ _
  generalize hw106:({ w12 with drawn:=w12.drawn + 1 }:World)=w106 at e106 ⊢
  clear hw106
  have:=e106.size
  refine bT 9 Z zd zd zd ?_
  refine cf (aP) zd zd ?_
  refine aB (fun ab w hR hd=>bP Z) ?_
  refine aB (fun ab w hR hd=>aA 18 28 Z) ?_
  replace HB31:=HB31.ext e106
  refine aB (fun ab w hR hd=>ag zk (hd 1 Z) (by first | exact (HB31.ext hR).pv 18 _ rfl | assumption)) ?_
  replace HSk:=HSk.ext e106
  refine cr (fun v W=>Bv W bj v (az key)) (fun v w w' h k=>h.ext k) (fun ab w hR hd=>av zk (hd 2 Z) (ae.mono (dT (HSk.ext hR) zo) fun v w1 ⟨h,_,e⟩=>⟨e,h.view.allB⟩)) ?_
  refine aB (fun ab w hR hd=>aA 19 3 Z) ?_
  refine aB (fun ab w hR hd=>ag zk (hd 4 Z) (by first | exact (HB31.ext hR).pv 19 _ rfl | assumption)) ?_
  refine cr (fun v W=>Bv W bj v (aT g.toNat)) (fun v w w' h k=>h.ext k) (fun ab w hR hd=>av zk (hd 5 Z) (ae.mono (lZ zo zo) fun v w1 ⟨h,_,e⟩=>⟨e,h.view.allB⟩)) ?_
  replace HS12:=HS12.ext e106
  refine cr (fun v W=>bs (dB cw) W bj v [aT 8,az key,aT g.toNat]) (fun v w w' h k=>h.ext k) (fun ab w hR hd=>po (et:=28) (bytes:=24) (z:=.slice none 0 0) zk (by unfold cQ;kernel_rfl) (hd 0 Z) (show _=ab 3 from Z) (show _=ab 6 from Z) (HS12.ext hR) (show Bv _ bj _ (az key) from hd 3 Z) (show Bv _ bj _ (aT g.toNat) from hd 6 Z) (fun b w1 hb HO e z=>⟨e,HO.view.allB⟩)) ?_
  refine cr (fun v W=>(∃ q c,v=.slice (some q) ([aT 8,az key,aT g.toNat].flatten).length c)∧ck cw iF W n4 aP v ([aT 8,az key,aT g.toNat].flatten)) (fun v w w' h k=>⟨h.1,h.2.ext k⟩) (fun ab w hR hd=>av zk (show _=ab 7 from Z) (ae.mono (dN (show bs (dB cw) _ bj _ [aT 8,az key,aT g.toNat] from hd 7 Z) (by simp only [List.flatten_cons,List.flatten_nil,List.append_nil,List.length_append];omega)) fun v w1 ⟨h,hv,e⟩=>⟨e,hv,h.base (by have:=hR.size;omega)⟩)) ?_
  refine bU (fun w107 e107=>?_)
  rintro _ rfl _ rfl _ rfl v76 hs76 _ rfl _ rfl v79 hs79 v80 hs80 v81 hs81
  have:=e107.size
  have hs81:(∃ q c,v81=.slice (some q) ([aT 8,az key,aT g.toNat].flatten).length c)∧ck cw iF _ n4 aP v81 ([aT 8,az key,aT g.toNat].flatten):=hs81
  obtain ⟨⟨q81,c81,rfl⟩,HO81⟩:=hs81
  refine bG (U (bZ zd Z ?_))
  refine aa (cF Z) (ac (bE (U (V (O zd (aa (bP Z) (aa (cF Z) (aa (ad Z) (ac ?_)))))))))
  refine U (aw (fu Z zq zq (bI Z) (bB Z) ?_))
  replace E:=(E.trans e106.keep).trans e107.keep
  refine ⟨?_,E⟩
  have h9:[aT 8,az key,aT g.toNat].flatten=eY (8,(rc,rn,ra),mv,en,an,key,g):=by simp [eY]
  rw [h9] at HO81
  simp only [h9]
  exact ⟨_,_,rfl,HO81.view.mono fun i _ h=>h.elim (fun h=>by omega) (fun h=>h.elim)⟩
 refine ar (bE (U (V (O zd (aa (bP Z) (aa (cF Z) (aa (ad Z) (ac (U ?_)))))))))
 refine aw (fu Z zq zq (bI Z) (bB Z) ?_)
 refine ⟨?_,E⟩
 obtain rfl:kn=1:=by
  have:=bf h2;have:=bf h3;have:=bf h5;have:=bf h9;have:=bf h10;have:=bf h4;have:=bf h6;have:=bf h7;have:=bf h8
  omega
 have h9:aT 1=eY (1,(rc,rn,ra),mv,en,an,key,g):=by simp [eY]
 rw [h9] at HO12
 simp only [h9]
 exact ⟨_,_,rfl,HO12.view.mono fun i _ h=>h.elim (fun h=>by omega) (fun h=>h.elim)⟩
end Go.Proofs.YteehplloacefmaaGreat

/- Steps and lemmas for the walks. -/
import Derived.Test.YteehplloacefmaaGreatM2
set_option linter.unusedVariables false
set_option linter.unusedSimpArgs false
set_option maxRecDepth 100000
namespace Go.Proofs.YteehplloacefmaaGreat
open Go.Vc
theorem lx {rs:List cO} {x:fy} {b:Bool} (hb:x.2=b) (h:(decide (dP (dH rs x.1.2.1) < 0) || !(kb rs (dH rs x.1.2.1)).2.2.1 == x.1.2.2.2.1 || !decide ((kb rs (dH rs x.1.2.1)).2.1=x.1.2.2.1) || !decide ((kb rs (dH rs x.1.2.1)).2.2.2=if b then x.1.2.2.2.2.2 else x.1.2.2.2.2.1))=true) (g:kz rs x=true):False:=by
  subst hb
  unfold kz at g
  rcases hb:dH rs x.1.2.1 with _ | i
  · rw [hb] at g;cases g
  · rw [hb] at g h
    simp only [Bool.and_eq_true,decide_eq_true_eq] at g
    have e1:kb rs (some i)=rs.getD i fV:=rfl
    rw [e1,g.1.1,g.1.2,g.2] at h
    have h0:¬ ((i:Int) < 0):=by omega
    simp [dP,h0] at h
theorem lw {rs:List cO} {x:fy} {b:Bool} (hb:x.2=b) (h:(decide (dP (dH rs x.1.2.1) < 0) || !(kb rs (dH rs x.1.2.1)).2.2.1 == x.1.2.2.2.1 || !decide ((kb rs (dH rs x.1.2.1)).2.1=x.1.2.2.1) || !decide ((kb rs (dH rs x.1.2.1)).2.2.2=if b then x.1.2.2.2.2.2 else x.1.2.2.2.2.1))=false):kz rs x=true:=by
  subst hb
  unfold kz
  rcases hb:dH rs x.1.2.1 with _ | i
  · rw [hb] at h;simp [dP] at h
  · rw [hb] at h
    have e1:kb rs (some i)=rs.getD i fV:=rfl
    rw [e1] at h
    simp only [Bool.or_eq_false_iff,Bool.not_eq_false',decide_eq_true_eq] at h
    obtain ⟨⟨⟨_,h1⟩,h2⟩,h3⟩:=h
    simp only [Bool.and_eq_true,decide_eq_true_eq]
    exact ⟨⟨by simpa using h1,h2⟩,h3⟩
theorem jx {w:World} {F:Nat→Prop} {v:Value} {e n:Int} {rs:List cO} {ms:List fy} (HG1:aY iK w F v ((e,rs),n,ms)):ae Tryz.prog 14 #[v] w (fun o w'=>o=.bool (dA ((e,rs),n,ms))∧aX w w'):=by
 obtain ⟨a,c,a2,c2,rfl,HSr,HSm,ie,im⟩:=HG1.mt
 simp only at HSr HSm ie im
 have HGm:=aY.mpOf HSr ie
 have hmx:=HSm.len_max
 have hcl:ms.length≤c2:=by obtain ⟨_,_,hv,hcl,_⟩:=HSm;cases hv;exact hcl
 clear HG1
 refine aL 116 Tryz.func14 Z Z (by simp) ?_
 refine V ?_
 have E:=ao.refl (K:=aP) w
 replace HSr:=HSr.all
 replace HSm:=HSm.all
 replace HGm:=HGm.all
 refine O zd (ah (aS (aZ Z) ?_))
 rintro b1 w1 zb1 HB1 e1 z1
 have:=e1.size
 try simp only [Value.cells] at HB1
 refine aa (ad Z) (ac (U (V (V (O zd (aa (aA 0 24 Z) (aa (ap zk Z (by first | exact (show Pv _ _ [_,_] from aN 0 2 HB1.pv) | exact bg 0 HB1.pv | assumption) Z) ?_)))))))
 replace HGm:=HGm.ext e1
 refine ah (av zk (aZ Z) (ae.mono (mL HGm) ?_))
 rintro _ w101 ⟨rfl,e101⟩
 have:=e101.size
 refine aa (cg Z) ?_
 refine aa (bH Z) (aj Z Z (fun hG=>aA 2 2 Z) ?_)
 replace HB1:=HB1.ext e101
 refine aj Z Z (fun hG=>ag zk (gd hG Z) (by first | exact HB1.pv 2 _ rfl | assumption)) ?_
 refine aj Z Z (fun hG=>bw (gd hG Z) Z) ?_
 refine aa (bF Z Z) ?_
 refine aa (bH Z) (aj Z Z (fun hG=>aA 2 2 Z) ?_)
 refine aj Z Z (fun hG=>ag zk (gd hG Z) (by first | exact HB1.pv 2 _ rfl | assumption)) ?_
 refine aj Z Z (fun hG=>bX (gd hG Z) Z) ?_
 refine aa (bF Z Z) ?_
 replace E:=(E.trans e1.keep).trans e101.keep
 replace HSr:=(HSr.ext e1).ext e101
 replace HSm:=(HSm.ext e1).ext e101
 replace HGm:=HGm.ext e101
 refine ac (U (am Z Z (fun h24=>?_) (fun h24=>?_)))
 ·
  refine V (O zd (aa (ad Z) (ac (U (aw (ay (aU Z zq (cE Z) ?_)))))))
  refine ⟨?_,E⟩
  congr 1;simp only [dA]
  rcases hm:cY (e,rs) with _ | _
  ·
   simp
  rw [hm] at h24
  have hx:n < 1∨2147483647 < n:=by simpa using h24
  have h1:(decide (1≤n) && decide (n≤2147483647))=false:=by rw [Bool.and_eq_false_iff,decide_eq_false_iff_not,decide_eq_false_iff_not];omega
  simp only [Bool.true_and,h1,Bool.false_and]
 have hq:cY (e,rs)=true∧1≤n∧n≤2147483647:=by
  rcases hm:cY (e,rs) with _ | _
  ·
   rw [hm] at h24;simp at h24
  rw [hm] at h24
  have hx:¬ n < 1∧¬ 2147483647 < n:=by simpa using h24
  exact ⟨rfl,by omega,by omega⟩
 have hres:dA ((e,rs),n,ms)=jG rs n ms:=by simp only [dA,hq.1,decide_eq_true hq.2.1,decide_eq_true hq.2.2,Bool.true_and]
 rw [hres]
 refine ar (U (V (V (O zd (aa (aA 3 25 Z) (aa (ag zk Z (by first | exact HB1.pv 3 _ rfl | assumption)) ?_))))))
 refine aa (ba (et:=55) zk Z) ?_
 refine aa (be Z) (ac (U (aO (cy (τ:=Nat) ([2,3,4,5,6,7,8,10,28,29,30,31,32,33,34,35] ++ [36,37,38,39,40,41,42,43,44,45,46,47,48,49,50,51] ++ [52,53,54,55,56,57,58,59,60,61,62,63,64,65,66,67] ++ [68,69,70,71,72,73,74,75,76,77,78,79,80,81,82,83] ++ [84,85,86,87,88,89,90,91,92,93,94,95,96,97,98,99] ++ [100,101,102,103,104,105,106,107,108,109,110,111,112,113,114,115]) (fun i=>[(28,.int .i64 i)]) (fun i W=>aX w W∧ao (aP) w101 W∧i≤ms.length∧∀ j,j < i→pF rs n ms j=true) (fun i=>ms.length - i) 0 (by exact ⟨rfl,trivial⟩) (by exact ⟨E,ao.refl _,Nat.zero_le _,fun j hj=>by omega⟩) ?_))))
 rintro i w102 j ⟨E,EL1,h1,h2⟩
 have:=EL1.size
 refine V (O zd (aa (bw Z Z) ?_))
 replace HSr:=HSr.ext EL1
 replace HSm:=HSm.ext EL1
 replace HGm:=HGm.ext EL1
 replace HB1:=HB1.ext EL1
 refine ac (U (V (am Z Z (fun hlt=>?_) (fun hlt=>?_))))
 ·
  have hlt:=bl hlt
  obtain ⟨x,hx,hdr⟩:=eC (l:=ms) (i:=i) zo
  obtain ⟨y,hy,_⟩:=eC (l:=ms) (i:=i - 1) zo
  obtain ⟨q,cs,hqq,hF,_,HPq,hr⟩:=HSm.el hx
  subst hqq
  have HG2:aY eQ _ _ _ x:=⟨cs,rfl,hr⟩
  obtain ⟨b3,d3,b5,d5,rfl,HSf,HSt,i1,i2,i3⟩:=cR hr
  have HG3:=aY.maMv HG2
  obtain ⟨q',cs',hq',hF',_,HPp,hr'⟩:=HSm.el hy
  cases hq'
  obtain ⟨b6,d6,b7,d7,rfl,_⟩:=cR hr'
  refine ar (U (V (aO (V (O zd (aa (aQ Z) (aa (aF (et:=55) (sz:=7) (k:=i) zk zk Z Z (by first | rfl | omega) zo) ?_)))))))
  have hwr:0 < i→IntKind.i64.wrap ((i:Int) - 1)=((i - 1:Nat):Int):=fun h=>by rw [bn zo zo];omega
  refine aa (ap zk Z (by first | exact HPp | exact HPq | exact HB1.pv | assumption) Z) ?_
  refine ah (aD (z:=(.agg #[.int .i64 0,.slice none 0 0,.slice none 0 0,.bool false,.int .i64 0,.int .i64 0,.bool false])) (by unfold aE;kernel_rfl) ?_)
  rintro b8 w8 zb8 HB8 e8 z8
  have:=e8.size
  try simp only [Value.cells] at HB8
  refine aa (bO Z) (ah (aq (n:=7) Z Z (aZ Z) zk Z cT HB8 bV ?_))
  rintro w103 HB8 k103 z103
  have:=k103.size
  try simp only [zS,Nat.zero_add,Nat.reduceAdd,List.drop_nil] at HB8
  replace HB1:=(HB1.ext e8).keep k103 aH
  replace HPq:=(HPq.ext e8).keep k103 (by intro h;(try dsimp only at h);(try simp only [au] at h);first | omega)
  replace HPp:=(HPp.ext e8).keep k103 (by intro h;(try dsimp only at h);(try simp only [au] at h);first | omega)
  refine ac (U (V (O zd (aa (aA 0 46 Z) (aa (ap zk Z (by first | exact (show Pv _ _ [_,_,_,_,_,_] from aN 0 6 HB8.pv) | exact (show Pv _ _ [_,_,_,_,_,_] from aN 0 6 HPp) | exact (show Pv _ _ [_,_,_,_,_,_] from aN 0 6 HPq) | exact (show Pv _ _ [_,_,_,_,_,_] from aN 0 6 HB1.pv) | exact bg 0 HB8.pv | exact bg 0 HPp | exact bg 0 HPq | exact bg 0 HB1.pv | exact HPp | exact HPq | assumption) Z) ?_)))))
  refine ah (aD (z:=(.agg #[.int .i64 0,.slice none 0 0,.slice none 0 0,.bool false,.int .i64 0,.int .i64 0])) (by unfold aE;kernel_rfl) ?_)
  rintro b9 w9 zb9 HB9 e9 z9
  have:=e9.size
  try simp only [Value.cells] at HB9
  refine ah (aq (n:=6) Z Z (aZ Z) zk Z cT HB9 bV ?_)
  rintro w104 HB9 k104 z104
  have:=k104.size
  try simp only [zS,Nat.zero_add,Nat.reduceAdd,List.drop_nil] at HB9
  refine ac (U (V (V (dx (aP) zk zd zd ?_))))
  replace HB1:=(HB1.ext e9).keep k104 aH
  replace HPq:=(HPq.ext e9).keep k104 (by intro h;(try dsimp only at h);(try simp only [au] at h);first | omega)
  replace HPp:=(HPp.ext e9).keep k104 (by intro h;(try dsimp only at h);(try simp only [au] at h);first | omega)
  replace HB8:=(HB8.ext e9).keep k104 aH
  refine aB (fun ab w hR hd=>ap zk Z (by first | exact (HB9.ext hR).pv | exact (HB8.ext hR).pv | exact (HPp.ext hR) | exact (HPq.ext hR) | exact (HB1.ext hR).pv | assumption) Z) ?_
  replace HG3:=(((HG3.ext e8).keep k103 aC).ext e9).keep k104 aC
  refine kY (fun ab w hR hd=>av zk (hd 0 Z) (gr (HG3.ext hR))) ?_
  refine aB (fun ab w hR hd=>cg (hd 1 Z)) ?_
  refine aB (fun ab w hR hd=>be (t:=.bool _) (hd 2 Z)) ?_
  refine bh Z (fun ab w hd=>hd 3 Z) (fun ab w hR hd hG=>aA 0 2 Z) ?_
  refine bh Z (fun ab w hd=>hd 3 Z) (fun ab w hR hd hG=>ag zk (gd hG (hd 4 Z)) (by first | exact (HB9.ext hR).pv 0 _ rfl | exact (HB8.ext hR).pv 0 _ rfl | exact (HPp.ext hR) 0 _ rfl | exact (HPq.ext hR) 0 _ rfl | exact (HB1.ext hR).pv 0 _ rfl | assumption)) ?_
  refine bh Z (fun ab w hd=>hd 3 Z) (fun ab w hR hd hG=>aA 2 2 Z) ?_
  refine bh Z (fun ab w hd=>hd 3 Z) (fun ab w hR hd hG=>ag zk (gd hG (hd 6 Z)) (by first | exact (HB9.ext hR).pv 2 _ rfl | exact (HB8.ext hR).pv 2 _ rfl | exact (HPp.ext hR) 2 _ rfl | exact aK (HPp.ext hR) | exact (HPq.ext hR) 2 _ rfl | exact aK (HPq.ext hR) | exact (HB1.ext hR).pv 2 _ rfl | assumption)) ?_
  refine bh Z (fun ab w hd=>hd 3 Z) (fun ab w hR hd hG=>fc (gd hG (hd 5 Z)) (gd hG (hd 7 Z))) ?_
  refine aB (fun ab w hR hd=>bF (hd 3 Z) (hd 8 Z)) ?_
  refine aB (fun ab w hR hd=>be (t:=.bool _) (hd 9 Z)) ?_
  refine bh Z (fun ab w hd=>hd 10 Z) (fun ab w hR hd hG=>aQ Z) ?_
  refine bh Z (fun ab w hd=>hd 10 Z) (fun ab w hR hd hG=>bX (gd hG (hd 11 Z)) Z) ?_
  refine bh Z (fun ab w hd=>hd 10 Z) (fun ab w hR hd hG=>be (t:=.bool _) (gd hG (hd 12 Z))) ?_
  refine db Z (fun ab w hd=>hd 13 Z) (fun ab w hR hd hG=>aA 3 25 Z) ?_
  refine db Z (fun ab w hd=>hd 13 Z) (fun ab w hR hd hG=>ag zk (gd hG (hd 14 Z)) (by first | exact (HB9.ext hR).pv 3 _ rfl | exact (HB8.ext hR).pv 3 _ rfl | exact (HPp.ext hR) 3 _ rfl | exact aK (HPp.ext hR) | exact (HPq.ext hR) 3 _ rfl | exact aK (HPq.ext hR) | exact (HB1.ext hR).pv 3 _ rfl | assumption)) ?_
  refine db Z (fun ab w hd=>hd 13 Z) (fun ab w hR hd hG=>aQ Z) ?_
  refine db Z (fun ab w hd=>hd 13 Z) (fun ab w hR hd hG=>iE (gd hG (hd 16 Z)) Z (by first | exact bn zo zo | rfl)) ?_
  refine db Z (fun ab w hd=>hd 13 Z) (fun ab w hR hd hG=>aF (et:=55) (sz:=7) (k:=i - 1) zk zk (gd hG (hd 15 Z)) (gd hG (hd 17 Z)) (by (have h:=hG;simp at h;first|exact hwr zo|omega|(have:=hwr zo;exact this))) zo) ?_
  refine db Z (fun ab w hd=>hd 13 Z) (fun ab w hR hd hG=>aA 0 46 (gd hG (hd 18 Z))) ?_
  refine db Z (fun ab w hd=>hd 13 Z) (fun ab w hR hd hG=>aA 0 2 (gd hG (hd 19 Z))) ?_
  refine db Z (fun ab w hd=>hd 13 Z) (fun ab w hR hd hG=>ag zk (gd hG (hd 20 Z)) (by first | exact (HB9.ext hR).pv 0 _ rfl | exact (HB8.ext hR).pv 0 _ rfl | exact (HPp.ext hR) 0 _ rfl | exact (HPq.ext hR) 0 _ rfl | exact (HB1.ext hR).pv 0 _ rfl | assumption)) ?_
  refine db Z (fun ab w hd=>hd 13 Z) (fun ab w hR hd hG=>aA 0 2 Z) ?_
  refine db Z (fun ab w hd=>hd 13 Z) (fun ab w hR hd hG=>ag zk (gd hG (hd 22 Z)) (by first | exact (HB9.ext hR).pv 0 _ rfl | exact (HB8.ext hR).pv 0 _ rfl | exact (HPp.ext hR) 0 _ rfl | exact (HPq.ext hR) 0 _ rfl | exact (HB1.ext hR).pv 0 _ rfl | assumption)) ?_
  refine db Z (fun ab w hd=>hd 13 Z) (fun ab w hR hd hG=>fc (gd hG (hd 21 Z)) (gd hG (hd 23 Z))) ?_
  refine bh Z (fun ab w hd=>hd 10 Z) (fun ab w hR hd hG=>bu (gd hG (hd 13 Z)) (sY hG (hd 24 Z))) ?_
  refine aB (fun ab w hR hd=>bF (hd 10 Z) (hd 25 Z)) ?_
  refine bU (fun w105 e105=>?_)
  replace HSr:=(((HSr.ext e8).keep k103 aC).ext e9).keep k104 aC
  replace HSm:=(((HSm.ext e8).keep k103 aC).ext e9).keep k104 aC
  replace HGm:=(((HGm.ext e8).keep k103 aC).ext e9).keep k104 aC
  replace HSf:=(((HSf.ext e8).keep k103 aC).ext e9).keep k104 aC
  replace HSt:=(((HSt.ext e8).keep k103 aC).ext e9).keep k104 aC
  rintro _ rfl _ rfl _ rfl _ rfl _ rfl _ rfl _ rfl _ rfl _ rfl _ rfl _ rfl _ rfl _ rfl _ rfl _ rfl _ rfl _ rfl _ rfl _ rfl _ rfl _ rfl _ rfl _ rfl _ rfl _ rfl _ rfl _ rfl
  have:=e105.size
  replace E:=((((E.trans e8.keep).step k103 bi).trans e9.keep).step k104 bi).trans e105.keep
  replace EL1:=((((EL1.trans e8.keep).step k103 bi).trans e9.keep).step k104 bi).trans e105.keep
  replace HSr:=HSr.ext e105
  replace HSm:=HSm.ext e105
  replace HGm:=HGm.ext e105
  replace HB1:=HB1.ext e105
  replace HPq:=HPq.ext e105
  replace HSf:=HSf.ext e105
  replace HSt:=HSt.ext e105
  replace HG3:=HG3.ext e105
  replace HPp:=HPp.ext e105
  replace HB8:=HB8.ext e105
  replace HB9:=HB9.ext e105
  refine bG (U (am Z Z (fun h61=>?_) (fun h61=>?_)))
  ·
   refine V (O zd (aa (ad Z) (ac (U (aw (ay (bz (ay (ay ?_)))))))))
   refine bz (ay (aU Z zq (cE Z) ?_))
   refine ⟨?_,E⟩
   congr 1;symm;refine iY (i:=i) zo ?_;rw [Bool.eq_false_iff];intro h
   obtain ⟨⟨g1,g2,_⟩,g3,_⟩:=(go hx).1 h
   have g4:0 < i→y.1.1 < x.1.1:=fun h0=>g3 (i - 1) y zo hy
   rw [g1] at h61
   have:¬ n≤x.1.1:=by omega
   by_cases h0:0 < i
   ·
    have:=g4 h0;simp at h61;omega
   simp at h61;omega
  have hgd:di x.1=true∧x.1.1 < n∧(0 < i→y.1.1 < x.1.1):=by
   rcases hm:di x.1 with _ | _
   ·
    rw [hm] at h61;simp at h61
   rw [hm] at h61;refine ⟨rfl,?_,fun h0=>?_⟩ <;> (simp at h61;omega)
  refine ar (U (V (O zd (aa (aA 0 24 Z) (aa (ap zk Z (by first | exact (show Pv _ _ [_,_] from aN 0 2 HB9.pv) | exact (show Pv _ _ [_,_] from aN 0 2 HB8.pv) | exact (show Pv _ _ [_,_] from aN 0 2 HPp) | exact (show Pv _ _ [_,_] from aN 0 2 HPq) | exact (show Pv _ _ [_,_] from aN 0 2 HB1.pv) | exact bg 0 HB9.pv | exact bg 0 HB8.pv | exact bg 0 HPp | exact bg 0 HPq | exact bg 0 HB1.pv | exact HPp | exact HPq | assumption) Z) ?_)))))
  refine aa (aA 1 28 Z) (aa (ag zk Z (by first | exact HB9.pv 1 _ rfl | exact HB8.pv 1 _ rfl | exact HPp 1 _ rfl | exact aK HPp | exact HPq 1 _ rfl | exact aK HPq | exact HB1.pv 1 _ rfl | assumption)) ?_)
  refine ah (aW zk (aZ Z) (bI Z) (ae.mono (wz HGm HSf) ?_))
  rintro _ w62 ⟨⟨u,rfl,HGu⟩,e62⟩
  have:=e62.size
  obtain ⟨a6,c6,a7,c7,rfl,HSuf,HSut,hgu⟩:=HGu.rg
  refine aa (dY Z) (aa (ai (t:=.agg _) Z Z) (aa (ai (t:=.int _ _) Z Z) (ah (aD (z:=(.agg #[.slice none 0 0,.slice none 0 0,.bool false,.int .i64 0])) (by unfold aE;kernel_rfl) ?_))))
  rintro b10 w10 zb10 HB10 e10 z10
  have:=e10.size
  try simp only [Value.cells] at HB10
  obtain ⟨xc,hxc⟩:∃ b,b=x.2:=⟨_,rfl⟩
  obtain ⟨g,hg⟩:∃ g,g=if x.2 then x.1.2.2.2.2.2 else x.1.2.2.2.2.1:=⟨_,rfl⟩
  refine ah (aq (n:=4) Z Z (aZ Z) zk Z cT HB10 bV ?_)
  rintro w106 HB10 k106 z106
  have:=k106.size
  try simp only [zS,Nat.zero_add,Nat.reduceAdd,List.drop_nil] at HB10
  replace HB1:=((HB1.ext e62).ext e10).keep k106 aH
  replace HPq:=((HPq.ext e62).ext e10).keep k106 (by intro h;(try dsimp only at h);(try simp only [au] at h);first | omega)
  replace HPp:=((HPp.ext e62).ext e10).keep k106 (by intro h;(try dsimp only at h);(try simp only [au] at h);first | omega)
  replace HB8:=((HB8.ext e62).ext e10).keep k106 aH
  replace HB9:=((HB9.ext e62).ext e10).keep k106 aH
  refine aa (bO Z) (ac (U (V (O zd (aa (aA 4 3 Z) (aa (ag zk Z (by first | exact HB10.pv 4 _ rfl | exact HB9.pv 4 _ rfl | exact HB8.pv 4 _ rfl | exact HPp 4 _ rfl | exact aK HPp | exact HPq 4 _ rfl | exact aK HPq | exact HB1.pv 4 _ rfl | assumption)) ?_))))))
  refine aa (bO Z) (ac (U (V (V (O zd (aa (aA 6 4 Z) (aa (ag zk Z (by first | exact HB10.pv 6 _ rfl | exact HB9.pv 6 _ rfl | exact HB8.pv 6 _ rfl | exact HPp 6 _ rfl | exact aK HPp | exact HPq 6 _ rfl | exact aK HPq | exact HB1.pv 6 _ rfl | assumption)) ?_)))))))
  replace E:=((E.trans e62.keep).trans e10.keep).step k106 bi
  replace HSr:=((HSr.ext e62).ext e10).keep k106 aC
  replace HSm:=((HSm.ext e62).ext e10).keep k106 aC
  replace HGm:=((HGm.ext e62).ext e10).keep k106 aC
  replace EL1:=((EL1.trans e62.keep).trans e10.keep).step k106 bi
  replace HSf:=((HSf.ext e62).ext e10).keep k106 aC
  replace HSt:=((HSt.ext e62).ext e10).keep k106 aC
  replace HG3:=((HG3.ext e62).ext e10).keep k106 aC
  replace HGu:=(HGu.ext e10).keep k106 aC
  replace HSuf:=(HSuf.ext e10).keep k106 aC
  replace HSut:=(HSut.ext e10).keep k106 aC
  refine ac (U (am Z Z (fun h73=>?_) (fun h73=>?_)))
  ·
   refine O zd (aa (aA 5 3 Z) (aa (ag zk Z (by first | exact HB10.pv 5 _ rfl | exact HB9.pv 5 _ rfl | exact HB8.pv 5 _ rfl | exact HPp 5 _ rfl | exact aK HPp | exact HPq 5 _ rfl | exact aK HPq | exact HB1.pv 5 _ rfl | assumption)) ?_))
   refine aa (bO Z) (ac (U (V (V (O zd (aa (aQ Z) (aa (bw Z Z) ?_)))))))
   refine aa (bH Z) (aj Z Z (fun hG=>aA 2 4 Z) ?_)
   refine aj Z Z (fun hG=>ag zk (gd hG Z) (by first | exact HB10.pv 2 _ rfl | exact HB9.pv 2 _ rfl | exact HB8.pv 2 _ rfl | exact HPp 2 _ rfl | exact aK HPp | exact HPq 2 _ rfl | exact aK HPq | exact HB1.pv 2 _ rfl | assumption)) ?_
   refine aj Z Z (fun hG=>aA 3 4 Z) ?_
   refine aj Z Z (fun hG=>ag zk (gd hG Z) (by first | exact HB10.pv 3 _ rfl | exact HB9.pv 3 _ rfl | exact HB8.pv 3 _ rfl | exact HPp 3 _ rfl | exact aK HPp | exact HPq 3 _ rfl | exact aK HPq | exact HB1.pv 3 _ rfl | assumption)) ?_
   refine aj Z Z (fun hG=>gU zk (gd hG Z) (gd hG Z)) ?_
   refine aa (bF Z Z) ?_
   refine aa (bH Z) (aj Z Z (fun hG=>aA 1 28 Z) ?_)
   refine aj Z Z (fun hG=>ag zk (gd hG Z) (by first | exact HB10.pv 1 _ rfl | exact HB9.pv 1 _ rfl | exact HB8.pv 1 _ rfl | exact HPp 1 _ rfl | exact aK HPp | exact HPq 1 _ rfl | exact aK HPq | exact HB1.pv 1 _ rfl | assumption)) ?_
   refine aj Z Z (fun hG=>aA 2 28 Z) ?_
   refine aj Z Z (fun hG=>ag zk (gd hG Z) (by first | exact HB10.pv 2 _ rfl | exact HB9.pv 2 _ rfl | exact HB8.pv 2 _ rfl | exact HPp 2 _ rfl | exact aK HPp | exact HPq 2 _ rfl | exact aK HPq | exact HB1.pv 2 _ rfl | assumption)) ?_
   refine cI Z Z (fun hG=>aW zk (gd hG Z) (gd hG Z) (dI HSut HSt)) ?_
   rintro w107 e107
   have:=e107.size
   refine aj Z Z (fun hG=>cg (gd hG Z)) ?_
   refine aa (bF Z Z) ?_
   refine aa (bH Z) (aj Z Z (fun hG=>aA 3 3 Z) ?_)
   replace HB1:=HB1.ext e107
   replace HPq:=HPq.ext e107
   replace HPp:=HPp.ext e107
   replace HB8:=HB8.ext e107
   replace HB9:=HB9.ext e107
   replace HB10:=HB10.ext e107
   refine aj Z Z (fun hG=>ag zk (gd hG Z) (by first | exact HB10.pv 3 _ rfl | exact HB9.pv 3 _ rfl | exact HB8.pv 3 _ rfl | exact HPp 3 _ rfl | exact aK HPp | exact HPq 3 _ rfl | exact aK HPq | exact HB1.pv 3 _ rfl | assumption)) ?_
   refine aj Z Z (fun hG=>aQ Z) (aj Z Z (fun hG=>bD (gd hG Z) (gd hG Z)) ?_)
   refine aa (bF Z Z) ?_
   replace E:=E.trans e107.keep
   replace HSr:=HSr.ext e107
   replace HSm:=HSm.ext e107
   replace HGm:=HGm.ext e107
   replace EL1:=EL1.trans e107.keep
   replace HSf:=HSf.ext e107
   replace HSt:=HSt.ext e107
   replace HG3:=HG3.ext e107
   replace HGu:=HGu.ext e107
   replace HSuf:=HSuf.ext e107
   replace HSut:=HSut.ext e107
   refine ac (U (am Z Z (fun h98=>?_) (fun h98=>?_)))
   ·
    refine V (O zd (aa (ad Z) (ac (U (aw (ay (bz (ay (ay ?_)))))))))
    refine bz (ay (aU Z zq (cE Z) ?_))
    refine ⟨?_,E⟩
    congr 1;symm;refine iY (i:=i) zo ?_;rw [Bool.eq_false_iff];intro h
    have g:=((go hx).1 h).1.2.2
    exact lx h73 h98 g
   refine ar (U (V (O zd (aa (aA 3 25 Z) (aa (ag zk Z (by first | exact HB10.pv 3 _ rfl | exact HB9.pv 3 _ rfl | exact HB8.pv 3 _ rfl | exact HPp 3 _ rfl | exact aK HPp | exact HPq 3 _ rfl | exact aK HPq | exact HB1.pv 3 _ rfl | assumption)) ?_)))))
   refine aa (aQ Z) (aa (eZ (et:=55) (sz:=7) (h:=i) zk zk Z Z (by first | rfl | omega) zo) ?_)
   refine aa (ba (et:=55) zk Z) ?_
   refine aa (be Z) (ac (U (aO (cy (τ:=Nat) [2,10,104,105,106,107,108,109,110,111,112,113,114] (fun k=>[(104,.int .i64 k)]) (fun k W=>aX w W∧ao (aP) w107 W∧k≤i∧∀ z ∈ ms.take k,z.1.2.1≠x.1.2.1) (fun k=>i - k) 0 (by exact ⟨rfl,trivial⟩) (by exact ⟨E,ao.refl _,Nat.zero_le _,fun z hz=>by simp at hz⟩) ?_))))
   rintro k w108 j ⟨E,EL2,h3,h4⟩
   have:=EL2.size
   refine V (O zd (aa (bw Z Z) ?_))
   replace HSr:=HSr.ext EL2
   replace HSm:=HSm.ext EL2
   replace HGm:=HGm.ext EL2
   replace HB1:=HB1.ext EL2
   replace EL1:=EL1.trans EL2.keep
   replace HPq:=HPq.ext EL2
   replace HSf:=HSf.ext EL2
   replace HSt:=HSt.ext EL2
   replace HG3:=HG3.ext EL2
   replace HPp:=HPp.ext EL2
   replace HB8:=HB8.ext EL2
   replace HB9:=HB9.ext EL2
   replace HGu:=HGu.ext EL2
   replace HSuf:=HSuf.ext EL2
   replace HSut:=HSut.ext EL2
   replace HB10:=HB10.ext EL2
   refine ac (U (V (am Z Z (fun h105=>?_) (fun h105=>?_))))
   ·
    have h105:=bl h105
    obtain ⟨z,hz,_⟩:=eC (l:=ms) (i:=k) zo
    obtain ⟨q2,cs2,hq2,hF2,_,HPz,hrz⟩:=HSm.el hz
    cases hq2
    obtain ⟨b11,d11,b12,d12,rfl,HSzf,_⟩:=cR hrz
    refine ar (U (V (aO (V (O zd (aa (aF (et:=55) (sz:=7) (k:=k) zk zk Z Z (by first | rfl | omega) zo) ?_))))))
    refine aa (ap zk Z (by first | exact HPz | exact HB10.pv | exact HB9.pv | exact HB8.pv | exact HPp | exact HPq | exact HB1.pv | assumption) Z) ?_
    refine ah (aD (z:=(.agg #[.int .i64 0,.slice none 0 0,.slice none 0 0,.bool false,.int .i64 0,.int .i64 0,.bool false])) (by unfold aE;kernel_rfl) ?_)
    rintro b13 w13 zb13 HB13 e13 z13
    have:=e13.size
    try simp only [Value.cells] at HB13
    refine ah (aq (n:=7) Z Z (aZ Z) zk Z cT HB13 bV ?_)
    rintro w109 HB13 k109 z109
    have:=k109.size
    try simp only [zS,Nat.zero_add,Nat.reduceAdd,List.drop_nil] at HB13
    replace HB1:=(HB1.ext e13).keep k109 aH
    replace HPq:=(HPq.ext e13).keep k109 (by intro h;(try dsimp only at h);(try simp only [au] at h);first | omega)
    replace HPp:=(HPp.ext e13).keep k109 (by intro h;(try dsimp only at h);(try simp only [au] at h);first | omega)
    replace HB8:=(HB8.ext e13).keep k109 aH
    replace HB9:=(HB9.ext e13).keep k109 aH
    replace HB10:=(HB10.ext e13).keep k109 aH
    replace HPz:=(HPz.ext e13).keep k109 (by intro h;(try dsimp only at h);(try simp only [au] at h);first | omega)
    refine ac (U (V (O zd (aa (aA 0 46 Z) (aa (aA 1 28 Z) (aa (ag zk Z (by first | exact HB13.pv 1 _ rfl | exact HPz 1 _ rfl | exact aK HPz | exact HB10.pv 1 _ rfl | exact HB9.pv 1 _ rfl | exact HB8.pv 1 _ rfl | exact HPp 1 _ rfl | exact aK HPp | exact HPq 1 _ rfl | exact aK HPq | exact HB1.pv 1 _ rfl | assumption)) ?_))))))
    refine aa (aA 1 28 Z) (aa (ag zk Z (by first | exact HB13.pv 1 _ rfl | exact HPz 1 _ rfl | exact aK HPz | exact HB10.pv 1 _ rfl | exact HB9.pv 1 _ rfl | exact HB8.pv 1 _ rfl | exact HPp 1 _ rfl | exact aK HPp | exact HPq 1 _ rfl | exact aK HPq | exact HB1.pv 1 _ rfl | assumption)) ?_)
    replace HSf:=(HSf.ext e13).keep k109 aC
    replace HSzf:=(HSzf.ext e13).keep k109 aC
    refine ah (aW zk (bI Z) (bI Z) (ae.mono (dI HSzf HSf) ?_))
    replace HSr:=(HSr.ext e13).keep k109 aC
    replace HSm:=(HSm.ext e13).keep k109 aC
    replace HGm:=(HGm.ext e13).keep k109 aC
    replace HSt:=(HSt.ext e13).keep k109 aC
    replace HG3:=(HG3.ext e13).keep k109 aC
    replace HGu:=(HGu.ext e13).keep k109 aC
    replace HSuf:=(HSuf.ext e13).keep k109 aC
    replace HSut:=(HSut.ext e13).keep k109 aC
    rintro _ w110 ⟨rfl,e110⟩
    have:=e110.size
    replace E:=((E.trans e13.keep).step k109 bi).trans e110.keep
    replace EL1:=((EL1.trans e13.keep).step k109 bi).trans e110.keep
    replace EL2:=((EL2.trans e13.keep).step k109 bi).trans e110.keep
    replace HSr:=HSr.ext e110
    replace HSm:=HSm.ext e110
    replace HGm:=HGm.ext e110
    replace HB1:=HB1.ext e110
    replace HPq:=HPq.ext e110
    replace HSf:=HSf.ext e110
    replace HSt:=HSt.ext e110
    replace HG3:=HG3.ext e110
    replace HPp:=HPp.ext e110
    replace HB8:=HB8.ext e110
    replace HB9:=HB9.ext e110
    replace HGu:=HGu.ext e110
    replace HSuf:=HSuf.ext e110
    replace HSut:=HSut.ext e110
    replace HB10:=HB10.ext e110
    replace HPz:=HPz.ext e110
    replace HSzf:=HSzf.ext e110
    replace HB13:=HB13.ext e110
    refine ac (U (am Z Z (fun h113=>?_) (fun h113=>?_)))
    ·
     refine V (O zd (aa (ad Z) (ac (U (aw (bz (ay (ay (bz ?_)))))))))
     refine bz (ay (ay (bz (ay (aU Z zq (cE Z) ?_)))))
     refine ⟨?_,E⟩
     congr 1;symm;refine iY (i:=i) zo ?_;rw [Bool.eq_false_iff];intro h
     exact ((go hx).1 h).2.2 z (List.mem_of_getElem? (i:=k) (by rw [List.getElem?_take_of_lt zo];exact hz)) (by simpa using h113)
    refine ar (bE (U (O zd (aa (cn Z Z (by first | exact bn zo zo | rfl)) ?_))))
    refine aa (aQ Z) (ac (U (⟨k + 1,_,rfl,by (repeat (first | exact cD.of_over _ _ _ | refine cD.upd ?_ zq _ | refine cD.overs ?_ zq _)),⟨by first | rfl | exact congrArg (Value.int _) zo | (simp;done),trivial⟩,⟨E,EL2,?_⟩,?_⟩)))
    ·
     refine ⟨by omega,fun u hu=>?_⟩
     rw [List.take_add_one,hz] at hu
     rcases List.mem_append.1 hu with hu | hu
     ·
      exact h4 u hu
     obtain rfl:u=z:=by simpa using hu
     simpa using h113
    (dsimp only;omega)
   refine cl (bm (bm (cV (bE (U (O zd (aa (cn Z Z (by first | exact bn zo zo | rfl)) ?_)))))))
   refine aa (aQ Z) (ac (U (⟨i + 1,_,rfl,by (repeat' (first | exact cD.of_over _ _ _ | refine cD.upd ?_ zq _ | refine cD.overs ?_ zq _)),⟨by first | rfl | exact congrArg (Value.int _) zo | (simp;done),trivial⟩,⟨E,EL1,?_⟩,?_⟩)))
   ·
    have hk:k=i:=by have:=bf h105;omega
    refine ⟨by omega,fun j hj=>?_⟩
    rcases Nat.lt_or_ge j i with hji | hji
    ·
     exact h2 j hji
    obtain rfl:j=i:=by omega
    refine (go hx).2 ⟨⟨hgd.1,hgd.2.1,lw h73 h98⟩,fun j2 y2 hj2 hy2=>?_,fun z hz=>h4 z (by rw [hk];exact hz)⟩
    subst hj2;simp only [Nat.add_sub_cancel] at hy;rw [hy] at hy2;cases hy2;exact hgd.2.2 zo
   (dsimp only;omega)
  refine ar (U (V (V (O zd (aa (aQ Z) (aa (bw Z Z) ?_))))))
  refine aa (bH Z) (aj Z Z (fun hG=>aA 2 4 Z) ?_)
  refine aj Z Z (fun hG=>ag zk (gd hG Z) (by first | exact HB10.pv 2 _ rfl | exact HB9.pv 2 _ rfl | exact HB8.pv 2 _ rfl | exact HPp 2 _ rfl | exact aK HPp | exact HPq 2 _ rfl | exact aK HPq | exact HB1.pv 2 _ rfl | assumption)) ?_
  refine aj Z Z (fun hG=>aA 3 4 Z) ?_
  refine aj Z Z (fun hG=>ag zk (gd hG Z) (by first | exact HB10.pv 3 _ rfl | exact HB9.pv 3 _ rfl | exact HB8.pv 3 _ rfl | exact HPp 3 _ rfl | exact aK HPp | exact HPq 3 _ rfl | exact aK HPq | exact HB1.pv 3 _ rfl | assumption)) ?_
  refine aj Z Z (fun hG=>gU zk (gd hG Z) (gd hG Z)) ?_
  refine aa (bF Z Z) ?_
  refine aa (bH Z) (aj Z Z (fun hG=>aA 1 28 Z) ?_)
  refine aj Z Z (fun hG=>ag zk (gd hG Z) (by first | exact HB10.pv 1 _ rfl | exact HB9.pv 1 _ rfl | exact HB8.pv 1 _ rfl | exact HPp 1 _ rfl | exact aK HPp | exact HPq 1 _ rfl | exact aK HPq | exact HB1.pv 1 _ rfl | assumption)) ?_
  refine aj Z Z (fun hG=>aA 2 28 Z) ?_
  refine aj Z Z (fun hG=>ag zk (gd hG Z) (by first | exact HB10.pv 2 _ rfl | exact HB9.pv 2 _ rfl | exact HB8.pv 2 _ rfl | exact HPp 2 _ rfl | exact aK HPp | exact HPq 2 _ rfl | exact aK HPq | exact HB1.pv 2 _ rfl | assumption)) ?_
  refine cI Z Z (fun hG=>aW zk (gd hG Z) (gd hG Z) (dI HSut HSt)) ?_
  rintro w111 e111
  have:=e111.size
  refine aj Z Z (fun hG=>cg (gd hG Z)) ?_
  refine aa (bF Z Z) ?_
  refine aa (bH Z) (aj Z Z (fun hG=>aA 3 3 Z) ?_)
  replace HB1:=HB1.ext e111
  replace HPq:=HPq.ext e111
  replace HPp:=HPp.ext e111
  replace HB8:=HB8.ext e111
  replace HB9:=HB9.ext e111
  replace HB10:=HB10.ext e111
  refine aj Z Z (fun hG=>ag zk (gd hG Z) (by first | exact HB10.pv 3 _ rfl | exact HB9.pv 3 _ rfl | exact HB8.pv 3 _ rfl | exact HPp 3 _ rfl | exact aK HPp | exact HPq 3 _ rfl | exact aK HPq | exact HB1.pv 3 _ rfl | assumption)) ?_
  refine aj Z Z (fun hG=>aQ Z) (aj Z Z (fun hG=>bD (gd hG Z) (gd hG Z)) ?_)
  refine aa (bF Z Z) ?_
  replace E:=E.trans e111.keep
  replace HSr:=HSr.ext e111
  replace HSm:=HSm.ext e111
  replace HGm:=HGm.ext e111
  replace EL1:=EL1.trans e111.keep
  replace HSf:=HSf.ext e111
  replace HSt:=HSt.ext e111
  replace HG3:=HG3.ext e111
  replace HGu:=HGu.ext e111
  replace HSuf:=HSuf.ext e111
  replace HSut:=HSut.ext e111
  refine ac (U (am Z Z (fun h98=>?_) (fun h98=>?_)))
  ·
   refine V (O zd (aa (ad Z) (ac (U (aw (ay (bz (ay (ay ?_)))))))))
   refine bz (ay (aU Z zq (cE Z) ?_))
   refine ⟨?_,E⟩
   congr 1;symm;refine iY (i:=i) zo ?_;rw [Bool.eq_false_iff];intro h
   have g:=((go hx).1 h).1.2.2
   exact lx h73 h98 g
  refine ar (U (V (O zd (aa (aA 3 25 Z) (aa (ag zk Z (by first | exact HB10.pv 3 _ rfl | exact HB9.pv 3 _ rfl | exact HB8.pv 3 _ rfl | exact HPp 3 _ rfl | exact aK HPp | exact HPq 3 _ rfl | exact aK HPq | exact HB1.pv 3 _ rfl | assumption)) ?_)))))
  refine aa (aQ Z) (aa (eZ (et:=55) (sz:=7) (h:=i) zk zk Z Z (by first | rfl | omega) zo) ?_)
  refine aa (ba (et:=55) zk Z) ?_
  refine aa (be Z) (ac (U (aO (cy (τ:=Nat) [2,10,104,105,106,107,108,109,110,111,112,113,114] (fun k=>[(104,.int .i64 k)]) (fun k W=>aX w W∧ao (aP) w111 W∧k≤i∧∀ z ∈ ms.take k,z.1.2.1≠x.1.2.1) (fun k=>i - k) 0 (by exact ⟨rfl,trivial⟩) (by exact ⟨E,ao.refl _,Nat.zero_le _,fun z hz=>by simp at hz⟩) ?_))))
  rintro k w112 j ⟨E,EL3,h3,h4⟩
  have:=EL3.size
  refine V (O zd (aa (bw Z Z) ?_))
  replace HSr:=HSr.ext EL3
  replace HSm:=HSm.ext EL3
  replace HGm:=HGm.ext EL3
  replace HB1:=HB1.ext EL3
  replace EL1:=EL1.trans EL3.keep
  replace HPq:=HPq.ext EL3
  replace HSf:=HSf.ext EL3
  replace HSt:=HSt.ext EL3
  replace HG3:=HG3.ext EL3
  replace HPp:=HPp.ext EL3
  replace HB8:=HB8.ext EL3
  replace HB9:=HB9.ext EL3
  replace HGu:=HGu.ext EL3
  replace HSuf:=HSuf.ext EL3
  replace HSut:=HSut.ext EL3
  replace HB10:=HB10.ext EL3
  refine ac (U (V (am Z Z (fun h105=>?_) (fun h105=>?_))))
  ·
   have h105:=bl h105
   obtain ⟨z,hz,_⟩:=eC (l:=ms) (i:=k) zo
   obtain ⟨q2,cs2,hq2,hF2,_,HPz,hrz⟩:=HSm.el hz
   cases hq2
   obtain ⟨b11,d11,b12,d12,rfl,HSzf,_⟩:=cR hrz
   refine ar (U (V (aO (V (O zd (aa (aF (et:=55) (sz:=7) (k:=k) zk zk Z Z (by first | rfl | omega) zo) ?_))))))
   refine aa (ap zk Z (by first | exact HPz | exact HB10.pv | exact HB9.pv | exact HB8.pv | exact HPp | exact HPq | exact HB1.pv | assumption) Z) ?_
   refine ah (aD (z:=(.agg #[.int .i64 0,.slice none 0 0,.slice none 0 0,.bool false,.int .i64 0,.int .i64 0,.bool false])) (by unfold aE;kernel_rfl) ?_)
   rintro b13 w13 zb13 HB13 e13 z13
   have:=e13.size
   try simp only [Value.cells] at HB13
   refine ah (aq (n:=7) Z Z (aZ Z) zk Z cT HB13 bV ?_)
   rintro w113 HB13 k113 z113
   have:=k113.size
   try simp only [zS,Nat.zero_add,Nat.reduceAdd,List.drop_nil] at HB13
   replace HB1:=(HB1.ext e13).keep k113 aH
   replace HPq:=(HPq.ext e13).keep k113 (by intro h;(try dsimp only at h);(try simp only [au] at h);first | omega)
   replace HPp:=(HPp.ext e13).keep k113 (by intro h;(try dsimp only at h);(try simp only [au] at h);first | omega)
   replace HB8:=(HB8.ext e13).keep k113 aH
   replace HB9:=(HB9.ext e13).keep k113 aH
   replace HB10:=(HB10.ext e13).keep k113 aH
   replace HPz:=(HPz.ext e13).keep k113 (by intro h;(try dsimp only at h);(try simp only [au] at h);first | omega)
   refine ac (U (V (O zd (aa (aA 0 46 Z) (aa (aA 1 28 Z) (aa (ag zk Z (by first | exact HB13.pv 1 _ rfl | exact HPz 1 _ rfl | exact aK HPz | exact HB10.pv 1 _ rfl | exact HB9.pv 1 _ rfl | exact HB8.pv 1 _ rfl | exact HPp 1 _ rfl | exact aK HPp | exact HPq 1 _ rfl | exact aK HPq | exact HB1.pv 1 _ rfl | assumption)) ?_))))))
   refine aa (aA 1 28 Z) (aa (ag zk Z (by first | exact HB13.pv 1 _ rfl | exact HPz 1 _ rfl | exact aK HPz | exact HB10.pv 1 _ rfl | exact HB9.pv 1 _ rfl | exact HB8.pv 1 _ rfl | exact HPp 1 _ rfl | exact aK HPp | exact HPq 1 _ rfl | exact aK HPq | exact HB1.pv 1 _ rfl | assumption)) ?_)
   replace HSf:=(HSf.ext e13).keep k113 aC
   replace HSzf:=(HSzf.ext e13).keep k113 aC
   refine ah (aW zk (bI Z) (bI Z) (ae.mono (dI HSzf HSf) ?_))
   replace HSr:=(HSr.ext e13).keep k113 aC
   replace HSm:=(HSm.ext e13).keep k113 aC
   replace HGm:=(HGm.ext e13).keep k113 aC
   replace HSt:=(HSt.ext e13).keep k113 aC
   replace HG3:=(HG3.ext e13).keep k113 aC
   replace HGu:=(HGu.ext e13).keep k113 aC
   replace HSuf:=(HSuf.ext e13).keep k113 aC
   replace HSut:=(HSut.ext e13).keep k113 aC
   rintro _ w114 ⟨rfl,e114⟩
   have:=e114.size
   replace E:=((E.trans e13.keep).step k113 bi).trans e114.keep
   replace EL1:=((EL1.trans e13.keep).step k113 bi).trans e114.keep
   replace EL3:=((EL3.trans e13.keep).step k113 bi).trans e114.keep
   replace HSr:=HSr.ext e114
   replace HSm:=HSm.ext e114
   replace HGm:=HGm.ext e114
   replace HB1:=HB1.ext e114
   replace HPq:=HPq.ext e114
   replace HSf:=HSf.ext e114
   replace HSt:=HSt.ext e114
   replace HG3:=HG3.ext e114
   replace HPp:=HPp.ext e114
   replace HB8:=HB8.ext e114
   replace HB9:=HB9.ext e114
   replace HGu:=HGu.ext e114
   replace HSuf:=HSuf.ext e114
   replace HSut:=HSut.ext e114
   replace HB10:=HB10.ext e114
   replace HPz:=HPz.ext e114
   replace HSzf:=HSzf.ext e114
   replace HB13:=HB13.ext e114
   refine ac (U (am Z Z (fun h113=>?_) (fun h113=>?_)))
   ·
    refine V (O zd (aa (ad Z) (ac (U (aw (bz (ay (ay (bz ?_)))))))))
    refine bz (ay (ay (bz (ay (aU Z zq (cE Z) ?_)))))
    refine ⟨?_,E⟩
    congr 1;symm;refine iY (i:=i) zo ?_;rw [Bool.eq_false_iff];intro h
    exact ((go hx).1 h).2.2 z (List.mem_of_getElem? (i:=k) (by rw [List.getElem?_take_of_lt zo];exact hz)) (by simpa using h113)
   refine ar (bE (U (O zd (aa (cn Z Z (by first | exact bn zo zo | rfl)) ?_))))
   refine aa (aQ Z) (ac (U (⟨k + 1,_,rfl,by (repeat (first | exact cD.of_over _ _ _ | refine cD.upd ?_ zq _ | refine cD.overs ?_ zq _)),⟨by first | rfl | exact congrArg (Value.int _) zo | (simp;done),trivial⟩,⟨E,EL3,?_⟩,?_⟩)))
   ·
    refine ⟨by omega,fun u hu=>?_⟩
    rw [List.take_add_one,hz] at hu
    rcases List.mem_append.1 hu with hu | hu
    ·
     exact h4 u hu
    obtain rfl:u=z:=by simpa using hu
    simpa using h113
   (dsimp only;omega)
  refine cl (bm (bm (cV (bE (U (O zd (aa (cn Z Z (by first | exact bn zo zo | rfl)) ?_)))))))
  refine aa (aQ Z) (ac (U (⟨i + 1,_,rfl,by (repeat' (first | exact cD.of_over _ _ _ | refine cD.upd ?_ zq _ | refine cD.overs ?_ zq _)),⟨by first | rfl | exact congrArg (Value.int _) zo | (simp;done),trivial⟩,⟨E,EL1,?_⟩,?_⟩)))
  ·
   have hk:k=i:=by have:=bf h105;omega
   refine ⟨by omega,fun j hj=>?_⟩
   rcases Nat.lt_or_ge j i with hji | hji
   ·
    exact h2 j hji
   obtain rfl:j=i:=by omega
   refine (go hx).2 ⟨⟨hgd.1,hgd.2.1,lw h73 h98⟩,fun j2 y2 hj2 hy2=>?_,fun z hz=>h4 z (by rw [hk];exact hz)⟩
   subst hj2;simp only [Nat.add_sub_cancel] at hy;rw [hy] at hy2;cases hy2;exact hgd.2.2 zo
  (dsimp only;omega)
 refine cl (bm (bm (cV (U (V (O zd (aa (ad Z) (ac (U ?_)))))))))
 refine aw (aU Z zq (cE Z) ?_)
 refine ⟨?_,E⟩
 rw [nk fun j hj=>h2 j (by have:=bf hlt;omega)]
end Go.Proofs.YteehplloacefmaaGreat

/- Steps and lemmas for the walks. -/
import Derived.Test.YteehplloacefmaaGreatMf
set_option linter.unusedVariables false
set_option linter.unusedSimpArgs false
set_option maxRecDepth 100000
namespace Go.Proofs.YteehplloacefmaaGreat
open Go.Vc
theorem pD {w:World} {F:Nat→Prop} {v:Value} {e n:Int} {rs:List cO} {ms:List fy} (HG1:aY iK w F v ((e,rs),n,ms)):ae Tryz.prog 7 #[v] w (fun o w'=>o=.bool (dA ((e,rs),n,ms))∧aX w w'):=by
 obtain ⟨a,c,a2,c2,rfl,HSr,HSm,ie,im⟩:=HG1.mt
 simp only at HSr HSm ie im
 have HGm:=aY.mpOf HSr ie
 have hmx:=HSm.len_max
 clear HG1
 refine aL 117 Tryz.func7 Z Z (by simp) ?_
 refine V ?_
 have E:=ao.refl (K:=aP) w
 replace HSr:=HSr.all
 replace HSm:=HSm.all
 replace HGm:=HGm.all
 refine O zd (ah (aS (aZ Z) ?_))
 rintro b1 w1 zb1 HB1 e1 z1
 have:=e1.size
 try simp only [Value.cells] at HB1
 refine aa (ad Z) (ac (U (V (V (O zd (aa (aA 0 24 Z) (aa (ap zk Z (by first | exact (show Pv _ _ [_,_] from aN 0 2 HB1.pv) | exact bg 0 HB1.pv | assumption) Z) ?_)))))))
 replace HGm:=HGm.ext e1
 refine ah (av zk (aZ Z) (ae.mono (rm HGm) ?_))
 rintro _ w101 ⟨rfl,e101⟩
 have:=e101.size
 refine aa (cg Z) ?_
 refine aa (bH Z) (aj Z Z (fun hG=>aA 2 2 Z) ?_)
 replace HB1:=HB1.ext e101
 refine aj Z Z (fun hG=>ag zk (gd hG Z) (by first | exact HB1.pv 2 _ rfl | assumption)) ?_
 refine aj Z Z (fun hG=>bw (gd hG Z) Z) ?_
 refine aa (bF Z Z) ?_
 refine aa (bH Z) (aj Z Z (fun hG=>aA 2 2 Z) ?_)
 refine aj Z Z (fun hG=>ag zk (gd hG Z) (by first | exact HB1.pv 2 _ rfl | assumption)) ?_
 refine aj Z Z (fun hG=>bX (gd hG Z) Z) ?_
 refine aa (bF Z Z) ?_
 replace E:=(E.trans e1.keep).trans e101.keep
 replace HSr:=(HSr.ext e1).ext e101
 replace HSm:=(HSm.ext e1).ext e101
 replace HGm:=HGm.ext e101
 refine ac (U (am Z Z (fun h24=>?_) (fun h24=>?_)))
 ·
  refine V (O zd (aa (ad Z) (ac (U (aw (ay (aU Z zq (cE Z) ?_)))))))
  refine ⟨?_,E⟩
  congr 1;simp only [dA]
  rcases hm:cY (e,rs) with _ | _
  ·
   simp
  rw [hm] at h24
  have hx:n < 1∨2147483647 < n:=by simpa using h24
  have h1:(decide (1≤n) && decide (n≤2147483647))=false:=by rw [Bool.and_eq_false_iff,decide_eq_false_iff_not,decide_eq_false_iff_not];omega
  simp only [Bool.true_and,h1,Bool.false_and]
 have hq:cY (e,rs)=true∧1≤n∧n≤2147483647:=by
  rcases hm:cY (e,rs) with _ | _
  ·
   rw [hm] at h24;simp at h24
  rw [hm] at h24
  have hx:¬ n < 1∧¬ 2147483647 < n:=by simpa using h24
  exact ⟨rfl,by omega,by omega⟩
 have hres:dA ((e,rs),n,ms)=jG rs n ms:=by simp only [dA,hq.1,decide_eq_true hq.2.1,decide_eq_true hq.2.2,Bool.true_and]
 rw [hres]
 refine ar (U (V (V (O zd (aa (ad Z) (ac (U (aO (cy (τ:=Nat) ([2,3,4,5,6,7,8,23,24,25,26,27,28,29,30,31] ++ [32,33,34,35,36,37,38,39,40,41,42,43,44,45,46,47] ++ [48,49,50,51,52,53,54,55,56,57,58,59,60,61,62,63] ++ [64,65,66,67,68,69,70,71,72,73,74,75,76,77,78,79] ++ [80,81,82,83,84,85,86,87,88,89,90,91,92,93,94,95] ++ [96,97,98,99,100,101,102,103,104,105,106,107,108,109,110,111] ++ [112,113,114,115,116]) (fun i=>[(3,.int .i64 i)]) (fun i W=>aX w W∧ao (aP) w101 W∧i≤ms.length∧lh rs n (ms.take i)) (fun i=>ms.length - i) 0 (by exact ⟨rfl,trivial⟩) (by exact ⟨E,ao.refl _,Nat.zero_le _,⟨fun x hx=>(by simp at hx),List.Pairwise.nil⟩⟩) ?_)))))))))
 rintro i w102 j ⟨E,EL1,h1,h2⟩
 have:=EL1.size
 replace HB1:=HB1.ext EL1
 refine V (V (O zd (aa (aQ Z) (aa (aA 3 25 Z) (aa (ag zk Z (by first | exact HB1.pv 3 _ rfl | assumption)) ?_)))))
 refine aa (ba (et:=55) zk Z) ?_
 refine aa (bw Z Z) ?_
 replace HSr:=HSr.ext EL1
 replace HSm:=HSm.ext EL1
 replace HGm:=HGm.ext EL1
 refine ac (U (am Z Z (fun hlt=>?_) (fun hlt=>?_)))
 ·
  have hlt:=bl hlt
  obtain ⟨x,hx,hdr⟩:=eC (l:=ms) (i:=i) zo
  obtain ⟨q,cs,hqq,hF,_,HPq,hr⟩:=HSm.el hx
  subst hqq
  have HG2:aY eQ _ _ _ x:=⟨cs,rfl,hr⟩
  obtain ⟨b3,d3,b5,d5,rfl,HSf,HSt,i1,i2,i3⟩:=cR hr
  have HG3:=aY.maMv HG2
  refine ar (U (V (aO (V (O zd (aa (aA 3 25 Z) (aa (ag zk Z (by first | exact HPq 3 _ rfl | exact aK HPq | exact HB1.pv 3 _ rfl | assumption)) ?_)))))))
  refine aa (aQ Z) (aa (aF (et:=55) (sz:=7) (k:=i) zk zk Z Z (by first | rfl | omega) zo) ?_)
  refine aa (aA 0 46 Z) (aa (ap zk Z (by first | exact (show Pv _ _ [_,_,_,_,_,_] from aN 0 6 HPq) | exact (show Pv _ _ [_,_,_,_,_,_] from aN 0 6 HB1.pv) | exact bg 0 HPq | exact bg 0 HB1.pv | exact HPq | assumption) Z) ?_)
  refine ah (aD (z:=(.agg #[.int .i64 0,.slice none 0 0,.slice none 0 0,.bool false,.int .i64 0,.int .i64 0])) (by unfold aE;kernel_rfl) ?_)
  rintro b4 w4 zb4 HB4 e4 z4
  have:=e4.size
  try simp only [Value.cells] at HB4
  refine ah (aq (n:=6) Z Z (aZ Z) zk Z cT HB4 bV ?_)
  rintro w103 HB4 k103 z103
  have:=k103.size
  try simp only [zS,Nat.zero_add,Nat.reduceAdd,List.drop_nil] at HB4
  replace HB1:=(HB1.ext e4).keep k103 aH
  replace HPq:=(HPq.ext e4).keep k103 (by intro h;(try dsimp only at h);(try simp only [au] at h);first | omega)
  refine ac (U (V (O zd (aa (aA 0 24 Z) (aa (ap zk Z (by first | exact (show Pv _ _ [_,_] from aN 0 2 HB4.pv) | exact (show Pv _ _ [_,_] from aN 0 2 HPq) | exact (show Pv _ _ [_,_] from aN 0 2 HB1.pv) | exact bg 0 HB4.pv | exact bg 0 HPq | exact bg 0 HB1.pv | exact HPq | assumption) Z) ?_)))))
  refine aa (aA 1 28 Z) (aa (ag zk Z (by first | exact HB4.pv 1 _ rfl | exact HPq 1 _ rfl | exact aK HPq | exact HB1.pv 1 _ rfl | assumption)) ?_)
  replace HGm:=(HGm.ext e4).keep k103 aC
  replace HSf:=(HSf.ext e4).keep k103 aC
  refine ah (aW zk (aZ Z) (bI Z) (ae.mono (rp HGm HSf) ?_))
  replace HSr:=(HSr.ext e4).keep k103 aC
  replace HSm:=(HSm.ext e4).keep k103 aC
  replace HSt:=(HSt.ext e4).keep k103 aC
  replace HG3:=(HG3.ext e4).keep k103 aC
  rintro _ w104 ⟨rfl,e104⟩
  have:=e104.size
  replace HB1:=HB1.ext e104
  replace HPq:=HPq.ext e104
  replace HB4:=HB4.ext e104
  refine aa (bO Z) (ac (U (V (V (O zd (aa (ap zk Z (by first | exact HB4.pv | exact HPq | exact HB1.pv | assumption) Z) ?_))))))
  replace HG3:=HG3.ext e104
  refine ah (av zk (aZ Z) (ae.mono (pE HG3) ?_))
  rintro _ w105 ⟨rfl,e105⟩
  have:=e105.size
  refine aa (cg Z) ?_
  refine aa (bH Z) (aj Z Z (fun hG=>aA 0 2 Z) ?_)
  replace HB1:=HB1.ext e105
  replace HPq:=HPq.ext e105
  replace HB4:=HB4.ext e105
  refine aj Z Z (fun hG=>ag zk (gd hG Z) (by first | exact HB4.pv 0 _ rfl | exact HPq 0 _ rfl | exact HB1.pv 0 _ rfl | assumption)) ?_
  refine aj Z Z (fun hG=>aA 2 2 Z) ?_
  refine aj Z Z (fun hG=>ag zk (gd hG Z) (by first | exact HB4.pv 2 _ rfl | exact HPq 2 _ rfl | exact aK HPq | exact HB1.pv 2 _ rfl | assumption)) ?_
  refine aj Z Z (fun hG=>fc (gd hG Z) (gd hG Z)) ?_
  refine aa (bF Z Z) ?_
  refine aa (bH Z) (aj Z Z (fun hG=>aQ Z) (aj Z Z (fun hG=>bw (gd hG Z) Z) ?_))
  refine aa (bF Z Z) ?_
  replace E:=(((E.trans e4.keep).step k103 bi).trans e104.keep).trans e105.keep
  replace EL1:=(((EL1.trans e4.keep).step k103 bi).trans e104.keep).trans e105.keep
  replace HSr:=(HSr.ext e104).ext e105
  replace HSm:=(HSm.ext e104).ext e105
  replace HGm:=(HGm.ext e104).ext e105
  replace HSf:=(HSf.ext e104).ext e105
  replace HSt:=(HSt.ext e104).ext e105
  replace HG3:=HG3.ext e105
  refine ac (U (am Z Z (fun h54=>?_) (fun h54=>?_)))
  ·
   refine V (O zd (aa (ad Z) (ac (U (aw (ay (bz (ay (ay ?_)))))))))
   refine bz (ay (aU Z zq (cE Z) ?_))
   refine ⟨?_,E⟩
   congr 1;symm;rw [Bool.eq_false_iff];intro h
   obtain ⟨g1,g2,g3⟩:=(fM.1 h).1 x (List.mem_of_getElem? hx)
   have g4:¬ n≤x.1.1:=by omega
   have g5:¬ dP (dH rs x.1.2.1) < 0:=fun h=>by rw [iW] at h;unfold kz at g3;rw [h] at g3;cases g3
   rw [g1] at h54;simp [g4,g5] at h54
  have hgd:di x.1=true∧x.1.1 < n:=by
   rcases hm:di x.1 with _ | _
   ·
    rw [hm] at h54;simp at h54
   rw [hm] at h54;refine ⟨rfl,?_⟩;simp at h54;omega
  obtain ⟨j,hi⟩:∃ j,dH rs x.1.2.1=some j:=by
   cases h:dH rs x.1.2.1 with
   | none=>rw [h] at h54;simp [dP] at h54
   | some j=>exact ⟨j,rfl⟩
  obtain ⟨hjl,_⟩:=fj hi
  obtain ⟨rj,hrj⟩:∃ r,r=rs.getD j fV:=⟨_,rfl⟩
  obtain ⟨q1,cs1,hq1,hF1,_,HPj,hrr⟩:=HSr.el (fR hjl)
  subst hq1
  rw [← hrj] at hrr
  obtain ⟨b6,d6,b7,d7,rfl,HSrf,HSrt,hgr⟩:=bN hrr
  have hoi:dP (some j)=(j:Int):=rfl
  have hj0:¬ (j:Int) < 0:=by omega
  have hrg:kb rs (some j)=rj:=hrj.symm
  rw [hi,hoi]
  refine ar (U (V (O zd (aa (aA 4 3 Z) (aa (ag zk Z (by first | exact HPj 4 _ rfl | exact aK HPj | exact HB4.pv 4 _ rfl | exact HPq 4 _ rfl | exact aK HPq | exact HB1.pv 4 _ rfl | assumption)) ?_)))))
  refine aa (bO Z) (ac (U (V (V (O zd (aa (aA 3 25 Z) (aa (ag zk Z (by first | exact HPj 3 _ rfl | exact aK HPj | exact HB4.pv 3 _ rfl | exact HPq 3 _ rfl | exact aK HPq | exact HB1.pv 3 _ rfl | assumption)) ?_)))))))
  refine aa (aQ Z) (aa (aF (et:=55) (sz:=7) (k:=i) zk zk Z Z (by first | rfl | omega) zo) ?_)
  refine aa (aA 6 4 Z) (aa (ag zk Z (by first | exact HPj 6 _ rfl | exact aK HPj | exact HB4.pv 6 _ rfl | exact HPq 6 _ rfl | exact aK HPq | exact HB1.pv 6 _ rfl | assumption)) ?_)
  refine ac (U (am Z Z (fun h62=>?_) (fun h62=>?_)))
  ·
   refine O zd (aa (aA 5 3 Z) (aa (ag zk Z (by first | exact HPj 5 _ rfl | exact aK HPj | exact HB4.pv 5 _ rfl | exact HPq 5 _ rfl | exact aK HPq | exact HB1.pv 5 _ rfl | assumption)) ?_))
   refine aa (bO Z) (ac (U (V (O zd (aa (aA 0 24 Z) (aa (aA 1 22 Z) (aa (ag zk Z (by first | exact HPj 1 _ rfl | exact aK HPj | exact HB4.pv 1 _ rfl | exact HPq 1 _ rfl | exact aK HPq | exact HB1.pv 1 _ rfl | assumption)) ?_)))))))
   refine aa (aQ Z) (aa (aF (et:=53) (sz:=4) (k:=j) zk zk Z Z (rfl) (hjl)) ?_)
   refine aa (ap zk Z (by first | exact HPj | exact HB4.pv | exact HPq | exact HB1.pv | assumption) Z) ?_
   refine ah (aD (z:=(.agg #[.slice none 0 0,.slice none 0 0,.bool false,.int .i64 0])) (by unfold aE;kernel_rfl) ?_)
   rintro b7 w7 zb7 HB7 e7 z7
   have:=e7.size
   try simp only [Value.cells] at HB7
   refine ah (aq (n:=4) Z Z (aZ Z) zk Z cT HB7 bV ?_)
   rintro w106 HB7 k106 z106
   have:=k106.size
   try simp only [zS,Nat.zero_add,Nat.reduceAdd,List.drop_nil] at HB7
   replace HB1:=(HB1.ext e7).keep k106 aH
   replace HPq:=(HPq.ext e7).keep k106 (by intro h;(try dsimp only at h);(try simp only [au] at h);first | omega)
   replace HB4:=(HB4.ext e7).keep k106 aH
   replace HPj:=(HPj.ext e7).keep k106 (by intro h;(try dsimp only at h);(try simp only [au] at h);first | omega)
   refine ac (U (V (V (O zd (aa (aA 2 4 Z) (aa (ag zk Z (by first | exact HB7.pv 2 _ rfl | exact HPj 2 _ rfl | exact aK HPj | exact HB4.pv 2 _ rfl | exact HPq 2 _ rfl | exact aK HPq | exact HB1.pv 2 _ rfl | assumption)) ?_))))))
   refine aa (aA 3 4 Z) (aa (ag zk Z (by first | exact HB7.pv 3 _ rfl | exact HPj 3 _ rfl | exact aK HPj | exact HB4.pv 3 _ rfl | exact HPq 3 _ rfl | exact aK HPq | exact HB1.pv 3 _ rfl | assumption)) ?_)
   refine aa (gU zk Z Z) ?_
   refine aa (bH Z) (aj Z Z (fun hG=>aA 1 28 Z) ?_)
   refine aj Z Z (fun hG=>ag zk (gd hG Z) (by first | exact HB7.pv 1 _ rfl | exact HPj 1 _ rfl | exact aK HPj | exact HB4.pv 1 _ rfl | exact HPq 1 _ rfl | exact aK HPq | exact HB1.pv 1 _ rfl | assumption)) ?_
   refine aj Z Z (fun hG=>aA 2 28 Z) ?_
   refine aj Z Z (fun hG=>ag zk (gd hG Z) (by first | exact HB7.pv 2 _ rfl | exact HPj 2 _ rfl | exact aK HPj | exact HB4.pv 2 _ rfl | exact HPq 2 _ rfl | exact aK HPq | exact HB1.pv 2 _ rfl | assumption)) ?_
   replace HSt:=(HSt.ext e7).keep k106 aC
   replace HSrt:=(HSrt.ext e7).keep k106 aC
   refine cI Z Z (fun hG=>aW zk (gd hG Z) (gd hG Z) (eB HSrt HSt)) ?_
   rintro w107 e107
   have:=e107.size
   refine aj Z Z (fun hG=>cg (gd hG Z)) ?_
   refine aa (bF Z Z) ?_
   refine aa (bH Z) (aj Z Z (fun hG=>aA 3 3 Z) ?_)
   replace HB1:=HB1.ext e107
   replace HPq:=HPq.ext e107
   replace HB4:=HB4.ext e107
   replace HPj:=HPj.ext e107
   replace HB7:=HB7.ext e107
   refine aj Z Z (fun hG=>ag zk (gd hG Z) (by first | exact HB7.pv 3 _ rfl | exact HPj 3 _ rfl | exact aK HPj | exact HB4.pv 3 _ rfl | exact HPq 3 _ rfl | exact aK HPq | exact HB1.pv 3 _ rfl | assumption)) ?_
   refine aj Z Z (fun hG=>aQ Z) (aj Z Z (fun hG=>bD (gd hG Z) (gd hG Z)) ?_)
   refine aa (bF Z Z) ?_
   replace E:=((E.trans e7.keep).step k106 bi).trans e107.keep
   replace HSr:=((HSr.ext e7).keep k106 aC).ext e107
   replace HSm:=((HSm.ext e7).keep k106 aC).ext e107
   replace HGm:=((HGm.ext e7).keep k106 aC).ext e107
   replace EL1:=((EL1.trans e7.keep).step k106 bi).trans e107.keep
   replace HSf:=((HSf.ext e7).keep k106 aC).ext e107
   replace HG3:=((HG3.ext e7).keep k106 aC).ext e107
   replace HSt:=HSt.ext e107
   replace HSrt:=HSrt.ext e107
   refine ac (U (am Z Z (fun h89=>?_) (fun h89=>?_)))
   ·
    refine V (O zd (aa (ad Z) (ac (U (aw (ay (bz (ay (ay ?_)))))))))
    refine bz (ay (aU Z zq (cE Z) ?_))
    refine ⟨?_,E⟩
    congr 1;symm;rw [Bool.eq_false_iff];intro h
    have g:=((fM.1 h).1 x (List.mem_of_getElem? hx)).2.2
    exact lx (x:=x) h62 (by rw [hi,hrg,hoi];simpa [hj0] using h89) g
   have hat:kz rs x=true:=lw (x:=x) h62 (by rw [hi,hrg,hoi];simpa [hj0] using h89)
   refine ar (U (V (O zd (aa (ad Z) (ac (U (aO (cy (τ:=Nat) [2,8,90,91,92,93,94,95,96,97,98,99,100,101,102,103,104,105,106,107,108,109,110,111,112,113,114,115,116] (fun k=>[(8,.int .i64 k)]) (fun k W=>aX w W∧ao (aP) w107 W∧k≤i∧∀ z ∈ ms.take k,z.1.1 < x.1.1∧z.1.2.1≠x.1.2.1) (fun k=>i - k) 0 (by exact ⟨rfl,trivial⟩) (by exact ⟨E,ao.refl _,Nat.zero_le _,fun z hz=>by simp at hz⟩) ?_))))))))
   rintro k w108 j ⟨E,EL2,h3,h4⟩
   have:=EL2.size
   refine V (V (O zd (aa (aQ Z) (aa (aQ Z) (aa (bw Z Z) ?_)))))
   replace HSr:=HSr.ext EL2
   replace HSm:=HSm.ext EL2
   replace HGm:=HGm.ext EL2
   replace HB1:=HB1.ext EL2
   replace EL1:=EL1.trans EL2.keep
   replace HPq:=HPq.ext EL2
   replace HSf:=HSf.ext EL2
   replace HSt:=HSt.ext EL2
   replace HG3:=HG3.ext EL2
   replace HB4:=HB4.ext EL2
   replace HPj:=HPj.ext EL2
   replace HSrt:=HSrt.ext EL2
   replace HB7:=HB7.ext EL2
   refine ac (U (am Z Z (fun h92=>?_) (fun h92=>?_)))
   ·
    have h92:=bl h92
    obtain ⟨z,hz,_⟩:=eC (l:=ms) (i:=k) zo
    obtain ⟨q2,cs2,hq2,hF2,_,HPz,hrz⟩:=HSm.el hz
    cases hq2
    obtain ⟨b11,d11,b12,d12,rfl,HSzf,_⟩:=cR hrz
    refine ar (U (V (aO (V (dx (aP) zk zd zd ?_)))))
    refine aB (fun ab w hR hd=>aA 3 25 Z) ?_
    refine aB (fun ab w hR hd=>ag zk (hd 0 Z) (by first | exact (HPz.ext hR) 3 _ rfl | exact aK (HPz.ext hR) | exact (HB7.ext hR).pv 3 _ rfl | exact (HPj.ext hR) 3 _ rfl | exact aK (HPj.ext hR) | exact (HB4.ext hR).pv 3 _ rfl | exact (HPq.ext hR) 3 _ rfl | exact aK (HPq.ext hR) | exact (HB1.ext hR).pv 3 _ rfl | assumption)) ?_
    refine aB (fun ab w hR hd=>aQ Z) ?_
    refine aB (fun ab w hR hd=>aF (et:=55) (sz:=7) (k:=k) zk zk (hd 1 Z) (hd 2 Z) (by first | rfl | omega) zo) ?_
    refine aB (fun ab w hR hd=>aA 0 46 (hd 3 Z)) ?_
    refine aB (fun ab w hR hd=>aA 0 2 (hd 4 Z)) ?_
    refine aB (fun ab w hR hd=>ag zk (hd 5 Z) (by first | exact (HPz.ext hR) 0 _ rfl | exact (HB7.ext hR).pv 0 _ rfl | exact (HPj.ext hR) 0 _ rfl | exact (HB4.ext hR).pv 0 _ rfl | exact (HPq.ext hR) 0 _ rfl | exact (HB1.ext hR).pv 0 _ rfl | assumption)) ?_
    refine aB (fun ab w hR hd=>aA 0 2 Z) ?_
    refine aB (fun ab w hR hd=>ag zk (hd 7 Z) (by first | exact (HPz.ext hR) 0 _ rfl | exact (HB7.ext hR).pv 0 _ rfl | exact (HPj.ext hR) 0 _ rfl | exact (HB4.ext hR).pv 0 _ rfl | exact (HPq.ext hR) 0 _ rfl | exact (HB1.ext hR).pv 0 _ rfl | assumption)) ?_
    refine aB (fun ab w hR hd=>fc (hd 6 Z) (hd 8 Z)) ?_
    refine aB (fun ab w hR hd=>be (t:=.bool _) (hd 9 Z)) ?_
    refine bh Z (fun ab w hd=>hd 10 Z) (fun ab w hR hd hG=>aA 3 25 Z) ?_
    refine bh Z (fun ab w hd=>hd 10 Z) (fun ab w hR hd hG=>ag zk (gd hG (hd 11 Z)) (by first | exact (HPz.ext hR) 3 _ rfl | exact aK (HPz.ext hR) | exact (HB7.ext hR).pv 3 _ rfl | exact (HPj.ext hR) 3 _ rfl | exact aK (HPj.ext hR) | exact (HB4.ext hR).pv 3 _ rfl | exact (HPq.ext hR) 3 _ rfl | exact aK (HPq.ext hR) | exact (HB1.ext hR).pv 3 _ rfl | assumption)) ?_
    refine bh Z (fun ab w hd=>hd 10 Z) (fun ab w hR hd hG=>aQ Z) ?_
    refine bh Z (fun ab w hd=>hd 10 Z) (fun ab w hR hd hG=>aF (et:=55) (sz:=7) (k:=k) zk zk (gd hG (hd 12 Z)) (gd hG (hd 13 Z)) (by first | rfl | omega) zo) ?_
    refine bh Z (fun ab w hd=>hd 10 Z) (fun ab w hR hd hG=>aA 0 46 (gd hG (hd 14 Z))) ?_
    refine bh Z (fun ab w hd=>hd 10 Z) (fun ab w hR hd hG=>aA 1 28 (gd hG (hd 15 Z))) ?_
    refine bh Z (fun ab w hd=>hd 10 Z) (fun ab w hR hd hG=>ag zk (gd hG (hd 16 Z)) (by first | exact (HPz.ext hR) 1 _ rfl | exact aK (HPz.ext hR) | exact (HB7.ext hR).pv 1 _ rfl | exact (HPj.ext hR) 1 _ rfl | exact aK (HPj.ext hR) | exact (HB4.ext hR).pv 1 _ rfl | exact (HPq.ext hR) 1 _ rfl | exact aK (HPq.ext hR) | exact (HB1.ext hR).pv 1 _ rfl | assumption)) ?_
    refine bh Z (fun ab w hd=>hd 10 Z) (fun ab w hR hd hG=>aA 1 28 Z) ?_
    refine bh Z (fun ab w hd=>hd 10 Z) (fun ab w hR hd hG=>ag zk (gd hG (hd 18 Z)) (by first | exact (HPz.ext hR) 1 _ rfl | exact aK (HPz.ext hR) | exact (HB7.ext hR).pv 1 _ rfl | exact (HPj.ext hR) 1 _ rfl | exact aK (HPj.ext hR) | exact (HB4.ext hR).pv 1 _ rfl | exact (HPq.ext hR) 1 _ rfl | exact aK (HPq.ext hR) | exact (HB1.ext hR).pv 1 _ rfl | assumption)) ?_
    refine gx Z (fun ab w hd=>hd 10 Z) (fun ab w hR hd hG=>aW zk (gd hG (hd 17 Z)) (gd hG (hd 19 Z)) (eB (HSzf.ext hR) (HSf.ext hR))) ?_
    refine aB (fun ab w hR hd=>bF (hd 10 Z) (hd 20 Z)) ?_
    refine bU (fun w109 e109=>?_)
    rintro _ rfl _ rfl _ rfl _ rfl _ rfl _ rfl _ rfl _ rfl _ rfl _ rfl _ rfl _ rfl _ rfl _ rfl _ rfl _ rfl _ rfl _ rfl _ rfl _ rfl _ rfl _ rfl
    have:=e109.size
    replace E:=E.trans e109.keep
    replace HSr:=HSr.ext e109
    replace HSm:=HSm.ext e109
    replace HGm:=HGm.ext e109
    replace HB1:=HB1.ext e109
    replace EL1:=EL1.trans e109.keep
    replace HPq:=HPq.ext e109
    replace HSf:=HSf.ext e109
    replace HSt:=HSt.ext e109
    replace HG3:=HG3.ext e109
    replace HB4:=HB4.ext e109
    replace HPj:=HPj.ext e109
    replace HSrt:=HSrt.ext e109
    replace HB7:=HB7.ext e109
    replace EL2:=EL2.trans e109.keep
    replace HPz:=HPz.ext e109
    replace HSzf:=HSzf.ext e109
    refine bG (U (am Z Z (fun h116=>?_) (fun h116=>?_)))
    ·
     refine V (O zd (aa (ad Z) (ac (U (aw (bz (ay (ay (bz ?_)))))))))
     refine bz (ay (ay (bz (ay (aU Z zq (cE Z) ?_)))))
     refine ⟨?_,E⟩
     congr 1;symm;rw [Bool.eq_false_iff];intro h
     have hp:=(fM.1 h).2
     rw [List.pairwise_iff_getElem] at hp
     have hil:=(List.getElem?_eq_some_iff.1 hx).1
     have hp:=hp k i zo hil zo
     rw [(List.getElem?_eq_some_iff.1 hx).2,(List.getElem?_eq_some_iff.1 hz).2] at hp
     simp only [Bool.or_eq_true,decide_eq_true_eq] at h116
     rcases h116 with h | h
     ·
      omega
     exact hp.2 h
    refine ar (bE (U (O zd (aa (aQ Z) (aa (cn Z Z (by first | exact bn zo zo | rfl)) ?_)))))
    refine aa (bO Z) (ac (U (⟨k + 1,_,rfl,by (repeat (first | exact cD.of_over _ _ _ | refine cD.upd ?_ zq _ | refine cD.overs ?_ zq _)),⟨by first | rfl | exact congrArg (Value.int _) zo | (simp;done),trivial⟩,⟨E,EL2,?_⟩,?_⟩)))
    ·
     refine ⟨by omega,fun u hu=>?_⟩
     rw [List.take_add_one,hz] at hu
     rcases List.mem_append.1 hu with hu | hu
     ·
      exact h4 u hu
     obtain rfl:u=z:=by simpa using hu
     simp only [Bool.or_eq_false_iff,decide_eq_false_iff_not] at h116
     exact ⟨by omega,h116.2⟩
    (dsimp only;omega)
   refine cl (bm (bm (cV (bE (U (O zd (aa (aQ Z) (aa (cn Z Z (by first | exact bn zo zo | rfl)) ?_))))))))
   refine aa (bO Z) (ac (U (⟨i + 1,_,rfl,by (repeat' (first | exact cD.of_over _ _ _ | refine cD.upd ?_ zq _ | refine cD.overs ?_ zq _)),⟨by first | rfl | exact congrArg (Value.int _) zo | (simp;done),trivial⟩,⟨E,EL1,?_⟩,?_⟩)))
   ·
    have hk:k=i:=by have:=bf h92;omega
    subst hk
    refine ⟨by omega,fun u hu=>?_,?_⟩
    ·
     rw [List.take_add_one,hx] at hu
     rcases List.mem_append.1 hu with hu | hu
     ·
      exact h2.1 u hu
     obtain rfl:u=x:=by simpa using hu
     exact ⟨hgd.1,hgd.2,hat⟩
    rw [List.take_add_one,hx]
    refine List.pairwise_append.2 ⟨h2.2,List.pairwise_singleton _ _,fun a ha b hb=>?_⟩
    obtain rfl:b=x:=by simpa using hb
    exact h4 a ha
   (dsimp only;omega)
  refine ar (U (V (O zd (aa (aA 0 24 Z) (aa (aA 1 22 Z) (aa (ag zk Z (by first | exact HPj 1 _ rfl | exact aK HPj | exact HB4.pv 1 _ rfl | exact HPq 1 _ rfl | exact aK HPq | exact HB1.pv 1 _ rfl | assumption)) ?_))))))
  refine aa (aQ Z) (aa (aF (et:=53) (sz:=4) (k:=j) zk zk Z Z (rfl) (hjl)) ?_)
  refine aa (ap zk Z (by first | exact HPj | exact HB4.pv | exact HPq | exact HB1.pv | assumption) Z) ?_
  refine ah (aD (z:=(.agg #[.slice none 0 0,.slice none 0 0,.bool false,.int .i64 0])) (by unfold aE;kernel_rfl) ?_)
  rintro b7 w7 zb7 HB7 e7 z7
  have:=e7.size
  try simp only [Value.cells] at HB7
  refine ah (aq (n:=4) Z Z (aZ Z) zk Z cT HB7 bV ?_)
  rintro w110 HB7 k110 z110
  have:=k110.size
  try simp only [zS,Nat.zero_add,Nat.reduceAdd,List.drop_nil] at HB7
  replace HB1:=(HB1.ext e7).keep k110 aH
  replace HPq:=(HPq.ext e7).keep k110 (by intro h;(try dsimp only at h);(try simp only [au] at h);first | omega)
  replace HB4:=(HB4.ext e7).keep k110 aH
  replace HPj:=(HPj.ext e7).keep k110 (by intro h;(try dsimp only at h);(try simp only [au] at h);first | omega)
  refine ac (U (V (V (O zd (aa (aA 2 4 Z) (aa (ag zk Z (by first | exact HB7.pv 2 _ rfl | exact HPj 2 _ rfl | exact aK HPj | exact HB4.pv 2 _ rfl | exact HPq 2 _ rfl | exact aK HPq | exact HB1.pv 2 _ rfl | assumption)) ?_))))))
  refine aa (aA 3 4 Z) (aa (ag zk Z (by first | exact HB7.pv 3 _ rfl | exact HPj 3 _ rfl | exact aK HPj | exact HB4.pv 3 _ rfl | exact HPq 3 _ rfl | exact aK HPq | exact HB1.pv 3 _ rfl | assumption)) ?_)
  refine aa (gU zk Z Z) ?_
  refine aa (bH Z) (aj Z Z (fun hG=>aA 1 28 Z) ?_)
  refine aj Z Z (fun hG=>ag zk (gd hG Z) (by first | exact HB7.pv 1 _ rfl | exact HPj 1 _ rfl | exact aK HPj | exact HB4.pv 1 _ rfl | exact HPq 1 _ rfl | exact aK HPq | exact HB1.pv 1 _ rfl | assumption)) ?_
  refine aj Z Z (fun hG=>aA 2 28 Z) ?_
  refine aj Z Z (fun hG=>ag zk (gd hG Z) (by first | exact HB7.pv 2 _ rfl | exact HPj 2 _ rfl | exact aK HPj | exact HB4.pv 2 _ rfl | exact HPq 2 _ rfl | exact aK HPq | exact HB1.pv 2 _ rfl | assumption)) ?_
  replace HSt:=(HSt.ext e7).keep k110 aC
  replace HSrt:=(HSrt.ext e7).keep k110 aC
  refine cI Z Z (fun hG=>aW zk (gd hG Z) (gd hG Z) (eB HSrt HSt)) ?_
  rintro w111 e111
  have:=e111.size
  refine aj Z Z (fun hG=>cg (gd hG Z)) ?_
  refine aa (bF Z Z) ?_
  refine aa (bH Z) (aj Z Z (fun hG=>aA 3 3 Z) ?_)
  replace HB1:=HB1.ext e111
  replace HPq:=HPq.ext e111
  replace HB4:=HB4.ext e111
  replace HPj:=HPj.ext e111
  replace HB7:=HB7.ext e111
  refine aj Z Z (fun hG=>ag zk (gd hG Z) (by first | exact HB7.pv 3 _ rfl | exact HPj 3 _ rfl | exact aK HPj | exact HB4.pv 3 _ rfl | exact HPq 3 _ rfl | exact aK HPq | exact HB1.pv 3 _ rfl | assumption)) ?_
  refine aj Z Z (fun hG=>aQ Z) (aj Z Z (fun hG=>bD (gd hG Z) (gd hG Z)) ?_)
  refine aa (bF Z Z) ?_
  replace E:=((E.trans e7.keep).step k110 bi).trans e111.keep
  replace HSr:=((HSr.ext e7).keep k110 aC).ext e111
  replace HSm:=((HSm.ext e7).keep k110 aC).ext e111
  replace HGm:=((HGm.ext e7).keep k110 aC).ext e111
  replace EL1:=((EL1.trans e7.keep).step k110 bi).trans e111.keep
  replace HSf:=((HSf.ext e7).keep k110 aC).ext e111
  replace HG3:=((HG3.ext e7).keep k110 aC).ext e111
  replace HSt:=HSt.ext e111
  replace HSrt:=HSrt.ext e111
  refine ac (U (am Z Z (fun h89=>?_) (fun h89=>?_)))
  ·
   refine V (O zd (aa (ad Z) (ac (U (aw (ay (bz (ay (ay ?_)))))))))
   refine bz (ay (aU Z zq (cE Z) ?_))
   refine ⟨?_,E⟩
   congr 1;symm;rw [Bool.eq_false_iff];intro h
   have g:=((fM.1 h).1 x (List.mem_of_getElem? hx)).2.2
   exact lx (x:=x) h62 (by rw [hi,hrg,hoi];simpa [hj0] using h89) g
  have hat:kz rs x=true:=lw (x:=x) h62 (by rw [hi,hrg,hoi];simpa [hj0] using h89)
  refine ar (U (V (O zd (aa (ad Z) (ac (U (aO (cy (τ:=Nat) [2,8,90,91,92,93,94,95,96,97,98,99,100,101,102,103,104,105,106,107,108,109,110,111,112,113,114,115,116] (fun k=>[(8,.int .i64 k)]) (fun k W=>aX w W∧ao (aP) w111 W∧k≤i∧∀ z ∈ ms.take k,z.1.1 < x.1.1∧z.1.2.1≠x.1.2.1) (fun k=>i - k) 0 (by exact ⟨rfl,trivial⟩) (by exact ⟨E,ao.refl _,Nat.zero_le _,fun z hz=>by simp at hz⟩) ?_))))))))
  rintro k w112 j ⟨E,EL3,h3,h4⟩
  have:=EL3.size
  refine V (V (O zd (aa (aQ Z) (aa (aQ Z) (aa (bw Z Z) ?_)))))
  replace HSr:=HSr.ext EL3
  replace HSm:=HSm.ext EL3
  replace HGm:=HGm.ext EL3
  replace HB1:=HB1.ext EL3
  replace EL1:=EL1.trans EL3.keep
  replace HPq:=HPq.ext EL3
  replace HSf:=HSf.ext EL3
  replace HSt:=HSt.ext EL3
  replace HG3:=HG3.ext EL3
  replace HB4:=HB4.ext EL3
  replace HPj:=HPj.ext EL3
  replace HSrt:=HSrt.ext EL3
  replace HB7:=HB7.ext EL3
  refine ac (U (am Z Z (fun h92=>?_) (fun h92=>?_)))
  ·
   have h92:=bl h92
   obtain ⟨z,hz,_⟩:=eC (l:=ms) (i:=k) zo
   obtain ⟨q2,cs2,hq2,hF2,_,HPz,hrz⟩:=HSm.el hz
   cases hq2
   obtain ⟨b11,d11,b12,d12,rfl,HSzf,_⟩:=cR hrz
   refine ar (U (V (aO (V (dx (aP) zk zd zd ?_)))))
   refine aB (fun ab w hR hd=>aA 3 25 Z) ?_
   refine aB (fun ab w hR hd=>ag zk (hd 0 Z) (by first | exact (HPz.ext hR) 3 _ rfl | exact aK (HPz.ext hR) | exact (HB7.ext hR).pv 3 _ rfl | exact (HPj.ext hR) 3 _ rfl | exact aK (HPj.ext hR) | exact (HB4.ext hR).pv 3 _ rfl | exact (HPq.ext hR) 3 _ rfl | exact aK (HPq.ext hR) | exact (HB1.ext hR).pv 3 _ rfl | assumption)) ?_
   refine aB (fun ab w hR hd=>aQ Z) ?_
   refine aB (fun ab w hR hd=>aF (et:=55) (sz:=7) (k:=k) zk zk (hd 1 Z) (hd 2 Z) (by first | rfl | omega) zo) ?_
   refine aB (fun ab w hR hd=>aA 0 46 (hd 3 Z)) ?_
   refine aB (fun ab w hR hd=>aA 0 2 (hd 4 Z)) ?_
   refine aB (fun ab w hR hd=>ag zk (hd 5 Z) (by first | exact (HPz.ext hR) 0 _ rfl | exact (HB7.ext hR).pv 0 _ rfl | exact (HPj.ext hR) 0 _ rfl | exact (HB4.ext hR).pv 0 _ rfl | exact (HPq.ext hR) 0 _ rfl | exact (HB1.ext hR).pv 0 _ rfl | assumption)) ?_
   refine aB (fun ab w hR hd=>aA 0 2 Z) ?_
   refine aB (fun ab w hR hd=>ag zk (hd 7 Z) (by first | exact (HPz.ext hR) 0 _ rfl | exact (HB7.ext hR).pv 0 _ rfl | exact (HPj.ext hR) 0 _ rfl | exact (HB4.ext hR).pv 0 _ rfl | exact (HPq.ext hR) 0 _ rfl | exact (HB1.ext hR).pv 0 _ rfl | assumption)) ?_
   refine aB (fun ab w hR hd=>fc (hd 6 Z) (hd 8 Z)) ?_
   refine aB (fun ab w hR hd=>be (t:=.bool _) (hd 9 Z)) ?_
   refine bh Z (fun ab w hd=>hd 10 Z) (fun ab w hR hd hG=>aA 3 25 Z) ?_
   refine bh Z (fun ab w hd=>hd 10 Z) (fun ab w hR hd hG=>ag zk (gd hG (hd 11 Z)) (by first | exact (HPz.ext hR) 3 _ rfl | exact aK (HPz.ext hR) | exact (HB7.ext hR).pv 3 _ rfl | exact (HPj.ext hR) 3 _ rfl | exact aK (HPj.ext hR) | exact (HB4.ext hR).pv 3 _ rfl | exact (HPq.ext hR) 3 _ rfl | exact aK (HPq.ext hR) | exact (HB1.ext hR).pv 3 _ rfl | assumption)) ?_
   refine bh Z (fun ab w hd=>hd 10 Z) (fun ab w hR hd hG=>aQ Z) ?_
   refine bh Z (fun ab w hd=>hd 10 Z) (fun ab w hR hd hG=>aF (et:=55) (sz:=7) (k:=k) zk zk (gd hG (hd 12 Z)) (gd hG (hd 13 Z)) (by first | rfl | omega) zo) ?_
   refine bh Z (fun ab w hd=>hd 10 Z) (fun ab w hR hd hG=>aA 0 46 (gd hG (hd 14 Z))) ?_
   refine bh Z (fun ab w hd=>hd 10 Z) (fun ab w hR hd hG=>aA 1 28 (gd hG (hd 15 Z))) ?_
   refine bh Z (fun ab w hd=>hd 10 Z) (fun ab w hR hd hG=>ag zk (gd hG (hd 16 Z)) (by first | exact (HPz.ext hR) 1 _ rfl | exact aK (HPz.ext hR) | exact (HB7.ext hR).pv 1 _ rfl | exact (HPj.ext hR) 1 _ rfl | exact aK (HPj.ext hR) | exact (HB4.ext hR).pv 1 _ rfl | exact (HPq.ext hR) 1 _ rfl | exact aK (HPq.ext hR) | exact (HB1.ext hR).pv 1 _ rfl | assumption)) ?_
   refine bh Z (fun ab w hd=>hd 10 Z) (fun ab w hR hd hG=>aA 1 28 Z) ?_
   refine bh Z (fun ab w hd=>hd 10 Z) (fun ab w hR hd hG=>ag zk (gd hG (hd 18 Z)) (by first | exact (HPz.ext hR) 1 _ rfl | exact aK (HPz.ext hR) | exact (HB7.ext hR).pv 1 _ rfl | exact (HPj.ext hR) 1 _ rfl | exact aK (HPj.ext hR) | exact (HB4.ext hR).pv 1 _ rfl | exact (HPq.ext hR) 1 _ rfl | exact aK (HPq.ext hR) | exact (HB1.ext hR).pv 1 _ rfl | assumption)) ?_
   refine gx Z (fun ab w hd=>hd 10 Z) (fun ab w hR hd hG=>aW zk (gd hG (hd 17 Z)) (gd hG (hd 19 Z)) (eB (HSzf.ext hR) (HSf.ext hR))) ?_
   refine aB (fun ab w hR hd=>bF (hd 10 Z) (hd 20 Z)) ?_
   refine bU (fun w113 e113=>?_)
   rintro _ rfl _ rfl _ rfl _ rfl _ rfl _ rfl _ rfl _ rfl _ rfl _ rfl _ rfl _ rfl _ rfl _ rfl _ rfl _ rfl _ rfl _ rfl _ rfl _ rfl _ rfl _ rfl
   have:=e113.size
   replace E:=E.trans e113.keep
   replace HSr:=HSr.ext e113
   replace HSm:=HSm.ext e113
   replace HGm:=HGm.ext e113
   replace HB1:=HB1.ext e113
   replace EL1:=EL1.trans e113.keep
   replace HPq:=HPq.ext e113
   replace HSf:=HSf.ext e113
   replace HSt:=HSt.ext e113
   replace HG3:=HG3.ext e113
   replace HB4:=HB4.ext e113
   replace HPj:=HPj.ext e113
   replace HSrt:=HSrt.ext e113
   replace HB7:=HB7.ext e113
   replace EL3:=EL3.trans e113.keep
   replace HPz:=HPz.ext e113
   replace HSzf:=HSzf.ext e113
   refine bG (U (am Z Z (fun h116=>?_) (fun h116=>?_)))
   ·
    refine V (O zd (aa (ad Z) (ac (U (aw (bz (ay (ay (bz ?_)))))))))
    refine bz (ay (ay (bz (ay (aU Z zq (cE Z) ?_)))))
    refine ⟨?_,E⟩
    congr 1;symm;rw [Bool.eq_false_iff];intro h
    have hp:=(fM.1 h).2
    rw [List.pairwise_iff_getElem] at hp
    have hil:=(List.getElem?_eq_some_iff.1 hx).1
    have hp:=hp k i zo hil zo
    rw [(List.getElem?_eq_some_iff.1 hx).2,(List.getElem?_eq_some_iff.1 hz).2] at hp
    simp only [Bool.or_eq_true,decide_eq_true_eq] at h116
    rcases h116 with h | h
    ·
     omega
    exact hp.2 h
   refine ar (bE (U (O zd (aa (aQ Z) (aa (cn Z Z (by first | exact bn zo zo | rfl)) ?_)))))
   refine aa (bO Z) (ac (U (⟨k + 1,_,rfl,by (repeat (first | exact cD.of_over _ _ _ | refine cD.upd ?_ zq _ | refine cD.overs ?_ zq _)),⟨by first | rfl | exact congrArg (Value.int _) zo | (simp;done),trivial⟩,⟨E,EL3,?_⟩,?_⟩)))
   ·
    refine ⟨by omega,fun u hu=>?_⟩
    rw [List.take_add_one,hz] at hu
    rcases List.mem_append.1 hu with hu | hu
    ·
     exact h4 u hu
    obtain rfl:u=z:=by simpa using hu
    simp only [Bool.or_eq_false_iff,decide_eq_false_iff_not] at h116
    exact ⟨by omega,h116.2⟩
   (dsimp only;omega)
  refine cl (bm (bm (cV (bE (U (O zd (aa (aQ Z) (aa (cn Z Z (by first | exact bn zo zo | rfl)) ?_))))))))
  refine aa (bO Z) (ac (U (⟨i + 1,_,rfl,by (repeat' (first | exact cD.of_over _ _ _ | refine cD.upd ?_ zq _ | refine cD.overs ?_ zq _)),⟨by first | rfl | exact congrArg (Value.int _) zo | (simp;done),trivial⟩,⟨E,EL1,?_⟩,?_⟩)))
  ·
   have hk:k=i:=by have:=bf h92;omega
   subst hk
   refine ⟨by omega,fun u hu=>?_,?_⟩
   ·
    rw [List.take_add_one,hx] at hu
    rcases List.mem_append.1 hu with hu | hu
    ·
     exact h2.1 u hu
    obtain rfl:u=x:=by simpa using hu
    exact ⟨hgd.1,hgd.2,hat⟩
   rw [List.take_add_one,hx]
   refine List.pairwise_append.2 ⟨h2.2,List.pairwise_singleton _ _,fun a ha b hb=>?_⟩
   obtain rfl:b=x:=by simpa using hb
   exact h4 a ha
  (dsimp only;omega)
 refine cl (bm (bm (cV (U (V (O zd (aa (ad Z) (ac (U ?_)))))))))
 refine aw (aU Z zq (cE Z) ?_)
 refine ⟨?_,E⟩
 congr 1;symm;rw [fM]
 rw [List.take_of_length_le (by have:=bf hlt;omega)] at h2;exact h2
end Go.Proofs.YteehplloacefmaaGreat

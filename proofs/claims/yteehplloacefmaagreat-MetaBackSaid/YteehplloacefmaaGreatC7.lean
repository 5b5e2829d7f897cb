/- Steps and lemmas for the walks. -/
import Derived.Test.YteehplloacefmaaGreatCb
import Derived.Test.YteehplloacefmaaGreatCz
set_option linter.unusedVariables false
set_option linter.unusedSimpArgs false
set_option maxRecDepth 100000
namespace Go.Proofs.YteehplloacefmaaGreat
open Go.Vc
theorem sI {k g:Int} {rq:ov} {mv:iJ} {en:List dS} {an key:List UInt8} (h1:¬ k=1) (h2:¬ k=2) (h3:¬ k=3) (h5:¬ k=5) (h9:¬ k=9) (h10:¬ k=10) (h4:¬ k=4) (h6:¬ k=6) (h7:¬ k=7) (h8:¬ k=8) :
    gI (k,rq,mv,en,an,key,g)=((k,gm,jF,[],[],[],0),false):=by
  simp [gI,h1,h2,h3,h4,h5,h6,h7,h8,h9,h10]
set_option maxHeartbeats 8000000 in
theorem t9 {w:World} {F:Nat→Prop} {v:Value} {c:iq} (HG0:aY pe w F v c):ae Tryz.prog 77 #[v] w (fun o w'=>(∃ u,o=.tuple #[u,.bool (gI c).2]∧aY pe w' (fun b=>b < w.heap.size) u (gI c).1)∧aX w w'):=by
 obtain ⟨k,rq,mv,en,an,key,g⟩:=c
 obtain ⟨a1,c1,a2,c2,a3,c3,a4,c4,a5,c5,a6,c6,a7,c7,a8,c8,a9,c9,rfl,HG1,HG2,HSe,HSa,HSk,hik,hig⟩:=HG0.cm
 clear HG0
 have hme:=HSe.len_max
 have hma:=HSa.len_max
 have hmk:=HSk.len_max
 refine aL 95 Tryz.func77 Z Z (by simp) ?_
 refine V ?_
 have E:=ao.refl (K:=aP) w
 replace HG1:=HG1.all
 replace HG2:=HG2.all
 replace HSe:=HSe.all
 replace HSa:=HSa.all
 replace HSk:=HSk.all
 refine O zd (ah (aS (aZ Z) ?_))
 rintro b1 w1 zb1 HB1 e1 z1
 have:=e1.size
 try simp only [Value.cells] at HB1
 refine ah (aD (z:=(.agg #[.int .i64 0,.int .i64 0,.int .i64 0,.int .i64 0,.slice none 0 0,.slice none 0 0,.slice none 0 0,.slice none 0 0,.bool false,.int .i64 0,.int .i64 0,.slice none 0 0,.slice none 0 0,.bool false,.int .i64 0,.int .i64 0,.slice none 0 0,.slice none 0 0,.slice none 0 0,.int .i64 0])) (by unfold aE;kernel_rfl) ?_)
 rintro b2 w2 zb2 HB2 e2 z2
 have:=e2.size
 try simp only [Value.cells] at HB2
 replace HB1:=HB1.ext e2
 refine aa (ad Z) (ac (U (V (O zd (aa (aA 0 38 Z) (aa (ag zk Z (by first | exact HB2.pv 0 _ rfl | exact HB1.pv 0 _ rfl | assumption)) ?_))))))
 refine aa (aV (pl:=[(0,1),(1,9),(10,6),(16,1),(17,1),(18,1),(19,1)]) (z:=.agg #[.int .i64 0,.int .i64 0,.int .i64 0,.int .i64 0,.slice none 0 0,.slice none 0 0,.slice none 0 0,.slice none 0 0,.bool false,.int .i64 0,.int .i64 0,.slice none 0 0,.slice none 0 0,.bool false,.int .i64 0,.int .i64 0,.slice none 0 0,.slice none 0 0,.slice none 0 0,.int .i64 0]) (zl:=[.int .i64 0,.int .i64 0,.int .i64 0,.int .i64 0,.slice none 0 0,.slice none 0 0,.slice none 0 0,.slice none 0 0,.bool false,.int .i64 0,.int .i64 0,.slice none 0 0,.slice none 0 0,.bool false,.int .i64 0,.int .i64 0,.slice none 0 0,.slice none 0 0,.slice none 0 0,.int .i64 0]) zk (by unfold aE;kernel_rfl) Z Z (cells:=[_,_,_,_,_,_,_,_,_,_,_,_,_,_,_,_,_,_,_,_]) Z) ?_
 refine ah (aD (z:=(.agg #[.int .i64 0,.int .i64 0,.int .i64 0,.int .i64 0,.slice none 0 0,.slice none 0 0,.slice none 0 0,.slice none 0 0,.bool false,.int .i64 0,.int .i64 0,.slice none 0 0,.slice none 0 0,.bool false,.int .i64 0,.int .i64 0,.slice none 0 0,.slice none 0 0,.slice none 0 0,.int .i64 0])) (by unfold aE;kernel_rfl) ?_)
 rintro b4 w4 zb4 HB4 e4 z4
 have:=e4.size
 try simp only [Value.cells] at HB4
 refine ah (aq (n:=20) Z Z (aZ Z) zk Z cT HB4 bV ?_)
 rintro w101 HB4 k101 z101
 have:=k101.size
 try simp only [zS,Nat.zero_add,Nat.reduceAdd,List.drop_nil] at HB4
 replace HB1:=(HB1.ext e4).keep k101 aH
 replace HB2:=(HB2.ext e4).keep k101 aH
 refine ac (U (V (V (O zd (aa (aA 0 38 Z) (aa (ag zk Z (by first | exact HB4.pv 0 _ rfl | exact HB2.pv 0 _ rfl | exact HB1.pv 0 _ rfl | assumption)) ?_))))))
 refine ac (U (aO (V (O zd (aa (aJ Z Z) ?_)))))
 replace E:=(((E.trans e1.keep).trans e2.keep).trans e4.keep).step k101 bi
 replace HG1:=(((HG1.ext e1).ext e2).ext e4).keep k101 aC
 replace HG2:=(((HG2.ext e1).ext e2).ext e4).keep k101 aC
 replace HSe:=(((HSe.ext e1).ext e2).ext e4).keep k101 aC
 replace HSa:=(((HSa.ext e1).ext e2).ext e4).keep k101 aC
 replace HSk:=(((HSk.ext e1).ext e2).ext e4).keep k101 aC
 refine aa (dl Z) (ac (U (am Z Z (fun h1=>?_) (fun h1=>?_))))
 ·
  refine V (O zd (aa (ap zk Z (by first | exact HB4.pv | exact HB2.pv | exact HB1.pv | assumption) Z) ?_))
  refine ah (aq (n:=20) Z Z (aZ Z) zk Z cT HB2 bV ?_)
  rintro w102 HB2 k102 z102
  have:=k102.size
  try simp only [zS,Nat.zero_add,Nat.reduceAdd,List.drop_nil] at HB2
  refine aa (ad Z) (ac (U (aw (bz (ay (bL (n:=20) Z zq zq Z zk HB2.pv Z (cE Z) ?_))))))
  obtain rfl:k=1:=bl h1
  replace E:=E.step k102 bi
  exact ⟨⟨_,rfl,aY.mkCm hik eI fL (bs.nil _ _ _) (bs.nil _ _ _) (bs.nil _ _ _) ⟨by decide,by decide⟩⟩,E⟩
 refine V (O zd (aa (aJ Z Z) ?_))
 refine aa (dl Z) (ac (U (am Z Z (fun h2=>?_) (fun h2=>?_))))
 ·
  refine V (O zd (aa (aA 1 44 Z) (aa (ap zk Z (by first | exact (show Pv _ _ [_,_,_,_,_,_,_,_,_] from aN 1 9 HB4.pv) | exact (show Pv _ _ [_,_,_,_,_,_,_,_,_] from aN 1 9 HB2.pv) | exact (show Pv _ _ [_,_,_,_,_,_,_,_,_] from aN 1 9 HB1.pv) | exact bg 1 HB4.pv | exact bg 1 HB2.pv | exact bg 1 HB1.pv | assumption) Z) ?_)))
  refine aa (aA 1 44 Z) (ah (aq (n:=9) Z Z (aZ Z) zk Z cT HB4 bV ?_))
  rintro w103 HB4 k103 z103
  have:=k103.size
  try simp only [zS,Nat.zero_add,Nat.reduceAdd,List.drop_nil] at HB4
  replace HB2:=HB2.keep k103 aH
  refine ac (U (V (eD (fun k=>k=b2) (gh b2 _ [4] [_,([.int .i64 k,.int .i64 rq.1,.int .i64 rq.2.1,.int .i64 rq.2.2.1,.slice a1 rq.2.2.2.1.length c1,.slice a2 rq.2.2.2.2.1.length c2,.slice a3 rq.2.2.2.2.2.1.length c3,.slice a4 rq.2.2.2.2.2.2.1.length c4,.bool rq.2.2.2.2.2.2.2.1,.int .i64 rq.2.2.2.2.2.2.2.2,.int .i64 0,.slice none 0 0,.slice none 0 0,.bool false,.int .i64 0,.int .i64 0,.slice none 0 0,.slice none 0 0,.slice none 0 0,.int .i64 0]:List Value)]) zk zd zd (fun ab done hd=>gh.start (HB2.ext (ao.drawn _ _)) Z (fun a ha=>hd a (gc (n:=6) Z a ha))) ?_)))
  replace HB1:=HB1.keep k103 aH
  refine aI (fun done ab w hR hcl hdk hJ hdn hd=>ap zk Z (by first | exact (HB4.keep hR aH).pv | exact (HB1.keep hR aH).pv | assumption) Z) (fun _ _ _ _ j=>j.src (ao.refl _) Z) ?_
  refine aI (fun done ab w hR hcl hdk hJ hdn hd=>aA 1 44 Z) (fun _ _ _ _ j=>j.src (ao.refl _) Z) ?_
  refine aI (fun done ab w hR hcl hdk hJ hdn hd=>ap zk (hd 1 Z) (by first | exact (show Pv _ _ [_,_,_,_,_,_,_,_,_] from aN 1 9 (HB4.keep hR aH).pv) | exact (show Pv _ _ [_,_,_,_,_,_,_,_,_] from aN 1 9 (HB1.keep hR aH).pv) | exact bg 1 (HB4.keep hR aH).pv | exact bg 1 (HB1.keep hR aH).pv | assumption) Z) (fun _ _ _ _ j=>j.src (ao.refl _) Z) ?_
  replace HG1:=HG1.keep k103 aC
  refine fJ (fun done ab w hR hcl hdk hJ hdn hd=>av zk (hd 2 Z) (om (HG1.keep hR aC))) (fun done ab w w1 hdk hJ e=>hJ.src e Z) ?_
  replace E:=E.step k103 bi
  replace HG2:=HG2.keep k103 aC
  replace HSe:=HSe.keep k103 aC
  replace HSa:=HSa.keep k103 aC
  replace HSk:=HSk.keep k103 aC
  refine ea (fun done ab w hR hcl hdk hJ hdn hd=>by
    have h0:=hJ.at (n:=0) rfl hdk (fun m h=>by cases h)
    try dsimp only [List.getD_cons_zero,List.getD_cons_succ] at h0
    exact aq (n:=20) rfl rfl (hd 0 rfl) zk rfl (eo (by rfl)) h0 (of_decide_eq_true rfl) (fun w1 hB1 kk z=>⟨kk,hJ.step (n:=0) rfl hdk (fun m h=>by cases h) rfl hB1⟩)) ?_
  refine aI (fun done ab w hR hcl hdk hJ hdn hd=>ad (t:=.bool _) (hd 3 Z)) (fun _ _ _ _ j=>j.src (ao.refl _) Z) ?_
  refine dq (fun ab w104 k104 J104=>?_)
  rintro _ - rfl _ - rfl _ - rfl _ - rfl _ - - _ - rfl
  have:=k104.size
  have HB2:dh w104 b2 [.int .i64 k,.int .i64 rq.1,.int .i64 rq.2.1,.int .i64 rq.2.2.1,.slice a1 rq.2.2.2.1.length c1,.slice a2 rq.2.2.2.2.1.length c2,.slice a3 rq.2.2.2.2.2.1.length c3,.slice a4 rq.2.2.2.2.2.2.1.length c4,.bool rq.2.2.2.2.2.2.2.1,.int .i64 rq.2.2.2.2.2.2.2.2,.int .i64 0,.slice none 0 0,.slice none 0 0,.bool false,.int .i64 0,.int .i64 0,.slice none 0 0,.slice none 0 0,.slice none 0 0,.int .i64 0] _:=gh.fin (n:=1) J104 rfl
  refine ct (U (aw (bz (ay (bL (n:=20) Z zq zq Z zk HB2.pv Z (cE Z) ?_)))))
  obtain rfl:k=2:=bl h2
  replace E:=E.step k104 bi
  replace HG1:=HG1.keep k104 aC
  exact ⟨⟨_,rfl,aY.mkCm hik HG1 fL (bs.nil _ _ _) (bs.nil _ _ _) (bs.nil _ _ _) ⟨by decide,by decide⟩⟩,E⟩
 refine V (V (O zd (aa (aJ Z Z) ?_)))
 refine aa (dl Z) (ac (U (am Z Z (fun h3=>?_) (fun h3=>?_))))
 ·
  refine ar (U (am Z Z (fun hx=>?_) (fun hx=>?_)))
  ·
   refine V (O zd (aa (aA 10 46 Z) (aa (ap zk Z (by first | exact (show Pv _ _ [_,_,_,_,_,_] from aN 10 6 HB4.pv) | exact (show Pv _ _ [_,_,_,_,_,_] from aN 10 6 HB2.pv) | exact (show Pv _ _ [_,_,_,_,_,_] from aN 10 6 HB1.pv) | exact bg 10 HB4.pv | exact bg 10 HB2.pv | exact bg 10 HB1.pv | assumption) Z) ?_)))
   refine aa (aA 10 46 Z) (ah (aq (n:=6) Z Z (aZ Z) zk Z cT HB4 bV ?_))
   rintro w105 HB4 k105 z105
   have:=k105.size
   try simp only [zS,Nat.zero_add,Nat.reduceAdd,List.drop_nil] at HB4
   replace HB2:=HB2.keep k105 aH
   refine ac (U (V (eD (fun k=>k=b2) (gh b2 _ [4] [_,([.int .i64 k,.int .i64 0,.int .i64 0,.int .i64 0,.slice none 0 0,.slice none 0 0,.slice none 0 0,.slice none 0 0,.bool false,.int .i64 0,.int .i64 mv.1,.slice a5 mv.2.1.length c5,.slice a6 mv.2.2.1.length c6,.bool mv.2.2.2.1,.int .i64 mv.2.2.2.2.1,.int .i64 mv.2.2.2.2.2,.slice none 0 0,.slice none 0 0,.slice none 0 0,.int .i64 0]:List Value)]) zk zd zd (fun ab done hd=>gh.start (HB2.ext (ao.drawn _ _)) Z (fun a ha=>hd a (gc (n:=6) Z a ha))) ?_)))
   replace HB1:=HB1.keep k105 aH
   refine aI (fun done ab w hR hcl hdk hJ hdn hd=>ap zk Z (by first | exact (HB4.keep hR aH).pv | exact (HB1.keep hR aH).pv | assumption) Z) (fun _ _ _ _ j=>j.src (ao.refl _) Z) ?_
   refine aI (fun done ab w hR hcl hdk hJ hdn hd=>aA 10 46 Z) (fun _ _ _ _ j=>j.src (ao.refl _) Z) ?_
   refine aI (fun done ab w hR hcl hdk hJ hdn hd=>ap zk (hd 1 Z) (by first | exact (show Pv _ _ [_,_,_,_,_,_] from aN 10 6 (HB4.keep hR aH).pv) | exact (show Pv _ _ [_,_,_,_,_,_] from aN 10 6 (HB1.keep hR aH).pv) | exact bg 10 (HB4.keep hR aH).pv | exact bg 10 (HB1.keep hR aH).pv | assumption) Z) (fun _ _ _ _ j=>j.src (ao.refl _) Z) ?_
   replace HG2:=HG2.keep k105 aC
   refine fJ (fun done ab w hR hcl hdk hJ hdn hd=>av zk (hd 2 Z) (gr (HG2.keep hR aC))) (fun done ab w w1 hdk hJ e=>hJ.src e Z) ?_
   replace E:=E.step k105 bi
   replace HG1:=HG1.keep k105 aC
   replace HSe:=HSe.keep k105 aC
   replace HSa:=HSa.keep k105 aC
   replace HSk:=HSk.keep k105 aC
   refine ea (fun done ab w hR hcl hdk hJ hdn hd=>by
     have h0:=hJ.at (n:=0) rfl hdk (fun m h=>by cases h)
     try dsimp only [List.getD_cons_zero,List.getD_cons_succ] at h0
     exact aq (n:=20) rfl rfl (hd 0 rfl) zk rfl (eo (by rfl)) h0 (of_decide_eq_true rfl) (fun w1 hB1 kk z=>⟨kk,hJ.step (n:=0) rfl hdk (fun m h=>by cases h) rfl hB1⟩)) ?_
   refine aI (fun done ab w hR hcl hdk hJ hdn hd=>ad (t:=.bool _) (hd 3 Z)) (fun _ _ _ _ j=>j.src (ao.refl _) Z) ?_
   refine dq (fun ab w106 k106 J106=>?_)
   rintro _ - rfl _ - rfl _ - rfl _ - rfl _ - - _ - rfl
   have:=k106.size
   have HB2:dh w106 b2 [.int .i64 k,.int .i64 0,.int .i64 0,.int .i64 0,.slice none 0 0,.slice none 0 0,.slice none 0 0,.slice none 0 0,.bool false,.int .i64 0,.int .i64 mv.1,.slice a5 mv.2.1.length c5,.slice a6 mv.2.2.1.length c6,.bool mv.2.2.2.1,.int .i64 mv.2.2.2.2.1,.int .i64 mv.2.2.2.2.2,.slice none 0 0,.slice none 0 0,.slice none 0 0,.int .i64 0] _:=gh.fin (n:=1) J106 rfl
   refine ct (U (aw (bz (ay (bL (n:=20) Z zq zq Z zk HB2.pv Z (cE Z) ?_)))))
   obtain rfl:k=3:=bl h3
   replace E:=E.step k106 bi
   replace HG2:=HG2.keep k106 aC
   exact ⟨⟨_,rfl,aY.mkCm hik eI HG2 (bs.nil _ _ _) (bs.nil _ _ _) (bs.nil _ _ _) ⟨by decide,by decide⟩⟩,E⟩
  rw [h3] at hx;cases hx
 refine V (O zd (aa (aJ Z Z) ?_))
 refine aa (dl Z) (ac (U (am Z Z (fun h5=>?_) (fun h5=>?_))))
 ·
  refine ar (U (am Z Z (fun hx=>?_) (fun hx=>?_)))
  ·
   refine V (O zd (aa (aA 10 46 Z) (aa (ap zk Z (by first | exact (show Pv _ _ [_,_,_,_,_,_] from aN 10 6 HB4.pv) | exact (show Pv _ _ [_,_,_,_,_,_] from aN 10 6 HB2.pv) | exact (show Pv _ _ [_,_,_,_,_,_] from aN 10 6 HB1.pv) | exact bg 10 HB4.pv | exact bg 10 HB2.pv | exact bg 10 HB1.pv | assumption) Z) ?_)))
   refine aa (aA 10 46 Z) (ah (aq (n:=6) Z Z (aZ Z) zk Z cT HB4 bV ?_))
   rintro w107 HB4 k107 z107
   have:=k107.size
   try simp only [zS,Nat.zero_add,Nat.reduceAdd,List.drop_nil] at HB4
   replace HB2:=HB2.keep k107 aH
   refine ac (U (V (eD (fun k=>k=b2) (gh b2 _ [4] [_,([.int .i64 k,.int .i64 0,.int .i64 0,.int .i64 0,.slice none 0 0,.slice none 0 0,.slice none 0 0,.slice none 0 0,.bool false,.int .i64 0,.int .i64 mv.1,.slice a5 mv.2.1.length c5,.slice a6 mv.2.2.1.length c6,.bool mv.2.2.2.1,.int .i64 mv.2.2.2.2.1,.int .i64 mv.2.2.2.2.2,.slice none 0 0,.slice none 0 0,.slice none 0 0,.int .i64 0]:List Value)]) zk zd zd (fun ab done hd=>gh.start (HB2.ext (ao.drawn _ _)) Z (fun a ha=>hd a (gc (n:=6) Z a ha))) ?_)))
   replace HB1:=HB1.keep k107 aH
   refine aI (fun done ab w hR hcl hdk hJ hdn hd=>ap zk Z (by first | exact (HB4.keep hR aH).pv | exact (HB1.keep hR aH).pv | assumption) Z) (fun _ _ _ _ j=>j.src (ao.refl _) Z) ?_
   refine aI (fun done ab w hR hcl hdk hJ hdn hd=>aA 10 46 Z) (fun _ _ _ _ j=>j.src (ao.refl _) Z) ?_
   refine aI (fun done ab w hR hcl hdk hJ hdn hd=>ap zk (hd 1 Z) (by first | exact (show Pv _ _ [_,_,_,_,_,_] from aN 10 6 (HB4.keep hR aH).pv) | exact (show Pv _ _ [_,_,_,_,_,_] from aN 10 6 (HB1.keep hR aH).pv) | exact bg 10 (HB4.keep hR aH).pv | exact bg 10 (HB1.keep hR aH).pv | assumption) Z) (fun _ _ _ _ j=>j.src (ao.refl _) Z) ?_
   replace HG2:=HG2.keep k107 aC
   refine fJ (fun done ab w hR hcl hdk hJ hdn hd=>av zk (hd 2 Z) (gr (HG2.keep hR aC))) (fun done ab w w1 hdk hJ e=>hJ.src e Z) ?_
   replace E:=E.step k107 bi
   replace HG1:=HG1.keep k107 aC
   replace HSe:=HSe.keep k107 aC
   replace HSa:=HSa.keep k107 aC
   replace HSk:=HSk.keep k107 aC
   refine ea (fun done ab w hR hcl hdk hJ hdn hd=>by
     have h0:=hJ.at (n:=0) rfl hdk (fun m h=>by cases h)
     try dsimp only [List.getD_cons_zero,List.getD_cons_succ] at h0
     exact aq (n:=20) rfl rfl (hd 0 rfl) zk rfl (eo (by rfl)) h0 (of_decide_eq_true rfl) (fun w1 hB1 kk z=>⟨kk,hJ.step (n:=0) rfl hdk (fun m h=>by cases h) rfl hB1⟩)) ?_
   refine aI (fun done ab w hR hcl hdk hJ hdn hd=>ad (t:=.bool _) (hd 3 Z)) (fun _ _ _ _ j=>j.src (ao.refl _) Z) ?_
   refine dq (fun ab w108 k108 J108=>?_)
   rintro _ - rfl _ - rfl _ - rfl _ - rfl _ - - _ - rfl
   have:=k108.size
   have HB2:dh w108 b2 [.int .i64 k,.int .i64 0,.int .i64 0,.int .i64 0,.slice none 0 0,.slice none 0 0,.slice none 0 0,.slice none 0 0,.bool false,.int .i64 0,.int .i64 mv.1,.slice a5 mv.2.1.length c5,.slice a6 mv.2.2.1.length c6,.bool mv.2.2.2.1,.int .i64 mv.2.2.2.2.1,.int .i64 mv.2.2.2.2.2,.slice none 0 0,.slice none 0 0,.slice none 0 0,.int .i64 0] _:=gh.fin (n:=1) J108 rfl
   refine ct (U (aw (bz (ay (bL (n:=20) Z zq zq Z zk HB2.pv Z (cE Z) ?_)))))
   obtain rfl:k=5:=bl h5
   replace E:=E.step k108 bi
   replace HG2:=HG2.keep k108 aC
   exact ⟨⟨_,rfl,aY.mkCm hik eI HG2 (bs.nil _ _ _) (bs.nil _ _ _) (bs.nil _ _ _) ⟨by decide,by decide⟩⟩,E⟩
  rw [h5] at hx;cases hx
 refine V (O zd (aa (aJ Z Z) ?_))
 refine aa (dl Z) (ac (U (am Z Z (fun h9=>?_) (fun h9=>?_))))
 ·
  refine ar (U (am Z Z (fun hx=>?_) (fun hx=>?_)))
  ·
   refine V (O zd (aa (aA 10 46 Z) (aa (ap zk Z (by first | exact (show Pv _ _ [_,_,_,_,_,_] from aN 10 6 HB4.pv) | exact (show Pv _ _ [_,_,_,_,_,_] from aN 10 6 HB2.pv) | exact (show Pv _ _ [_,_,_,_,_,_] from aN 10 6 HB1.pv) | exact bg 10 HB4.pv | exact bg 10 HB2.pv | exact bg 10 HB1.pv | assumption) Z) ?_)))
   refine aa (aA 10 46 Z) (ah (aq (n:=6) Z Z (aZ Z) zk Z cT HB4 bV ?_))
   rintro w109 HB4 k109 z109
   have:=k109.size
   try simp only [zS,Nat.zero_add,Nat.reduceAdd,List.drop_nil] at HB4
   replace HB2:=HB2.keep k109 aH
   refine ac (U (V (eD (fun k=>k=b2) (gh b2 _ [4] [_,([.int .i64 k,.int .i64 0,.int .i64 0,.int .i64 0,.slice none 0 0,.slice none 0 0,.slice none 0 0,.slice none 0 0,.bool false,.int .i64 0,.int .i64 mv.1,.slice a5 mv.2.1.length c5,.slice a6 mv.2.2.1.length c6,.bool mv.2.2.2.1,.int .i64 mv.2.2.2.2.1,.int .i64 mv.2.2.2.2.2,.slice none 0 0,.slice none 0 0,.slice none 0 0,.int .i64 0]:List Value)]) zk zd zd (fun ab done hd=>gh.start (HB2.ext (ao.drawn _ _)) Z (fun a ha=>hd a (gc (n:=6) Z a ha))) ?_)))
   replace HB1:=HB1.keep k109 aH
   refine aI (fun done ab w hR hcl hdk hJ hdn hd=>ap zk Z (by first | exact (HB4.keep hR aH).pv | exact (HB1.keep hR aH).pv | assumption) Z) (fun _ _ _ _ j=>j.src (ao.refl _) Z) ?_
   refine aI (fun done ab w hR hcl hdk hJ hdn hd=>aA 10 46 Z) (fun _ _ _ _ j=>j.src (ao.refl _) Z) ?_
   refine aI (fun done ab w hR hcl hdk hJ hdn hd=>ap zk (hd 1 Z) (by first | exact (show Pv _ _ [_,_,_,_,_,_] from aN 10 6 (HB4.keep hR aH).pv) | exact (show Pv _ _ [_,_,_,_,_,_] from aN 10 6 (HB1.keep hR aH).pv) | exact bg 10 (HB4.keep hR aH).pv | exact bg 10 (HB1.keep hR aH).pv | assumption) Z) (fun _ _ _ _ j=>j.src (ao.refl _) Z) ?_
   replace HG2:=HG2.keep k109 aC
   refine fJ (fun done ab w hR hcl hdk hJ hdn hd=>av zk (hd 2 Z) (gr (HG2.keep hR aC))) (fun done ab w w1 hdk hJ e=>hJ.src e Z) ?_
   replace E:=E.step k109 bi
   replace HG1:=HG1.keep k109 aC
   replace HSe:=HSe.keep k109 aC
   replace HSa:=HSa.keep k109 aC
   replace HSk:=HSk.keep k109 aC
   refine ea (fun done ab w hR hcl hdk hJ hdn hd=>by
     have h0:=hJ.at (n:=0) rfl hdk (fun m h=>by cases h)
     try dsimp only [List.getD_cons_zero,List.getD_cons_succ] at h0
     exact aq (n:=20) rfl rfl (hd 0 rfl) zk rfl (eo (by rfl)) h0 (of_decide_eq_true rfl) (fun w1 hB1 kk z=>⟨kk,hJ.step (n:=0) rfl hdk (fun m h=>by cases h) rfl hB1⟩)) ?_
   refine aI (fun done ab w hR hcl hdk hJ hdn hd=>ad (t:=.bool _) (hd 3 Z)) (fun _ _ _ _ j=>j.src (ao.refl _) Z) ?_
   refine dq (fun ab w110 k110 J110=>?_)
   rintro _ - rfl _ - rfl _ - rfl _ - rfl _ - - _ - rfl
   have:=k110.size
   have HB2:dh w110 b2 [.int .i64 k,.int .i64 0,.int .i64 0,.int .i64 0,.slice none 0 0,.slice none 0 0,.slice none 0 0,.slice none 0 0,.bool false,.int .i64 0,.int .i64 mv.1,.slice a5 mv.2.1.length c5,.slice a6 mv.2.2.1.length c6,.bool mv.2.2.2.1,.int .i64 mv.2.2.2.2.1,.int .i64 mv.2.2.2.2.2,.slice none 0 0,.slice none 0 0,.slice none 0 0,.int .i64 0] _:=gh.fin (n:=1) J110 rfl
   refine ct (U (aw (bz (ay (bL (n:=20) Z zq zq Z zk HB2.pv Z (cE Z) ?_)))))
   obtain rfl:k=9:=bl h9
   replace E:=E.step k110 bi
   replace HG2:=HG2.keep k110 aC
   exact ⟨⟨_,rfl,aY.mkCm hik eI HG2 (bs.nil _ _ _) (bs.nil _ _ _) (bs.nil _ _ _) ⟨by decide,by decide⟩⟩,E⟩
  rw [h9] at hx;cases hx
 refine O zd (aa (aJ Z Z) ?_)
 refine aa (dl Z) (ac (U (am Z Z (fun h10=>?_) (fun h10=>?_))))
 ·
  refine V (O zd (aa (aA 10 46 Z) (aa (ap zk Z (by first | exact (show Pv _ _ [_,_,_,_,_,_] from aN 10 6 HB4.pv) | exact (show Pv _ _ [_,_,_,_,_,_] from aN 10 6 HB2.pv) | exact (show Pv _ _ [_,_,_,_,_,_] from aN 10 6 HB1.pv) | exact bg 10 HB4.pv | exact bg 10 HB2.pv | exact bg 10 HB1.pv | assumption) Z) ?_)))
  refine aa (aA 10 46 Z) (ah (aq (n:=6) Z Z (aZ Z) zk Z cT HB4 bV ?_))
  rintro w111 HB4 k111 z111
  have:=k111.size
  try simp only [zS,Nat.zero_add,Nat.reduceAdd,List.drop_nil] at HB4
  replace HB2:=HB2.keep k111 aH
  refine ac (U (V (eD (fun k=>k=b2) (gh b2 _ [4] [_,([.int .i64 k,.int .i64 0,.int .i64 0,.int .i64 0,.slice none 0 0,.slice none 0 0,.slice none 0 0,.slice none 0 0,.bool false,.int .i64 0,.int .i64 mv.1,.slice a5 mv.2.1.length c5,.slice a6 mv.2.2.1.length c6,.bool mv.2.2.2.1,.int .i64 mv.2.2.2.2.1,.int .i64 mv.2.2.2.2.2,.slice none 0 0,.slice none 0 0,.slice none 0 0,.int .i64 0]:List Value)]) zk zd zd (fun ab done hd=>gh.start (HB2.ext (ao.drawn _ _)) Z (fun a ha=>hd a (gc (n:=6) Z a ha))) ?_)))
  replace HB1:=HB1.keep k111 aH
  refine aI (fun done ab w hR hcl hdk hJ hdn hd=>ap zk Z (by first | exact (HB4.keep hR aH).pv | exact (HB1.keep hR aH).pv | assumption) Z) (fun _ _ _ _ j=>j.src (ao.refl _) Z) ?_
  refine aI (fun done ab w hR hcl hdk hJ hdn hd=>aA 10 46 Z) (fun _ _ _ _ j=>j.src (ao.refl _) Z) ?_
  refine aI (fun done ab w hR hcl hdk hJ hdn hd=>ap zk (hd 1 Z) (by first | exact (show Pv _ _ [_,_,_,_,_,_] from aN 10 6 (HB4.keep hR aH).pv) | exact (show Pv _ _ [_,_,_,_,_,_] from aN 10 6 (HB1.keep hR aH).pv) | exact bg 10 (HB4.keep hR aH).pv | exact bg 10 (HB1.keep hR aH).pv | assumption) Z) (fun _ _ _ _ j=>j.src (ao.refl _) Z) ?_
  replace HG2:=HG2.keep k111 aC
  refine fJ (fun done ab w hR hcl hdk hJ hdn hd=>av zk (hd 2 Z) (gr (HG2.keep hR aC))) (fun done ab w w1 hdk hJ e=>hJ.src e Z) ?_
  replace E:=E.step k111 bi
  replace HG1:=HG1.keep k111 aC
  replace HSe:=HSe.keep k111 aC
  replace HSa:=HSa.keep k111 aC
  replace HSk:=HSk.keep k111 aC
  refine ea (fun done ab w hR hcl hdk hJ hdn hd=>by
    have h0:=hJ.at (n:=0) rfl hdk (fun m h=>by cases h)
    try dsimp only [List.getD_cons_zero,List.getD_cons_succ] at h0
    exact aq (n:=20) rfl rfl (hd 0 rfl) zk rfl (eo (by rfl)) h0 (of_decide_eq_true rfl) (fun w1 hB1 kk z=>⟨kk,hJ.step (n:=0) rfl hdk (fun m h=>by cases h) rfl hB1⟩)) ?_
  refine aI (fun done ab w hR hcl hdk hJ hdn hd=>ad (t:=.bool _) (hd 3 Z)) (fun _ _ _ _ j=>j.src (ao.refl _) Z) ?_
  refine dq (fun ab w112 k112 J112=>?_)
  rintro _ - rfl _ - rfl _ - rfl _ - rfl _ - - _ - rfl
  have:=k112.size
  have HB2:dh w112 b2 [.int .i64 k,.int .i64 0,.int .i64 0,.int .i64 0,.slice none 0 0,.slice none 0 0,.slice none 0 0,.slice none 0 0,.bool false,.int .i64 0,.int .i64 mv.1,.slice a5 mv.2.1.length c5,.slice a6 mv.2.2.1.length c6,.bool mv.2.2.2.1,.int .i64 mv.2.2.2.2.1,.int .i64 mv.2.2.2.2.2,.slice none 0 0,.slice none 0 0,.slice none 0 0,.int .i64 0] _:=gh.fin (n:=1) J112 rfl
  refine ct (U (aw (bz (ay (bL (n:=20) Z zq zq Z zk HB2.pv Z (cE Z) ?_)))))
  obtain rfl:k=10:=bl h10
  replace E:=E.step k112 bi
  replace HG2:=HG2.keep k112 aC
  exact ⟨⟨_,rfl,aY.mkCm hik eI HG2 (bs.nil _ _ _) (bs.nil _ _ _) (bs.nil _ _ _) ⟨by decide,by decide⟩⟩,E⟩
 refine V (O zd (aa (aJ Z Z) ?_))
 refine aa (dl Z) (ac (U (am Z Z (fun h4=>?_) (fun h4=>?_))))
 ·
  refine V (eD (fun k=>k=b4) (gh b4 _ [7,9,11] [_,([.int .i64 k,.int .i64 0,.int .i64 0,.int .i64 0,.slice none 0 0,.slice none 0 0,.slice none 0 0,.slice none 0 0,.bool false,.int .i64 0,.int .i64 mv.1,.slice a5 mv.2.1.length c5,.slice a6 mv.2.2.1.length c6,.bool mv.2.2.2.1,.int .i64 mv.2.2.2.2.1,.int .i64 mv.2.2.2.2.2,.slice none 0 0,.slice none 0 0,.slice none 0 0,.int .i64 0]:List Value),([.int .i64 k,.int .i64 0,.int .i64 0,.int .i64 0,.slice none 0 0,.slice none 0 0,.slice none 0 0,.slice none 0 0,.bool false,.int .i64 0,.int .i64 mv.1,.slice a5 mv.2.1.length c5,.slice a6 mv.2.2.1.length c6,.bool mv.2.2.2.1,.int .i64 mv.2.2.2.2.1,.int .i64 mv.2.2.2.2.2,.slice a7 en.length c7,.slice none 0 0,.slice none 0 0,.int .i64 0]:List Value),([.int .i64 k,.int .i64 0,.int .i64 0,.int .i64 0,.slice none 0 0,.slice none 0 0,.slice none 0 0,.slice none 0 0,.bool false,.int .i64 0,.int .i64 mv.1,.slice a5 mv.2.1.length c5,.slice a6 mv.2.2.1.length c6,.bool mv.2.2.2.1,.int .i64 mv.2.2.2.2.1,.int .i64 mv.2.2.2.2.2,.slice a7 en.length c7,.slice a8 an.length c8,.slice none 0 0,.int .i64 0]:List Value)]) zk zd zd (fun ab done hd=>gh.start (HB4.ext (ao.drawn _ _)) Z (fun a ha=>hd a (gc (n:=12) Z a ha))) ?_)
  refine aI (fun done ab w hR hcl hdk hJ hdn hd=>aA 10 46 Z) (fun _ _ _ _ j=>j.src (ao.refl _) Z) ?_
  refine aI (fun done ab w hR hcl hdk hJ hdn hd=>ap zk (hd 0 Z) (by first | exact (show Pv _ _ [_,_,_,_,_,_] from aN 10 6 (HB2.keep hR aH).pv) | exact (show Pv _ _ [_,_,_,_,_,_] from aN 10 6 (HB1.keep hR aH).pv) | exact bg 10 (HB2.keep hR aH).pv | exact bg 10 (HB1.keep hR aH).pv | assumption) Z) (fun _ _ _ _ j=>j.src (ao.refl _) Z) ?_
  refine aI (fun done ab w hR hcl hdk hJ hdn hd=>aA 16 47 Z) (fun _ _ _ _ j=>j.src (ao.refl _) Z) ?_
  refine aI (fun done ab w hR hcl hdk hJ hdn hd=>ag zk (hd 2 Z) (by first | exact (HB2.keep hR aH).pv 16 _ rfl | exact (HB1.keep hR aH).pv 16 _ rfl | assumption)) (fun _ _ _ _ j=>j.src (ao.refl _) Z) ?_
  refine aI (fun done ab w hR hcl hdk hJ hdn hd=>aA 17 28 Z) (fun _ _ _ _ j=>j.src (ao.refl _) Z) ?_
  refine aI (fun done ab w hR hcl hdk hJ hdn hd=>ag zk (hd 4 Z) (by first | exact (HB2.keep hR aH).pv 17 _ rfl | exact (HB1.keep hR aH).pv 17 _ rfl | assumption)) (fun _ _ _ _ j=>j.src (ao.refl _) Z) ?_
  refine aI (fun done ab w hR hcl hdk hJ hdn hd=>aA 10 46 Z) (fun _ _ _ _ j=>j.src (ao.refl _) Z) ?_
  refine ea (fun done ab w hR hcl hdk hJ hdn hd=>by
    have h0:=hJ.at (n:=0) rfl hdk (fun m h=>by cases h)
    try dsimp only [List.getD_cons_zero,List.getD_cons_succ] at h0
    exact aq (n:=6) (hd 6 rfl) rfl (hd 1 rfl) zk rfl (eo (by rfl)) h0 (of_decide_eq_true rfl) (fun w1 hB1 kk z=>⟨kk,hJ.step (n:=0) rfl hdk (fun m h=>by cases h) rfl hB1⟩)) ?_
  refine aI (fun done ab w hR hcl hdk hJ hdn hd=>aA 16 47 Z) (fun _ _ _ _ j=>j.src (ao.refl _) Z) ?_
  refine ea (fun done ab w hR hcl hdk hJ hdn hd=>by
    have h0:=hJ.at (n:=1) rfl hdk (fun m h=>⟨_,by cases h;rfl,hdn 7 rfl⟩)
    try dsimp only [List.getD_cons_zero,List.getD_cons_succ] at h0
    exact aR (hd 8 rfl) rfl (hd 3 rfl) rfl zk h0 (of_decide_eq_true rfl) (fun w1 hB1 kk z=>⟨kk,hJ.step (n:=1) rfl hdk (fun m h=>⟨_,by cases h;rfl,hdn 7 rfl⟩) rfl hB1⟩)) ?_
  refine aI (fun done ab w hR hcl hdk hJ hdn hd=>aA 17 28 Z) (fun _ _ _ _ j=>j.src (ao.refl _) Z) ?_
  refine ea (fun done ab w hR hcl hdk hJ hdn hd=>by
    have h0:=hJ.at (n:=2) rfl hdk (fun m h=>⟨_,by cases h;rfl,hdn 9 rfl⟩)
    try dsimp only [List.getD_cons_zero,List.getD_cons_succ] at h0
    exact aR (hd 10 rfl) rfl (hd 5 rfl) rfl zk h0 (of_decide_eq_true rfl) (fun w1 hB1 kk z=>⟨kk,hJ.step (n:=2) rfl hdk (fun m h=>⟨_,by cases h;rfl,hdn 9 rfl⟩) rfl hB1⟩)) ?_
  refine dq (fun ab w113 k113 J113=>?_)
  rintro _ - rfl _ - rfl _ - rfl _ - rfl _ - rfl _ - rfl _ - rfl _ - - _ - rfl _ - - _ - rfl _ - -
  have:=k113.size
  have HB4:dh w113 b4 [.int .i64 k,.int .i64 0,.int .i64 0,.int .i64 0,.slice none 0 0,.slice none 0 0,.slice none 0 0,.slice none 0 0,.bool false,.int .i64 0,.int .i64 mv.1,.slice a5 mv.2.1.length c5,.slice a6 mv.2.2.1.length c6,.bool mv.2.2.2.1,.int .i64 mv.2.2.2.2.1,.int .i64 mv.2.2.2.2.2,.slice a7 en.length c7,.slice a8 an.length c8,.slice none 0 0,.int .i64 0] _:=gh.fin (n:=3) J113 rfl
  replace HB2:=HB2.keep k113 aH
  refine ct (U (V (eD (fun k=>k=b2) (gh b2 _ [21] [_,([.int .i64 k,.int .i64 0,.int .i64 0,.int .i64 0,.slice none 0 0,.slice none 0 0,.slice none 0 0,.slice none 0 0,.bool false,.int .i64 0,.int .i64 mv.1,.slice a5 mv.2.1.length c5,.slice a6 mv.2.2.1.length c6,.bool mv.2.2.2.1,.int .i64 mv.2.2.2.2.1,.int .i64 mv.2.2.2.2.2,.slice a7 en.length c7,.slice a8 an.length c8,.slice none 0 0,.int .i64 0]:List Value)]) zk zd zd (fun ab done hd=>gh.start (HB2.ext (ao.drawn _ _)) Z (fun a ha=>hd a (gc (n:=23) Z a ha))) ?_)))
  replace HB1:=HB1.keep k113 aH
  refine aI (fun done ab w hR hcl hdk hJ hdn hd=>ap zk Z (by first | exact (HB4.keep hR aH).pv | exact (HB1.keep hR aH).pv | assumption) Z) (fun _ _ _ _ j=>j.src (ao.refl _) Z) ?_
  refine aI (fun done ab w hR hcl hdk hJ hdn hd=>aA 10 46 Z) (fun _ _ _ _ j=>j.src (ao.refl _) Z) ?_
  refine aI (fun done ab w hR hcl hdk hJ hdn hd=>ap zk (hd 1 Z) (by first | exact (show Pv _ _ [_,_,_,_,_,_] from aN 10 6 (HB4.keep hR aH).pv) | exact (show Pv _ _ [_,_,_,_,_,_] from aN 10 6 (HB1.keep hR aH).pv) | exact bg 10 (HB4.keep hR aH).pv | exact bg 10 (HB1.keep hR aH).pv | assumption) Z) (fun _ _ _ _ j=>j.src (ao.refl _) Z) ?_
  replace HG2:=HG2.keep k113 aC
  refine fJ (fun done ab w hR hcl hdk hJ hdn hd=>av zk (hd 2 Z) (gr (HG2.keep hR aC))) (fun done ab w w1 hdk hJ e=>hJ.src e Z) ?_
  refine aI (fun done ab w hR hcl hdk hJ hdn hd=>be (t:=.bool _) (hd 3 Z)) (fun _ _ _ _ j=>j.src (ao.refl _) Z) ?_
  refine gb Z (fun ab w hd=>hd 4 Z) (fun done ab w hR hcl hdk hJ hdn hd hG=>aA 16 47 Z) (fun done ab v w hdk hJ=>hJ.src (ao.refl _) Z) ?_
  refine gb Z (fun ab w hd=>hd 4 Z) (fun done ab w hR hcl hdk hJ hdn hd hG=>ag zk (gd hG (hd 5 Z)) (by first | exact (HB4.keep hR aH).pv 16 _ rfl | exact (HB1.keep hR aH).pv 16 _ rfl | assumption)) (fun done ab v w hdk hJ=>hJ.src (ao.refl _) Z) ?_
  replace HSe:=HSe.keep k113 aC
  refine qd Z (fun ab w hd=>hd 4 Z) (fun done ab w hR hcl hdk hJ hdn hd hG=>av zk (gd hG (hd 6 Z)) (tC (HSe.keep hR aC))) (fun done ab v w w1 hdk hJ e=>hJ.src e Z) ?_
  refine aI (fun done ab w hR hcl hdk hJ hdn hd=>bu (hd 4 Z) (hd 7 Z)) (fun _ _ _ _ j=>j.src (ao.refl _) Z) ?_
  refine aI (fun done ab w hR hcl hdk hJ hdn hd=>be (t:=.bool _) (hd 8 Z)) (fun _ _ _ _ j=>j.src (ao.refl _) Z) ?_
  refine gb Z (fun ab w hd=>hd 9 Z) (fun done ab w hR hcl hdk hJ hdn hd hG=>aA 16 47 Z) (fun done ab v w hdk hJ=>hJ.src (ao.refl _) Z) ?_
  refine gb Z (fun ab w hd=>hd 9 Z) (fun done ab w hR hcl hdk hJ hdn hd hG=>ag zk (gd hG (hd 10 Z)) (by first | exact (HB4.keep hR aH).pv 16 _ rfl | exact (HB1.keep hR aH).pv 16 _ rfl | assumption)) (fun done ab v w hdk hJ=>hJ.src (ao.refl _) Z) ?_
  refine gb Z (fun ab w hd=>hd 9 Z) (fun done ab w hR hcl hdk hJ hdn hd hG=>ba (et:=156) zk (gd hG (hd 11 Z))) (fun done ab v w hdk hJ=>hJ.src (ao.refl _) Z) ?_
  refine gb Z (fun ab w hd=>hd 9 Z) (fun done ab w hR hcl hdk hJ hdn hd hG=>fT (gd hG (hd 12 Z)) Z) (fun done ab v w hdk hJ=>hJ.src (ao.refl _) Z) ?_
  refine aI (fun done ab w hR hcl hdk hJ hdn hd=>bu (hd 9 Z) (hd 13 Z)) (fun _ _ _ _ j=>j.src (ao.refl _) Z) ?_
  refine aI (fun done ab w hR hcl hdk hJ hdn hd=>be (t:=.bool _) (hd 14 Z)) (fun _ _ _ _ j=>j.src (ao.refl _) Z) ?_
  refine gb Z (fun ab w hd=>hd 15 Z) (fun done ab w hR hcl hdk hJ hdn hd hG=>aA 17 28 Z) (fun done ab v w hdk hJ=>hJ.src (ao.refl _) Z) ?_
  refine gb Z (fun ab w hd=>hd 15 Z) (fun done ab w hR hcl hdk hJ hdn hd hG=>ag zk (gd hG (hd 16 Z)) (by first | exact (HB4.keep hR aH).pv 17 _ rfl | exact (HB1.keep hR aH).pv 17 _ rfl | assumption)) (fun done ab v w hdk hJ=>hJ.src (ao.refl _) Z) ?_
  refine gb Z (fun ab w hd=>hd 15 Z) (fun done ab w hR hcl hdk hJ hdn hd hG=>ba (et:=5) zk (gd hG (hd 17 Z))) (fun done ab v w hdk hJ=>hJ.src (ao.refl _) Z) ?_
  refine gb Z (fun ab w hd=>hd 15 Z) (fun done ab w hR hcl hdk hJ hdn hd hG=>fT (gd hG (hd 18 Z)) Z) (fun done ab v w hdk hJ=>hJ.src (ao.refl _) Z) ?_
  refine aI (fun done ab w hR hcl hdk hJ hdn hd=>bu (hd 15 Z) (hd 19 Z)) (fun _ _ _ _ j=>j.src (ao.refl _) Z) ?_
  replace E:=E.step k113 bi
  replace HG1:=HG1.keep k113 aC
  replace HSa:=HSa.keep k113 aC
  replace HSk:=HSk.keep k113 aC
  refine ea (fun done ab w hR hcl hdk hJ hdn hd=>by
    have h0:=hJ.at (n:=0) rfl hdk (fun m h=>by cases h)
    try dsimp only [List.getD_cons_zero,List.getD_cons_succ] at h0
    exact aq (n:=20) rfl rfl (hd 0 rfl) zk rfl (eo (by rfl)) h0 (of_decide_eq_true rfl) (fun w1 hB1 kk z=>⟨kk,hJ.step (n:=0) rfl hdk (fun m h=>by cases h) rfl hB1⟩)) ?_
  refine aI (fun done ab w hR hcl hdk hJ hdn hd=>ad (t:=.bool _) (hd 20 Z)) (fun _ _ _ _ j=>j.src (ao.refl _) Z) ?_
  refine dq (fun ab w114 k114 J114=>?_)
  rintro _ - rfl _ - rfl _ - rfl _ - rfl _ - rfl _ - rfl _ - rfl _ - rfl _ - rfl _ - rfl _ - rfl _ - rfl _ - rfl _ - rfl _ - rfl _ - rfl _ - rfl _ - rfl _ - rfl _ - rfl _ - rfl _ - - _ - rfl
  have:=k114.size
  have HB2:dh w114 b2 [.int .i64 k,.int .i64 0,.int .i64 0,.int .i64 0,.slice none 0 0,.slice none 0 0,.slice none 0 0,.slice none 0 0,.bool false,.int .i64 0,.int .i64 mv.1,.slice a5 mv.2.1.length c5,.slice a6 mv.2.2.1.length c6,.bool mv.2.2.2.1,.int .i64 mv.2.2.2.2.1,.int .i64 mv.2.2.2.2.2,.slice a7 en.length c7,.slice a8 an.length c8,.slice none 0 0,.int .i64 0] _:=gh.fin (n:=1) J114 rfl
  refine ct (U (aw (bz (ay (bL (n:=20) Z zq zq Z zk HB2.pv Z (cE Z) ?_)))))
  obtain rfl:k=4:=bl h4
  replace E:=E.step k114 bi
  replace HG2:=HG2.keep k114 aC
  replace HSe:=HSe.keep k114 aC
  replace HSa:=HSa.keep k114 aC
  refine ⟨⟨_,?_,aY.mkCm hik eI HG2 HSe HSa (bs.nil _ _ _) ⟨by decide,by decide⟩⟩,E⟩
  show Value.tuple #[_,_]=Value.tuple #[_,.bool (di mv && ll en && decide (en.length≤65536) && decide (an.length≤524288))]
  rw [← show decide ((en.length:Int)≤65536)=decide (en.length≤65536) from decide_eq_decide.2 zo,← show decide ((an.length:Int)≤524288)=decide (an.length≤524288) from decide_eq_decide.2 zo]
 refine V (V (O zd (aa (aJ Z Z) ?_)))
 refine aa (dl Z) (ac (U (am Z Z (fun h6=>?_) (fun h6=>?_))))
 ·
  refine ar (U (am Z Z (fun hx=>?_) (fun hx=>?_)))
  ·
   refine V (O zd (aa (aA 18 28 Z) (aa (ag zk Z (by first | exact HB4.pv 18 _ rfl | exact HB2.pv 18 _ rfl | exact HB1.pv 18 _ rfl | assumption)) ?_)))
   refine aa (aA 18 28 Z) (ah (aR Z Z (bI Z) Z zk HB4 bV ?_))
   rintro w115 HB4 k115 z115
   have:=k115.size
   try simp only [zS,Nat.zero_add,Nat.reduceAdd,List.drop_nil] at HB4
   replace HB2:=HB2.keep k115 aH
   refine ac (U (V (eD (fun k=>k=b2) (gh b2 _ [4] [_,([.int .i64 k,.int .i64 0,.int .i64 0,.int .i64 0,.slice none 0 0,.slice none 0 0,.slice none 0 0,.slice none 0 0,.bool false,.int .i64 0,.int .i64 0,.slice none 0 0,.slice none 0 0,.bool false,.int .i64 0,.int .i64 0,.slice none 0 0,.slice none 0 0,.slice a9 key.length c9,.int .i64 0]:List Value)]) zk zd zd (fun ab done hd=>gh.start (HB2.ext (ao.drawn _ _)) Z (fun a ha=>hd a (gc (n:=6) Z a ha))) ?_)))
   replace HB1:=HB1.keep k115 aH
   refine aI (fun done ab w hR hcl hdk hJ hdn hd=>ap zk Z (by first | exact (HB4.keep hR aH).pv | exact (HB1.keep hR aH).pv | assumption) Z) (fun _ _ _ _ j=>j.src (ao.refl _) Z) ?_
   refine aI (fun done ab w hR hcl hdk hJ hdn hd=>aA 18 28 Z) (fun _ _ _ _ j=>j.src (ao.refl _) Z) ?_
   refine aI (fun done ab w hR hcl hdk hJ hdn hd=>ag zk (hd 1 Z) (by first | exact (HB4.keep hR aH).pv 18 _ rfl | exact (HB1.keep hR aH).pv 18 _ rfl | assumption)) (fun _ _ _ _ j=>j.src (ao.refl _) Z) ?_
   replace HSk:=HSk.keep k115 aC
   refine fJ (fun done ab w hR hcl hdk hJ hdn hd=>av zk (hd 2 Z) (pU (HSk.keep hR aC))) (fun done ab w w1 hdk hJ e=>hJ.src e Z) ?_
   replace E:=E.step k115 bi
   replace HG1:=HG1.keep k115 aC
   replace HG2:=HG2.keep k115 aC
   replace HSe:=HSe.keep k115 aC
   replace HSa:=HSa.keep k115 aC
   refine ea (fun done ab w hR hcl hdk hJ hdn hd=>by
     have h0:=hJ.at (n:=0) rfl hdk (fun m h=>by cases h)
     try dsimp only [List.getD_cons_zero,List.getD_cons_succ] at h0
     exact aq (n:=20) rfl rfl (hd 0 rfl) zk rfl (eo (by rfl)) h0 (of_decide_eq_true rfl) (fun w1 hB1 kk z=>⟨kk,hJ.step (n:=0) rfl hdk (fun m h=>by cases h) rfl hB1⟩)) ?_
   refine aI (fun done ab w hR hcl hdk hJ hdn hd=>ad (t:=.bool _) (hd 3 Z)) (fun _ _ _ _ j=>j.src (ao.refl _) Z) ?_
   refine dq (fun ab w116 k116 J116=>?_)
   rintro _ - rfl _ - rfl _ - rfl _ - rfl _ - - _ - rfl
   have:=k116.size
   have HB2:dh w116 b2 [.int .i64 k,.int .i64 0,.int .i64 0,.int .i64 0,.slice none 0 0,.slice none 0 0,.slice none 0 0,.slice none 0 0,.bool false,.int .i64 0,.int .i64 0,.slice none 0 0,.slice none 0 0,.bool false,.int .i64 0,.int .i64 0,.slice none 0 0,.slice none 0 0,.slice a9 key.length c9,.int .i64 0] _:=gh.fin (n:=1) J116 rfl
   refine ct (U (aw (bz (ay (bL (n:=20) Z zq zq Z zk HB2.pv Z (cE Z) ?_)))))
   obtain rfl:k=6:=bl h6
   replace E:=E.step k116 bi
   replace HSk:=HSk.keep k116 aC
   exact ⟨⟨_,rfl,aY.mkCm hik eI fL (bs.nil _ _ _) (bs.nil _ _ _) HSk ⟨by decide,by decide⟩⟩,E⟩
  rw [h6] at hx;cases hx
 refine O zd (aa (aJ Z Z) ?_)
 refine aa (dl Z) (ac (U (am Z Z (fun h7=>?_) (fun h7=>?_))))
 ·
  refine V (O zd (aa (aA 18 28 Z) (aa (ag zk Z (by first | exact HB4.pv 18 _ rfl | exact HB2.pv 18 _ rfl | exact HB1.pv 18 _ rfl | assumption)) ?_)))
  refine aa (aA 18 28 Z) (ah (aR Z Z (bI Z) Z zk HB4 bV ?_))
  rintro w117 HB4 k117 z117
  have:=k117.size
  try simp only [zS,Nat.zero_add,Nat.reduceAdd,List.drop_nil] at HB4
  replace HB2:=HB2.keep k117 aH
  refine ac (U (V (eD (fun k=>k=b2) (gh b2 _ [4] [_,([.int .i64 k,.int .i64 0,.int .i64 0,.int .i64 0,.slice none 0 0,.slice none 0 0,.slice none 0 0,.slice none 0 0,.bool false,.int .i64 0,.int .i64 0,.slice none 0 0,.slice none 0 0,.bool false,.int .i64 0,.int .i64 0,.slice none 0 0,.slice none 0 0,.slice a9 key.length c9,.int .i64 0]:List Value)]) zk zd zd (fun ab done hd=>gh.start (HB2.ext (ao.drawn _ _)) Z (fun a ha=>hd a (gc (n:=6) Z a ha))) ?_)))
  replace HB1:=HB1.keep k117 aH
  refine aI (fun done ab w hR hcl hdk hJ hdn hd=>ap zk Z (by first | exact (HB4.keep hR aH).pv | exact (HB1.keep hR aH).pv | assumption) Z) (fun _ _ _ _ j=>j.src (ao.refl _) Z) ?_
  refine aI (fun done ab w hR hcl hdk hJ hdn hd=>aA 18 28 Z) (fun _ _ _ _ j=>j.src (ao.refl _) Z) ?_
  refine aI (fun done ab w hR hcl hdk hJ hdn hd=>ag zk (hd 1 Z) (by first | exact (HB4.keep hR aH).pv 18 _ rfl | exact (HB1.keep hR aH).pv 18 _ rfl | assumption)) (fun _ _ _ _ j=>j.src (ao.refl _) Z) ?_
  replace HSk:=HSk.keep k117 aC
  refine fJ (fun done ab w hR hcl hdk hJ hdn hd=>av zk (hd 2 Z) (pU (HSk.keep hR aC))) (fun done ab w w1 hdk hJ e=>hJ.src e Z) ?_
  replace E:=E.step k117 bi
  replace HG1:=HG1.keep k117 aC
  replace HG2:=HG2.keep k117 aC
  replace HSe:=HSe.keep k117 aC
  replace HSa:=HSa.keep k117 aC
  refine ea (fun done ab w hR hcl hdk hJ hdn hd=>by
    have h0:=hJ.at (n:=0) rfl hdk (fun m h=>by cases h)
    try dsimp only [List.getD_cons_zero,List.getD_cons_succ] at h0
    exact aq (n:=20) rfl rfl (hd 0 rfl) zk rfl (eo (by rfl)) h0 (of_decide_eq_true rfl) (fun w1 hB1 kk z=>⟨kk,hJ.step (n:=0) rfl hdk (fun m h=>by cases h) rfl hB1⟩)) ?_
  refine aI (fun done ab w hR hcl hdk hJ hdn hd=>ad (t:=.bool _) (hd 3 Z)) (fun _ _ _ _ j=>j.src (ao.refl _) Z) ?_
  refine dq (fun ab w118 k118 J118=>?_)
  rintro _ - rfl _ - rfl _ - rfl _ - rfl _ - - _ - rfl
  have:=k118.size
  have HB2:dh w118 b2 [.int .i64 k,.int .i64 0,.int .i64 0,.int .i64 0,.slice none 0 0,.slice none 0 0,.slice none 0 0,.slice none 0 0,.bool false,.int .i64 0,.int .i64 0,.slice none 0 0,.slice none 0 0,.bool false,.int .i64 0,.int .i64 0,.slice none 0 0,.slice none 0 0,.slice a9 key.length c9,.int .i64 0] _:=gh.fin (n:=1) J118 rfl
  refine ct (U (aw (bz (ay (bL (n:=20) Z zq zq Z zk HB2.pv Z (cE Z) ?_)))))
  obtain rfl:k=7:=bl h7
  replace E:=E.step k118 bi
  replace HSk:=HSk.keep k118 aC
  exact ⟨⟨_,rfl,aY.mkCm hik eI fL (bs.nil _ _ _) (bs.nil _ _ _) HSk ⟨by decide,by decide⟩⟩,E⟩
 refine V (O zd (aa (aJ Z Z) ?_))
 refine aa (dl Z) (ac (U (am Z Z (fun h8=>?_) (fun h8=>?_))))
 ·
  refine V (eD (fun k=>k=b4) (gh b4 _ [5,7] [_,([.int .i64 k,.int .i64 0,.int .i64 0,.int .i64 0,.slice none 0 0,.slice none 0 0,.slice none 0 0,.slice none 0 0,.bool false,.int .i64 0,.int .i64 0,.slice none 0 0,.slice none 0 0,.bool false,.int .i64 0,.int .i64 0,.slice none 0 0,.slice none 0 0,.slice a9 key.length c9,.int .i64 0]:List Value),([.int .i64 k,.int .i64 0,.int .i64 0,.int .i64 0,.slice none 0 0,.slice none 0 0,.slice none 0 0,.slice none 0 0,.bool false,.int .i64 0,.int .i64 0,.slice none 0 0,.slice none 0 0,.bool false,.int .i64 0,.int .i64 0,.slice none 0 0,.slice none 0 0,.slice a9 key.length c9,.int .i64 g]:List Value)]) zk zd zd (fun ab done hd=>gh.start (HB4.ext (ao.drawn _ _)) Z (fun a ha=>hd a (gc (n:=8) Z a ha))) ?_)
  refine aI (fun done ab w hR hcl hdk hJ hdn hd=>aA 18 28 Z) (fun _ _ _ _ j=>j.src (ao.refl _) Z) ?_
  refine aI (fun done ab w hR hcl hdk hJ hdn hd=>ag zk (hd 0 Z) (by first | exact (HB2.keep hR aH).pv 18 _ rfl | exact (HB1.keep hR aH).pv 18 _ rfl | assumption)) (fun _ _ _ _ j=>j.src (ao.refl _) Z) ?_
  refine aI (fun done ab w hR hcl hdk hJ hdn hd=>aA 19 3 Z) (fun _ _ _ _ j=>j.src (ao.refl _) Z) ?_
  refine aI (fun done ab w hR hcl hdk hJ hdn hd=>ag zk (hd 2 Z) (by first | exact (HB2.keep hR aH).pv 19 _ rfl | exact (HB1.keep hR aH).pv 19 _ rfl | assumption)) (fun _ _ _ _ j=>j.src (ao.refl _) Z) ?_
  refine aI (fun done ab w hR hcl hdk hJ hdn hd=>aA 18 28 Z) (fun _ _ _ _ j=>j.src (ao.refl _) Z) ?_
  refine ea (fun done ab w hR hcl hdk hJ hdn hd=>by
    have h0:=hJ.at (n:=0) rfl hdk (fun m h=>by cases h)
    try dsimp only [List.getD_cons_zero,List.getD_cons_succ] at h0
    exact aR (hd 4 rfl) rfl (hd 1 rfl) rfl zk h0 (of_decide_eq_true rfl) (fun w1 hB1 kk z=>⟨kk,hJ.step (n:=0) rfl hdk (fun m h=>by cases h) rfl hB1⟩)) ?_
  refine aI (fun done ab w hR hcl hdk hJ hdn hd=>aA 19 3 Z) (fun _ _ _ _ j=>j.src (ao.refl _) Z) ?_
  refine ea (fun done ab w hR hcl hdk hJ hdn hd=>by
    have h0:=hJ.at (n:=1) rfl hdk (fun m h=>⟨_,by cases h;rfl,hdn 5 rfl⟩)
    try dsimp only [List.getD_cons_zero,List.getD_cons_succ] at h0
    exact aR (hd 6 rfl) rfl (hd 3 rfl) rfl zk h0 (of_decide_eq_true rfl) (fun w1 hB1 kk z=>⟨kk,hJ.step (n:=1) rfl hdk (fun m h=>⟨_,by cases h;rfl,hdn 5 rfl⟩) rfl hB1⟩)) ?_
  refine dq (fun ab w119 k119 J119=>?_)
  rintro _ - rfl _ - rfl _ - rfl _ - rfl _ - rfl _ - - _ - rfl _ - -
  have:=k119.size
  have HB4:dh w119 b4 [.int .i64 k,.int .i64 0,.int .i64 0,.int .i64 0,.slice none 0 0,.slice none 0 0,.slice none 0 0,.slice none 0 0,.bool false,.int .i64 0,.int .i64 0,.slice none 0 0,.slice none 0 0,.bool false,.int .i64 0,.int .i64 0,.slice none 0 0,.slice none 0 0,.slice a9 key.length c9,.int .i64 g] _:=gh.fin (n:=2) J119 rfl
  replace HB2:=HB2.keep k119 aH
  refine ct (U (V (eD (fun k=>k=b2) (gh b2 _ [10] [_,([.int .i64 k,.int .i64 0,.int .i64 0,.int .i64 0,.slice none 0 0,.slice none 0 0,.slice none 0 0,.slice none 0 0,.bool false,.int .i64 0,.int .i64 0,.slice none 0 0,.slice none 0 0,.bool false,.int .i64 0,.int .i64 0,.slice none 0 0,.slice none 0 0,.slice a9 key.length c9,.int .i64 g]:List Value)]) zk zd zd (fun ab done hd=>gh.start (HB2.ext (ao.drawn _ _)) Z (fun a ha=>hd a (gc (n:=12) Z a ha))) ?_)))
  replace HB1:=HB1.keep k119 aH
  refine aI (fun done ab w hR hcl hdk hJ hdn hd=>ap zk Z (by first | exact (HB4.keep hR aH).pv | exact (HB1.keep hR aH).pv | assumption) Z) (fun _ _ _ _ j=>j.src (ao.refl _) Z) ?_
  refine aI (fun done ab w hR hcl hdk hJ hdn hd=>aA 18 28 Z) (fun _ _ _ _ j=>j.src (ao.refl _) Z) ?_
  refine aI (fun done ab w hR hcl hdk hJ hdn hd=>ag zk (hd 1 Z) (by first | exact (HB4.keep hR aH).pv 18 _ rfl | exact (HB1.keep hR aH).pv 18 _ rfl | assumption)) (fun _ _ _ _ j=>j.src (ao.refl _) Z) ?_
  refine aI (fun done ab w hR hcl hdk hJ hdn hd=>ba (et:=5) zk (hd 2 Z)) (fun _ _ _ _ j=>j.src (ao.refl _) Z) ?_
  refine aI (fun done ab w hR hcl hdk hJ hdn hd=>fT (hd 3 Z) Z) (fun _ _ _ _ j=>j.src (ao.refl _) Z) ?_
  refine aI (fun done ab w hR hcl hdk hJ hdn hd=>be (t:=.bool _) (hd 4 Z)) (fun _ _ _ _ j=>j.src (ao.refl _) Z) ?_
  refine gb Z (fun ab w hd=>hd 5 Z) (fun done ab w hR hcl hdk hJ hdn hd hG=>aA 19 3 Z) (fun done ab v w hdk hJ=>hJ.src (ao.refl _) Z) ?_
  refine gb Z (fun ab w hd=>hd 5 Z) (fun done ab w hR hcl hdk hJ hdn hd hG=>ag zk (gd hG (hd 6 Z)) (by first | exact (HB4.keep hR aH).pv 19 _ rfl | exact (HB1.keep hR aH).pv 19 _ rfl | assumption)) (fun done ab v w hdk hJ=>hJ.src (ao.refl _) Z) ?_
  refine qd Z (fun ab w hd=>hd 5 Z) (fun done ab w hR hcl hdk hJ hdn hd hG=>av zk (gd hG (hd 7 Z)) (mC)) (fun done ab v w w1 hdk hJ e=>hJ.src e Z) ?_
  refine aI (fun done ab w hR hcl hdk hJ hdn hd=>bu (hd 5 Z) (hd 8 Z)) (fun _ _ _ _ j=>j.src (ao.refl _) Z) ?_
  replace E:=E.step k119 bi
  replace HG1:=HG1.keep k119 aC
  replace HG2:=HG2.keep k119 aC
  replace HSe:=HSe.keep k119 aC
  replace HSa:=HSa.keep k119 aC
  replace HSk:=HSk.keep k119 aC
  refine ea (fun done ab w hR hcl hdk hJ hdn hd=>by
    have h0:=hJ.at (n:=0) rfl hdk (fun m h=>by cases h)
    try dsimp only [List.getD_cons_zero,List.getD_cons_succ] at h0
    exact aq (n:=20) rfl rfl (hd 0 rfl) zk rfl (eo (by rfl)) h0 (of_decide_eq_true rfl) (fun w1 hB1 kk z=>⟨kk,hJ.step (n:=0) rfl hdk (fun m h=>by cases h) rfl hB1⟩)) ?_
  refine aI (fun done ab w hR hcl hdk hJ hdn hd=>ad (t:=.bool _) (hd 9 Z)) (fun _ _ _ _ j=>j.src (ao.refl _) Z) ?_
  refine dq (fun ab w120 k120 J120=>?_)
  rintro _ - rfl _ - rfl _ - rfl _ - rfl _ - rfl _ - rfl _ - rfl _ - rfl _ - rfl _ - rfl _ - - _ - rfl
  have:=k120.size
  have HB2:dh w120 b2 [.int .i64 k,.int .i64 0,.int .i64 0,.int .i64 0,.slice none 0 0,.slice none 0 0,.slice none 0 0,.slice none 0 0,.bool false,.int .i64 0,.int .i64 0,.slice none 0 0,.slice none 0 0,.bool false,.int .i64 0,.int .i64 0,.slice none 0 0,.slice none 0 0,.slice a9 key.length c9,.int .i64 g] _:=gh.fin (n:=1) J120 rfl
  refine ct (U (aw (bz (ay (bL (n:=20) Z zq zq Z zk HB2.pv Z (cE Z) ?_)))))
  obtain rfl:k=8:=bl h8
  replace E:=E.step k120 bi
  replace HSk:=HSk.keep k120 aC
  refine ⟨⟨_,?_,aY.mkCm hik eI fL (bs.nil _ _ _) (bs.nil _ _ _) HSk hig⟩,E⟩
  show Value.tuple #[_,_]=Value.tuple #[_,.bool (decide (key.length≤24) && dJ g)]
  rw [← show decide ((key.length:Int)≤24)=decide (key.length≤24) from decide_eq_decide.2 zo]
 refine ar (bE (U (V (O zd (aa (ap zk Z (by first | exact HB4.pv | exact HB2.pv | exact HB1.pv | assumption) Z) ?_)))))
 refine ah (aq (n:=20) Z Z (aZ Z) zk Z cT HB2 bV ?_)
 rintro w121 HB2 k121 z121
 have:=k121.size
 try simp only [zS,Nat.zero_add,Nat.reduceAdd,List.drop_nil] at HB2
 refine aa (ad Z) (ac (U (aw (bL (n:=20) Z zq zq Z zk HB2.pv Z (cE Z) ?_))))
 rw [sI (bf h1) (bf h2) (bf h3) (bf h5) (bf h9) (bf h10) (bf h4) (bf h6) (bf h7) (bf h8)]
 replace E:=E.step k121 bi
 exact ⟨⟨_,rfl,aY.mkCm hik eI fL (bs.nil _ _ _) (bs.nil _ _ _) (bs.nil _ _ _) ⟨by decide,by decide⟩⟩,E⟩
end Go.Proofs.YteehplloacefmaaGreat

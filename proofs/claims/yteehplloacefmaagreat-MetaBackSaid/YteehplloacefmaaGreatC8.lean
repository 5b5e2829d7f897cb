/- Steps and lemmas for the walks. -/
import Derived.Test.YteehplloacefmaaGreatC7
set_option linter.unusedVariables false
set_option linter.unusedSimpArgs false
set_option maxRecDepth 100000
namespace Go.Proofs.YteehplloacefmaaGreat
open Go.Vc
theorem ww {k k' g g':Int} {rq rq':ov} {mv mv':iJ} {en en':List dS} {an an' key key':List UInt8}:decide ((k,rq,mv,en,an,key,g)=((k',rq',mv',en',an',key',g'):iq))=(decide (k=k') && decide (rq=rq') && decide (mv=mv') && decide (en=en') && decide (an=an') && decide (key=key') && decide (g=g')):=by
  rw [Bool.eq_iff_iff];simp only [decide_eq_true_eq,Bool.and_eq_true,Prod.mk.injEq,and_assoc]
theorem wh {c c' n n':Int} {a a':mN}:decide ((c,n,a)=((c',n',a'):ov))=(decide (c=c') && decide (n=n') && decide (a=a')):=by
  rw [Bool.eq_iff_iff];simp only [decide_eq_true_eq,Bool.and_eq_true,Prod.mk.injEq,and_assoc]
theorem uF {w:World} {F G:Nat→Prop} {v u:Value} {c d:iq} (HG01:aY pe w F v c) (HG02:aY pe w G u d):ae Tryz.prog 78 #[v,u] w (fun o w'=>o=.bool (decide (c=d))∧aX w w'):=by
 obtain ⟨k,⟨rc,rn,ra⟩,mv,en,an,key,g⟩:=c
 obtain ⟨k',⟨rc',rn',ra'⟩,mv',en',an',key',g'⟩:=d
 obtain ⟨a1,c1,a2,c2,a3,c3,a4,c4,a5,c5,a6,c6,a7,c7,a8,c8,a9,c9,rfl,HG1,HG2,HSe,HSa,HSk,hik,hig⟩:=HG01.cm
 obtain ⟨b1,d1,b2,d2,b3,d3,b4,d4,b5,d5,b6,d6,b7,d7,b8,d8,b9,d9,rfl,HG3,HG4,HSf,HSb,HSl,hjk,hjg⟩:=HG02.cm
 clear HG01 HG02
 have HG5:=HG1.rqAk
 have HG6:=HG3.rqAk
 clear HG1 HG3
 refine aL 76 Tryz.func78 Z Z (by simp) ?_
 refine V ?_
 have E:=ao.refl (K:=aP) w
 replace HG5:=HG5.all
 replace HG6:=HG6.all
 replace HG2:=HG2.all
 replace HG4:=HG4.all
 replace HSe:=HSe.all
 replace HSa:=HSa.all
 replace HSk:=HSk.all
 replace HSf:=HSf.all
 replace HSb:=HSb.all
 replace HSl:=HSl.all
 refine O zd (ah (aS (aZ Z) ?_))
 rintro b31 w1 zb1 HB31 e1 z1
 have:=e1.size
 try simp only [Value.cells] at HB31
 refine ah (aS (aZ Z) ?_)
 rintro b32 w2 zb2 HB32 e2 z2
 have:=e2.size
 try simp only [Value.cells] at HB32
 replace HB31:=HB31.ext e2
 refine aa (ad Z) (ac (U (V (O zd (aa (aA 1 44 Z) (aa (aA 0 3 Z) (aa (ag zk Z (by first | exact HB32.pv 1 _ rfl | exact HB31.pv 1 _ rfl | exact HB32.pv 0 _ rfl | exact HB31.pv 0 _ rfl | assumption)) ?_)))))))
 refine aa (aA 1 44 Z) (aa (aA 0 3 Z) (aa (ag zk Z (by first | exact HB32.pv 1 _ rfl | exact HB31.pv 1 _ rfl | exact HB32.pv 0 _ rfl | exact HB31.pv 0 _ rfl | assumption)) ?_))
 refine aa (aJ Z Z) ?_
 refine aa (bH Z) (aj Z Z (fun hG=>aA 1 44 Z) ?_)
 refine aj Z Z (fun hG=>aA 1 2 (gd hG Z)) ?_
 refine aj Z Z (fun hG=>ag zk (gd hG Z) (by first | exact HB32.pv 2 _ rfl | exact HB31.pv 2 _ rfl | exact HB32.pv 1 _ rfl | exact HB31.pv 1 _ rfl | assumption)) ?_
 refine aj Z Z (fun hG=>aA 1 44 Z) ?_
 refine aj Z Z (fun hG=>aA 1 2 (gd hG Z)) ?_
 refine aj Z Z (fun hG=>ag zk (gd hG Z) (by first | exact HB32.pv 2 _ rfl | exact HB31.pv 2 _ rfl | exact HB32.pv 1 _ rfl | exact HB31.pv 1 _ rfl | assumption)) ?_
 refine aj Z Z (fun hG=>aJ (gd hG Z) (gd hG Z)) ?_
 refine aa (bu Z Z) ?_
 refine aa (bH Z) (aj Z Z (fun hG=>aA 1 44 Z) ?_)
 refine aj Z Z (fun hG=>aA 2 42 (gd hG Z)) ?_
 refine aj Z Z (fun hG=>ap zk (gd hG Z) (by first | exact (show Pv _ _ [_,_,_,_,_,_,_] from aN 3 7 HB32.pv) | exact (show Pv _ _ [_,_,_,_,_,_,_] from aN 3 7 HB31.pv) | exact (show Pv _ _ [_,_,_,_,_,_,_] from aN 2 7 HB32.pv) | exact (show Pv _ _ [_,_,_,_,_,_,_] from aN 2 7 HB31.pv) | exact bg 2 HB32.pv | exact bg 2 HB31.pv | assumption) Z) ?_
 refine aj Z Z (fun hG=>aA 1 44 Z) ?_
 refine aj Z Z (fun hG=>aA 2 42 (gd hG Z)) ?_
 refine aj Z Z (fun hG=>ap zk (gd hG Z) (by first | exact (show Pv _ _ [_,_,_,_,_,_,_] from aN 3 7 HB32.pv) | exact (show Pv _ _ [_,_,_,_,_,_,_] from aN 3 7 HB31.pv) | exact (show Pv _ _ [_,_,_,_,_,_,_] from aN 2 7 HB32.pv) | exact (show Pv _ _ [_,_,_,_,_,_,_] from aN 2 7 HB31.pv) | exact bg 2 HB32.pv | exact bg 2 HB31.pv | assumption) Z) ?_
 replace HG5:=(HG5.ext e1).ext e2
 replace HG6:=(HG6.ext e1).ext e2
 refine cI Z Z (fun hG=>aW zk (gd hG Z) (gd hG Z) (rL HG5 HG6)) ?_
 rintro w101 e101
 have:=e101.size
 refine aa (bu Z Z) ?_
 replace HB31:=HB31.ext e101
 replace HB32:=HB32.ext e101
 refine aa (dl Z) (ac (U (V (O zd (aa (aA 16 47 Z) (aa (ag zk Z (by first | exact HB32.pv 16 _ rfl | exact HB31.pv 16 _ rfl | assumption)) ?_))))))
 refine aa (aA 16 47 Z) (aa (ag zk Z (by first | exact HB32.pv 16 _ rfl | exact HB31.pv 16 _ rfl | assumption)) ?_)
 replace HSe:=((HSe.ext e1).ext e2).ext e101
 replace HSf:=((HSf.ext e1).ext e2).ext e101
 refine ah (gM zk (bI Z) (bI Z) Z (ae.mono (oq HSe HSf) ?_))
 rintro _ w102 ⟨rfl,e102⟩
 have:=e102.size
 refine aa (bH Z) (aj Z Z (fun hG=>aA 17 28 Z) ?_)
 replace HB31:=HB31.ext e102
 replace HB32:=HB32.ext e102
 refine aj Z Z (fun hG=>ag zk (gd hG Z) (by first | exact HB32.pv 17 _ rfl | exact HB31.pv 17 _ rfl | assumption)) ?_
 refine aj Z Z (fun hG=>aA 17 28 Z) ?_
 refine aj Z Z (fun hG=>ag zk (gd hG Z) (by first | exact HB32.pv 17 _ rfl | exact HB31.pv 17 _ rfl | assumption)) ?_
 replace HSa:=(((HSa.ext e1).ext e2).ext e101).ext e102
 replace HSb:=(((HSb.ext e1).ext e2).ext e101).ext e102
 refine cI Z Z (fun hG=>aW zk (gd hG Z) (gd hG Z) (dI HSa HSb)) ?_
 rintro w103 e103
 have:=e103.size
 refine aa (bu Z Z) ?_
 refine aa (bH Z) (aj Z Z (fun hG=>aA 18 28 Z) ?_)
 replace HB31:=HB31.ext e103
 replace HB32:=HB32.ext e103
 refine aj Z Z (fun hG=>ag zk (gd hG Z) (by first | exact HB32.pv 18 _ rfl | exact HB31.pv 18 _ rfl | assumption)) ?_
 refine aj Z Z (fun hG=>aA 18 28 Z) ?_
 refine aj Z Z (fun hG=>ag zk (gd hG Z) (by first | exact HB32.pv 18 _ rfl | exact HB31.pv 18 _ rfl | assumption)) ?_
 replace HSk:=((((HSk.ext e1).ext e2).ext e101).ext e102).ext e103
 replace HSl:=((((HSl.ext e1).ext e2).ext e101).ext e102).ext e103
 refine cI Z Z (fun hG=>aW zk (gd hG Z) (gd hG Z) (dI HSk HSl)) ?_
 rintro w104 e104
 have:=e104.size
 refine aa (bu Z Z) ?_
 replace HB31:=HB31.ext e104
 replace HB32:=HB32.ext e104
 refine aa (dl Z) (ac (U (V (O zd (aa (aA 0 38 Z) (aa (ag zk Z (by first | exact HB32.pv 0 _ rfl | exact HB31.pv 0 _ rfl | assumption)) ?_))))))
 refine aa (aA 0 38 Z) (aa (ag zk Z (by first | exact HB32.pv 0 _ rfl | exact HB31.pv 0 _ rfl | assumption)) ?_)
 refine aa (aJ Z Z) ?_
 refine aa (bH Z) (aj Z Z (fun hG=>aA 19 3 Z) ?_)
 refine aj Z Z (fun hG=>ag zk (gd hG Z) (by first | exact HB32.pv 19 _ rfl | exact HB31.pv 19 _ rfl | assumption)) ?_
 refine aj Z Z (fun hG=>aA 19 3 Z) ?_
 refine aj Z Z (fun hG=>ag zk (gd hG Z) (by first | exact HB32.pv 19 _ rfl | exact HB31.pv 19 _ rfl | assumption)) ?_
 refine aj Z Z (fun hG=>aJ (gd hG Z) (gd hG Z)) ?_
 refine aa (bu Z Z) ?_
 refine aa (bH Z) (aj Z Z (fun hG=>bH Z) (aa (bu Z Z) ?_))
 refine aa (bH Z) (aj Z Z (fun hG=>aA 10 46 Z) ?_)
 refine aj Z Z (fun hG=>ap zk (gd hG Z) (by first | exact (show Pv _ _ [_,_,_,_,_,_] from aN 10 6 HB32.pv) | exact (show Pv _ _ [_,_,_,_,_,_] from aN 10 6 HB31.pv) | exact bg 10 HB32.pv | exact bg 10 HB31.pv | assumption) Z) ?_
 refine aj Z Z (fun hG=>aA 10 46 Z) ?_
 refine aj Z Z (fun hG=>ap zk (gd hG Z) (by first | exact (show Pv _ _ [_,_,_,_,_,_] from aN 10 6 HB32.pv) | exact (show Pv _ _ [_,_,_,_,_,_] from aN 10 6 HB31.pv) | exact bg 10 HB32.pv | exact bg 10 HB31.pv | assumption) Z) ?_
 replace HG2:=(((((HG2.ext e1).ext e2).ext e101).ext e102).ext e103).ext e104
 replace HG4:=(((((HG4.ext e1).ext e2).ext e101).ext e102).ext e103).ext e104
 refine cI Z Z (fun hG=>aW zk (gd hG Z) (gd hG Z) (mH HG2 HG4)) ?_
 rintro w105 e105
 have:=e105.size
 refine aa (bu Z Z) ?_
 refine aa (bH Z) (aj Z Z (fun hG=>bH Z) (aa (bu Z Z) ?_))
 refine aa (dl Z) (ac (U (aw (aU Z zq (cE Z) ?_))))
 replace E:=((((((E.trans e1.keep).trans e2.keep).trans e101.keep).trans e102.keep).trans e103.keep).trans e104.keep).trans e105.keep
 refine ⟨?_,E⟩
 rw [ww,wh]
 congr 1;rw [Bool.eq_iff_iff];simp only [Bool.and_eq_true,decide_eq_true_eq,beq_iff_eq,and_assoc]
 exact ⟨fun ⟨a,b,c,d,e,f,g,h,i⟩=>⟨a,c,d,e,f,g,h,i,b⟩,fun ⟨a,c,d,e,f,g,h,i,b⟩=>⟨a,b,c,d,e,f,g,h,i⟩⟩
theorem tM {w:World} {F:Nat→Prop} {v:Value} {c:iq} (HG1:aY pe w F v c):ae Tryz.prog 37 #[v] w (fun o w'=>o=.bool (eh c)∧aX w w'):=by
 obtain ⟨k,rq,mv,en,an,key,g⟩:=c
 obtain ⟨a1,c1,a2,c2,a3,c3,a4,c4,a5,c5,a6,c6,a7,c7,a8,c8,a9,c9,hv0,_⟩:=HG1.cm
 subst hv0
 refine aL 16 Tryz.func37 Z Z (by simp) ?_
 refine V ?_
 have E:=ao.refl (K:=aP) w
 replace HG1:=HG1.all
 refine O zd (ah (aS (aZ Z) ?_))
 rintro b31 w1 zb1 HB31 e1 z1
 have:=e1.size
 try simp only [Value.cells] at HB31
 refine aa (ad Z) (ac (U (V (O zd (aa (ap zk Z (by first | exact HB31.pv | assumption) Z) ?_)))))
 replace HG1:=HG1.ext e1
 refine ah (av zk (aZ Z) (ae.mono (t9 HG1) ?_))
 rintro _ w2 ⟨⟨u2,rfl,HG2⟩,e2⟩
 have:=e2.size
 obtain ⟨⟨k',rq',mv',en',an',key',g'⟩,hnm⟩:∃ x,x=(gI (k,rq,mv,en,an,key,g)).1:=⟨_,rfl⟩
 rw [← hnm] at HG2
 obtain ⟨b1,d1,b2,d2,b3,d3,b4,d4,b5,d5,b6,d6,b7,d7,b8,d8,b9,d9,rfl,_⟩:=HG2.cm
 refine aa (dY Z) (aa (ai (t:=.agg _) Z Z) (aa (ai (t:=.bool _) Z Z) (ah (aD (z:=(.agg #[.int .i64 0,.int .i64 0,.int .i64 0,.int .i64 0,.slice none 0 0,.slice none 0 0,.slice none 0 0,.slice none 0 0,.bool false,.int .i64 0,.int .i64 0,.slice none 0 0,.slice none 0 0,.bool false,.int .i64 0,.int .i64 0,.slice none 0 0,.slice none 0 0,.slice none 0 0,.int .i64 0])) (by unfold aE;kernel_rfl) ?_))))
 rintro b33 w3 zb3 HB33 e3 z3
 have:=e3.size
 try simp only [Value.cells] at HB33
 refine ah (aq (n:=20) Z Z (aZ Z) zk Z cT HB33 bV ?_)
 rintro w101 HB33 k101 z101
 have:=k101.size
 try simp only [zS,Nat.zero_add,Nat.reduceAdd,List.drop_nil] at HB33
 replace HB31:=((HB31.ext e2).ext e3).keep k101 aH
 refine aa (dl Z) (ac (U (V (O zd (aa (bH Z) (aa (bH Z) (aj Z Z (fun hG=>ap zk Z (by first | exact HB33.pv | exact HB31.pv | assumption) Z) ?_)))))))
 refine aj Z Z (fun hG=>ap zk Z (by first | exact HB33.pv | exact HB31.pv | assumption) Z) ?_
 replace HG1:=((HG1.ext e2).ext e3).keep k101 aC
 replace HG2:=(HG2.ext e3).keep k101 aC
 refine cI Z Z (fun hG=>aW zk (gd hG Z) (gd hG Z) (uF HG2 HG1)) ?_
 rintro w102 e102
 have:=e102.size
 refine aa (bu Z Z) ?_
 refine aa (dl Z) (ac (U (aw (aU Z zq (cE Z) ?_))))
 replace E:=((((E.trans e1.keep).trans e2.keep).trans e3.keep).step k101 bi).trans e102.keep
 refine ⟨?_,E⟩
 unfold eh;rw [← hnm]
end Go.Proofs.YteehplloacefmaaGreat

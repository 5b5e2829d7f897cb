/- Steps and lemmas for the walks. -/
import Derived.Test.YteehplloacefmaaGreatM5
import Derived.Test.YteehplloacefmaaGreatRw
import Derived.Test.YteehplloacefmaaGreatGs
set_option linter.unusedVariables false
set_option linter.unusedSimpArgs false
set_option maxRecDepth 100000
namespace Go.Proofs.YteehplloacefmaaGreat
open Go.Vc
def rJ (rs:List cO) (k:List UInt8):Nat:=match dH rs k with | some (i + 1)=>i | _=>0
theorem mg {rs:List cO} {n:Int} {ms:List fy} (h:lh rs n ms):∀ x ∈ ms,x.1.2.1.length≤100000∧x.1.2.2.1.length≤100000:=by
  rintro ⟨⟨n,f,t,b,o,g⟩,cut⟩ hx
  obtain ⟨h1,_⟩:=h.1 _ hx
  obtain ⟨_,_,h3,h4,_⟩:=km h1
  exact ⟨by simp only;omega,by simp only;omega⟩
theorem uu {rs:List cO} {k:List UInt8} (h:0 < dP (dH rs k)):dH rs k=some (rJ rs k + 1)∧dP (dH rs k)=(rJ rs k:Int) + 1:=by
  unfold rJ
  rcases hb:dH rs k with _ | _ | i
  · rw [hb] at h;simp [dP] at h
  · rw [hb] at h;simp [dP] at h
  · exact ⟨rfl,rfl⟩
theorem ut {rs:List cO} {k:List UInt8} (h:rs≠[]):rJ rs k < rs.length:=by
  unfold rJ
  split
  · rename_i i hi;have:=(fj hi).1;omega
  · exact List.length_pos_iff.2 h
theorem rI (s:it) (k:List UInt8) (g:Int):(il s k g).1.1=s.1:=by
  unfold il;split <;> (try split) <;> (try split) <;> rfl
theorem qy (s:it) (c:Bool) (m:iJ):(iZ s c m).1.2.1=s.2.1:=by
  unfold iZ;split <;> (try split) <;> (try split) <;> rfl
theorem tw {s:it} {k:List UInt8} {g:Int} (h:1≤s.2.1∧s.2.1≤2147483647):cH (il s k g).1.2.1:=by
  unfold il;split <;> (try split) <;> (try split) <;> (constructor <;> simp only <;> omega)
set_option maxHeartbeats 4000000 in
theorem o9 {w:World} {F G:Nat→Prop} {v vc:Value} {e0 n:Int} {rs:List cO} {ms:List fy} {c:iq} (HG1:aY iK w F v ((e0,rs),n,ms)) (HG2:aY pe w G vc c) (hn:ms.length≤1000) :
    ae Tryz.prog 11 #[v,vc] w (fun o w'=>(∃ x,o=.tuple #[x,.int .i64 (ic ((e0,rs),n,ms) c).2]∧aY iK w' (fun q=>w.heap.size≤q) x (ic ((e0,rs),n,ms) c).1)∧aX w w'):=by
 obtain ⟨k,rq,mv,en,an,key,g⟩:=c
 obtain ⟨x1,d1,x2,d2,x3,d3,x4,d4,x5,d5,x6,d6,x7,d7,x8,d8,x9,d9,hvc,_,_,_,_,HSk,ik,ig⟩:=HG2.cm
 subst hvc
 obtain ⟨a1,c1,a2,c2,rfl,HSr,HSm,ie,im⟩:=HG1.mt
 simp only at HSr HSm ie im
 have HGm:=aY.mpOf HSr ie
 refine aL 103 Tryz.func11 Z Z (by simp) ?_
 refine V ?_
 have E:=ao.refl (K:=aP) w
 replace HG1:=HG1.all
 replace HG2:=HG2.all
 replace HSk:=HSk.all
 replace HGm:=HGm.all
 replace HSr:=HSr.all
 refine O zd (ah (aS (aZ Z) ?_))
 rintro b2 w2 zb2 HB2 e2 z2
 have:=e2.size
 try simp only [Value.cells] at HB2
 refine ah (aS (aZ Z) ?_)
 rintro b3 w3 zb3 HB3 e3 z3
 have:=e3.size
 try simp only [Value.cells] at HB3
 refine ah (aD (z:=(.agg #[.int .i64 0,.slice none 0 0,.int .i64 0,.slice none 0 0])) (by unfold aE;kernel_rfl) ?_)
 rintro b4 w4 zb4 HB4 e4 z4
 have:=e4.size
 try simp only [Value.cells] at HB4
 replace HB2:=(HB2.ext e3).ext e4
 replace HB3:=HB3.ext e4
 refine aa (ad Z) (ac (U (V (V (O zd (aa (ap zk Z (by first | exact HB4.pv | exact HB3.pv | exact HB2.pv | assumption) Z) ?_))))))
 replace HG1:=((HG1.ext e2).ext e3).ext e4
 refine ah (av zk (aZ Z) (ae.mono (jx HG1) ?_))
 rintro _ w101 ⟨rfl,e101⟩
 have:=e101.size
 refine aa (cg Z) ?_
 replace HB2:=HB2.ext e101
 replace HB3:=HB3.ext e101
 replace HB4:=HB4.ext e101
 refine aa (bH Z) (aj Z Z (fun hG=>ap zk Z (by first | exact HB4.pv | exact HB3.pv | exact HB2.pv | assumption) Z) ?_)
 replace HG2:=(((HG2.ext e2).ext e3).ext e4).ext e101
 refine cI Z Z (fun hG=>av zk (gd hG Z) (tM HG2)) ?_
 rintro w102 e102
 have:=e102.size
 refine aj Z Z (fun hG=>cg (gd hG Z)) ?_
 refine aa (bF Z Z) ?_
 replace E:=((((E.trans e2.keep).trans e3.keep).trans e4.keep).trans e101.keep).trans e102.keep
 replace HSk:=((((HSk.ext e2).ext e3).ext e4).ext e101).ext e102
 replace HGm:=((((HGm.ext e2).ext e3).ext e4).ext e101).ext e102
 replace HSr:=((((HSr.ext e2).ext e3).ext e4).ext e101).ext e102
 replace HG1:=(HG1.ext e101).ext e102
 replace HG2:=HG2.ext e102
 replace HB2:=HB2.ext e102
 replace HB3:=HB3.ext e102
 replace HB4:=HB4.ext e102
 refine ac (U (am Z Z (fun h19=>?_) (fun h19=>?_)))
 ·
  refine V (O zd (aa (aV (pl:=[(0,2),(2,1),(3,1)]) (z:=.agg #[.int .i64 0,.slice none 0 0,.int .i64 0,.slice none 0 0]) (zl:=[.int .i64 0,.slice none 0 0,.int .i64 0,.slice none 0 0]) zk (by unfold aE;kernel_rfl) Z Z (cells:=[_,_,_,_]) Z) ?_))
  refine ah (aq (n:=4) Z Z (aZ Z) zk Z cT HB4 bV ?_)
  rintro w103 HB4 k103 z103
  have:=k103.size
  try simp only [zS,Nat.zero_add,Nat.reduceAdd,List.drop_nil] at HB4
  refine aa (ad Z) (ac (U (aw (ay (bL (n:=4) Z zq zq Z zk HB4.pv Z (bB Z) ?_)))))
  have h:(dA ((e0,rs),n,ms) && eh (k,rq,mv,en,an,key,g))=false:=by revert h19;cases dA ((e0,rs),n,ms) <;> cases eh (k,rq,mv,en,an,key,g) <;> simp
  rw [ic,if_pos h]
  replace E:=E.step k103 bi
  exact ⟨⟨_,rfl,jR⟩,E⟩
 have hms:dA ((e0,rs),n,ms)=true:=by revert h19;cases dA ((e0,rs),n,ms) <;> simp
 have hmc:eh (k,rq,mv,en,an,key,g)=true:=by revert h19;rw [hms];cases eh (k,rq,mv,en,an,key,g) <;> simp
 have hdo:ic ((e0,rs),n,ms) (k,rq,mv,en,an,key,g)=if (fz ((e0,rs),n,ms) (k,rq,mv,en,an,key,g)).2=0 then fz ((e0,rs),n,ms) (k,rq,mv,en,an,key,g) else (f0,(fz ((e0,rs),n,ms) (k,rq,mv,en,an,key,g)).2):=by rw [ic,if_neg (by rw [hms,hmc];simp)]
 obtain ⟨p1,p2,p3,p4⟩:=eg.1 hms
 simp only at p1 p2 p3 p4
 obtain ⟨q1,q2,q3,q4,q5,q6⟩:=cP p1
 simp only at q1 q2 q3 q4 q5 q6
 have hlens:=eA p1
 simp only at hlens
 refine ar (U (V (O zd (aa (ap zk Z (by first | exact HB4.pv | exact HB3.pv | exact HB2.pv | assumption) Z) ?_))))
 refine ah (av zk (aZ Z) (ae.mono (ws HG1 (fun r hr=>by have:=hlens r hr;omega) (mg p4) zo zo) ?_))
 rintro _ w22 ⟨⟨m,a5,c5,a6,c6,hm1,hm2,rfl,HSo,HO5⟩,e22⟩
 have:=e22.size
 have zo_HO5:=fun (q:Nat) h=>HO5.own_lt (b:=q) h
 have HGo:=aY.mpOf HSo ie
 have hm0:w.heap.size≤m:=by omega
 have zo_HO5:=fun (b:Nat) h=>HO5.own_lt (b:=b) h
 refine ah (aD (z:=(.agg #[.int .i64 0,.slice none 0 0,.int .i64 0,.slice none 0 0])) (by unfold aE;kernel_rfl) ?_)
 rintro b6 w6 zb6 HB6 e6 z6
 have:=e6.size
 try simp only [Value.cells] at HB6
 have hmb6:m≤b6:=by omega
 have hob:∀ q,(Value.slice a6 ms.length c6).ownBlock=some q→q < b6:=fun q h=>by have:=zo_HO5 q h;omega
 replace HO5:=HO5.ext e6
 replace HO5:=HO5.mono (F':=fun q=>m≤q∧q < b6) fun q _ h=>⟨h.1,by omega⟩
 refine ah (aq (n:=4) Z Z (aZ Z) zk Z cT HB6 bV ?_)
 rintro w104 HB6 k104 z104
 have:=k104.size
 try simp only [zS,Nat.zero_add,Nat.reduceAdd,List.drop_nil] at HB6
 replace E:=((E.trans e22.keep).trans e6.keep).step k104 bi
 replace HG1:=((HG1.ext e22).ext e6).keep k104 aC
 replace HG2:=((HG2.ext e22).ext e6).keep k104 aC
 replace HSk:=((HSk.ext e22).ext e6).keep k104 aC
 replace HGm:=((HGm.ext e22).ext e6).keep k104 aC
 replace HSr:=((HSr.ext e22).ext e6).keep k104 aC
 replace HB2:=((HB2.ext e22).ext e6).keep k104 aH
 replace HB3:=((HB3.ext e22).ext e6).keep k104 aH
 replace HB4:=((HB4.ext e22).ext e6).keep k104 aH
 replace HSo:=(HSo.ext e6).keep k104 aC
 replace HGo:=(HGo.ext e6).keep k104 aC
 replace HO5:=HO5.keep k104 (by intro i ho he;have he0:=he;have ho0:=ho;(try dsimp only [aP] at he);(try simp only [Value.ownBlock,Option.some.injEq,reduceCtorEq] at ho);(try simp only [Value.ownBlock,Option.some.injEq,reduceCtorEq] at he);first | exact he.elim | exact ho.elim | omega | (have:=zo_HO5 _ ho0;omega)) (by intro i _ hi _ he;have he0:=he;have hi:=hi;have he:=he;(try dsimp only [aP,bj] at hi he);(try simp only [Value.ownBlock,Option.some.injEq,reduceCtorEq] at he);all_goals first | exact hi.elim | exact hi.1.elim | exact he.elim | omega | (rcases hi with hi | hi <;> omega) | (rcases he with he | he <;> omega))
 refine ac (U (V (O zd (aa (ad Z) (ac (U (wx (fun a wc=>∃ e,a=dg 103 e []∧(∃ er,jI [(4,.pointer (some ⟨b4,0,none⟩)),(6,.pointer (some ⟨b6,0,none⟩)),(7,.int .i64 er)] e∧ao aP w wc∧dh wc b4 [.int .i64 0,.slice none 0 0,.int .i64 0,.slice none 0 0] 27∧er=(fz ((e0,rs),n,ms) (k,rq,mv,en,an,key,g)).2∧(er=0→∃ v u,dh wc b6 [.int .i64 (fz ((e0,rs),n,ms) (k,rq,mv,en,an,key,g)).1.1.1,v,.int .i64 (fz ((e0,rs),n,ms) (k,rq,mv,en,an,key,g)).1.2.1,u] 27∧cH (fz ((e0,rs),n,ms) (k,rq,mv,en,an,key,g)).1.1.1∧cH (fz ((e0,rs),n,ms) (k,rq,mv,en,an,key,g)).1.2.1∧bs dv wc (fun q=>b4 < q) v (fz ((e0,rs),n,ms) (k,rq,mv,en,an,key,g)).1.1.2∧bs eQ wc (fun q=>b4 < q) u (fz ((e0,rs),n,ms) (k,rq,mv,en,an,key,g)).1.2.2))) ?_ ?_)))))))
 ·
  refine V (O zd (aa (aA 0 38 Z) (aa (ag zk Z (by first | exact HB6.pv 0 _ rfl | exact HB4.pv 0 _ rfl | exact HB3.pv 0 _ rfl | exact HB2.pv 0 _ rfl | assumption)) ?_)))
  refine ac (U (aO (V (O zd (aa (aJ Z Z) ?_)))))
  refine aa (dl Z) (ac (U (am Z Z (fun h6=>?_) (fun h6=>?_))))
  ·
   have hk:k=6:=bl h6
   have hst:(fz ((e0,rs),n,ms) (k,rq,mv,en,an,key,g))=if ki ms (kb rs (dZ (e0,rs) (mq key))).1=true then (((e0,rs),n,ms),9) else (((gv (e0,rs) key).1,n,ms),(gv (e0,rs) key).2):=by unfold fz;simp only [];rw [if_pos hk]
   refine V (V (O zd (aa (aA 0 24 Z) (aa (ap zk Z (by first | exact (show Pv _ _ [_,_] from aN 0 2 HB6.pv) | exact (show Pv _ _ [_,_] from aN 0 2 HB4.pv) | exact (show Pv _ _ [_,_] from aN 0 2 HB3.pv) | exact (show Pv _ _ [_,_] from aN 0 2 HB2.pv) | exact bg 0 HB6.pv | exact bg 0 HB4.pv | exact bg 0 HB3.pv | exact bg 0 HB2.pv | assumption) Z) ?_))))
   refine aa (aA 18 28 Z) (aa (ag zk Z (by first | exact HB6.pv 18 _ rfl | exact HB4.pv 18 _ rfl | exact HB3.pv 18 _ rfl | exact HB2.pv 18 _ rfl | assumption)) ?_)
   refine ah (aW zk (aZ Z) (bI Z) (ae.mono (tJ HGm HSk) ?_))
   rintro _ w32 ⟨⟨y8,rfl,HG8⟩,e32⟩
   have:=e32.size
   replace HG8:=HG8.mono fun b hb h=>And.intro h hb
   obtain ⟨a8,c8,a7,c7,rfl,HS8,HS7,hg8⟩:=HG8.rg
   refine aa (dY Z) (aa (ai (t:=.agg _) Z Z) (aa (ai (t:=.int _ _) Z Z) (ah (aD (z:=(.agg #[.slice none 0 0,.slice none 0 0,.bool false,.int .i64 0])) (by unfold aE;kernel_rfl) ?_))))
   rintro b8 w8 zb8 HB8 e8 z8
   have:=e8.size
   try simp only [Value.cells] at HB8
   refine ah (aq (n:=4) Z Z (aZ Z) zk Z cT HB8 bV ?_)
   rintro w105 HB8 k105 z105
   have:=k105.size
   try simp only [zS,Nat.zero_add,Nat.reduceAdd,List.drop_nil] at HB8
   replace HB2:=((HB2.ext e32).ext e8).keep k105 aH
   replace HB3:=((HB3.ext e32).ext e8).keep k105 aH
   replace HB4:=((HB4.ext e32).ext e8).keep k105 aH
   replace HB6:=((HB6.ext e32).ext e8).keep k105 aH
   refine aa (bO Z) (ac (U (V (O zd (aa (ap zk Z (by first | exact HB8.pv | exact HB6.pv | exact HB4.pv | exact HB3.pv | exact HB2.pv | assumption) Z) ?_)))))
   refine aa (aA 0 28 Z) (aa (ag zk Z (by first | exact HB8.pv 0 _ rfl | exact HB6.pv 0 _ rfl | exact HB4.pv 0 _ rfl | exact HB3.pv 0 _ rfl | exact HB2.pv 0 _ rfl | assumption)) ?_)
   replace HG1:=((HG1.ext e32).ext e8).keep k105 aC
   replace HS8:=(HS8.ext e8).keep k105 aC
   refine ah (aW zk (aZ Z) (bI Z) (ae.mono (kj HG1 HS8) ?_))
   replace HG2:=((HG2.ext e32).ext e8).keep k105 aC
   replace HSk:=((HSk.ext e32).ext e8).keep k105 aC
   replace HGm:=((HGm.ext e32).ext e8).keep k105 aC
   replace HSr:=((HSr.ext e32).ext e8).keep k105 aC
   replace HSo:=((HSo.ext e32).ext e8).keep k105 aC
   replace HO5:=((HO5.ext e32).ext e8).keep k105 (by intro i ho he;have he0:=he;have ho0:=ho;(try dsimp only [aP] at he);(try simp only [Value.ownBlock,Option.some.injEq,reduceCtorEq] at ho);(try simp only [Value.ownBlock,Option.some.injEq,reduceCtorEq] at he);first | exact he.elim | exact ho.elim | omega | (have:=zo_HO5 _ ho0;omega)) (by intro i _ hi _ he;have he0:=he;have hi:=hi;have he:=he;(try dsimp only [aP,bj] at hi he);(try simp only [Value.ownBlock,Option.some.injEq,reduceCtorEq] at he);all_goals first | exact hi.elim | exact hi.1.elim | exact he.elim | omega | (rcases hi with hi | hi <;> omega) | (rcases he with he | he <;> omega))
   replace HGo:=((HGo.ext e32).ext e8).keep k105 aC
   replace HG8:=(HG8.ext e8).keep k105 aC
   replace HS7:=(HS7.ext e8).keep k105 aC
   rintro _ w106 ⟨rfl,e106⟩
   have:=e106.size
   replace E:=(((E.trans e32.keep).trans e8.keep).step k105 bi).trans e106.keep
   replace HG1:=HG1.ext e106
   replace HG2:=HG2.ext e106
   replace HSk:=HSk.ext e106
   replace HGm:=HGm.ext e106
   replace HSr:=HSr.ext e106
   replace HB2:=HB2.ext e106
   replace HB3:=HB3.ext e106
   replace HB4:=HB4.ext e106
   replace HSo:=HSo.ext e106
   replace HO5:=HO5.ext e106
   replace HGo:=HGo.ext e106
   replace HB6:=HB6.ext e106
   replace HG8:=HG8.ext e106
   replace HS8:=HS8.ext e106
   replace HS7:=HS7.ext e106
   replace HB8:=HB8.ext e106
   refine ac (U (am Z Z (fun h38=>?_) (fun h38=>?_)))
   ·
    refine V (O zd (aa (aV (pl:=[(0,2),(2,1),(3,1)]) (z:=.agg #[.int .i64 0,.slice none 0 0,.int .i64 0,.slice none 0 0]) (zl:=[.int .i64 0,.slice none 0 0,.int .i64 0,.slice none 0 0]) zk (by unfold aE;kernel_rfl) Z Z (cells:=[_,_,_,_]) Z) ?_))
    refine ah (aq (n:=4) Z Z (aZ Z) zk Z cT HB4 bV ?_)
    rintro w107 HB4 k107 z107
    have:=k107.size
    try simp only [zS,Nat.zero_add,Nat.reduceAdd,List.drop_nil] at HB4
    refine aa (ad Z) (ac (U (aw (ay (bz (ay (bL (n:=4) Z zq zq Z zk HB4.pv Z (bB Z) ?_)))))))
    have hq:(fz ((e0,rs),n,ms) (k,rq,mv,en,an,key,g))=(((e0,rs),n,ms),9):=by rw [hst,if_pos h38]
    rw [hdo,hq,if_neg (by decide:¬ (9:Int)=0)]
    replace E:=E.step k107 bi
    exact ⟨⟨_,rfl,jR⟩,E⟩
   rw [if_neg (by rw [h38];simp)] at hst
   refine ar (U (O zd (aa (aA 0 24 Z) (aa (ap zk Z (by first | exact (show Pv _ _ [_,_] from aN 0 2 HB6.pv) | exact (show Pv _ _ [_,_] from aN 0 2 HB4.pv) | exact (show Pv _ _ [_,_] from aN 0 2 HB3.pv) | exact bg 0 HB6.pv | exact bg 0 HB4.pv | exact bg 0 HB3.pv | assumption) Z) ?_))))
   refine aa (aA 18 28 Z) (aa (ag zk Z (by first | exact HB6.pv 18 _ rfl | exact HB4.pv 18 _ rfl | exact HB3.pv 18 _ rfl | assumption)) ?_)
   refine ah (aW zk (aZ Z) (bI Z) (ae.mono (uB HGo HSk) ?_))
   rintro _ w47 ⟨⟨y9,rfl,HG9⟩,e47⟩
   have:=e47.size
   obtain ⟨⟨e',rs'⟩,her⟩:∃ x,x=(gv (e0,rs) key).1:=⟨_,rfl⟩
   rw [← her] at HG9
   obtain ⟨a9,c9,rfl,HS9,he9⟩:=HG9.mp
   simp only at HS9 he9
   replace HB6:=HB6.ext e47
   refine aa (dY Z) (aa (ai (t:=.agg _) Z Z) (aa (ai (t:=.int _ _) Z Z) (aa (aA 0 24 Z) (ah (aq (n:=2) Z Z (aZ Z) zk Z cT HB6 bV ?_)))))
   rintro w108 HB6 k108 z108
   have:=k108.size
   try simp only [zS,Nat.zero_add,Nat.reduceAdd,List.drop_nil] at HB6
   refine aa (bO Z) (ac (bE (U (⟨_,rfl,?_⟩))))
   replace E:=(E.trans e47.keep).step k108 bi
   replace HG1:=(HG1.ext e47).keep k108 aC
   replace HG2:=(HG2.ext e47).keep k108 aC
   replace HSk:=(HSk.ext e47).keep k108 aC
   replace HGm:=(HGm.ext e47).keep k108 aC
   replace HSr:=(HSr.ext e47).keep k108 aC
   replace HB3:=(HB3.ext e47).keep k108 aH
   replace HB4:=(HB4.ext e47).keep k108 aH
   replace HSo:=(HSo.ext e47).keep k108 aC
   replace HO5:=(HO5.ext e47).keep k108 (by intro i ho he;have he0:=he;have ho0:=ho;(try dsimp only [aP] at he);(try simp only [Value.ownBlock,Option.some.injEq,reduceCtorEq] at ho);(try simp only [Value.ownBlock,Option.some.injEq,reduceCtorEq] at he);first | exact he.elim | exact ho.elim | omega | (have:=zo_HO5 _ ho0;omega)) (by intro i _ hi _ he;have he0:=he;have hi:=hi;have he:=he;(try dsimp only [aP,bj] at hi he);(try simp only [Value.ownBlock,Option.some.injEq,reduceCtorEq] at he);all_goals first | exact hi.elim | exact hi.1.elim | exact he.elim | omega | (rcases hi with hi | hi <;> omega) | (rcases he with he | he <;> omega))
   replace HGo:=(HGo.ext e47).keep k108 aC
   replace HS9:=HS9.keep k108 aC
   refine ⟨_,⟨rfl,rfl,rfl,trivial⟩,E,HB4,?_,fun h0=>?_⟩
   ·
    rw [hst]
   rw [hst,← her]
   exact ⟨_,_,HB6,he9,im,HS9.mono fun q _ h=>by omega,HO5.view.mono fun q _ h=>by rcases h with h | h <;> omega⟩
  refine V (O zd (aa (aJ Z Z) ?_))
  refine aa (dl Z) (ac (U (am Z Z (fun h7=>?_) (fun h7=>?_))))
  ·
   have hk:k=7:=bl h7
   refine V (O zd (aa (aA 0 24 Z) (aa (ap zk Z (by first | exact (show Pv _ _ [_,_] from aN 0 2 HB6.pv) | exact (show Pv _ _ [_,_] from aN 0 2 HB4.pv) | exact (show Pv _ _ [_,_] from aN 0 2 HB3.pv) | exact (show Pv _ _ [_,_] from aN 0 2 HB2.pv) | exact bg 0 HB6.pv | exact bg 0 HB4.pv | exact bg 0 HB3.pv | exact bg 0 HB2.pv | assumption) Z) ?_)))
   refine aa (aA 18 28 Z) (aa (ag zk Z (by first | exact HB6.pv 18 _ rfl | exact HB4.pv 18 _ rfl | exact HB3.pv 18 _ rfl | exact HB2.pv 18 _ rfl | assumption)) ?_)
   refine ah (aW zk (aZ Z) (bI Z) (ae.mono (wz HGm HSk) ?_))
   rintro _ w32 ⟨⟨y8,rfl,HG8⟩,e32⟩
   have:=e32.size
   obtain ⟨a8,c8,a7,c7,rfl,HS8,HS7,hg8⟩:=HG8.rg
   refine aa (dY Z) (aa (ai (t:=.agg _) Z Z) (aa (ai (t:=.int _ _) Z Z) (ah (aD (z:=(.agg #[.slice none 0 0,.slice none 0 0,.bool false,.int .i64 0])) (by unfold aE;kernel_rfl) ?_))))
   rintro b8 w8 zb8 HB8 e8 z8
   have:=e8.size
   try simp only [Value.cells] at HB8
   obtain ⟨j,hj⟩:∃ j,j=rJ rs key:=⟨_,rfl⟩
   have hjl:j < rs.length:=by rw [hj];exact ut (fun h=>by rw [h] at q3;simp at q3)
   have hjp:0 < dP (dH rs key)→dH rs key=some (j + 1)∧dP (dH rs key)=(j:Int) + 1:=fun h=>by rw [hj];exact uu h
   obtain ⟨rj,hrj⟩:∃ r,r=rs.getD j fV:=⟨_,rfl⟩
   replace E:=(E.trans e32.keep).trans e8.keep
   replace HG1:=(HG1.ext e32).ext e8
   replace HG2:=(HG2.ext e32).ext e8
   replace HSk:=(HSk.ext e32).ext e8
   replace HGm:=(HGm.ext e32).ext e8
   replace HSr:=(HSr.ext e32).ext e8
   replace HB2:=(HB2.ext e32).ext e8
   replace HB3:=(HB3.ext e32).ext e8
   replace HB4:=(HB4.ext e32).ext e8
   replace HSo:=(HSo.ext e32).ext e8
   replace HO5:=(HO5.ext e32).ext e8
   replace HGo:=(HGo.ext e32).ext e8
   replace HB6:=(HB6.ext e32).ext e8
   have hst:(fz ((e0,rs),n,ms) (k,rq,mv,en,an,key,g))=if (decide (0 < dP (dH rs key)) && (ki ms key || ki ms rj.1))=true then (((e0,rs),n,ms),9) else (((fI (e0,rs) key).1,n,ms),(fI (e0,rs) key).2):=by
    unfold fz;simp only [];rw [if_neg zo,if_pos hk]
    rcases hb:dH rs key with _ | _ | i
    ·
     simp [dP]
    ·
     simp [dP]
    have hij:=(hjp (by rw [hb];show (0:Int) < ((i + 1:Nat):Int);omega)).1
    rw [hb] at hij;obtain rfl:i=j:=by simpa using hij
    have h0:(0:Int) < dP (some (i + 1)):=by show (0:Int) < ((i + 1:Nat):Int);omega
    simp only [decide_eq_true h0,Bool.true_and,hrj]
   obtain ⟨qa,csj,hqa,hFa,hqb,HPj,hrr⟩:=HSr.el (fR hjl)
   subst hqa
   rw [← hrj] at hrr
   obtain ⟨y5,f5,y6,f6,rfl,HSjf,_⟩:=bN hrr
   have hwr:0 < dP (dH rs key)→IntKind.i64.wrap (dP (dH rs key) - 1)=((j:Nat):Int):=fun h=>by rw [(hjp h).2,bn zo zo];omega
   refine ah (aq (n:=4) Z Z (aZ Z) zk Z cT HB8 bV ?_)
   rintro w109 HB8 k109 z109
   have:=k109.size
   try simp only [zS,Nat.zero_add,Nat.reduceAdd,List.drop_nil] at HB8
   refine aa (bO Z) (ac (U (V (V (dx (aP) zk zd zd ?_)))))
   refine aB (fun ab w hR hd=>aQ Z) ?_
   refine aB (fun ab w hR hd=>bX (hd 0 Z) Z) ?_
   refine aB (fun ab w hR hd=>be (t:=.bool _) (hd 1 Z)) ?_
   replace HB2:=HB2.keep k109 aH
   replace HB3:=HB3.keep k109 aH
   replace HB4:=HB4.keep k109 aH
   replace HB6:=HB6.keep k109 aH
   replace HPj:=HPj.keep k109 (by intro h;(try dsimp only at h);(try simp only [au] at h);first | omega)
   refine bh Z (fun ab w hd=>hd 2 Z) (fun ab w hR hd hG=>ap zk Z (by first | exact (HPj.ext hR) | exact (HB8.ext hR).pv | exact (HB6.ext hR).pv | exact (HB4.ext hR).pv | exact (HB3.ext hR).pv | exact (HB2.ext hR).pv | assumption) Z) ?_
   refine bh Z (fun ab w hd=>hd 2 Z) (fun ab w hR hd hG=>aA 18 28 Z) ?_
   refine bh Z (fun ab w hd=>hd 2 Z) (fun ab w hR hd hG=>ag zk (gd hG (hd 4 Z)) (by first | exact (HPj.ext hR) 18 _ rfl | exact aK (HPj.ext hR) | exact (HB8.ext hR).pv 18 _ rfl | exact (HB6.ext hR).pv 18 _ rfl | exact (HB4.ext hR).pv 18 _ rfl | exact (HB3.ext hR).pv 18 _ rfl | exact (HB2.ext hR).pv 18 _ rfl | assumption)) ?_
   replace HG1:=HG1.keep k109 aC
   replace HSk:=HSk.keep k109 aC
   refine gx Z (fun ab w hd=>hd 2 Z) (fun ab w hR hd hG=>aW zk (gd hG (hd 3 Z)) (gd hG (hd 5 Z)) (kj (HG1.ext hR) (HSk.ext hR))) ?_
   refine bh Z (fun ab w hd=>hd 2 Z) (fun ab w hR hd hG=>be (t:=.bool _) (gd hG (hd 6 Z))) ?_
   refine db Z (fun ab w hd=>hd 7 Z) (fun ab w hR hd hG=>ap zk Z (by first | exact (HPj.ext hR) | exact (HB8.ext hR).pv | exact (HB6.ext hR).pv | exact (HB4.ext hR).pv | exact (HB3.ext hR).pv | exact (HB2.ext hR).pv | assumption) Z) ?_
   refine db Z (fun ab w hd=>hd 7 Z) (fun ab w hR hd hG=>aA 0 24 Z) ?_
   refine db Z (fun ab w hd=>hd 7 Z) (fun ab w hR hd hG=>aA 1 22 (gd hG (hd 9 Z))) ?_
   refine db Z (fun ab w hd=>hd 7 Z) (fun ab w hR hd hG=>ag zk (gd hG (hd 10 Z)) (by first | exact (HPj.ext hR) 1 _ rfl | exact aK (HPj.ext hR) | exact (HB8.ext hR).pv 1 _ rfl | exact (HB6.ext hR).pv 1 _ rfl | exact (HB4.ext hR).pv 1 _ rfl | exact (HB3.ext hR).pv 1 _ rfl | exact (HB2.ext hR).pv 1 _ rfl | assumption)) ?_
   refine db Z (fun ab w hd=>hd 7 Z) (fun ab w hR hd hG=>aQ Z) ?_
   refine db Z (fun ab w hd=>hd 7 Z) (fun ab w hR hd hG=>iE (gd hG (hd 12 Z)) Z (by first | exact bn zo zo | rfl)) ?_
   refine db Z (fun ab w hd=>hd 7 Z) (fun ab w hR hd hG=>aF (et:=53) (sz:=4) (k:=j) zk zk (gd hG (hd 11 Z)) (gd hG (hd 13 Z)) (by (have h:=hG;simp at h;first|exact hwr zo|omega|(have:=hwr zo;exact this))) (hjl)) ?_
   refine db Z (fun ab w hd=>hd 7 Z) (fun ab w hR hd hG=>aA 0 28 (gd hG (hd 14 Z))) ?_
   refine db Z (fun ab w hd=>hd 7 Z) (fun ab w hR hd hG=>ag zk (gd hG (hd 15 Z)) (by first | exact (HPj.ext hR) 0 _ rfl | exact (HB8.ext hR).pv 0 _ rfl | exact (HB6.ext hR).pv 0 _ rfl | exact (HB4.ext hR).pv 0 _ rfl | exact (HB3.ext hR).pv 0 _ rfl | exact (HB2.ext hR).pv 0 _ rfl | assumption)) ?_
   replace HSjf:=HSjf.keep k109 aC
   refine su Z (fun ab w hd=>hd 7 Z) (fun ab w hR hd hG=>aW zk (gd hG (hd 8 Z)) (gd hG (hd 16 Z)) (kj (HG1.ext hR) (HSjf.ext hR))) ?_
   refine bh Z (fun ab w hd=>hd 2 Z) (fun ab w hR hd hG=>bF (gd hG (hd 7 Z)) (sY hG (hd 17 Z))) ?_
   refine aB (fun ab w hR hd=>bu (hd 2 Z) (hd 18 Z)) ?_
   refine bU (fun w110 e110=>?_)
   replace HG2:=HG2.keep k109 aC
   replace HGm:=HGm.keep k109 aC
   replace HSr:=HSr.keep k109 aC
   replace HSo:=HSo.keep k109 aC
   replace HO5:=HO5.keep k109 (by intro i ho he;have he0:=he;have ho0:=ho;(try dsimp only [aP] at he);(try simp only [Value.ownBlock,Option.some.injEq,reduceCtorEq] at ho);(try simp only [Value.ownBlock,Option.some.injEq,reduceCtorEq] at he);first | exact he.elim | exact ho.elim | omega | (have:=zo_HO5 _ ho0;omega)) (by intro i _ hi _ he;have he0:=he;have hi:=hi;have he:=he;(try dsimp only [aP,bj] at hi he);(try simp only [Value.ownBlock,Option.some.injEq,reduceCtorEq] at he);all_goals first | exact hi.elim | exact hi.1.elim | exact he.elim | omega | (rcases hi with hi | hi <;> omega) | (rcases he with he | he <;> omega))
   replace HGo:=HGo.keep k109 aC
   rintro _ rfl _ rfl _ rfl _ rfl _ rfl _ rfl _ rfl _ rfl _ rfl _ rfl _ rfl _ rfl _ rfl _ rfl _ rfl _ rfl _ rfl _ rfl _ rfl _ rfl
   have:=e110.size
   replace E:=(E.step k109 bi).trans e110.keep
   replace HG1:=HG1.ext e110
   replace HG2:=HG2.ext e110
   replace HSk:=HSk.ext e110
   replace HGm:=HGm.ext e110
   replace HSr:=HSr.ext e110
   replace HB2:=HB2.ext e110
   replace HB3:=HB3.ext e110
   replace HB4:=HB4.ext e110
   replace HSo:=HSo.ext e110
   replace HO5:=HO5.ext e110
   replace HGo:=HGo.ext e110
   replace HB6:=HB6.ext e110
   replace HB8:=HB8.ext e110
   replace HPj:=HPj.ext e110
   replace HSjf:=HSjf.ext e110
   refine bG (U (am Z Z (fun h38=>?_) (fun h38=>?_)))
   ·
    refine V (O zd (aa (aV (pl:=[(0,2),(2,1),(3,1)]) (z:=.agg #[.int .i64 0,.slice none 0 0,.int .i64 0,.slice none 0 0]) (zl:=[.int .i64 0,.slice none 0 0,.int .i64 0,.slice none 0 0]) zk (by unfold aE;kernel_rfl) Z Z (cells:=[_,_,_,_]) Z) ?_))
    refine ah (aq (n:=4) Z Z (aZ Z) zk Z cT HB4 bV ?_)
    rintro w111 HB4 k111 z111
    have:=k111.size
    try simp only [zS,Nat.zero_add,Nat.reduceAdd,List.drop_nil] at HB4
    refine aa (ad Z) (ac (U (aw (ay (bz (ay (bL (n:=4) Z zq zq Z zk HB4.pv Z (bB Z) ?_)))))))
    have hq:(fz ((e0,rs),n,ms) (k,rq,mv,en,an,key,g))=(((e0,rs),n,ms),9):=by rw [hst,if_pos (by simpa using h38)]
    rw [hdo,hq,if_neg (by decide:¬ (9:Int)=0)]
    replace E:=E.step k111 bi
    exact ⟨⟨_,rfl,jR⟩,E⟩
   rw [if_neg (by rw [Bool.not_eq_true];simpa using h38)] at hst
   refine ar (U (O zd (aa (aA 0 24 Z) (aa (ap zk Z (by first | exact (show Pv _ _ [_,_] from aN 0 2 HB6.pv) | exact (show Pv _ _ [_,_] from aN 0 2 HB4.pv) | exact (show Pv _ _ [_,_] from aN 0 2 HB3.pv) | exact bg 0 HB6.pv | exact bg 0 HB4.pv | exact bg 0 HB3.pv | assumption) Z) ?_))))
   refine aa (aA 18 28 Z) (aa (ag zk Z (by first | exact HB6.pv 18 _ rfl | exact HB4.pv 18 _ rfl | exact HB3.pv 18 _ rfl | assumption)) ?_)
   refine ah (aW zk (aZ Z) (bI Z) (ae.mono (uA HGo HSk) ?_))
   rintro _ w47 ⟨⟨y9,rfl,HG9⟩,e47⟩
   have:=e47.size
   obtain ⟨⟨e',rs'⟩,her⟩:∃ x,x=(fI (e0,rs) key).1:=⟨_,rfl⟩
   rw [← her] at HG9
   obtain ⟨a9,c9,rfl,HS9,he9⟩:=HG9.mp
   simp only at HS9 he9
   replace HB6:=HB6.ext e47
   refine aa (dY Z) (aa (ai (t:=.agg _) Z Z) (aa (ai (t:=.int _ _) Z Z) (aa (aA 0 24 Z) (ah (aq (n:=2) Z Z (aZ Z) zk Z cT HB6 bV ?_)))))
   rintro w112 HB6 k112 z112
   have:=k112.size
   try simp only [zS,Nat.zero_add,Nat.reduceAdd,List.drop_nil] at HB6
   refine aa (bO Z) (ac (bE (U (⟨_,rfl,?_⟩))))
   replace E:=(E.trans e47.keep).step k112 bi
   replace HG1:=(HG1.ext e47).keep k112 aC
   replace HG2:=(HG2.ext e47).keep k112 aC
   replace HSk:=(HSk.ext e47).keep k112 aC
   replace HGm:=(HGm.ext e47).keep k112 aC
   replace HSr:=(HSr.ext e47).keep k112 aC
   replace HB3:=(HB3.ext e47).keep k112 aH
   replace HB4:=(HB4.ext e47).keep k112 aH
   replace HSo:=(HSo.ext e47).keep k112 aC
   replace HO5:=(HO5.ext e47).keep k112 (by intro i ho he;have he0:=he;have ho0:=ho;(try dsimp only [aP] at he);(try simp only [Value.ownBlock,Option.some.injEq,reduceCtorEq] at ho);(try simp only [Value.ownBlock,Option.some.injEq,reduceCtorEq] at he);first | exact he.elim | exact ho.elim | omega | (have:=zo_HO5 _ ho0;omega)) (by intro i _ hi _ he;have he0:=he;have hi:=hi;have he:=he;(try dsimp only [aP,bj] at hi he);(try simp only [Value.ownBlock,Option.some.injEq,reduceCtorEq] at he);all_goals first | exact hi.elim | exact hi.1.elim | exact he.elim | omega | (rcases hi with hi | hi <;> omega) | (rcases he with he | he <;> omega))
   replace HGo:=(HGo.ext e47).keep k112 aC
   replace HS9:=HS9.keep k112 aC
   refine ⟨_,⟨rfl,rfl,rfl,trivial⟩,E,HB4,?_,fun h0=>?_⟩
   ·
    rw [hst]
   rw [hst,← her]
   exact ⟨_,_,HB6,he9,im,HS9.mono fun q _ h=>by omega,HO5.view.mono fun q _ h=>by rcases h with h | h <;> omega⟩
  refine V (O zd (aa (aJ Z Z) ?_))
  refine aa (dl Z) (ac (U (am Z Z (fun h8=>?_) (fun h8=>?_))))
  ·
   have hk:k=8:=bl h8
   have hst:(fz ((e0,rs),n,ms) (k,rq,mv,en,an,key,g))=il ((e0,rs),n,ms) key g:=by unfold fz;simp only [];rw [if_neg zo,if_neg zo,if_pos hk]
   refine O zd (aa (ap zk Z (by first | exact HB4.pv | exact HB3.pv | exact HB2.pv | assumption) Z) ?_)
   refine ah (aW zk (ci Z) (aZ Z) (ae.mono (tv HB6 (HSo.mono (F':=fun q=>q < m) fun q _ h=>h.2) HO5 hob hmb6 (HG2.mono (F':=fun q=>q < m) fun q _ h=>by omega) ie im hms hn) ?_))
   rintro _ w92 ⟨rfl,⟨u9,HB6,HO9⟩,k92⟩
   have:=k92.size
   have zo_HO9:=fun (b:Nat) h=>HO9.own_lt (b:=b) h
   refine aa (bO Z) (ac (bE (U (⟨_,rfl,?_⟩))))
   replace E:=E.step k92 bi
   replace HG1:=HG1.keep k92 aC
   replace HG2:=HG2.keep k92 aC
   replace HSk:=HSk.keep k92 aC
   replace HGm:=HGm.keep k92 aC
   replace HSr:=HSr.keep k92 aC
   replace HB2:=HB2.keep k92 aH
   replace HB3:=HB3.keep k92 aH
   replace HB4:=HB4.keep k92 aH
   replace HSo:=HSo.keep k92 aC
   replace HGo:=HGo.keep k92 aC
   refine ⟨_,⟨rfl,rfl,rfl,trivial⟩,E,HB4,?_,fun h0=>?_⟩
   ·
    rw [hst]
   rw [hst]
   have hmp:=rI ((e0,rs),n,ms) key g
   have hnx:=tw (s:=((e0,rs),n,ms)) (k:=key) (g:=g) ⟨p2,p3⟩
   rw [hmp]
   exact ⟨_,_,HB6,ie,hnx,HSo.mono fun q _ h=>by have:=h.1;omega,HO9.view.mono fun q _ h=>by rcases h with h | h <;> omega⟩
  refine V (V (O zd (aa (aJ Z Z) ?_)))
  refine aa (dl Z) (ac (U (am Z Z (fun h9=>?_) (fun h9=>?_))))
  ·
   have hk:k=9:=bl h9
   refine ar (U (am Z Z (fun hx=>?_) (fun hx=>?_)))
   ·
    refine O zd (aa (ap zk Z (by first | exact HB4.pv | exact HB3.pv | exact HB2.pv | assumption) Z) ?_)
    refine ah (aW zk (ci Z) (aZ Z) (ae.mono (sX HB6 HSo HO5 hob hmb6 hm1 (HG2.mono (F':=fun q=>q < m) fun q _ h=>by omega) ie im hn) ?_))
    rintro _ w92 ⟨rfl,hres9,k92⟩
    have:=k92.size
    refine aa (bO Z) (ac (bE (U (⟨_,rfl,?_⟩))))
    have hst:(fz ((e0,rs),n,ms) (k,rq,mv,en,an,key,g))=iZ ((e0,rs),n,ms) (decide (k=9)) mv:=by unfold fz;simp only [];rw [if_neg zo,if_neg zo,if_neg zo,if_pos (.inl hk)]
    replace E:=E.step k92 bi
    replace HG1:=HG1.keep k92 aC
    replace HG2:=HG2.keep k92 aC
    replace HSk:=HSk.keep k92 aC
    replace HGm:=HGm.keep k92 aC
    replace HSr:=HSr.keep k92 aC
    replace HB2:=HB2.keep k92 aH
    replace HB3:=HB3.keep k92 aH
    replace HB4:=HB4.keep k92 aH
    replace HSo:=HSo.keep k92 aC
    replace HGo:=HGo.keep k92 aC
    refine ⟨_,⟨rfl,rfl,rfl,trivial⟩,E,HB4,?_,fun h0=>?_⟩
    ·
     rw [hst]
    rw [hst]
    obtain ⟨v9,u9,HB9,j9,HS9,HO9⟩:=hres9 h0
    have hnx:(iZ ((e0,rs),n,ms) (decide (k=9)) mv).1.2.1=n:=qy _ _ _
    rw [hnx]
    exact ⟨_,_,HB9,j9,im,HS9.mono fun q _ h=>by omega,HO9.view.mono fun q _ h=>by rcases h with h | h <;> omega⟩
   rw [h9] at hx;cases hx
  refine O zd (aa (aJ Z Z) ?_)
  refine aa (dl Z) (ac (U (am Z Z (fun h10=>?_) (fun h10=>?_))))
  ·
   have hk:k=10:=bl h10
   refine O zd (aa (ap zk Z (by first | exact HB4.pv | exact HB3.pv | exact HB2.pv | assumption) Z) ?_)
   refine ah (aW zk (ci Z) (aZ Z) (ae.mono (sX HB6 HSo HO5 hob hmb6 hm1 (HG2.mono (F':=fun q=>q < m) fun q _ h=>by omega) ie im hn) ?_))
   rintro _ w92 ⟨rfl,hres9,k92⟩
   have:=k92.size
   refine aa (bO Z) (ac (bE (U (⟨_,rfl,?_⟩))))
   have hst:(fz ((e0,rs),n,ms) (k,rq,mv,en,an,key,g))=iZ ((e0,rs),n,ms) (decide (k=9)) mv:=by unfold fz;simp only [];rw [if_neg zo,if_neg zo,if_neg zo,if_pos (.inr hk)]
   replace E:=E.step k92 bi
   replace HG1:=HG1.keep k92 aC
   replace HG2:=HG2.keep k92 aC
   replace HSk:=HSk.keep k92 aC
   replace HGm:=HGm.keep k92 aC
   replace HSr:=HSr.keep k92 aC
   replace HB2:=HB2.keep k92 aH
   replace HB3:=HB3.keep k92 aH
   replace HB4:=HB4.keep k92 aH
   replace HSo:=HSo.keep k92 aC
   replace HGo:=HGo.keep k92 aC
   refine ⟨_,⟨rfl,rfl,rfl,trivial⟩,E,HB4,?_,fun h0=>?_⟩
   ·
    rw [hst]
   rw [hst]
   obtain ⟨v9,u9,HB9,j9,HS9,HO9⟩:=hres9 h0
   have hnx:(iZ ((e0,rs),n,ms) (decide (k=9)) mv).1.2.1=n:=qy _ _ _
   rw [hnx]
   exact ⟨_,_,HB9,j9,im,HS9.mono fun q _ h=>by omega,HO9.view.mono fun q _ h=>by rcases h with h | h <;> omega⟩
  refine O zd (aa (ad Z) (ac (bE (U (⟨_,rfl,?_⟩)))))
  have n6:=bf h6;have n7:=bf h7;have n8:=bf h8;have n9:=bf h9;have n10:=bf h10
  have hst:(fz ((e0,rs),n,ms) (k,rq,mv,en,an,key,g))=(((e0,rs),n,ms),2):=by unfold fz;simp only [];rw [if_neg n6,if_neg n7,if_neg n8,if_neg zo]
  refine ⟨_,⟨rfl,rfl,rfl,trivial⟩,E,HB4,?_,fun h0=>absurd h0 zq⟩
  rw [hst]
 rintro _ w113 ⟨e,rfl,er,hh,E,HB4,her,hres⟩
 obtain ⟨jj,rfl⟩:∃ j,e=oy _ j:=⟨_,hh.upd⟩
 refine V (V (O zd (aa (aQ Z) (aa (bD Z Z) ?_))))
 refine ac (U (am Z Z (fun h99=>?_) (fun h99=>?_)))
 ·
  refine V (O zd (aa (aV (pl:=[(0,2),(2,1),(3,1)]) (z:=.agg #[.int .i64 0,.slice none 0 0,.int .i64 0,.slice none 0 0]) (zl:=[.int .i64 0,.slice none 0 0,.int .i64 0,.slice none 0 0]) zk (by unfold aE;kernel_rfl) Z Z (cells:=[_,_,_,_]) Z) ?_))
  refine aa (aQ Z) (ah (aq (n:=4) Z Z (aZ Z) zk Z cT HB4 bV ?_))
  rintro w114 HB4 k114 z114
  have:=k114.size
  try simp only [zS,Nat.zero_add,Nat.reduceAdd,List.drop_nil] at HB4
  refine aa (bO Z) (ac (U (aw (ay (bL (n:=4) Z zq zq Z zk HB4.pv Z (bB Z) ?_)))))
  have h1:¬ (fz ((e0,rs),n,ms) (k,rq,mv,en,an,key,g)).2=0:=by rw [← her];simpa using h99
  rw [hdo,if_neg h1,← her]
  replace E:=E.step k114 bi
  exact ⟨⟨_,rfl,jR⟩,E⟩
 have h1:er=0:=by simpa using h99
 obtain ⟨v9,u9,HB6,j1,j2,HS9,HS8⟩:=hres h1
 obtain ⟨z1,z2,rfl⟩:=HS9.shape
 obtain ⟨z3,z4,rfl⟩:=HS8.shape
 refine ar (U (V (O zd (aa (ap zk Z (by first | exact HB6.pv | exact HB4.pv | assumption) Z) ?_))))
 refine ah (aq (n:=4) Z Z (aZ Z) zk Z cT HB4 bV ?_)
 rintro w115 HB4 k115 z115
 have:=k115.size
 try simp only [zS,Nat.zero_add,Nat.reduceAdd,List.drop_nil] at HB4
 refine aa (ad Z) (ac (U (aw (bL (n:=4) Z zq zq Z zk HB4.pv Z (bB Z) ?_))))
 rw [hdo,if_pos (her.symm.trans h1),← her,h1]
 replace E:=E.step k115 bi
 replace HS9:=HS9.keep k115 aC
 replace HS8:=HS8.keep k115 aC
 exact ⟨⟨_,rfl,aY.mkMt (HS9.mono fun q _ h=>by omega) (HS8.mono fun q _ h=>by omega) j1 j2⟩,E⟩
end Go.Proofs.YteehplloacefmaaGreat

/- Steps and lemmas for the walks. -/
import Derived.Test.YteehplloacefmaaGreatM3
set_option linter.unusedVariables false
set_option linter.unusedSimpArgs false
set_option maxRecDepth 100000
namespace Go.Proofs.YteehplloacefmaaGreat
open Go.Vc
theorem at_k {w:World} {F G:Nat→Prop} {kv:Value} {e:Int} {rs:List cO} {k:List UInt8} {i:Nat} {q:Addr} {c:Nat} {y5 y6:Option Addr} {n5 d5 n6 d6:Nat} {eb:Bool} {g:Int} (hi:dH rs k=some i) (HG1:aY li w F (.agg #[.int .i64 e,.slice (some q) rs.length c]) (e,rs)) (HS2:Bv w G kv k)
    (HPq:Pv w (q.add (i * dv.sz)) [.slice y5 n5 d5,.slice y6 n6 d6,.bool eb,.int .i64 g]) (hF:q.block < w.heap.size):ae Tryz.prog 42 #[.agg #[.int .i64 e,.slice (some q) rs.length c],kv] w (fun o w'=>o=.tuple #[.agg #[.slice y5 n5 d5,.slice y6 n6 d6,.bool eb,.int .i64 g],.int .i64 i]∧aX w w'):=by
 obtain ⟨a,c',hq,HSr,he⟩:=HG1.mp
 simp only [Value.agg.injEq,Array.mk.injEq,List.cons.injEq,Value.slice.injEq,and_true,true_and] at hq
 obtain ⟨rfl,rfl⟩:=hq
 obtain ⟨a3,c3,rfl⟩:=HS2.shape
 obtain ⟨hlt,_⟩:=fj hi
 simp only at HSr he
 refine aL 20 Tryz.func42 Z Z (by simp) ?_
 refine V ?_
 have E:=ao.refl (K:=aP) w
 replace HS2:=HS2.all
 replace HSr:=HSr.all
 refine O zd (ah (aS (aZ Z) ?_))
 rintro b2 w2 zb2 HB2 e2 z2
 have:=e2.size
 try simp only [Value.cells] at HB2
 refine ah (aS (bI Z) ?_)
 rintro b3 w3 zb3 HB3 e3 z3
 have:=e3.size
 try simp only [Value.cells] at HB3
 refine ah (aD (z:=(.agg #[.slice none 0 0,.slice none 0 0,.bool false,.int .i64 0])) (by unfold aE;kernel_rfl) ?_)
 rintro b4 w4 zb4 HB4 e4 z4
 have:=e4.size
 try simp only [Value.cells] at HB4
 replace HPq:=((HPq.ext e2).ext e3).ext e4
 replace HB2:=(HB2.ext e3).ext e4
 replace HB3:=HB3.ext e4
 refine aa (ad Z) (ac (U (V (O zd (aa (aA 1 22 Z) (aa (ag zk Z (by first | exact HB4.pv 1 _ rfl | exact HB3.pv 1 _ rfl | exact HB2.pv 1 _ rfl | exact HPq 1 _ rfl | exact aK HPq | assumption)) ?_))))))
 refine aa (cC (by simp [ev];rfl) (by simp [ev];rfl)) ?_
 replace HS2:=((HS2.ext e2).ext e3).ext e4
 replace HSr:=((HSr.ext e2).ext e3).ext e4
 refine ah (aW zk (bI Z) (show _=(Value.func _ _ _) from Z) (ae.mono (iC (cap:=#[.pointer (some ⟨b3,0,none⟩)]) HSr zk (fun W u r e h=>tB h (HB3.ext e) (HS2.ext e))) ?_))
 rintro _ w101 ⟨rfl,e101⟩
 have:=e101.size
 rw [ia,hi]
 have hoi:dP (some i)=(i:Int):=rfl
 rw [hoi]
 refine aa (bO Z) (ac (U (V (V (O zd (aa (aQ Z) (aa (bw Z Z) ?_)))))))
 replace E:=(((E.trans e2.keep).trans e3.keep).trans e4.keep).trans e101.keep
 replace HS2:=HS2.ext e101
 replace HSr:=HSr.ext e101
 replace HPq:=HPq.ext e101
 replace HB2:=HB2.ext e101
 replace HB3:=HB3.ext e101
 replace HB4:=HB4.ext e101
 refine ac (U (am Z Z (fun hc=>?_) (fun hc=>?_)))
 ·
  simp at hc;omega
 refine ar (U (V (O zd (aa (aA 1 22 Z) (aa (ag zk Z (by first | exact HB4.pv 1 _ rfl | exact HB3.pv 1 _ rfl | exact HB2.pv 1 _ rfl | exact HPq 1 _ rfl | exact aK HPq | assumption)) ?_)))))
 refine aa (aQ Z) (aa (aF (et:=53) (sz:=4) (k:=i) zk zk Z Z (rfl) (hlt)) ?_)
 refine aa (ap zk Z (by first | exact HB4.pv | exact HB3.pv | exact HB2.pv | exact HPq | assumption) Z) ?_
 refine aa (aQ Z) (ah (aq (n:=4) Z Z (aZ Z) zk Z (by first | (simp [cL];done) | (simp only [List.forall_mem_cons,List.cons_append,List.nil_append];repeat' (first | exact rfl | apply And.intro | (intro u hu;cases hu;done)))) HB4 bV ?_))
 rintro w42 HB4 k42 z42
 have:=k42.size
 try simp only [zS,Nat.zero_add,Nat.reduceAdd,List.drop_nil] at HB4
 refine aa (bO Z) (ac (U (aw (bL (n:=4) Z zq zq Z zk HB4.pv Z (bB Z) ?_))))
 replace E:=E.step k42 bi
 exact ⟨rfl,E⟩
theorem at_n {w:World} {F G:Nat→Prop} {v kv:Value} {e:Int} {rs:List cO} {k:List UInt8} (hi:dH rs k=none) (HG1:aY li w F v (e,rs)) (HS2:Bv w G kv k):ae Tryz.prog 42 #[v,kv] w (fun o w'=>o=.tuple #[.agg #[.slice none 0 0,.slice none 0 0,.bool false,.int .i64 0],.int .i64 (-1)]∧aX w w'):=by
 obtain ⟨a,c,rfl,HSr,he⟩:=HG1.mp
 obtain ⟨a3,c3,rfl⟩:=HS2.shape
 simp only at HSr he
 refine aL 20 Tryz.func42 Z Z (by simp) ?_
 refine V ?_
 have E:=ao.refl (K:=aP) w
 replace HS2:=HS2.all
 replace HSr:=HSr.all
 refine O zd (ah (aS (aZ Z) ?_))
 rintro b2 w2 zb2 HB2 e2 z2
 have:=e2.size
 try simp only [Value.cells] at HB2
 refine ah (aS (bI Z) ?_)
 rintro b3 w3 zb3 HB3 e3 z3
 have:=e3.size
 try simp only [Value.cells] at HB3
 refine ah (aD (z:=(.agg #[.slice none 0 0,.slice none 0 0,.bool false,.int .i64 0])) (by unfold aE;kernel_rfl) ?_)
 rintro b4 w4 zb4 HB4 e4 z4
 have:=e4.size
 try simp only [Value.cells] at HB4
 replace HB2:=(HB2.ext e3).ext e4
 replace HB3:=HB3.ext e4
 refine aa (ad Z) (ac (U (V (O zd (aa (aA 1 22 Z) (aa (ag zk Z (by first | exact HB4.pv 1 _ rfl | exact HB3.pv 1 _ rfl | exact HB2.pv 1 _ rfl | assumption)) ?_))))))
 refine aa (cC (by simp [ev];rfl) (by simp [ev];rfl)) ?_
 replace HS2:=((HS2.ext e2).ext e3).ext e4
 replace HSr:=((HSr.ext e2).ext e3).ext e4
 refine ah (aW zk (bI Z) (show _=(Value.func _ _ _) from Z) (ae.mono (iC (cap:=#[.pointer (some ⟨b3,0,none⟩)]) HSr zk (fun W u r e h=>tB h (HB3.ext e) (HS2.ext e))) ?_))
 rintro _ w101 ⟨rfl,e101⟩
 have:=e101.size
 rw [ia,hi]
 have hoi:dP none=(-1:Int):=rfl
 rw [hoi]
 refine aa (bO Z) (ac (U (V (V (O zd (aa (aQ Z) (aa (bw Z Z) ?_)))))))
 replace E:=(((E.trans e2.keep).trans e3.keep).trans e4.keep).trans e101.keep
 replace HS2:=HS2.ext e101
 replace HSr:=HSr.ext e101
 replace HB2:=HB2.ext e101
 replace HB3:=HB3.ext e101
 replace HB4:=HB4.ext e101
 refine ac (U (am Z Z (fun hc=>?_) (fun hc=>?_)))
 ·
  refine V (O zd (aa (aV (pl:=[(0,1),(1,1),(2,1),(3,1)]) (z:=.agg #[.slice none 0 0,.slice none 0 0,.bool false,.int .i64 0]) (zl:=[.slice none 0 0,.slice none 0 0,.bool false,.int .i64 0]) zk (by unfold aE;kernel_rfl) Z Z (cells:=[_,_,_,_]) Z) ?_))
  refine ah (aq (n:=4) Z Z (aZ Z) zk Z (by first | (simp [cL];done) | (simp only [List.forall_mem_cons,List.cons_append,List.nil_append];repeat' (first | exact rfl | apply And.intro | (intro u hu;cases hu;done)))) HB4 bV ?_)
  rintro w41 HB4 k41 z41
  have:=k41.size
  try simp only [zS,Nat.zero_add,Nat.reduceAdd,List.drop_nil] at HB4
  refine aa (ad Z) (ac (U (aw (ay (bL (n:=4) Z zq zq Z zk HB4.pv Z (bB Z) ?_)))))
  replace E:=E.step k41 bi
  exact ⟨rfl,E⟩
 simp at hc
theorem vj {e:Nat→Value} {i0 i1 i2 i3 i4 i5:Nat} {x0 x1 x2 x3 x4 x5:Operand} {v0 v1 v2 v3 v4 v5:Value} (h0:ev e x0=v0) (h1:ev e x1=v1) (h2:ev e x2=v2) (h3:ev e x3=v3) (h4:ev e x4=v4) (h5:ev e x5=v5):(#[(i0,x0),(i1,x1),(i2,x2),(i3,x3),(i4,x4),(i5,x5)]:Array (Nat × Operand)).toList.map (fun x=>(x.1,ev e x.2))=[(i0,v0),(i1,v1),(i2,v2),(i3,v3),(i4,v4),(i5,v5)]:=by simp [h0,h1,h2,h3,h4,h5]
theorem tv {w:World} {b m:Nat} {v1 v2 vc:Value} {e n:Int} {rs:List cO} {ms:List fy} {c:iq} (HB:dh w b [.int .i64 e,v1,.int .i64 n,v2] 27) (HSr:bs dv w (fun q=>q < m) v1 rs) (HO:ck eQ 55 w m (fun q=>m≤q∧q < b) v2 ms) (hob:∀ q,v2.ownBlock=some q→q < b) (hmb:m≤b)
    (HG:aY pe w (fun q=>q < m) vc c) (ie:cH e) (im:cH n) (hmay:dA ((e,rs),n,ms)=true) (hn:ms.length≤1000) :
    ae Tryz.prog 44 #[.pointer (some ⟨b,0,none⟩),vc] w (fun o w'=>o=.int .i64 (il ((e,rs),n,ms) c.2.2.2.2.2.1 c.2.2.2.2.2.2).2∧(∃ u,dh w' b [.int .i64 e,v1,.int .i64 (il ((e,rs),n,ms) c.2.2.2.2.2.1 c.2.2.2.2.2.2).1.2.1,u] 27∧ck eQ 55 w' m (fun q=>m≤q∧q≠b) u (il ((e,rs),n,ms) c.2.2.2.2.2.1 c.2.2.2.2.2.2).1.2.2)∧ao (fun q=>m≤q) w w'):=by
 obtain ⟨k,rq,mv,en,an,key,g⟩:=c
 obtain ⟨x1,d1,x2,d2,x3,d3,x4,d4,x5,d5,x6,d6,x7,d7,x8,d8,x9,d9,hvc,_,_,_,_,HSk,_,ig⟩:=HG.cm
 subst hvc
 obtain ⟨a1,c1,rfl⟩:=HSr.shape
 obtain ⟨a2,c2,rfl⟩:=HO.shape
 have HO1:=HO
 have hblt:=HB.lt
 have HGm:=aY.mpOf HSr ie
 have zo0:∀ q,(Value.slice a2 ms.length c2).ownBlock=some q→m≤q∧q < b:=fun q h=>⟨(HO.own_lt h).1,hob q h⟩
 obtain ⟨p1,p2,p3,p4⟩:=eg.1 hmay
 simp only at p1 p2 p3 p4
 rcases hi:dH rs key with _ | i
 ·
  have hr:il ((e,rs),n,ms) key g=(((e,rs),n,ms),6):=by simp only [il,hi]
  simp only [hr]
  refine aL 71 Tryz.func44 Z Z (by simp) ?_
  refine V ?_
  have E:=ao.refl (K:=fun q=>m≤q) w
  have zo_HO1:=fun (b:Nat) h=>HO1.own_lt (b:=b) h
  refine O zd (ah (aS (aZ Z) ?_))
  rintro b3 w3 zb3 HB3 e3 z3
  have:=e3.size
  try simp only [Value.cells] at HB3
  refine aa (ad Z) (ac (U (V (cN zk ?_))))
  have e101:aX w3 { w3 with drawn:=w3.drawn + 1 }:=ao.drawn _ _
  generalize hw101:({ w3 with drawn:=w3.drawn + 1 }:World)=w101 at e101 ⊢
  clear hw101
  have:=e101.size
  refine bT 12 Z zd zd zd ?_
  refine eH (fun k=>w101.heap.size≤k) (iP w101.heap.size [⟨10,some 11,53,([.slice none 0 0,.slice none 0 0,.bool false,.int .i64 0]:List Value),([.slice none 0 0,.slice none 0 0,.bool false,.int .i64 0]:List Value)⟩]) zd zd (fun ab done hd=>iP.start (Nat.le_refl _) (fun a ha=>hd a.al (mG (n:=12) Z a ha))) ?_
  refine aI (fun done ab w hR hcl hdk hJ hdn hd=>bK Z) (fun _ _ _ _ j=>j.src (ao.refl _) Z) ?_
  refine aI (fun done ab w hR hcl hdk hJ hdn hd=>aM (hd 0 Z)) (fun _ _ _ _ j=>j.src (ao.refl _) Z) ?_
  refine aI (fun done ab w hR hcl hdk hJ hdn hd=>aA 0 24 (hd 1 Z)) (fun _ _ _ _ j=>j.src (ao.refl _) Z) ?_
  replace HB:=(HB.ext e3).ext e101
  replace HB3:=HB3.ext e101
  refine aI (fun done ab w hR hcl hdk hJ hdn hd=>ap zk (hd 2 Z) (by first | exact (show Pv _ _ [_,_] from aN 0 2 (HB3.keep hR aH).pv) | exact (show Pv _ _ [_,_] from aN 0 2 (HB.keep hR aH).pv) | exact bg 0 (HB3.keep hR aH).pv | exact bg 0 (HB.keep hR aH).pv | assumption) Z) (fun _ _ _ _ j=>j.src (ao.refl _) Z) ?_
  refine aI (fun done ab w hR hcl hdk hJ hdn hd=>aA 18 28 Z) (fun _ _ _ _ j=>j.src (ao.refl _) Z) ?_
  refine aI (fun done ab w hR hcl hdk hJ hdn hd=>ag zk (hd 4 Z) (by first | exact (HB3.keep hR aH).pv 18 _ rfl | exact (HB.keep hR aH).pv 18 _ rfl | assumption)) (fun _ _ _ _ j=>j.src (ao.refl _) Z) ?_
  replace HSk:=(HSk.ext e3).ext e101
  replace HGm:=(HGm.ext e3).ext e101
  refine fJ (fun done ab w hR hcl hdk hJ hdn hd=>aW zk (hd 3 Z) (hd 5 Z) (at_n hi (HGm.keep hR aC) (HSk.keep hR aC))) (fun done ab w w1 hdk hJ e=>hJ.src e Z) ?_
  refine aI (fun done ab w hR hcl hdk hJ hdn hd=>be (t:=.tuple _) (hd 6 Z)) (fun _ _ _ _ j=>j.src (ao.refl _) Z) ?_
  refine aI (fun done ab w hR hcl hdk hJ hdn hd=>ai (t:=.agg _) (hd 7 Z) Z) (fun _ _ _ _ j=>j.src (ao.refl _) Z) ?_
  refine aI (fun done ab w hR hcl hdk hJ hdn hd=>ai (t:=.int _ _) (hd 7 Z) Z) (fun _ _ _ _ j=>j.src (ao.refl _) Z) ?_
  refine ea (fun done ab w hR hcl hdk hJ hdn hd=>aD (z:=.agg #[.slice none 0 0,.slice none 0 0,.bool false,.int .i64 0]) (by unfold aE;kernel_rfl) fun b w1 hb hB e hz=>⟨aX.keep e,hJ.al (i:=0) Z Z hdk hcl (fun m a hm he=>ej (i:=0) (m:=m) Z Z hm he) (fun a ha=>eP Z ha (List.mem_of_getElem? (i:=0) Z)) (fun s hs=>by cases hs;exact ⟨_,rfl,rfl⟩) hb hB e⟩) ?_
  replace E:=(E.trans e3.keep).trans e101.keep
  replace HO1:=(HO1.ext e3).ext e101
  refine ea (fun done ab w hR hcl hdk hJ hdn hd=>by
    obtain ⟨b,hb,hn,hB⟩:=hJ.at (i:=0) rfl rfl hdk (hdn 10 rfl)
    exact aq (n:=4) (hb:_=Value.pointer (some ⟨b,0,none⟩)) rfl (hd 8 rfl) zk rfl (by first | (simp [cL];done) | (simp only [List.forall_mem_cons,List.cons_append,List.nil_append];repeat' (first | exact rfl | apply And.intro | (intro u hu;cases hu;done)))) hB (of_decide_eq_true rfl) (fun w1 hB1 kk z=>⟨kk.mono (fun i _ h=>by rw [h];exact hn),hJ.st (i:=0) rfl rfl hdk (hdn 10 rfl) (fun m a hm he=>kA (i:=0) (m:=m) rfl rfl hm rfl he) (fun a ha h=>eP (a:=_) rfl (List.mem_of_getElem? (i:=0) rfl) ha (by rw [h])) rfl (fun m a hm he=>ej (i:=0) (m:=m) rfl rfl hm he) hb hB1 kk⟩)) ?_
  refine dq (fun ab w102 k102 J102=>?_)
  rintro _ - rfl _ - rfl _ - rfl _ - rfl _ - rfl _ - rfl _ - rfl _ - rfl _ - rfl _ - rfl v5 qv5 - _ - -
  have:=k102.size
  obtain ⟨b5,hb5,zb5,HB5⟩:=J102.fin (i:=0) rfl
  try dsimp only at HB5
  have zl5:=HB5.lt
  obtain rfl:=qv5.trans hb5
  refine ct (U (bZ zd Z ?_))
  refine aa (bO Z) (ac (U (V (aO (V (O zd (aa (aQ Z) (aa (bw Z Z) ?_))))))))
  replace E:=E.step k102 bi
  replace HB:=HB.keep k102 aH
  replace HO1:=HO1.keep k102 (by intro i ho he;have he0:=he;have ho0:=ho;(try dsimp only [aP] at he);(try simp only [Value.ownBlock,Option.some.injEq,reduceCtorEq] at ho);(try simp only [Value.ownBlock,Option.some.injEq,reduceCtorEq] at he);first | exact he.elim | exact ho.elim | omega | (have:=zo_HO1 _ ho0;omega)) (by intro i _ hi _ he;have he0:=he;have hi:=hi;have he:=he;(try dsimp only [aP,bj] at hi he);(try simp only [Value.ownBlock,Option.some.injEq,reduceCtorEq] at he);all_goals first | exact hi.elim | exact hi.1.elim | exact he.elim | omega | (rcases hi with hi | hi <;> omega) | (rcases he with he | he <;> omega))
  replace HSk:=HSk.keep k102 aC
  replace HGm:=HGm.keep k102 aC
  replace HB3:=HB3.keep k102 aH
  refine aa (dl Z) (ac (U (am Z Z (fun h17=>?_) (fun h17=>?_))))
  ·
   refine V (O zd (aa (ad Z) (ac (U (aw (bz (ay (aU Z zq (bB Z) ?_))))))))
   exact ⟨rfl,⟨_,HB,HO1.mono fun q _ h=>⟨h.1,by omega⟩⟩,E⟩
  simp at h17
 obtain ⟨hlt,hkf⟩:=fj hi
 obtain ⟨q,cs,hq,hF,hql,HPq,hr⟩:=HSr.el (fR hlt)
 subst hq
 obtain ⟨r,hrr⟩:∃ r,r=rs.getD i fV:=⟨_,rfl⟩
 have hmem:=fX (l:=rs) hlt
 rw [← hrr] at hr hkf hmem
 obtain ⟨y5,e5,y6,e6,rfl,HSf,HSt,hg⟩:=bN hr
 obtain ⟨hl1,hl2,hl3⟩:=eA p1 _ hmem
 have HGs:aY iK w bj _ ((e,rs),n,ms):=aY.mkMt HSr.allB HO.view.allB ie im
 have HGr:aY jU w (fun q=>q < m) (.agg #[.int .i64 n,.slice y5 r.1.length e5,.slice y6 r.2.1.length e6,.bool r.2.2.1,.int .i64 r.2.2.2,.int .i64 g]) (n,r.1,r.2.1,r.2.2.1,r.2.2.2,g):=⟨_,rfl,kJ HSf HSt im (by exact hg) ig⟩
 have hr0:il ((e,rs),n,ms) key g=if ki ms key || decide (r.2.2.2=g) then (((e,rs),n,ms),9) else if 2147483647≤n then (((e,rs),n,ms),5) else (((e,rs),n + 1,ms ++ [((n,r.1,r.2.1,r.2.2.1,r.2.2.2,g),false)]),0):=by simp only [il,hi,← hrr]
 refine aL 71 Tryz.func44 Z Z (by simp) ?_
 refine V ?_
 have E:=ao.refl (K:=fun q=>m≤q) w
 have zo_HO1:=fun (b:Nat) h=>HO1.own_lt (b:=b) h
 refine O zd (ah (aS (aZ Z) ?_))
 rintro b3 w3 zb3 HB3 e3 z3
 have:=e3.size
 try simp only [Value.cells] at HB3
 refine aa (ad Z) (ac (U (V (cN zk ?_))))
 have e101:aX w3 { w3 with drawn:=w3.drawn + 1 }:=ao.drawn _ _
 generalize hw101:({ w3 with drawn:=w3.drawn + 1 }:World)=w101 at e101 ⊢
 clear hw101
 have:=e101.size
 refine bT 12 Z zd zd zd ?_
 refine eH (fun k=>w101.heap.size≤k) (iP w101.heap.size [⟨10,some 11,53,([.slice none 0 0,.slice none 0 0,.bool false,.int .i64 0]:List Value),([.slice y5 r.1.length e5,.slice y6 r.2.1.length e6,.bool r.2.2.1,.int .i64 r.2.2.2]:List Value)⟩]) zd zd (fun ab done hd=>iP.start (Nat.le_refl _) (fun a ha=>hd a.al (mG (n:=12) Z a ha))) ?_
 refine aI (fun done ab w hR hcl hdk hJ hdn hd=>bK Z) (fun _ _ _ _ j=>j.src (ao.refl _) Z) ?_
 refine aI (fun done ab w hR hcl hdk hJ hdn hd=>aM (hd 0 Z)) (fun _ _ _ _ j=>j.src (ao.refl _) Z) ?_
 refine aI (fun done ab w hR hcl hdk hJ hdn hd=>aA 0 24 (hd 1 Z)) (fun _ _ _ _ j=>j.src (ao.refl _) Z) ?_
 replace HB:=(HB.ext e3).ext e101
 replace HPq:=(HPq.ext e3).ext e101
 replace HB3:=HB3.ext e101
 refine aI (fun done ab w hR hcl hdk hJ hdn hd=>ap zk (hd 2 Z) (by first | exact (show Pv _ _ [_,_] from aN 0 2 (HB3.keep hR aH).pv) | exact (show Pv _ _ [_,_] from aN 0 2 (HPq.keep hR (by intro h;(try dsimp only at h);(try simp only [au] at h);first | omega))) | exact (show Pv _ _ [_,_] from aN 0 2 (HB.keep hR aH).pv) | exact bg 0 (HB3.keep hR aH).pv | exact bg 0 (HPq.keep hR (by intro h;(try dsimp only at h);(try simp only [au] at h);first | omega)) | exact bg 0 (HB.keep hR aH).pv | exact (HPq.keep hR (by intro h;(try dsimp only at h);(try simp only [au] at h);first | omega)) | assumption) Z) (fun _ _ _ _ j=>j.src (ao.refl _) Z) ?_
 refine aI (fun done ab w hR hcl hdk hJ hdn hd=>aA 18 28 Z) (fun _ _ _ _ j=>j.src (ao.refl _) Z) ?_
 refine aI (fun done ab w hR hcl hdk hJ hdn hd=>ag zk (hd 4 Z) (by first | exact (HB3.keep hR aH).pv 18 _ rfl | exact (HPq.keep hR (by intro h;(try dsimp only at h);(try simp only [au] at h);first | omega)) 18 _ rfl | exact aK (HPq.keep hR (by intro h;(try dsimp only at h);(try simp only [au] at h);first | omega)) | exact (HB.keep hR aH).pv 18 _ rfl | assumption)) (fun _ _ _ _ j=>j.src (ao.refl _) Z) ?_
 replace HSk:=(HSk.ext e3).ext e101
 replace HGm:=(HGm.ext e3).ext e101
 refine fJ (fun done ab w hR hcl hdk hJ hdn hd=>aW zk (hd 3 Z) (hd 5 Z) (at_k hi (HGm.keep hR aC) (HSk.keep hR aC) (HPq.keep hR (by intro h;(try dsimp only at h);(try simp only [au] at h);first | omega)) (by have:=hR.size;omega))) (fun done ab w w1 hdk hJ e=>hJ.src e Z) ?_
 refine aI (fun done ab w hR hcl hdk hJ hdn hd=>be (t:=.tuple _) (hd 6 Z)) (fun _ _ _ _ j=>j.src (ao.refl _) Z) ?_
 refine aI (fun done ab w hR hcl hdk hJ hdn hd=>ai (t:=.agg _) (hd 7 Z) Z) (fun _ _ _ _ j=>j.src (ao.refl _) Z) ?_
 refine aI (fun done ab w hR hcl hdk hJ hdn hd=>ai (t:=.int _ _) (hd 7 Z) Z) (fun _ _ _ _ j=>j.src (ao.refl _) Z) ?_
 refine ea (fun done ab w hR hcl hdk hJ hdn hd=>aD (z:=.agg #[.slice none 0 0,.slice none 0 0,.bool false,.int .i64 0]) (by unfold aE;kernel_rfl) fun b w1 hb hB e hz=>⟨aX.keep e,hJ.al (i:=0) Z Z hdk hcl (fun m a hm he=>ej (i:=0) (m:=m) Z Z hm he) (fun a ha=>eP Z ha (List.mem_of_getElem? (i:=0) Z)) (fun s hs=>by cases hs;exact ⟨_,rfl,rfl⟩) hb hB e⟩) ?_
 replace E:=(E.trans e3.keep).trans e101.keep
 replace HO1:=(HO1.ext e3).ext e101
 replace HGs:=(HGs.ext e3).ext e101
 replace HGr:=(HGr.ext e3).ext e101
 refine ea (fun done ab w hR hcl hdk hJ hdn hd=>by
   obtain ⟨b,hb,hn,hB⟩:=hJ.at (i:=0) rfl rfl hdk (hdn 10 rfl)
   exact aq (n:=4) (hb:_=Value.pointer (some ⟨b,0,none⟩)) rfl (hd 8 rfl) zk rfl (by first | (simp [cL];done) | (simp only [List.forall_mem_cons,List.cons_append,List.nil_append];repeat' (first | exact rfl | apply And.intro | (intro u hu;cases hu;done)))) hB (of_decide_eq_true rfl) (fun w1 hB1 kk z=>⟨kk.mono (fun i _ h=>by rw [h];exact hn),hJ.st (i:=0) rfl rfl hdk (hdn 10 rfl) (fun m a hm he=>kA (i:=0) (m:=m) rfl rfl hm rfl he) (fun a ha h=>eP (a:=_) rfl (List.mem_of_getElem? (i:=0) rfl) ha (by rw [h])) rfl (fun m a hm he=>ej (i:=0) (m:=m) rfl rfl hm he) hb hB1 kk⟩)) ?_
 refine dq (fun ab w102 k102 J102=>?_)
 rintro _ - rfl _ - rfl _ - rfl _ - rfl _ - rfl _ - rfl _ - rfl _ - rfl _ - rfl _ - rfl v5 qv5 - _ - -
 have:=k102.size
 obtain ⟨b5,hb5,zb5,HB5⟩:=J102.fin (i:=0) rfl
 try dsimp only at HB5
 have zl5:=HB5.lt
 obtain rfl:=qv5.trans hb5
 refine ct (U (bZ zd Z ?_))
 refine aa (bO Z) (ac (U (V (aO (V (O zd (aa (aQ Z) (aa (bw Z Z) ?_))))))))
 replace E:=E.step k102 bi
 replace HB:=HB.keep k102 aH
 replace HO1:=HO1.keep k102 (by intro i ho he;have he0:=he;have ho0:=ho;(try dsimp only [aP] at he);(try simp only [Value.ownBlock,Option.some.injEq,reduceCtorEq] at ho);(try simp only [Value.ownBlock,Option.some.injEq,reduceCtorEq] at he);first | exact he.elim | exact ho.elim | omega | (have:=zo_HO1 _ ho0;omega)) (by intro i _ hi _ he;have he0:=he;have hi:=hi;have he:=he;(try dsimp only [aP,bj] at hi he);(try simp only [Value.ownBlock,Option.some.injEq,reduceCtorEq] at he);all_goals first | exact hi.elim | exact hi.1.elim | exact he.elim | omega | (rcases hi with hi | hi <;> omega) | (rcases he with he | he <;> omega))
 replace HSk:=HSk.keep k102 aC
 replace HGm:=HGm.keep k102 aC
 replace HGs:=HGs.keep k102 aC
 replace HPq:=HPq.keep k102 (by intro h;(try dsimp only at h);(try simp only [au] at h);first | omega)
 replace HGr:=HGr.keep k102 aC
 replace HB3:=HB3.keep k102 aH
 refine aa (dl Z) (ac (U (am Z Z (fun h17=>?_) (fun h17=>?_))))
 ·
  simp at h17;omega
 refine V (V (dx (aP) zk zd zd ?_))
 refine aB (fun ab w hR hd=>bK Z) ?_
 refine aB (fun ab w hR hd=>aM (hd 0 Z)) ?_
 refine aB (fun ab w hR hd=>ap zk (hd 1 Z) (by first | exact (HB5.ext hR).pv | exact (HB3.ext hR).pv | exact (HPq.ext hR) | exact (HB.ext hR).pv | assumption) Z) ?_
 refine aB (fun ab w hR hd=>aA 18 28 Z) ?_
 refine aB (fun ab w hR hd=>ag zk (hd 3 Z) (by first | exact (HB5.ext hR).pv 18 _ rfl | exact (HB3.ext hR).pv 18 _ rfl | exact (HPq.ext hR) 18 _ rfl | exact aK (HPq.ext hR) | exact (HB.ext hR).pv 18 _ rfl | assumption)) ?_
 refine kY (fun ab w hR hd=>aW zk (hd 2 Z) (hd 4 Z) (kj (HGs.ext hR) (HSk.ext hR))) ?_
 refine aB (fun ab w hR hd=>ad (t:=.bool _) (hd 5 Z)) ?_
 refine bU (fun w103 e103=>?_)
 rintro _ rfl _ rfl _ rfl _ rfl _ rfl _ rfl _ rfl
 have:=e103.size
 replace E:=E.trans e103.keep
 replace HB:=HB.ext e103
 replace HO1:=HO1.ext e103
 replace HSk:=HSk.ext e103
 replace HGm:=HGm.ext e103
 replace HGs:=HGs.ext e103
 replace HPq:=HPq.ext e103
 replace HGr:=HGr.ext e103
 replace HB3:=HB3.ext e103
 replace HB5:=HB5.ext e103
 refine bG (U (am Z Z (fun h20=>?_) (fun h20=>?_)))
 ·
  refine ar (U (am Z Z (fun h20x=>?_) (fun h20x=>?_)))
  ·
   refine V (O zd (aa (ad Z) (ac (U (aw (bz (ay (aU Z zq (bB Z) ?_))))))))
   have h1:(ki ms key || decide (r.2.2.2=g))=true:=by rw [show ki ms key=true from h20];rfl
   rw [if_pos h1] at hr0;simp only [hr0]
   exact ⟨trivial,⟨_,HB,HO1.mono fun q _ h=>⟨h.1,by omega⟩⟩,E⟩
  rw [h20] at h20x;cases h20x
 refine O zd (aa (aA 3 3 Z) (aa (ag zk Z (by first | exact HB5.pv 3 _ rfl | exact HB3.pv 3 _ rfl | exact HPq 3 _ rfl | exact aK HPq | exact HB.pv 3 _ rfl | assumption)) ?_))
 refine aa (aA 19 3 Z) (aa (ag zk Z (by first | exact HB5.pv 19 _ rfl | exact HB3.pv 19 _ rfl | exact HPq 19 _ rfl | exact aK HPq | exact HB.pv 19 _ rfl | assumption)) ?_)
 refine aa (aJ Z Z) ?_
 refine aa (dl Z) (ac (U (am Z Z (fun h31=>?_) (fun h31=>?_))))
 ·
  refine V (O zd (aa (ad Z) (ac (U (aw (bz (ay (aU Z zq (bB Z) ?_))))))))
  have h1:(ki ms key || decide (r.2.2.2=g))=true:=by rw [show decide (r.2.2.2=g)=true from h31];simp
  rw [if_pos h1] at hr0;simp only [hr0]
  exact ⟨trivial,⟨_,HB,HO1.mono fun q _ h=>⟨h.1,by omega⟩⟩,E⟩
 have h1:¬ (ki ms key || decide (r.2.2.2=g))=true:=by rw [show ki ms key=false from h20,show decide (r.2.2.2=g)=false from h31];simp
 rw [if_neg h1] at hr0
 refine V (O zd (aa (bK Z) (aa (aM Z) ?_)))
 refine aa (aA 2 2 Z) (aa (ag zk Z (by first | exact HB5.pv 2 _ rfl | exact HB3.pv 2 _ rfl | exact HPq 2 _ rfl | exact aK HPq | exact HB.pv 2 _ rfl | assumption)) ?_)
 refine aa (fc Z Z) ?_
 refine aa (dl Z) (ac (U (am Z Z (fun h37=>?_) (fun h37=>?_))))
 ·
  refine V (O zd (aa (ad Z) (ac (U (aw (bz (ay (aU Z zq (bB Z) ?_))))))))
  have h2:=bl h37
  rw [if_pos h2] at hr0;simp only [hr0]
  exact ⟨trivial,⟨_,HB,HO1.mono fun q _ h=>⟨h.1,by omega⟩⟩,E⟩
 have h2:=bf h37
 rw [if_neg h2] at hr0
 obtain ⟨n9,hn9⟩:∃ n,n=w103.heap.size:=⟨_,rfl⟩
 refine ar (bE (U (V (cN zk ?_))))
 have e104:aX w103 { w103 with drawn:=w103.drawn + 1 }:=ao.drawn _ _
 generalize hw104:({ w103 with drawn:=w103.drawn + 1 }:World)=w104 at e104 ⊢
 clear hw104
 have:=e104.size
 refine bT 24 Z zd zd zd ?_
 replace HO1:=HO1.ext e104
 refine eH (fun k=>(Value.slice a2 ms.length c2).ownBlock=some k) (ir 23 (fun W=>ck eQ 55 W m (fun q=>m≤q∧q≠b) (.slice a2 ms.length c2) ms) (fun v W=>∃ u cu,v=.slice u (ms.length + 1) cu∧ck eQ 55 W m (fun q=>m≤q∧q≠b) v (ms ++ [((n,r.1,r.2.1,r.2.2.1,r.2.2.2,g),false)])∧∀ q,v.ownBlock=some q→q≠b)) zd zd (fun ab done hd=>ir.start (HO1.mono fun q _ h=>⟨h.1,by omega⟩) (hd 23 zq)) ?_
 refine aI (fun done ab w hR hcl hdk hJ hdn hd=>bK Z) (fun done ab w hdk hJ=>hJ.src zq) ?_
 refine aI (fun done ab w hR hcl hdk hJ hdn hd=>bK Z) (fun done ab w hdk hJ=>hJ.src zq) ?_
 refine aI (fun done ab w hR hcl hdk hJ hdn hd=>aM (hd 1 Z)) (fun done ab w hdk hJ=>hJ.src zq) ?_
 refine aI (fun done ab w hR hcl hdk hJ hdn hd=>aA 3 25 (hd 2 Z)) (fun done ab w hdk hJ=>hJ.src zq) ?_
 replace HB:=HB.ext e104
 replace HB3:=HB3.ext e104
 replace HB5:=HB5.ext e104
 refine aI (fun done ab w hR hcl hdk hJ hdn hd=>ag zk (hd 3 Z) (by first | exact (HB5.keep hR (by intro h;have he0:=h;(try dsimp only at h);(try simp only [Value.ownBlock,Option.some.injEq] at h);first | omega | (have:=zo0 _ he0;omega) | (have:=hob _ he0;omega) | (have he:=he0;first | (have:=zo0 _ he0;omega) | (have:=hob _ he0;omega)))).pv 3 _ rfl | exact (HB3.keep hR (by intro h;have he0:=h;(try dsimp only at h);(try simp only [Value.ownBlock,Option.some.injEq] at h);first | omega | (have:=zo0 _ he0;omega) | (have:=hob _ he0;omega) | (have he:=he0;first | (have:=zo0 _ he0;omega) | (have:=hob _ he0;omega)))).pv 3 _ rfl | exact (HB.keep hR (by intro h;have he0:=h;(try dsimp only at h);(try simp only [Value.ownBlock,Option.some.injEq] at h);first | omega | (have:=zo0 _ he0;omega) | (have:=hob _ he0;omega) | (have he:=he0;first | (have:=zo0 _ he0;omega) | (have:=hob _ he0;omega)))).pv 3 _ rfl | assumption)) (fun done ab w hdk hJ=>hJ.src zq) ?_
 refine aI (fun done ab w hR hcl hdk hJ hdn hd=>bK Z) (fun done ab w hdk hJ=>hJ.src zq) ?_
 refine aI (fun done ab w hR hcl hdk hJ hdn hd=>aM (hd 5 Z)) (fun done ab w hdk hJ=>hJ.src zq) ?_
 refine aI (fun done ab w hR hcl hdk hJ hdn hd=>aA 2 2 (hd 6 Z)) (fun done ab w hdk hJ=>hJ.src zq) ?_
 refine aI (fun done ab w hR hcl hdk hJ hdn hd=>ag zk (hd 7 Z) (by first | exact (HB5.keep hR (by intro h;have he0:=h;(try dsimp only at h);(try simp only [Value.ownBlock,Option.some.injEq] at h);first | omega | (have:=zo0 _ he0;omega) | (have:=hob _ he0;omega) | (have he:=he0;first | (have:=zo0 _ he0;omega) | (have:=hob _ he0;omega)))).pv 2 _ rfl | exact (HB3.keep hR (by intro h;have he0:=h;(try dsimp only at h);(try simp only [Value.ownBlock,Option.some.injEq] at h);first | omega | (have:=zo0 _ he0;omega) | (have:=hob _ he0;omega) | (have he:=he0;first | (have:=zo0 _ he0;omega) | (have:=hob _ he0;omega)))).pv 2 _ rfl | exact (HB.keep hR (by intro h;have he0:=h;(try dsimp only at h);(try simp only [Value.ownBlock,Option.some.injEq] at h);first | omega | (have:=zo0 _ he0;omega) | (have:=hob _ he0;omega) | (have he:=he0;first | (have:=zo0 _ he0;omega) | (have:=hob _ he0;omega)))).pv 2 _ rfl | assumption)) (fun done ab w hdk hJ=>hJ.src zq) ?_
 refine aI (fun done ab w hR hcl hdk hJ hdn hd=>aA 0 28 Z) (fun done ab w hdk hJ=>hJ.src zq) ?_
 refine aI (fun done ab w hR hcl hdk hJ hdn hd=>ag zk (hd 9 Z) (by first | exact (HB5.keep hR (by intro h;have he0:=h;(try dsimp only at h);(try simp only [Value.ownBlock,Option.some.injEq] at h);first | omega | (have:=zo0 _ he0;omega) | (have:=hob _ he0;omega) | (have he:=he0;first | (have:=zo0 _ he0;omega) | (have:=hob _ he0;omega)))).pv 0 _ rfl | exact (HB3.keep hR (by intro h;have he0:=h;(try dsimp only at h);(try simp only [Value.ownBlock,Option.some.injEq] at h);first | omega | (have:=zo0 _ he0;omega) | (have:=hob _ he0;omega) | (have he:=he0;first | (have:=zo0 _ he0;omega) | (have:=hob _ he0;omega)))).pv 0 _ rfl | exact (HB.keep hR (by intro h;have he0:=h;(try dsimp only at h);(try simp only [Value.ownBlock,Option.some.injEq] at h);first | omega | (have:=zo0 _ he0;omega) | (have:=hob _ he0;omega) | (have he:=he0;first | (have:=zo0 _ he0;omega) | (have:=hob _ he0;omega)))).pv 0 _ rfl | assumption)) (fun done ab w hdk hJ=>hJ.src zq) ?_
 refine aI (fun done ab w hR hcl hdk hJ hdn hd=>aA 1 28 Z) (fun done ab w hdk hJ=>hJ.src zq) ?_
 refine aI (fun done ab w hR hcl hdk hJ hdn hd=>ag zk (hd 11 Z) (by first | exact (HB5.keep hR (by intro h;have he0:=h;(try dsimp only at h);(try simp only [Value.ownBlock,Option.some.injEq] at h);first | omega | (have:=zo0 _ he0;omega) | (have:=hob _ he0;omega) | (have he:=he0;first | (have:=zo0 _ he0;omega) | (have:=hob _ he0;omega)))).pv 1 _ rfl | exact (HB3.keep hR (by intro h;have he0:=h;(try dsimp only at h);(try simp only [Value.ownBlock,Option.some.injEq] at h);first | omega | (have:=zo0 _ he0;omega) | (have:=hob _ he0;omega) | (have he:=he0;first | (have:=zo0 _ he0;omega) | (have:=hob _ he0;omega)))).pv 1 _ rfl | exact (HB.keep hR (by intro h;have he0:=h;(try dsimp only at h);(try simp only [Value.ownBlock,Option.some.injEq] at h);first | omega | (have:=zo0 _ he0;omega) | (have:=hob _ he0;omega) | (have he:=he0;first | (have:=zo0 _ he0;omega) | (have:=hob _ he0;omega)))).pv 1 _ rfl | assumption)) (fun done ab w hdk hJ=>hJ.src zq) ?_
 refine aI (fun done ab w hR hcl hdk hJ hdn hd=>aA 2 4 Z) (fun done ab w hdk hJ=>hJ.src zq) ?_
 refine aI (fun done ab w hR hcl hdk hJ hdn hd=>ag zk (hd 13 Z) (by first | exact (HB5.keep hR (by intro h;have he0:=h;(try dsimp only at h);(try simp only [Value.ownBlock,Option.some.injEq] at h);first | omega | (have:=zo0 _ he0;omega) | (have:=hob _ he0;omega) | (have he:=he0;first | (have:=zo0 _ he0;omega) | (have:=hob _ he0;omega)))).pv 2 _ rfl | exact (HB3.keep hR (by intro h;have he0:=h;(try dsimp only at h);(try simp only [Value.ownBlock,Option.some.injEq] at h);first | omega | (have:=zo0 _ he0;omega) | (have:=hob _ he0;omega) | (have he:=he0;first | (have:=zo0 _ he0;omega) | (have:=hob _ he0;omega)))).pv 2 _ rfl | exact (HB.keep hR (by intro h;have he0:=h;(try dsimp only at h);(try simp only [Value.ownBlock,Option.some.injEq] at h);first | omega | (have:=zo0 _ he0;omega) | (have:=hob _ he0;omega) | (have he:=he0;first | (have:=zo0 _ he0;omega) | (have:=hob _ he0;omega)))).pv 2 _ rfl | assumption)) (fun done ab w hdk hJ=>hJ.src zq) ?_
 refine aI (fun done ab w hR hcl hdk hJ hdn hd=>aA 3 3 Z) (fun done ab w hdk hJ=>hJ.src zq) ?_
 refine aI (fun done ab w hR hcl hdk hJ hdn hd=>ag zk (hd 15 Z) (by first | exact (HB5.keep hR (by intro h;have he0:=h;(try dsimp only at h);(try simp only [Value.ownBlock,Option.some.injEq] at h);first | omega | (have:=zo0 _ he0;omega) | (have:=hob _ he0;omega) | (have he:=he0;first | (have:=zo0 _ he0;omega) | (have:=hob _ he0;omega)))).pv 3 _ rfl | exact (HB3.keep hR (by intro h;have he0:=h;(try dsimp only at h);(try simp only [Value.ownBlock,Option.some.injEq] at h);first | omega | (have:=zo0 _ he0;omega) | (have:=hob _ he0;omega) | (have he:=he0;first | (have:=zo0 _ he0;omega) | (have:=hob _ he0;omega)))).pv 3 _ rfl | exact (HB.keep hR (by intro h;have he0:=h;(try dsimp only at h);(try simp only [Value.ownBlock,Option.some.injEq] at h);first | omega | (have:=zo0 _ he0;omega) | (have:=hob _ he0;omega) | (have he:=he0;first | (have:=zo0 _ he0;omega) | (have:=hob _ he0;omega)))).pv 3 _ rfl | assumption)) (fun done ab w hdk hJ=>hJ.src zq) ?_
 refine aI (fun done ab w hR hcl hdk hJ hdn hd=>aA 19 3 Z) (fun done ab w hdk hJ=>hJ.src zq) ?_
 refine aI (fun done ab w hR hcl hdk hJ hdn hd=>ag zk (hd 17 Z) (by first | exact (HB5.keep hR (by intro h;have he0:=h;(try dsimp only at h);(try simp only [Value.ownBlock,Option.some.injEq] at h);first | omega | (have:=zo0 _ he0;omega) | (have:=hob _ he0;omega) | (have he:=he0;first | (have:=zo0 _ he0;omega) | (have:=hob _ he0;omega)))).pv 19 _ rfl | exact (HB3.keep hR (by intro h;have he0:=h;(try dsimp only at h);(try simp only [Value.ownBlock,Option.some.injEq] at h);first | omega | (have:=zo0 _ he0;omega) | (have:=hob _ he0;omega) | (have he:=he0;first | (have:=zo0 _ he0;omega) | (have:=hob _ he0;omega)))).pv 19 _ rfl | exact (HB.keep hR (by intro h;have he0:=h;(try dsimp only at h);(try simp only [Value.ownBlock,Option.some.injEq] at h);first | omega | (have:=zo0 _ he0;omega) | (have:=hob _ he0;omega) | (have he:=he0;first | (have:=zo0 _ he0;omega) | (have:=hob _ he0;omega)))).pv 19 _ rfl | assumption)) (fun done ab w hdk hJ=>hJ.src zq) ?_
 refine aI (fun done ab w hR hcl hdk hJ hdn hd=>aV (pl:=[(0,1),(1,1),(2,1),(3,1),(4,1),(5,1)]) (z:=.agg #[.int .i64 0,.slice none 0 0,.slice none 0 0,.bool false,.int .i64 0,.int .i64 0]) (zl:=[.int .i64 0,.slice none 0 0,.slice none 0 0,.bool false,.int .i64 0,.int .i64 0]) (ps:=[(0,.int .i64 n),(1,.slice y5 r.1.length e5),(2,.slice y6 r.2.1.length e6),(3,.bool r.2.2.1),(4,.int .i64 r.2.2.2),(5,.int .i64 g)]) zk (by unfold aE;kernel_rfl) Z (by refine vj (v0:=.int .i64 n) (v1:=.slice y5 r.1.length e5) (v2:=.slice y6 r.2.1.length e6) (v3:=.bool r.2.2.1) (v4:=.int .i64 r.2.2.2) (v5:=.int .i64 g) ?_ ?_ ?_ ?_ ?_ ?_;exact (hd 8 rfl);exact (hd 10 rfl);exact (hd 12 rfl);exact (hd 14 rfl);exact (hd 16 rfl);exact (hd 18 rfl)) (cells:=[.int .i64 n,.slice y5 r.1.length e5,.slice y6 r.2.1.length e6,.bool r.2.2.1,.int .i64 r.2.2.2,.int .i64 g]) Z) (fun done ab w hdk hJ=>hJ.src zq) ?_
 replace HGr:=HGr.ext e104
 refine ka (fun v W=>aY jU W (fun q=>n9≤q) v ((n,r.1,r.2.1,r.2.2.1,r.2.2.2,g),false).1) (fun v w w' h k=>h.keep k (by first | exact fun h=>h | (intro h;have he0:=h;have h:=h;(try dsimp only at h);(try simp only [Value.ownBlock,Option.some.injEq] at h);(try simp only [au] at h);(try simp only [au] at he0);first | omega | (have:=zo0 _ he0;omega) | (have:=hob _ he0;omega)) | (intro i _ hi he;have he0:=he;have hi:=hi;have he:=he;(try dsimp only [aP,bj] at hi he);(try simp only [Value.ownBlock,Option.some.injEq] at he);first | exact hi.elim | exact he.elim | omega | (rcases hi with hi | hi <;> omega) | (rcases he with he | he <;> omega) | (first | (have:=zo0 _ he0;omega) | (have:=hob _ he0;omega))))) (fun done ab w hR hcl hdk hJ hdn hd=>bx.mono (K:=fun v w1=>aX w w1∧(fun v W=>aY jU W (fun q=>n9≤q) v ((n,r.1,r.2.1,r.2.2.1,r.2.2.2,g),false).1) v w1) (av zk (show _=(Value.agg _) from (hd 19 Z)) (ae.mono (kN (HGr.keep hR (by first | exact fun h=>h | (intro h;have he0:=h;have h:=h;(try dsimp only at h);(try simp only [Value.ownBlock,Option.some.injEq] at h);(try simp only [au] at h);(try simp only [au] at he0);first | omega | (have:=zo0 _ he0;omega) | (have:=hob _ he0;omega)) | (intro i _ hi he;have he0:=he;have hi:=hi;have he:=he;(try dsimp only [aP,bj] at hi he);(try simp only [Value.ownBlock,Option.some.injEq] at he);first | exact hi.elim | exact he.elim | omega | (rcases hi with hi | hi <;> omega) | (rcases he with he | he <;> omega) | (first | (have:=zo0 _ he0;omega) | (have:=hob _ he0;omega))))) (by simp only;omega) (by simp only;omega)) fun v w1 ⟨h,e⟩=>⟨e,h.mono fun q _ h=>by have:=hR.size;have:=h.1;omega⟩)) fun v w1 h=>⟨aX.keep h.1,h.2,hJ.srcE (fun w w' e h=>h.ext e) (fun v w w' e h=>by obtain ⟨u,cu,h1,h2,h3⟩:=h;exact ⟨u,cu,h1,h2.ext e,h3⟩) h.1 zq⟩) ?_
 refine ka (fun v W=>aY eQ W (fun q=>n9≤q) v ((n,r.1,r.2.1,r.2.2.1,r.2.2.2,g),false)) (fun v w w' h k=>h.keep k (by first | exact fun h=>h | (intro h;have he0:=h;have h:=h;(try dsimp only at h);(try simp only [Value.ownBlock,Option.some.injEq] at h);(try simp only [au] at h);(try simp only [au] at he0);first | omega | (have:=zo0 _ he0;omega) | (have:=hob _ he0;omega)) | (intro i _ hi he;have he0:=he;have hi:=hi;have he:=he;(try dsimp only [aP,bj] at hi he);(try simp only [Value.ownBlock,Option.some.injEq] at he);first | exact hi.elim | exact he.elim | omega | (rcases hi with hi | hi <;> omega) | (rcases he with he | he <;> omega) | (first | (have:=zo0 _ he0;omega) | (have:=hob _ he0;omega))))) (fun done ab w hR hcl hdk hJ hdn hd=>bx.mono (K:=fun v w1=>aX w w1∧(fun v W=>aY eQ W (fun q=>n9≤q) v ((n,r.1,r.2.1,r.2.2.1,r.2.2.2,g),false)) v w1) (by (obtain ⟨y1,z1,y2,z2,hq9,g1,g2,j1,j2,j3⟩:=aY.mv (show aY jU _ _ _ ((n,r.1,r.2.1,r.2.2.1,r.2.2.2,g),false).1 from hd 20 rfl);exact bx.of_v (aV (pl:=[(0,6),(6,1)]) (z:=.agg #[.int .i64 0,.slice none 0 0,.slice none 0 0,.bool false,.int .i64 0,.int .i64 0,.bool false]) (zl:=[.int .i64 0,.slice none 0 0,.slice none 0 0,.bool false,.int .i64 0,.int .i64 0,.bool false]) (ps:=[(0,.agg #[.int .i64 n,.slice y1 r.1.length z1,.slice y2 r.2.1.length z2,.bool r.2.2.1,.int .i64 r.2.2.2,.int .i64 g])]) zk (by unfold aE;kernel_rfl) rfl (congrArg (fun x=>[(0,x)]) hq9) (cells:=[.int .i64 n,.slice y1 r.1.length z1,.slice y2 r.2.1.length z2,.bool r.2.2.1,.int .i64 r.2.2.2,.int .i64 g,.bool false]) rfl) ⟨ao.refl _,_,rfl,lN g1 g2 j1 j2 j3⟩)) fun v w1 h=>⟨aX.keep h.1,h.2,hJ.srcE (fun w w' e h=>h.ext e) (fun v w w' e h=>by obtain ⟨u,cu,h1,h2,h3⟩:=h;exact ⟨u,cu,h1,h2.ext e,h3⟩) h.1 zq⟩) ?_
 refine ka (fun v W=>bs eQ W (fun q=>n9≤q) v [((n,r.1,r.2.1,r.2.2.1,r.2.2.2,g),false)]) (fun v w w' h k=>h.keep k (by first | exact fun h=>h | (intro h;have he0:=h;have h:=h;(try dsimp only at h);(try simp only [Value.ownBlock,Option.some.injEq] at h);(try simp only [au] at h);(try simp only [au] at he0);first | omega | (have:=zo0 _ he0;omega) | (have:=hob _ he0;omega)) | (intro i _ hi he;have he0:=he;have hi:=hi;have he:=he;(try dsimp only [aP,bj] at hi he);(try simp only [Value.ownBlock,Option.some.injEq] at he);first | exact hi.elim | exact he.elim | omega | (rcases hi with hi | hi <;> omega) | (rcases he with he | he <;> omega) | (first | (have:=zo0 _ he0;omega) | (have:=hob _ he0;omega))))) (fun done ab w hR hcl hdk hJ hdn hd=>bx.mono (K:=fun v w1=>aX w w1∧(fun v W=>bs eQ W (fun q=>n9≤q) v [((n,r.1,r.2.1,r.2.2.1,r.2.2.2,g),false)]) v w1) (by (obtain ⟨cs,hcs,hr⟩:=(show aY eQ _ _ _ ((n,r.1,r.2.1,r.2.2.1,r.2.2.2,g),false) from hd 21 rfl);exact cp (t:=eQ) (et:=55) (bytes:=88) zk zq (show _=ab 21 from rfl) (by rw [hcs];exact hr) fun b w1 hb HO e z=>⟨e,HO.view.mono fun i _ hi=>by have:=hR.size;exact hi.elim (fun h=>by omega) (fun h=>h.1)⟩)) fun v w1 h=>⟨aX.keep h.1,h.2,hJ.srcE (fun w w' e h=>h.ext e) (fun v w w' e h=>by obtain ⟨u,cu,h1,h2,h3⟩:=h;exact ⟨u,cu,h1,h2.ext e,h3⟩) h.1 zq⟩) ?_
 replace E:=E.trans e104.keep
 refine ea (fun done ab w hR hcl hdk hJ hdn hd=>by
   obtain ⟨h0,hn⟩:=hJ.st hdk
   exact cv (et:=55) (bytes:=88) zk (hd 4 rfl) (h0) rfl ((show bs eQ _ _ _ [((n,r.1,r.2.1,r.2.2.1,r.2.2.2,g),false)] from hd 22 rfl)) (lf fun q hq hq2=>⟨⟨by omega,by omega⟩,fun ho=>by have:=zo0 _ ho;omega⟩) (by first | omega | (simp;done) | (simp;omega)) (by simp only [maxLen];first | omega | (simp;done) | (simp;omega)) (by have:=hR.size;omega) fun a9 n9 c9 w1 h hn9 k9 h9 i9=>⟨k9,hn _ _ (⟨a9,c9,by rw [hn9,List.length_append];rfl,h,fun q hq=>by have h8:=h9 q hq;have:=hR.size;rcases h8 with h8|h8;(have:=hob q h8;omega);omega⟩)⟩) ?_
 refine dq (fun ab w105 k105 J105=>?_)
 rintro _ - rfl _ - rfl _ - rfl _ - rfl _ - rfl _ - rfl _ - rfl _ - rfl _ - rfl _ - rfl _ - rfl _ - rfl _ - rfl _ - rfl _ - rfl _ - rfl _ - rfl _ - rfl _ - rfl _ - rfl v58 - HG58 v59 - HG59 v60 - HS60 v61 qv61 -
 have:=k105.size
 have hX105:=J105.fin
 rw [← qv61] at hX105
 clear qv61
 obtain ⟨u9,cu9,rfl,HO9,ho9⟩:=hX105
 have zo_HO9:=fun (q:Nat) h=>And.intro (HO9.own_lt (b:=q) h) (ho9 q h)
 refine ct (U (bT 2 Z zd zd zd ?_))
 refine cf (aP) zd zd ?_
 refine aB (fun ab w hR hd=>aM Z) ?_
 refine aB (fun ab w hR hd=>aA 3 25 (hd 0 Z)) ?_
 refine bU (fun w106 e106=>?_)
 replace E:=E.step k105 (by intro i hi he;have he0:=he;(try dsimp only [aP] at hi he ⊢);(try simp only [Value.ownBlock,Option.some.injEq] at he);first | exact he.elim | omega | exact he | (first | (have:=zo0 _ he0;omega) | (have:=hob _ he0;omega)))
 replace HB:=HB.keep k105 (by intro h;have he0:=h;(try dsimp only at h);(try simp only [Value.ownBlock,Option.some.injEq] at h);first | omega | (have:=zo0 _ he0;omega) | (have:=hob _ he0;omega) | (have he:=he0;first | (have:=zo0 _ he0;omega) | (have:=hob _ he0;omega)))
 replace HGr:=HGr.keep k105 (by intro i _ hi he;have he0:=he;(try dsimp only [aP,bj] at hi he);(try simp only [Value.ownBlock,Option.some.injEq] at he);first | exact hi.elim | exact he.elim | omega | (rcases hi with hi | hi <;> omega) | (rcases he with he | he <;> omega) | (first | (have:=zo0 _ he0;omega) | (have:=hob _ he0;omega)))
 replace HB3:=HB3.keep k105 (by intro h;have he0:=h;(try dsimp only at h);(try simp only [Value.ownBlock,Option.some.injEq] at h);first | omega | (have:=zo0 _ he0;omega) | (have:=hob _ he0;omega) | (have he:=he0;first | (have:=zo0 _ he0;omega) | (have:=hob _ he0;omega)))
 replace HB5:=HB5.keep k105 (by intro h;have he0:=h;(try dsimp only at h);(try simp only [Value.ownBlock,Option.some.injEq] at h);first | omega | (have:=zo0 _ he0;omega) | (have:=hob _ he0;omega) | (have he:=he0;first | (have:=zo0 _ he0;omega) | (have:=hob _ he0;omega)))
 rintro _ rfl _ rfl
 have:=e106.size
 refine bG (U (bZ zd Z ?_))
 replace HB:=HB.ext e106
 refine ah (aR Z Z (bI Z) Z zk HB bV ?_)
 rintro w107 HB k107 z107
 have:=k107.size
 try simp only [zS,Nat.zero_add,Nat.reduceAdd,List.drop_nil] at HB
 refine ac (U (V (O zd (aa (bK Z) (aa (aM Z) ?_)))))
 replace HB3:=(HB3.ext e106).keep k107 (by intro h;have he0:=h;(try dsimp only at h);(try simp only [Value.ownBlock,Option.some.injEq] at h);first | omega | (have:=zo0 _ he0;omega) | (have:=hob _ he0;omega) | (have he:=he0;first | (have:=zo0 _ he0;omega) | (have:=hob _ he0;omega)))
 replace HB5:=(HB5.ext e106).keep k107 (by intro h;have he0:=h;(try dsimp only at h);(try simp only [Value.ownBlock,Option.some.injEq] at h);first | omega | (have:=zo0 _ he0;omega) | (have:=hob _ he0;omega) | (have he:=he0;first | (have:=zo0 _ he0;omega) | (have:=hob _ he0;omega)))
 refine aa (aA 2 2 Z) (aa (ag zk Z (by first | exact HB5.pv 2 _ rfl | exact HB3.pv 2 _ rfl | exact HB.pv 2 _ rfl | assumption)) ?_)
 refine aa (cn Z Z (by first | exact bn zo zo | rfl)) ?_
 refine aa (aM Z) ?_
 refine aa (aA 2 2 Z) (ah (aR Z Z (bB Z) Z zk HB bV ?_))
 rintro w108 HB k108 z108
 have:=k108.size
 try simp only [zS,Nat.zero_add,Nat.reduceAdd,List.drop_nil] at HB
 refine ac (U (V (O zd (aa (ad Z) (ac (U (aw (aU Z zq (bB Z) ?_))))))))
 simp only [hr0]
 replace E:=((E.trans e106.keep).step k107 (by intro i hi he;have he0:=he;(try dsimp only [aP] at hi he ⊢);(try simp only [Value.ownBlock,Option.some.injEq] at he);first | exact he.elim | omega | exact he | (first | (have:=zo0 _ he0;omega) | (have:=hob _ he0;omega)))).step k108 (by intro i hi he;have he0:=he;(try dsimp only [aP] at hi he ⊢);(try simp only [Value.ownBlock,Option.some.injEq] at he);first | exact he.elim | omega | exact he | (first | (have:=zo0 _ he0;omega) | (have:=hob _ he0;omega)))
 replace HO9:=((HO9.ext e106).keep k107 (by intro i ho he;have he0:=he;have ho0:=ho;(try dsimp only [aP] at he);(try simp only [Value.ownBlock,Option.some.injEq,reduceCtorEq] at ho);(try simp only [Value.ownBlock,Option.some.injEq,reduceCtorEq] at he);first | exact he.elim | exact ho.elim | omega | (have:=zo_HO9 _ ho0;omega) | (first | (have:=zo0 _ he0;omega) | (have:=hob _ he0;omega))) (by intro i _ hi _ he;have he0:=he;have hi:=hi;have he:=he;(try dsimp only [aP,bj] at hi he);(try simp only [Value.ownBlock,Option.some.injEq,reduceCtorEq] at he);all_goals first | exact hi.elim | exact hi.1.elim | exact he.elim | omega | (rcases hi with hi | hi <;> omega) | (rcases he with he | he <;> omega) | (first | (have:=zo0 _ he0;omega) | (have:=hob _ he0;omega)))).keep k108 (by intro i ho he;have he0:=he;have ho0:=ho;(try dsimp only [aP] at he);(try simp only [Value.ownBlock,Option.some.injEq,reduceCtorEq] at ho);(try simp only [Value.ownBlock,Option.some.injEq,reduceCtorEq] at he);first | exact he.elim | exact ho.elim | omega | (have:=zo_HO9 _ ho0;omega) | (first | (have:=zo0 _ he0;omega) | (have:=hob _ he0;omega))) (by intro i _ hi _ he;have he0:=he;have hi:=hi;have he:=he;(try dsimp only [aP,bj] at hi he);(try simp only [Value.ownBlock,Option.some.injEq,reduceCtorEq] at he);all_goals first | exact hi.elim | exact hi.1.elim | exact he.elim | omega | (rcases hi with hi | hi <;> omega) | (rcases he with he | he <;> omega) | (first | (have:=zo0 _ he0;omega) | (have:=hob _ he0;omega)))
 exact ⟨trivial,⟨_,HB,HO9⟩,E⟩
end Go.Proofs.YteehplloacefmaaGreat

/- Steps and lemmas for the walks. -/
import Derived.Test.YteehplloacefmaaGreatM4
import Derived.Test.YteehplloacefmaaGreatRw
set_option linter.unusedVariables false
set_option linter.unusedSimpArgs false
set_option maxRecDepth 100000
namespace Go.Proofs.YteehplloacefmaaGreat
open Go.Vc
theorem gh.ld {b:Nat} {T:TypeId} {al:List Nat} {css:List (List Value)} {done:Nat→Bool} {ab:Nat→Value} {w:World} {k:Nat} {v:Value} (j:gh b T al css done ab w) (hn:css.length=al.length + 1) (h:∀ l ∈ css,l[k]? = some v):w.cell? ((⟨b,0,none⟩:Addr).add k)=some v:=by
  obtain ⟨c,hc,_,h3⟩:=j
  have hlt:c < css.length:=by omega
  refine h3.pv k v (h _ ?_)
  rw [List.getD_eq_getElem?_getD,List.getElem?_eq_getElem hlt]
  exact List.getElem_mem hlt
theorem qx {w:World} {F G:Nat→Prop} {u:Value} {x:fy} {bc bk:Nat} {T T2:TypeId} {cut:Bool} {mv:iJ} {x0 x1 x2 x3 x4 x5 x6 x7 x8 x9 y0 y1 y2 y3 y4 y5 z0 z1 z2 z3:Value}
    (hc:dh w bc [x0,x1,x2,x3,x4,x5,x6,x7,x8,x9,y0,y1,y2,y3,y4,y5,z0,z1,z2,z3] T) (hm:aY jU w G (.agg #[y0,y1,y2,y3,y4,y5]) mv) (hk:dh w bk [.bool cut] T2) (HG1:aY eQ w F u x) :
    ae Tryz.prog 91 #[u,.pointer (some ⟨bc,0,none⟩),.pointer (some ⟨bk,0,none⟩)] w (fun o w'=>o=.bool (p9 cut mv x)∧aX w w'):=by
 obtain ⟨a1,c1,a2,c2,rfl,HSf,HSt,i1,i2,i3⟩:=HG1.ma
 have HG3:=aY.maMv HG1
 have HBc:=hc
 have HBk:=hk
 have HGm:=hm
 refine aL 16 Tryz.func91 Z Z (by simp) ?_
 refine V ?_
 have E:=ao.refl (K:=aP) w
 replace HG3:=HG3.all
 replace HGm:=HGm.all
 refine O zd (ah (aS (aZ Z) ?_))
 rintro b3 w3 zb3 HB3 e3 z3
 have:=e3.size
 try simp only [Value.cells] at HB3
 replace HBc:=HBc.ext e3
 replace HBk:=HBk.ext e3
 refine aa (ad Z) (ac (U (V (O zd (aa (aA 0 46 Z) (aa (ap zk Z (by first | exact (show Pv _ _ [_,_,_,_,_,_] from aN 0 6 HB3.pv) | exact (show Pv _ _ [_,_,_,_,_,_] from aN 0 6 HBk.pv) | exact (show Pv _ _ [_,_,_,_,_,_] from aN 0 6 HBc.pv) | exact bg 0 HB3.pv | exact bg 0 HBk.pv | exact bg 0 HBc.pv | assumption) Z) ?_))))))
 refine aa (aA 10 46 Z) (aa (ap zk Z (by first | exact (show Pv _ _ [_,_,_,_,_,_] from aN 10 6 HB3.pv) | exact (show Pv _ _ [_,_,_,_,_,_] from aN 10 6 HBk.pv) | exact (show Pv _ _ [_,_,_,_,_,_] from aN 10 6 HBc.pv) | exact bg 10 HB3.pv | exact bg 10 HBk.pv | exact bg 10 HBc.pv | assumption) Z) ?_)
 replace HG3:=HG3.ext e3
 replace HGm:=HGm.ext e3
 refine ah (aW zk (aZ Z) (aZ Z) (ae.mono (mH HG3 HGm) ?_))
 rintro _ w101 ⟨rfl,e101⟩
 have:=e101.size
 refine aa (bH Z) (aj Z Z (fun hG=>aA 6 4 Z) ?_)
 replace HBc:=HBc.ext e101
 replace HBk:=HBk.ext e101
 replace HB3:=HB3.ext e101
 refine aj Z Z (fun hG=>ag zk (gd hG Z) (by first | exact HB3.pv 6 _ rfl | exact HBk.pv 6 _ rfl | exact HBc.pv 6 _ rfl | assumption)) ?_
 refine aj Z Z (fun hG=>ag zk Z (by first | exact HB3.cell rfl | exact HBk.cell rfl | exact HBc.cell rfl | assumption)) ?_
 refine aj Z Z (fun hG=>gU zk (gd hG Z) (gd hG Z)) ?_
 refine aa (bu Z Z) ?_
 refine aa (dl Z) (ac (U (aw (aU Z zq (cE Z) ?_))))
 replace E:=(E.trans e3.keep).trans e101.keep
 refine ⟨?_,E⟩
 simp only [p9];cases decide (x.1=mv) <;> cases x.2 <;> cases cut <;> rfl
theorem np {α:Type} (p:α→Bool) (l:List α):gJ p l 0=dP (l.findIdx? p):=by
  rw [mm];cases l.findIdx? p <;> simp [dP]
set_option maxHeartbeats 2000000 in
theorem sX {w:World} {b m B0:Nat} {v1 v2 vc:Value} {e n:Int} {rs:List cO} {ms:List fy} {c:iq} (HB:dh w b [.int .i64 e,v1,.int .i64 n,v2] 27) (HSr:bs dv w (fun q=>B0≤q∧q < m) v1 rs) (HO:ck eQ 55 w m (fun q=>m≤q∧q < b) v2 ms) (hob:∀ q,v2.ownBlock=some q→q < b) (hmb:m≤b) (hB0:B0≤m)
    (HG:aY pe w (fun q=>q < m) vc c) (ie:cH e) (im:cH n) (hn:ms.length≤1000) :
    ae Tryz.prog 45 #[.pointer (some ⟨b,0,none⟩),vc] w (fun o w'=>o=.int .i64 (iZ ((e,rs),n,ms) (decide (c.1=9)) c.2.2.1).2∧((iZ ((e,rs),n,ms) (decide (c.1=9)) c.2.2.1).2=0→∃ v u,dh w' b [.int .i64 (iZ ((e,rs),n,ms) (decide (c.1=9)) c.2.2.1).1.1.1,v,.int .i64 n,u] 27∧cH (iZ ((e,rs),n,ms) (decide (c.1=9)) c.2.2.1).1.1.1∧bs dv w' (fun q=>B0≤q) v (iZ ((e,rs),n,ms) (decide (c.1=9)) c.2.2.1).1.1.2∧ck eQ 55 w' m (fun q=>m≤q∧q≠b) u (iZ ((e,rs),n,ms) (decide (c.1=9)) c.2.2.1).1.2.2)∧ao (fun q=>m≤q) w w'):=by
 obtain ⟨k,rq,mv,en,an,key,g⟩:=c
 obtain ⟨x1,d1,x2,d2,x3,d3,x4,d4,x5,d5,x6,d6,x7,d7,x8,d8,x9,d9,hvc,_,HGv,_,_,_,ik,ig⟩:=HG.cm
 subst hvc
 obtain ⟨a1,c1,rfl⟩:=HSr.shape
 obtain ⟨a2,c2,rfl⟩:=HO.shape
 obtain ⟨y1,f1,y2,f2,hvm,HSmf,_⟩:=HGv.mv
 simp only [Value.agg.injEq,Array.mk.injEq,List.cons.injEq,Value.slice.injEq,and_true,true_and] at hvm
 obtain ⟨⟨rfl,rfl⟩,rfl,rfl⟩:=hvm
 have HO1:=HO
 have hblt:=HB.lt
 have HGm:=aY.mpOf HSr ie
 have zo0:∀ q,(Value.slice a2 ms.length c2).ownBlock=some q→m≤q∧q < b:=fun q h=>⟨(HO.own_lt h).1,hob q h⟩
 obtain ⟨cut,hcut⟩:∃ x,x=decide (k=9):=⟨_,rfl⟩
 simp only [← hcut]
 rcases hf:ms.findIdx? (p9 cut mv) with _ | i
 ·
  have hr:iZ ((e,rs),n,ms) cut mv=(((e,rs),n,ms),9):=by simp only [iZ,hf]
  simp only [hr]
  refine aL 61 Tryz.func45 Z Z (by simp) ?_
  refine V ?_
  have E:=ao.refl (K:=fun q=>m≤q) w
  have zo_HO1:=fun (b:Nat) h=>HO1.own_lt (b:=b) h
  refine O zd (ah (aS (aZ Z) ?_))
  rintro b3 w3 zb3 HB3 e3 z3
  have:=e3.size
  try simp only [Value.cells] at HB3
  replace HB:=HB.ext e3
  refine aa (ad Z) (ac (U (V (O zd (aa (aA 0 38 Z) (aa (ag zk Z (by first | exact HB3.pv 0 _ rfl | exact HB.pv 0 _ rfl | assumption)) ?_))))))
  refine aa (aJ Z Z) ?_
  refine ah (aD (z:=(.bool false)) (by unfold aE;kernel_rfl) ?_)
  rintro b5 w5 zb5 HB5 e5 z5
  have:=e5.size
  try simp only [Value.cells] at HB5
  refine ah (aR Z Z (cE Z) Z zk HB5 bV ?_)
  rintro w101 HB5 k101 z101
  have:=k101.size
  try simp only [zS,Nat.zero_add,Nat.reduceAdd,List.drop_nil] at HB5
  refine ac (U (V ?_))
  rw [← hcut] at HB5
  refine O zd (aa (bK Z) (aa (aM Z) ?_))
  replace HB:=(HB.ext e5).keep k101 aH
  replace HB3:=(HB3.ext e5).keep k101 aH
  refine aa (aA 3 25 Z) (aa (ag zk Z (by first | exact HB5.pv 3 _ rfl | exact HB3.pv 3 _ rfl | exact HB.pv 3 _ rfl | assumption)) ?_)
  refine aa (cC (by simp [ev];rfl) (by simp [ev];rfl)) ?_
  replace HO1:=((HO1.ext e3).ext e5).keep k101 (by intro i ho he;have he0:=he;have ho0:=ho;(try dsimp only [aP] at he);(try simp only [Value.ownBlock,Option.some.injEq,reduceCtorEq] at ho);(try simp only [Value.ownBlock,Option.some.injEq,reduceCtorEq] at he);first | exact he.elim | exact ho.elim | omega | (have:=zo_HO1 _ ho0;omega)) (by intro i _ hi _ he;have he0:=he;have hi:=hi;have he:=he;(try dsimp only [aP,bj] at hi he);(try simp only [Value.ownBlock,Option.some.injEq,reduceCtorEq] at he);all_goals first | exact hi.elim | exact hi.1.elim | exact he.elim | omega | (rcases hi with hi | hi <;> omega) | (rcases he with he | he <;> omega))
  replace HGv:=((HGv.ext e3).ext e5).keep k101 aC
  refine ah (aW zk (bI Z) (show _=(Value.func _ _ _) from Z) (ae.mono (mu (cap:=#[.pointer (some ⟨b3,0,none⟩),.pointer (some ⟨b5,0,none⟩)]) HO1.view zk (fun W u r e h=>qx (HB3.ext e) (HGv.ext e) (HB5.ext e) h)) ?_))
  rintro _ w102 ⟨rfl,e102⟩
  have:=e102.size
  rw [np,hf]
  refine aa (bO Z) (ac (U (V (V (O zd (aa (aQ Z) (aa (bw Z Z) ?_)))))))
  replace E:=(((E.trans e3.keep).trans e5.keep).step k101 bi).trans e102.keep
  replace HB:=HB.ext e102
  replace HO1:=HO1.ext e102
  replace HGv:=HGv.ext e102
  replace HB3:=HB3.ext e102
  replace HB5:=HB5.ext e102
  refine ac (U (am Z Z (fun h19=>?_) (fun h19=>?_)))
  ·
   refine V (O zd (aa (ad Z) (ac (U (aw (ay (aU Z zq (bB Z) ?_)))))))
   exact ⟨rfl,fun h=>absurd h zq,E⟩
  simp [dP] at h19
 have hil:i < ms.length:=by rw [List.findIdx?_eq_some_iff_getElem] at hf;exact hf.1
 obtain ⟨b2,rfl,hb2,hb2'⟩:=HO.addr (fun h=>by rw [h] at hil;simp at hil)
 have hb2b:b2 < b:=hob b2 rfl
 have hr0:iZ ((e,rs),n,ms) cut mv=if cut=true then (if (fx (e,rs) mv.2.1 mv.2.2.2.2.2).2=0 then (((fx (e,rs) mv.2.1 mv.2.2.2.2.2).1,n,ms.set i (((ms.getD i (jF,false)).1,true))),0) else (((e,rs),n,ms),(fx (e,rs) mv.2.1 mv.2.2.2.2.2).2)) else (((e,rs),n,ms.eraseIdx i),0):=by simp only [iZ,hf]
 obtain ⟨x,hx,_⟩:=eC hil
 have hxd:ms.getD i (jF,false)=x:=by simp [hx]
 refine aL 61 Tryz.func45 Z Z (by simp) ?_
 refine V ?_
 have E:=ao.refl (K:=fun q=>m≤q) w
 have zo_HO1:=fun (b:Nat) h=>HO1.own_lt (b:=b) h
 refine O zd (ah (aS (aZ Z) ?_))
 rintro b3 w3 zb3 HB3 e3 z3
 have:=e3.size
 try simp only [Value.cells] at HB3
 replace HB:=HB.ext e3
 refine aa (ad Z) (ac (U (V (O zd (aa (aA 0 38 Z) (aa (ag zk Z (by first | exact HB3.pv 0 _ rfl | exact HB.pv 0 _ rfl | assumption)) ?_))))))
 refine aa (aJ Z Z) ?_
 refine ah (aD (z:=(.bool false)) (by unfold aE;kernel_rfl) ?_)
 rintro b5 w5 zb5 HB5 e5 z5
 have:=e5.size
 try simp only [Value.cells] at HB5
 refine ah (aR Z Z (cE Z) Z zk HB5 bV ?_)
 rintro w101 HB5 k101 z101
 have:=k101.size
 try simp only [zS,Nat.zero_add,Nat.reduceAdd,List.drop_nil] at HB5
 refine ac (U (V ?_))
 rw [← hcut] at HB5
 refine O zd (aa (bK Z) (aa (aM Z) ?_))
 replace HB:=(HB.ext e5).keep k101 aH
 replace HB3:=(HB3.ext e5).keep k101 aH
 refine aa (aA 3 25 Z) (aa (ag zk Z (by first | exact HB5.pv 3 _ rfl | exact HB3.pv 3 _ rfl | exact HB.pv 3 _ rfl | assumption)) ?_)
 refine aa (cC (by simp [ev];rfl) (by simp [ev];rfl)) ?_
 replace HO1:=((HO1.ext e3).ext e5).keep k101 (by intro i ho he;have he0:=he;have ho0:=ho;(try dsimp only [aP] at he);(try simp only [Value.ownBlock,Option.some.injEq,reduceCtorEq] at ho);(try simp only [Value.ownBlock,Option.some.injEq,reduceCtorEq] at he);first | exact he.elim | exact ho.elim | omega | (have:=zo_HO1 _ ho0;omega)) (by intro i _ hi _ he;have he0:=he;have hi:=hi;have he:=he;(try dsimp only [aP,bj] at hi he);(try simp only [Value.ownBlock,Option.some.injEq,reduceCtorEq] at he);all_goals first | exact hi.elim | exact hi.1.elim | exact he.elim | omega | (rcases hi with hi | hi <;> omega) | (rcases he with he | he <;> omega))
 replace HGv:=((HGv.ext e3).ext e5).keep k101 aC
 refine ah (aW zk (bI Z) (show _=(Value.func _ _ _) from Z) (ae.mono (mu (cap:=#[.pointer (some ⟨b3,0,none⟩),.pointer (some ⟨b5,0,none⟩)]) HO1.view zk (fun W u r e h=>qx (HB3.ext e) (HGv.ext e) (HB5.ext e) h)) ?_))
 replace HSr:=((HSr.ext e3).ext e5).keep k101 aC
 replace HSmf:=((HSmf.ext e3).ext e5).keep k101 aC
 replace HGm:=((HGm.ext e3).ext e5).keep k101 aC
 rintro _ w102 ⟨rfl,e102⟩
 have:=e102.size
 rw [np,hf]
 have hoi:dP (some i)=(i:Int):=rfl
 rw [hoi]
 refine aa (bO Z) (ac (U (V (V (O zd (aa (aQ Z) (aa (bw Z Z) ?_)))))))
 replace E:=(((E.trans e3.keep).trans e5.keep).step k101 bi).trans e102.keep
 replace HB:=HB.ext e102
 replace HO1:=HO1.ext e102
 replace HSr:=HSr.ext e102
 replace HSmf:=HSmf.ext e102
 replace HGv:=HGv.ext e102
 replace HGm:=HGm.ext e102
 replace HB3:=HB3.ext e102
 replace HB5:=HB5.ext e102
 refine ac (U (am Z Z (fun h19=>?_) (fun h19=>?_)))
 ·
  simp at h19;omega
 refine ar (U (V (V (O zd (aa (ag zk Z (by first | exact HB5.cell rfl | exact HB3.cell rfl | exact HB.cell rfl | assumption)) ?_)))))
 refine aa (cg Z) ?_
 refine ac (U (am Z Z (fun h21=>?_) (fun h21=>?_)))
 ·
  have h21:cut=false:=by simpa using h21
  rw [if_neg (by simp [h21])] at hr0
  refine V (O zd (aa (bK Z) (aa (bK Z) (aa (aM Z) ?_))))
  refine aa (aA 3 25 Z) (aa (ag zk Z (by first | exact HB5.pv 3 _ rfl | exact HB3.pv 3 _ rfl | exact HB.pv 3 _ rfl | assumption)) ?_)
  refine aa (aQ Z) (aa (aQ Z) (aa (cn Z Z (by first | exact bn zo zo | rfl)) ?_))
  refine ah (gM zk (bI Z) (bB Z) (bB Z) (ae.mono (tK HO1 Z hil) ?_))
  rintro _ w30 ⟨rfl,HO2,k30⟩
  have:=k30.size
  have zo_HO2:=fun (q:Nat) h=>And.intro (HO2.own_lt (b:=q) h) (show q=b2 from (Option.some.inj h).symm)
  have zo_HO2:=fun (b:Nat) h=>HO2.own_lt (b:=b) h
  refine aa (aM Z) ?_
  replace HB:=HB.keep k30 (by intro h;have he0:=h;(try dsimp only at h);(try simp only [Value.ownBlock,Option.some.injEq] at h);first | omega | (have:=zo0 _ he0;omega) | (have:=hob _ he0;omega) | (have he:=he0;first | (have:=zo0 _ he0;omega) | (have:=hob _ he0;omega)))
  refine aa (aA 3 25 Z) (ah (aR Z Z (bI Z) Z zk HB bV ?_))
  rintro w103 HB k103 z103
  have:=k103.size
  try simp only [zS,Nat.zero_add,Nat.reduceAdd,List.drop_nil] at HB
  refine ac (U (V (O zd (aa (ad Z) (ac (U (aw (ay (aU Z zq (bB Z) ?_)))))))))
  simp only [hr0]
  replace E:=(E.step k30 (by intro i hi he;have he0:=he;(try dsimp only [aP] at hi he ⊢);(try simp only [Value.ownBlock,Option.some.injEq] at he);first | exact he.elim | omega | exact he | (first | (have:=zo0 _ he0;omega) | (have:=hob _ he0;omega)))).step k103 (by intro i hi he;have he0:=he;(try dsimp only [aP] at hi he ⊢);(try simp only [Value.ownBlock,Option.some.injEq] at he);first | exact he.elim | omega | exact he | (first | (have:=zo0 _ he0;omega) | (have:=hob _ he0;omega)))
  replace HSr:=(HSr.keep k30 (by intro i _ hi he;have he0:=he;(try dsimp only [aP,bj] at hi he);(try simp only [Value.ownBlock,Option.some.injEq] at he);first | exact hi.elim | exact he.elim | omega | (rcases hi with hi | hi <;> omega) | (rcases he with he | he <;> omega) | (first | (have:=zo0 _ he0;omega) | (have:=hob _ he0;omega)))).keep k103 (by intro i _ hi he;have he0:=he;(try dsimp only [aP,bj] at hi he);(try simp only [Value.ownBlock,Option.some.injEq] at he);first | exact hi.elim | exact he.elim | omega | (rcases hi with hi | hi <;> omega) | (rcases he with he | he <;> omega) | (first | (have:=zo0 _ he0;omega) | (have:=hob _ he0;omega)))
  replace HO2:=HO2.keep k103 (by intro i ho he;have he0:=he;have ho0:=ho;(try dsimp only [aP] at he);(try simp only [Value.ownBlock,Option.some.injEq,reduceCtorEq] at ho);(try simp only [Value.ownBlock,Option.some.injEq,reduceCtorEq] at he);first | exact he.elim | exact ho.elim | omega | (have:=zo_HO2 _ ho0;omega) | (first | (have:=zo0 _ he0;omega) | (have:=hob _ he0;omega))) (by intro i _ hi _ he;have he0:=he;have hi:=hi;have he:=he;(try dsimp only [aP,bj] at hi he);(try simp only [Value.ownBlock,Option.some.injEq,reduceCtorEq] at he);all_goals first | exact hi.elim | exact hi.1.elim | exact he.elim | omega | (rcases hi with hi | hi <;> omega) | (rcases he with he | he <;> omega) | (first | (have:=zo0 _ he0;omega) | (have:=hob _ he0;omega)))
  exact ⟨trivial,fun _=>⟨_,_,HB,ie,HSr.mono fun q _ h=>h.1,HO2.mono fun q _ h=>⟨h.1,by omega⟩⟩,E⟩
 have h21:cut=true:=by simpa using h21
 rw [if_pos h21] at hr0
 refine ar (U (V (cN zk ?_)))
 have e104:aX w102 { w102 with drawn:=w102.drawn + 1 }:=ao.drawn _ _
 generalize hw104:({ w102 with drawn:=w102.drawn + 1 }:World)=w104 at e104 ⊢
 clear hw104
 have:=e104.size
 refine bT 16 Z zd zd zd ?_
 refine eH (fun k=>w104.heap.size≤k) (CJ (li) ((fx (e,rs) mv.2.1 mv.2.2.2.2.2).1) (cw) ([]) (.int .i64 (fx (e,rs) mv.2.1 mv.2.2.2.2.2).2) ([.int .i64 0,.slice none 0 0]:List Value) 24 99 10 11 12 13 14 15 w104.heap.size) zd zd (fun ab done hd=>CJ.start _ (by rfl) (by simp only [List.forall_mem_cons];repeat' (first | exact rfl | apply And.intro | (intro u hu;cases hu;done))) (Nat.le_refl _) (fun h=>absurd Z h) (hd 10 zq) (hd 11 zq) (hd 12 zq) (hd 13 zq) (hd 14 zq)) ?_
 refine mV CJ.on zq (fun done ab w hR hJ hdn hd=>bK Z) ?_
 refine mV CJ.on zq (fun done ab w hR hJ hdn hd=>aM (hd 0 Z)) ?_
 refine mV CJ.on zq (fun done ab w hR hJ hdn hd=>aA 0 24 (hd 1 Z)) ?_
 replace HB:=HB.ext e104
 replace HB3:=HB3.ext e104
 refine mV CJ.on zq (fun done ab w hR hJ hdn hd=>ap zk (hd 2 Z) (by first | exact (show Pv _ _ [_,_] from aN 0 2 (HB3.keep hR (by intro h;have he0:=h;(try dsimp only at h);(try simp only [Value.ownBlock,Option.some.injEq] at h);first | omega | (have:=zo0 _ he0;omega) | (have:=hob _ he0;omega) | (have he:=he0;first | (have:=zo0 _ he0;omega) | (have:=hob _ he0;omega)))).pv) | exact (show Pv _ _ [_,_] from aN 0 2 (HB.keep hR (by intro h;have he0:=h;(try dsimp only at h);(try simp only [Value.ownBlock,Option.some.injEq] at h);first | omega | (have:=zo0 _ he0;omega) | (have:=hob _ he0;omega) | (have he:=he0;first | (have:=zo0 _ he0;omega) | (have:=hob _ he0;omega)))).pv) | exact bg 0 (HB3.keep hR (by intro h;have he0:=h;(try dsimp only at h);(try simp only [Value.ownBlock,Option.some.injEq] at h);first | omega | (have:=zo0 _ he0;omega) | (have:=hob _ he0;omega) | (have he:=he0;first | (have:=zo0 _ he0;omega) | (have:=hob _ he0;omega)))).pv | exact bg 0 (HB.keep hR (by intro h;have he0:=h;(try dsimp only at h);(try simp only [Value.ownBlock,Option.some.injEq] at h);first | omega | (have:=zo0 _ he0;omega) | (have:=hob _ he0;omega) | (have he:=he0;first | (have:=zo0 _ he0;omega) | (have:=hob _ he0;omega)))).pv | assumption) Z) ?_
 refine mV CJ.on zq (fun done ab w hR hJ hdn hd=>aA 10 46 Z) ?_
 refine mV CJ.on zq (fun done ab w hR hJ hdn hd=>aA 1 28 (hd 4 Z)) ?_
 refine mV CJ.on zq (fun done ab w hR hJ hdn hd=>ag zk (hd 5 Z) (by first | exact (HB3.keep hR (by intro h;have he0:=h;(try dsimp only at h);(try simp only [Value.ownBlock,Option.some.injEq] at h);first | omega | (have:=zo0 _ he0;omega) | (have:=hob _ he0;omega) | (have he:=he0;first | (have:=zo0 _ he0;omega) | (have:=hob _ he0;omega)))).pv 11 _ rfl | exact (HB.keep hR (by intro h;have he0:=h;(try dsimp only at h);(try simp only [Value.ownBlock,Option.some.injEq] at h);first | omega | (have:=zo0 _ he0;omega) | (have:=hob _ he0;omega) | (have he:=he0;first | (have:=zo0 _ he0;omega) | (have:=hob _ he0;omega)))).pv 11 _ rfl | exact (HB3.keep hR (by intro h;have he0:=h;(try dsimp only at h);(try simp only [Value.ownBlock,Option.some.injEq] at h);first | omega | (have:=zo0 _ he0;omega) | (have:=hob _ he0;omega) | (have he:=he0;first | (have:=zo0 _ he0;omega) | (have:=hob _ he0;omega)))).pv 1 _ rfl | exact (HB.keep hR (by intro h;have he0:=h;(try dsimp only at h);(try simp only [Value.ownBlock,Option.some.injEq] at h);first | omega | (have:=zo0 _ he0;omega) | (have:=hob _ he0;omega) | (have he:=he0;first | (have:=zo0 _ he0;omega) | (have:=hob _ he0;omega)))).pv 1 _ rfl | assumption)) ?_
 refine mV CJ.on zq (fun done ab w hR hJ hdn hd=>aA 10 46 Z) ?_
 refine mV CJ.on zq (fun done ab w hR hJ hdn hd=>aA 5 3 (hd 7 Z)) ?_
 refine mV CJ.on zq (fun done ab w hR hJ hdn hd=>ag zk (hd 8 Z) (by first | exact (HB3.keep hR (by intro h;have he0:=h;(try dsimp only at h);(try simp only [Value.ownBlock,Option.some.injEq] at h);first | omega | (have:=zo0 _ he0;omega) | (have:=hob _ he0;omega) | (have he:=he0;first | (have:=zo0 _ he0;omega) | (have:=hob _ he0;omega)))).pv 15 _ rfl | exact (HB.keep hR (by intro h;have he0:=h;(try dsimp only at h);(try simp only [Value.ownBlock,Option.some.injEq] at h);first | omega | (have:=zo0 _ he0;omega) | (have:=hob _ he0;omega) | (have he:=he0;first | (have:=zo0 _ he0;omega) | (have:=hob _ he0;omega)))).pv 15 _ rfl | exact (HB3.keep hR (by intro h;have he0:=h;(try dsimp only at h);(try simp only [Value.ownBlock,Option.some.injEq] at h);first | omega | (have:=zo0 _ he0;omega) | (have:=hob _ he0;omega) | (have he:=he0;first | (have:=zo0 _ he0;omega) | (have:=hob _ he0;omega)))).pv 5 _ rfl | exact (HB.keep hR (by intro h;have he0:=h;(try dsimp only at h);(try simp only [Value.ownBlock,Option.some.injEq] at h);first | omega | (have:=zo0 _ he0;omega) | (have:=hob _ he0;omega) | (have he:=he0;first | (have:=zo0 _ he0;omega) | (have:=hob _ he0;omega)))).pv 5 _ rfl | assumption)) ?_
 replace E:=E.trans e104.keep
 replace HO1:=HO1.ext e104
 replace HSr:=HSr.ext e104
 replace HSmf:=HSmf.ext e104
 replace HGv:=HGv.ext e104
 replace HGm:=HGm.ext e104
 refine ea (fun done ab w hR hcl hdk hJ hdn hd=>by
   exact gM zk (hd 3 rfl) (hd 6 rfl) (hd 9 rfl) (ae.mono (vP (HGm.keep hR (by intro i _ hi he;have he0:=he;(try dsimp only [aP,bj] at hi he);(try simp only [Value.ownBlock,Option.some.injEq] at he);first | exact hi.elim | exact he.elim | omega | (rcases hi with hi | hi <;> omega) | (rcases he with he | he <;> omega) | (first | (have:=zo0 _ he0;omega) | (have:=hob _ he0;omega)))) (HSmf.keep hR (by intro i _ hi he;have he0:=he;(try dsimp only [aP,bj] at hi he);(try simp only [Value.ownBlock,Option.some.injEq] at he);first | exact hi.elim | exact he.elim | omega | (rcases hi with hi | hi <;> omega) | (rcases he with he | he <;> omega) | (first | (have:=zo0 _ he0;omega) | (have:=hob _ he0;omega))))) fun o w1 h=>by
    obtain ⟨⟨y,rfl,cs,rfl,hr⟩,e1⟩:=h
    exact ⟨aX.keep e1,hJ.call zq (Bool.eq_false_iff.2 fun h=>absurd (hdk.symm.trans (hcl 11 _ h rfl 10 rfl)) zq) (Bool.eq_false_iff.2 fun h=>absurd (hdk.symm.trans (hcl 11 _ (hcl 12 _ h rfl 11 rfl) rfl 10 rfl)) zq) (Bool.eq_false_iff.2 fun h=>absurd (hdk.symm.trans (hcl 11 _ (hcl 13 _ h rfl 11 rfl) rfl 10 rfl)) zq) (Bool.eq_false_iff.2 fun h=>absurd (hdk.symm.trans (hcl 11 _ (hcl 12 _ (hcl 15 _ h rfl 12 rfl) rfl 11 rfl) rfl 10 rfl)) zq) e1 hr (Ty.len _ hr) (Ty.one _ hr)⟩)) ?_
 refine ea (fun done ab w hR hcl hdk hJ hdn hd=>by
   obtain ⟨cs,hv,hj⟩:=hJ.mvd zq (hdn 10 rfl)
   exact bx.of_v (be (t:=.tuple #[.agg cs.toArray,.int .i64 (fx (e,rs) mv.2.1 mv.2.2.2.2.2).2]) hv) ⟨ao.refl _,hj⟩) ?_
 refine ea (fun done ab w hR hcl hdk hJ hdn hd=>by
   obtain ⟨cs,hv,hj⟩:=hJ.x0d zq (hdn 11 rfl)
   exact bx.of_v (ai (t:=.agg cs.toArray) hv rfl) ⟨ao.refl _,hj⟩) ?_
 refine ea (fun done ab w hR hcl hdk hJ hdn hd=>by
   obtain ⟨cs,hv,hj⟩:=hJ.x1d zq (hdn 11 rfl)
   exact bx.of_v (ai (t:=.int .i64 (fx (e,rs) mv.2.1 mv.2.2.2.2.2).2) hv rfl) ⟨ao.refl _,hj⟩) ?_
 refine ea (fun done ab w hR hcl hdk hJ hdn hd=>aD (z:=.agg #[.int .i64 0,.slice none 0 0]) (by unfold aE;kernel_rfl) fun b w1 hb hB e hz=>⟨aX.keep e,hJ.al zq (Bool.eq_false_iff.2 fun h=>absurd (hdk.symm.trans (hcl 15 _ h Z 14 Z)) zq) hb hB e⟩) ?_
 refine ea (fun done ab w hR hcl hdk hJ hdn hd=>by
   obtain ⟨b,cs,hb,hv,hn,hB,hl,ho⟩:=hJ.seen (hdn 12 rfl) (hdn 14 rfl) hdk
   exact aq (n:=2) (hb) rfl (hv) zk (show cs.length=_ from hl) (show ∀ u ∈ cs,_ from ho) hB (of_decide_eq_true rfl) (fun w1 hB1 kk z=>⟨kk.mono (fun i _ h=>by rw [h];exact hn),hJ.st zq (hdn 12 rfl) (hdn 14 rfl) hb hv (by rw [show cs.toArray.toList=cs from rfl,jr (by rw [hl];rfl)] at hB1;exact hB1) kk⟩)) ?_
 refine dq (fun ab w105 k105 J105=>?_)
 rintro _ - rfl _ - rfl _ - rfl _ - rfl _ - rfl _ - rfl _ - rfl _ - rfl _ - rfl _ - rfl v44 qp10 - v33 qp11 - v45 qp12 - v46 qp13 - v7 qp14 - _ - -
 have:=k105.size
 obtain ⟨b7,cs7,qh10,qh11,qh12,qh13,qh14,zb7,HB7,HG7,-⟩:=J105.fin
 obtain rfl:=qp10.trans qh10
 obtain rfl:=qp11.trans qh11
 obtain rfl:=qp12.trans qh12
 obtain rfl:=qp13.trans qh13
 obtain rfl:=qp14.trans qh14
 have zl7:=HB7.lt
 replace E:=E.step k105 (by intro i hi he;have he0:=he;(try dsimp only [aP] at hi he ⊢);(try simp only [Value.ownBlock,Option.some.injEq] at he);first | exact he.elim | omega | exact he | (first | (have:=zo0 _ he0;omega) | (have:=hob _ he0;omega)))
 replace HB:=HB.keep k105 (by intro h;have he0:=h;(try dsimp only at h);(try simp only [Value.ownBlock,Option.some.injEq] at h);first | omega | (have:=zo0 _ he0;omega) | (have:=hob _ he0;omega) | (have he:=he0;first | (have:=zo0 _ he0;omega) | (have:=hob _ he0;omega)))
 replace HO1:=HO1.keep k105 (by intro i ho he;have he0:=he;have ho0:=ho;(try dsimp only [aP] at he);(try simp only [Value.ownBlock,Option.some.injEq,reduceCtorEq] at ho);(try simp only [Value.ownBlock,Option.some.injEq,reduceCtorEq] at he);first | exact he.elim | exact ho.elim | omega | (have:=zo_HO1 _ ho0;omega) | (first | (have:=zo0 _ he0;omega) | (have:=hob _ he0;omega))) (by intro i _ hi _ he;have he0:=he;have hi:=hi;have he:=he;(try dsimp only [aP,bj] at hi he);(try simp only [Value.ownBlock,Option.some.injEq,reduceCtorEq] at he);all_goals first | exact hi.elim | exact hi.1.elim | exact he.elim | omega | (rcases hi with hi | hi <;> omega) | (rcases he with he | he <;> omega) | (first | (have:=zo0 _ he0;omega) | (have:=hob _ he0;omega)))
 replace HSr:=HSr.keep k105 (by intro i _ hi he;have he0:=he;(try dsimp only [aP,bj] at hi he);(try simp only [Value.ownBlock,Option.some.injEq] at he);first | exact hi.elim | exact he.elim | omega | (rcases hi with hi | hi <;> omega) | (rcases he with he | he <;> omega) | (first | (have:=zo0 _ he0;omega) | (have:=hob _ he0;omega)))
 replace HSmf:=HSmf.keep k105 (by intro i _ hi he;have he0:=he;(try dsimp only [aP,bj] at hi he);(try simp only [Value.ownBlock,Option.some.injEq] at he);first | exact hi.elim | exact he.elim | omega | (rcases hi with hi | hi <;> omega) | (rcases he with he | he <;> omega) | (first | (have:=zo0 _ he0;omega) | (have:=hob _ he0;omega)))
 replace HGv:=HGv.keep k105 (by intro i _ hi he;have he0:=he;(try dsimp only [aP,bj] at hi he);(try simp only [Value.ownBlock,Option.some.injEq] at he);first | exact hi.elim | exact he.elim | omega | (rcases hi with hi | hi <;> omega) | (rcases he with he | he <;> omega) | (first | (have:=zo0 _ he0;omega) | (have:=hob _ he0;omega)))
 replace HGm:=HGm.keep k105 (by intro i _ hi he;have he0:=he;(try dsimp only [aP,bj] at hi he);(try simp only [Value.ownBlock,Option.some.injEq] at he);first | exact hi.elim | exact he.elim | omega | (rcases hi with hi | hi <;> omega) | (rcases he with he | he <;> omega) | (first | (have:=zo0 _ he0;omega) | (have:=hob _ he0;omega)))
 replace HB3:=HB3.keep k105 (by intro h;have he0:=h;(try dsimp only at h);(try simp only [Value.ownBlock,Option.some.injEq] at h);first | omega | (have:=zo0 _ he0;omega) | (have:=hob _ he0;omega) | (have he:=he0;first | (have:=zo0 _ he0;omega) | (have:=hob _ he0;omega)))
 obtain ⟨⟨e',rs'⟩,her⟩:∃ x,x=(fx (e,rs) mv.2.1 mv.2.2.2.2.2).1:=⟨_,rfl⟩
 rw [← her] at HG7
 obtain ⟨a7,c7,hq7,HS7,he7⟩:=HG7.mp
 obtain rfl:cs7=[_,_]:=congrArg Array.toList (Value.agg.inj hq7)
 simp only at HS7 he7
 refine ct (U (bZ zd Z ?_))
 obtain ⟨n8,hn8⟩:∃ n,n=w105.heap.size:=⟨_,rfl⟩
 refine aa (bO Z) (ac (U (V (V (O zd (aa (aQ Z) (aa (bD Z Z) ?_)))))))
 refine ac (U (am Z Z (fun h48=>?_) (fun h48=>?_)))
 ·
  refine V (O zd (aa (aQ Z) (aa (bO Z) (ac (U (aw (ay (aU Z zq (bB Z) ?_))))))))
  have h1:(fx (e,rs) mv.2.1 mv.2.2.2.2.2).2≠0:=by simpa using h48
  rw [if_neg h1] at hr0;simp only [hr0]
  exact ⟨trivial,fun h=>absurd h h1,E⟩
 have h1:(fx (e,rs) mv.2.1 mv.2.2.2.2.2).2=0:=by simpa using h48
 rw [if_pos h1,← her] at hr0
 refine ar (U (V (cN zk ?_)))
 have e106:aX w105 { w105 with drawn:=w105.drawn + 1 }:=ao.drawn _ _
 generalize hw106:({ w105 with drawn:=w105.drawn + 1 }:World)=w106 at e106 ⊢
 clear hw106
 have:=e106.size
 refine bT 10 Z zd zd zd ?_
 replace HB:=HB.ext e106
 refine eH (fun k=>k=b) (gh b _ [9] [_,([.int .i64 e',.slice a7 rs'.length c7,.int .i64 n,.slice (some ⟨b2,0,none⟩) ms.length c2]:List Value)]) zd zd (fun ab done hd=>gh.start HB Z (fun a ha=>hd a (gc (n:=10) Z a ha))) ?_
 refine aI (fun done ab w hR hcl hdk hJ hdn hd=>bK Z) (fun _ _ _ _ j=>j.src (ao.refl _) Z) ?_
 refine aI (fun done ab w hR hcl hdk hJ hdn hd=>bK Z) (fun _ _ _ _ j=>j.src (ao.refl _) Z) ?_
 refine aI (fun done ab w hR hcl hdk hJ hdn hd=>aM (hd 1 Z)) (fun _ _ _ _ j=>j.src (ao.refl _) Z) ?_
 refine aI (fun done ab w hR hcl hdk hJ hdn hd=>aA 3 25 (hd 2 Z)) (fun _ _ _ _ j=>j.src (ao.refl _) Z) ?_
 refine aI (fun done ab w hR hcl hdk hJ hdn hd=>ag zk (hd 3 Z) (gh.ld hJ (k:=3) (v:=.slice (some ⟨b2,0,none⟩) ms.length c2) Z (by simp))) (fun _ _ _ _ j=>j.src (ao.refl _) Z) ?_
 refine aI (fun done ab w hR hcl hdk hJ hdn hd=>aQ Z) (fun _ _ _ _ j=>j.src (ao.refl _) Z) ?_
 replace HB3:=HB3.ext e106
 replace HB7:=HB7.ext e106
 refine aI (fun done ab w hR hcl hdk hJ hdn hd=>ap zk Z (by first | exact (HB7.keep hR (by intro h;have he0:=h;(try dsimp only at h);(try simp only [Value.ownBlock,Option.some.injEq] at h);first | omega | (have:=zo0 _ he0;omega) | (have:=hob _ he0;omega) | (have he:=he0;first | (have:=zo0 _ he0;omega) | (have:=hob _ he0;omega)))).pv | exact (HB3.keep hR (by intro h;have he0:=h;(try dsimp only at h);(try simp only [Value.ownBlock,Option.some.injEq] at h);first | omega | (have:=zo0 _ he0;omega) | (have:=hob _ he0;omega) | (have he:=he0;first | (have:=zo0 _ he0;omega) | (have:=hob _ he0;omega)))).pv | assumption) Z) (fun _ _ _ _ j=>j.src (ao.refl _) Z) ?_
 refine aI (fun done ab w hR hcl hdk hJ hdn hd=>aM (hd 0 Z)) (fun _ _ _ _ j=>j.src (ao.refl _) Z) ?_
 refine aI (fun done ab w hR hcl hdk hJ hdn hd=>aA 0 24 (hd 7 Z)) (fun _ _ _ _ j=>j.src (ao.refl _) Z) ?_
 replace E:=E.trans e106.keep
 replace HO1:=HO1.ext e106
 replace HSr:=HSr.ext e106
 replace HSmf:=HSmf.ext e106
 replace HGv:=HGv.ext e106
 replace HGm:=HGm.ext e106
 replace HS7:=HS7.ext e106
 refine ea (fun done ab w hR hcl hdk hJ hdn hd=>by
   have h0:=hJ.at (n:=0) rfl hdk (fun m h=>by cases h)
   try dsimp only [List.getD_cons_zero,List.getD_cons_succ] at h0
   exact aq (n:=2) (hd 8 rfl) rfl (hd 6 rfl) zk rfl (eo (by rfl)) h0 (of_decide_eq_true rfl) (fun w1 hB1 kk z=>⟨kk,hJ.step (n:=0) rfl hdk (fun m h=>by cases h) rfl hB1⟩)) ?_
 refine dq (fun ab w107 k107 J107=>?_)
 rintro _ - rfl _ - rfl _ - rfl _ - rfl _ - rfl _ - rfl _ - rfl _ - rfl _ - rfl _ - -
 have:=k107.size
 have HB:dh w107 b [.int .i64 e',.slice a7 rs'.length c7,.int .i64 n,.slice (some ⟨b2,0,none⟩) ms.length c2] _:=gh.fin (n:=1) J107 rfl
 refine ct (U (bT 2 Z zd zd zd ?_))
 refine cf (aP) zd zd ?_
 refine aB (fun ab w hR hd=>aF (et:=55) (sz:=7) (k:=i) zk zk Z Z (rfl) (hil)) ?_
 refine aB (fun ab w hR hd=>aA 6 4 (hd 0 Z)) ?_
 refine bU (fun w108 e108=>?_)
 replace E:=E.step k107 (by intro i hi he;have he0:=he;(try dsimp only [aP] at hi he ⊢);(try simp only [Value.ownBlock,Option.some.injEq] at he);first | exact he.elim | omega | exact he | (first | (have:=zo0 _ he0;omega) | (have:=hob _ he0;omega)))
 replace HO1:=HO1.keep k107 (by intro i ho he;have he0:=he;have ho0:=ho;(try dsimp only [aP] at he);(try simp only [Value.ownBlock,Option.some.injEq,reduceCtorEq] at ho);(try simp only [Value.ownBlock,Option.some.injEq,reduceCtorEq] at he);first | exact he.elim | exact ho.elim | omega | (have:=zo_HO1 _ ho0;omega) | (first | (have:=zo0 _ he0;omega) | (have:=hob _ he0;omega))) (by intro i _ hi _ he;have he0:=he;have hi:=hi;have he:=he;(try dsimp only [aP,bj] at hi he);(try simp only [Value.ownBlock,Option.some.injEq,reduceCtorEq] at he);all_goals first | exact hi.elim | exact hi.1.elim | exact he.elim | omega | (rcases hi with hi | hi <;> omega) | (rcases he with he | he <;> omega) | (first | (have:=zo0 _ he0;omega) | (have:=hob _ he0;omega)))
 replace HSr:=HSr.keep k107 (by intro i _ hi he;have he0:=he;(try dsimp only [aP,bj] at hi he);(try simp only [Value.ownBlock,Option.some.injEq] at he);first | exact hi.elim | exact he.elim | omega | (rcases hi with hi | hi <;> omega) | (rcases he with he | he <;> omega) | (first | (have:=zo0 _ he0;omega) | (have:=hob _ he0;omega)))
 replace HSmf:=HSmf.keep k107 (by intro i _ hi he;have he0:=he;(try dsimp only [aP,bj] at hi he);(try simp only [Value.ownBlock,Option.some.injEq] at he);first | exact hi.elim | exact he.elim | omega | (rcases hi with hi | hi <;> omega) | (rcases he with he | he <;> omega) | (first | (have:=zo0 _ he0;omega) | (have:=hob _ he0;omega)))
 replace HGv:=HGv.keep k107 (by intro i _ hi he;have he0:=he;(try dsimp only [aP,bj] at hi he);(try simp only [Value.ownBlock,Option.some.injEq] at he);first | exact hi.elim | exact he.elim | omega | (rcases hi with hi | hi <;> omega) | (rcases he with he | he <;> omega) | (first | (have:=zo0 _ he0;omega) | (have:=hob _ he0;omega)))
 replace HGm:=HGm.keep k107 (by intro i _ hi he;have he0:=he;(try dsimp only [aP,bj] at hi he);(try simp only [Value.ownBlock,Option.some.injEq] at he);first | exact hi.elim | exact he.elim | omega | (rcases hi with hi | hi <;> omega) | (rcases he with he | he <;> omega) | (first | (have:=zo0 _ he0;omega) | (have:=hob _ he0;omega)))
 replace HB3:=HB3.keep k107 (by intro h;have he0:=h;(try dsimp only at h);(try simp only [Value.ownBlock,Option.some.injEq] at h);first | omega | (have:=zo0 _ he0;omega) | (have:=hob _ he0;omega) | (have he:=he0;first | (have:=zo0 _ he0;omega) | (have:=hob _ he0;omega)))
 replace HB7:=HB7.keep k107 (by intro h;have he0:=h;(try dsimp only at h);(try simp only [Value.ownBlock,Option.some.injEq] at h);first | omega | (have:=zo0 _ he0;omega) | (have:=hob _ he0;omega) | (have he:=he0;first | (have:=zo0 _ he0;omega) | (have:=hob _ he0;omega)))
 replace HS7:=HS7.keep k107 (by intro i _ hi he;have he0:=he;(try dsimp only [aP,bj] at hi he);(try simp only [Value.ownBlock,Option.some.injEq] at he);first | exact hi.elim | exact he.elim | omega | (rcases hi with hi | hi <;> omega) | (rcases he with he | he <;> omega) | (first | (have:=zo0 _ he0;omega) | (have:=hob _ he0;omega)))
 rintro _ rfl _ rfl
 have:=e108.size
 refine bG (U (bZ zd Z ?_))
 replace HO1:=HO1.ext e108
 refine ah (hC (k:=i) (off:=6) Z (by rw [show eQ.sz=7 from rfl];simp [eE]) (by first | decide | exact (of_decide_eq_true rfl:6 < 2)) (cE Z) Z zk HO1 (x1:=(x.1,true)) hx (fun cs h=>by obtain ⟨y1,d1,y2,d2,rfl,h1,h2,j1,j2,j3⟩:=cR h;exact lN h1 h2 j1 j2 j3) ?_)
 rintro w11 HO11 k11 z11
 have:=k11.size
 have zo_HO11:=fun (b:Nat) h=>HO11.own_lt (b:=b) h
 refine ac (U (V (O zd (aa (ad Z) (ac (U (aw (aU Z zq (bB Z) ?_))))))))
 simp only [hr0,hxd]
 replace E:=(E.trans e108.keep).step k11 (by intro i hi he;have he0:=he;(try dsimp only [aP] at hi he ⊢);(try simp only [Value.ownBlock,Option.some.injEq] at he);first | exact he.elim | omega | exact he | (first | (have:=zo0 _ he0;omega) | (have:=hob _ he0;omega)))
 replace HS7:=(HS7.ext e108).keep k11 (by intro i _ hi he;have he0:=he;(try dsimp only [aP,bj] at hi he);(try simp only [Value.ownBlock,Option.some.injEq] at he);first | exact hi.elim | exact he.elim | omega | (rcases hi with hi | hi <;> omega) | (rcases he with he | he <;> omega) | (first | (have:=zo0 _ he0;omega) | (have:=hob _ he0;omega)))
 replace HB:=(HB.ext e108).keep k11 (by intro h;have he0:=h;(try dsimp only at h);(try simp only [Value.ownBlock,Option.some.injEq] at h);first | omega | (have:=zo0 _ he0;omega) | (have:=hob _ he0;omega) | (have he:=he0;first | (have:=zo0 _ he0;omega) | (have:=hob _ he0;omega)))
 exact ⟨trivial,fun _=>⟨_,_,HB,he7,HS7.mono fun q _ h=>by omega,HO11.mono fun q _ h=>⟨h.1,by omega⟩⟩,E⟩
end Go.Proofs.YteehplloacefmaaGreat

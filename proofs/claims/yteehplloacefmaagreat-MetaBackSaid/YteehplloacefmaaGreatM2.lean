/- Steps and lemmas for the walks. -/
import Derived.Test.YteehplloacefmaaGreatMe
import Derived.Test.YteehplloacefmaaGreatVy
set_option linter.unusedVariables false
set_option linter.unusedSimpArgs false
set_option maxRecDepth 100000
namespace Go.Proofs.YteehplloacefmaaGreat
open Go.Vc
theorem kN {w:World} {F:Nat→Prop} {v:Value} {m:iJ} (HG1:aY jU w F v m) (hl1:m.2.1.length≤140737488355328) (hl2:m.2.2.1.length≤140737488355328):ae Tryz.prog 47 #[v] w (fun o w'=>aY jU w' (fun b=>w.heap.size≤b∧b < w'.heap.size) o m∧aX w w'):=by
 obtain ⟨a1,c1,a2,c2,rfl,HSf,HSt,i1,i2,i3⟩:=HG1.mv
 replace HSf:=HSf.all
 replace HSt:=HSt.all
 refine aL 12 Tryz.func47 Z Z (by simp) ?_
 refine V ?_
 have E:=ao.refl (K:=aP) w
 replace HSf:=HSf.all
 replace HSt:=HSt.all
 refine O zd (ah (aS (aZ Z) ?_))
 rintro b1 w1 zb1 HB1 e1 z1
 have:=e1.size
 try simp only [Value.cells] at HB1
 refine ah (aD (z:=(.agg #[.int .i64 0,.slice none 0 0,.slice none 0 0,.bool false,.int .i64 0,.int .i64 0])) (by unfold aE;kernel_rfl) ?_)
 rintro b2 w2 zb2 HB2 e2 z2
 have:=e2.size
 try simp only [Value.cells] at HB2
 replace HB1:=HB1.ext e2
 refine ac (U (V (eD (fun k=>k=b1) (ly b1 _ _ [(7,1,some 2,(undef:Value)),(9,2,some 5,(undef:Value))]) zk zd zd (fun ab done hd=>ly.start (HB1.ext (ao.drawn _ _)) (fun a ha=>hd a.1 (qb (n:=10) Z a ha))) ?_)))
 refine aI (fun done ab w hR hcl hdk hJ hdn hd=>aA 1 28 Z) (fun done ab w hdk hJ=>hJ.src (ao.refl _) hdk Z) ?_
 refine aI (fun done ab w hR hcl hdk hJ hdn hd=>ag zk (hd 0 Z) (by first | exact (HB2.keep hR aH).pv 1 _ rfl | exact (hJ.at0 hcl hdk ⟨_,_,rfl,rfl,by decide⟩).pv 1 _ rfl | assumption)) (fun done ab w hdk hJ=>hJ.src (ao.refl _) hdk Z) ?_
 replace HSf:=(HSf.ext e1).ext e2
 refine ka (fun v W=>Bv W (fun b=>b2 < b) v m.2.1) (fun v w w' h k=>h.keep k eU) (fun done ab w hR hcl hdk hJ hdn hd=>bx.mono (K:=fun v w1=>aX w w1∧(fun v W=>Bv W (fun b=>b2 < b) v m.2.1) v w1) (av zk (hd 1 Z) (ae.mono (iD (HSf.keep hR eU) hl1) fun v w1 ⟨h,e⟩=>⟨e,(h.fresh (Nat.le_refl _)).mono fun b _ hb=>by have:=hR.size;omega⟩)) fun v w1 h=>⟨aX.keep h.1,h.2,hJ.src h.1 hdk rfl⟩) ?_
 refine aI (fun done ab w hR hcl hdk hJ hdn hd=>aA 2 28 Z) (fun done ab w hdk hJ=>hJ.src (ao.refl _) hdk Z) ?_
 refine aI (fun done ab w hR hcl hdk hJ hdn hd=>ag zk (hd 3 Z) (by first | exact (HB2.keep hR aH).pv 2 _ rfl | exact (hJ.at0 hcl hdk ⟨_,_,rfl,rfl,by decide⟩).pv 2 _ rfl | assumption)) (fun done ab w hdk hJ=>hJ.src (ao.refl _) hdk Z) ?_
 replace HSt:=(HSt.ext e1).ext e2
 refine ka (fun v W=>Bv W (fun b=>b2 < b) v m.2.2.1) (fun v w w' h k=>h.keep k eU) (fun done ab w hR hcl hdk hJ hdn hd=>bx.mono (K:=fun v w1=>aX w w1∧(fun v W=>Bv W (fun b=>b2 < b) v m.2.2.1) v w1) (av zk (hd 4 Z) (ae.mono (iD (HSt.keep hR eU) hl2) fun v w1 ⟨h,e⟩=>⟨e,(h.fresh (Nat.le_refl _)).mono fun b _ hb=>by have:=hR.size;omega⟩)) fun v w1 h=>⟨aX.keep h.1,h.2,hJ.src h.1 hdk rfl⟩) ?_
 refine aI (fun done ab w hR hcl hdk hJ hdn hd=>aA 1 28 Z) (fun done ab w hdk hJ=>hJ.src (ao.refl _) hdk Z) ?_
 refine ea (fun done ab w hR hcl hdk hJ hdn hd=>aR (hd 6 Z) Z Z (by first | exact bs.one (hd 2 rfl) | exact bs.one (hd 2 rfl).1 | exact ck.one (hd 2 rfl) | exact ck.one (hd 2 rfl).1 | (have h:=hd 2 rfl;dsimp only [eS] at h;rw [h];rfl) | exact (hd 2 rfl).1 | (obtain ⟨_,h⟩:=hd 2 rfl;rw [h];rfl) | exact (congrArg Value.oneCell' (hd 2 rfl)).trans rfl) zk (hJ.at (n:=0) Z hdk (fun m h=>by cases h)) (by rw [fi];first | exact of_decide_eq_true rfl | (rw [hlen];exact of_decide_eq_true rfl)) (fun w1 hB k z=>⟨k,hJ.step (n:=0) rfl hdk (fun m h=>by cases h) (fun k h=>by cases h;exact hdn 2 rfl) (iw rfl) rfl hB⟩)) ?_
 refine aI (fun done ab w hR hcl hdk hJ hdn hd=>aA 2 28 Z) (fun done ab w hdk hJ=>hJ.src (ao.refl _) hdk Z) ?_
 refine ea (fun done ab w hR hcl hdk hJ hdn hd=>aR (hd 8 Z) Z Z (by first | exact bs.one (hd 5 rfl) | exact bs.one (hd 5 rfl).1 | exact ck.one (hd 5 rfl) | exact ck.one (hd 5 rfl).1 | (have h:=hd 5 rfl;dsimp only [eS] at h;rw [h];rfl) | exact (hd 5 rfl).1 | (obtain ⟨_,h⟩:=hd 5 rfl;rw [h];rfl) | exact (congrArg Value.oneCell' (hd 5 rfl)).trans rfl) zk (hJ.at (n:=1) Z hdk (fun m h=>⟨_,by cases h;rfl,hdn 7 rfl⟩)) (by rw [fi];first | exact of_decide_eq_true rfl | (rw [hlen];exact of_decide_eq_true rfl)) (fun w1 hB k z=>⟨k,hJ.step (n:=1) rfl hdk (fun m h=>⟨_,by cases h;rfl,hdn 7 rfl⟩) (fun k h=>by cases h;exact hdn 5 rfl) (iw rfl) rfl hB⟩)) ?_
 refine dq (fun ab w101 k101 J101=>?_)
 rintro _ - rfl _ - rfl v5 qs2 HS5 _ - rfl _ - rfl v8 qs5 HS8 _ - rfl _ - - _ - rfl _ - -
 have:=k101.size
 have HX101:=J101.fin
 obtain ⟨a5,c5,rfl⟩:=bs.shape HS5
 obtain ⟨a8,c8,rfl⟩:=bs.shape HS8
 simp only [fF,sv,← qs2,← qs5] at HX101
 replace HB1:=HX101
 clear HX101
 try simp only [zS,Nat.zero_add,Nat.reduceAdd,List.drop_nil] at HB1
 replace HB2:=HB2.keep k101 aH
 refine ct (U (V (O zd (aa (ap zk Z (by first | exact HB2.pv | exact HB1.pv | assumption) Z) ?_))))
 refine ah (aq (n:=6) Z Z (aZ Z) zk Z cT HB2 bV ?_)
 rintro w102 HB2 k102 z102
 have:=k102.size
 try simp only [zS,Nat.zero_add,Nat.reduceAdd,List.drop_nil] at HB2
 refine ac (U (aw (jD (n:=6) Z zq Z zk HB2.pv Z ?_)))
 replace E:=(((E.trans e1.keep).trans e2.keep).step k101 bi).step k102 bi
 replace HS5:=HS5.keep k102 aC
 replace HS8:=HS8.keep k102 aC
 exact ⟨⟨_,rfl,kJ (HS5.mono fun b hb h=>⟨by omega,hb⟩) (HS8.mono fun b hb h=>⟨by omega,hb⟩) i1 i2 i3⟩,E⟩
theorem rP {w:World}:ae Tryz.prog 12 #[] w (fun o w'=>aY iK w' (fun b=>w.heap.size≤b) o ((1,[([],[],false,1)]),1,[])∧aX w w'):=by
 refine aL 9 Tryz.func12 Z Z (by simp) ?_
 refine V ?_
 have E:=ao.refl (K:=aP) w
 refine O zd (ah (aD (z:=(.agg #[.int .i64 0,.slice none 0 0,.int .i64 0,.slice none 0 0])) (by unfold aE;kernel_rfl) ?_))
 rintro b1 w1 zb1 HB1 e1 z1
 have:=e1.size
 try simp only [Value.cells] at HB1
 refine ac (U (V (O zd (ah (av zk (bB Z) (ae.mono (wG (g:=1) zo) ?_))))))
 rintro _ w2 ⟨⟨y,rfl,HG2⟩,e2⟩
 have:=e2.size
 replace HG2:=HG2.mono fun b hb h=>And.intro h hb
 rw [show (if dJ 1=true then ((1,[([],[],false,1)]):lz) else (0,[]))=(1,[([],[],false,1)]) from rfl] at HG2
 obtain ⟨a2,c2,rfl,HS2,i2⟩:=HG2.mp
 refine aa (dY Z) (aa (ai (t:=.agg _) Z Z) (aa (ai (t:=.int _ _) Z Z) (ah (aD (z:=.agg #[.int .i64 0,.slice none 0 0]) (by unfold aE;kernel_rfl) ?_))))
 rintro b101 w101 zb101 HB101 e101 z101
 have:=e101.size
 try simp only [Value.cells] at HB101
 refine ah (aq (n:=2) Z Z (aZ Z) zk Z cT HB101 bV ?_)
 rintro w102 HB101 k102 z102
 have:=k102.size
 try simp only [zS,Nat.zero_add,Nat.reduceAdd,List.drop_nil] at HB101
 replace HB1:=((HB1.ext e2).ext e101).keep k102 aH
 refine aa (bO Z) (ac (U (V (O zd (aa (ap zk Z (by first | exact HB101.pv | exact HB1.pv | assumption) Z) ?_)))))
 refine aa (aV (pl:=[(0,2),(2,1),(3,1)]) (z:=.agg #[.int .i64 0,.slice none 0 0,.int .i64 0,.slice none 0 0]) (zl:=[.int .i64 0,.slice none 0 0,.int .i64 0,.slice none 0 0]) zk (by unfold aE;kernel_rfl) Z Z (cells:=[_,_,_,_]) Z) ?_
 refine ah (aq (n:=4) Z Z (aZ Z) zk Z cT HB1 bV ?_)
 rintro w103 HB1 k103 z103
 have:=k103.size
 try simp only [zS,Nat.zero_add,Nat.reduceAdd,List.drop_nil] at HB1
 refine ac (U (aw (jD (n:=4) Z zq Z zk HB1.pv Z ?_)))
 replace E:=((((E.trans e1.keep).trans e2.keep).trans e101.keep).step k102 bi).step k103 bi
 replace HS2:=((HS2.ext e101).keep k102 aC).keep k103 aC
 exact ⟨aY.mkMt (HS2.mono fun b _ h=>by have:=h.1;omega) (bs.nil _ _ _) ⟨by decide,by decide⟩ ⟨by decide,by decide⟩,E⟩
theorem ws {w:World} {F:Nat→Prop} {v:Value} {e n:Int} {rs:List cO} {ms:List fy} (HG1:aY iK w F v ((e,rs),n,ms)) (hl:∀ r ∈ rs,r.1.length≤100000∧r.2.1.length≤100000) (hl2:∀ x ∈ ms,x.1.2.1.length≤100000∧x.1.2.2.1.length≤100000) (hn1:rs.length≤100000) (hn2:ms.length≤100000) :
    ae Tryz.prog 38 #[v] w (fun o w'=>(∃ m a c a2 c2,w.heap.size≤m∧m≤w'.heap.size∧o=.agg #[.int .i64 e,.slice a rs.length c,.int .i64 n,.slice a2 ms.length c2]∧bs dv w' (fun b=>w.heap.size≤b∧b < m) (.slice a rs.length c) rs∧ck eQ 55 w' m (fun b=>m≤b∧b < w'.heap.size) (.slice a2 ms.length c2) ms)∧aX w w'):=by
 obtain ⟨a,c,a2,c2,rfl,HSr,HSm,ie,im⟩:=HG1.mt
 simp only at HSr HSm ie im
 clear HG1
 refine aL 52 Tryz.func38 Z Z (by simp) ?_
 refine V ?_
 have E:=ao.refl (K:=aP) w
 replace HSr:=HSr.all
 replace HSm:=HSm.all
 refine O zd (ah (aS (aZ Z) ?_))
 rintro b1 w1 zb1 HB1 e1 z1
 have:=e1.size
 try simp only [Value.cells] at HB1
 refine ah (aD (z:=(.agg #[.int .i64 0,.slice none 0 0,.int .i64 0,.slice none 0 0])) (by unfold aE;kernel_rfl) ?_)
 rintro b2 w2 zb2 HB2 e2 z2
 have:=e2.size
 try simp only [Value.cells] at HB2
 refine ac (U (V ?_))
 obtain ⟨n0,hn0⟩:∃ n,n=w2.heap.size:=⟨_,rfl⟩
 replace HB1:=HB1.ext e2
 refine O zd (aa (ad Z) (ac (U (V (V (O zd (aa (aA 0 24 Z) (aa (aA 1 22 Z) (aa (ag zk Z (by first | exact HB2.pv 1 _ rfl | exact HB1.pv 1 _ rfl | assumption)) ?_)))))))))
 refine aa (ba (et:=53) zk Z) ?_
 replace E:=(E.trans e1.keep).trans e2.keep
 refine aa (be Z) (ac (U (aO (cy (τ:=Nat × Option Addr × Nat) [3,5,13,14,15,16,17,18,19,20,21,22,23,24,25,26,27,28,29] (fun (i,a5,c5)=>[(3,.slice a5 i c5),(13,.int .i64 i)]) (fun (i,a5,c5) W=>aX w W∧ao (fun b=>n0≤b) w2 W∧i≤rs.length∧ck dv 53 W n0 (fun b=>n0≤b∧b < W.heap.size) (.slice a5 i c5) (rs.take i)) (fun (i,a5,c5)=>rs.length - i) (0,none,0) (by exact ⟨rfl,rfl,trivial⟩) (by exact ⟨E,ao.refl _,Nat.zero_le _,ck.nil _ _ _ _ _⟩) ?_))))
 rintro ⟨i,a5,c5⟩ w101 j ⟨E,EL1,h1,HOx⟩
 have:=EL1.size
 have zo_HOx:=fun (b:Nat) h=>HOx.own_lt (b:=b) h
 refine V (O zd (aa (bw Z Z) ?_))
 replace HSr:=((HSr.ext e1).ext e2).keep EL1 aC
 replace HSm:=((HSm.ext e1).ext e2).keep EL1 aC
 replace HB1:=HB1.keep EL1 aH
 replace HB2:=HB2.keep EL1 aH
 refine ac (U (V (am Z Z (fun hlt=>?_) (fun hlt=>?_))))
 ·
  have hlt:=bl hlt
  have htl:(rs.take i).length=i:=by rw [List.length_take];omega
  obtain ⟨r,hx,_⟩:=eC (l:=rs) (i:=i) zo
  obtain ⟨hl1,hl2'⟩:=hl r (List.mem_of_getElem? hx)
  obtain ⟨n1,hn1'⟩:∃ n,n=w101.heap.size:=⟨_,rfl⟩
  refine ar (U (V (aO (V (O zd (ah (ed (et:=53) zk zk (bI Z) HSr (bB Z) Z hx ?_)))))))
  rintro q cs hF HPq hr
  obtain ⟨b3,d3,b5,d5,rfl,HSf,HSt,hg⟩:=bN hr
  refine aa (ap zk Z (by first | exact HPq | exact HB2.pv | exact HB1.pv | assumption) Z) ?_
  refine ah (aD (z:=(.agg #[.slice none 0 0,.slice none 0 0,.bool false,.int .i64 0])) (by unfold aE;kernel_rfl) ?_)
  rintro b8 w8 zb8 HB8 e8 z8
  have:=e8.size
  try simp only [Value.cells] at HB8
  refine ah (aq (n:=4) Z Z (aZ Z) zk Z cT HB8 bV ?_)
  rintro w102 HB8 k102 z102
  have:=k102.size
  try simp only [zS,Nat.zero_add,Nat.reduceAdd,List.drop_nil] at HB8
  refine ac (U (V (eD (fun k=>k=b8) (ly b8 _ _ [(7,0,some 2,(undef:Value)),(9,1,some 5,(undef:Value))]) zk zd zd (fun ab done hd=>ly.start (HB8.ext (ao.drawn _ _)) (fun a ha=>hd a.1 (qb (n:=10) Z a ha))) ?_)))
  refine aI (fun done ab w hR hcl hdk hJ hdn hd=>aA 0 28 Z) (fun done ab w hdk hJ=>hJ.src (ao.refl _) hdk Z) ?_
  replace HB1:=(HB1.ext e8).keep k102 aH
  replace HB2:=(HB2.ext e8).keep k102 aH
  replace HPq:=(HPq.ext e8).keep k102 (by intro h;(try dsimp only at h);(try simp only [au] at h);first | omega)
  refine aI (fun done ab w hR hcl hdk hJ hdn hd=>ag zk (hd 0 Z) (by first | exact (hJ.at0 hcl hdk ⟨_,_,rfl,rfl,by decide⟩).pv 0 _ rfl | exact (HPq.keep hR (by intro h;(try dsimp only at h);(try simp only [au] at h);first | omega)) 0 _ rfl | exact (HB2.keep hR aH).pv 0 _ rfl | exact (HB1.keep hR aH).pv 0 _ rfl | assumption)) (fun done ab w hdk hJ=>hJ.src (ao.refl _) hdk Z) ?_
  replace HSf:=(HSf.ext e8).keep k102 aC
  refine ka (fun v W=>Bv W (fun b=>b8 < b) v r.1) (fun v w w' h k=>h.keep k eU) (fun done ab w hR hcl hdk hJ hdn hd=>bx.mono (K:=fun v w1=>aX w w1∧(fun v W=>Bv W (fun b=>b8 < b) v r.1) v w1) (av zk (hd 1 Z) (ae.mono (iD (HSf.keep hR eU) zo) fun v w1 ⟨h,e⟩=>⟨e,(h.fresh (Nat.le_refl _)).mono fun b _ hb=>by have:=hR.size;omega⟩)) fun v w1 h=>⟨aX.keep h.1,h.2,hJ.src h.1 hdk rfl⟩) ?_
  refine aI (fun done ab w hR hcl hdk hJ hdn hd=>aA 1 28 Z) (fun done ab w hdk hJ=>hJ.src (ao.refl _) hdk Z) ?_
  refine aI (fun done ab w hR hcl hdk hJ hdn hd=>ag zk (hd 3 Z) (by first | exact (hJ.at0 hcl hdk ⟨_,_,rfl,rfl,by decide⟩).pv 1 _ rfl | exact (HPq.keep hR (by intro h;(try dsimp only at h);(try simp only [au] at h);first | omega)) 1 _ rfl | exact aK (HPq.keep hR (by intro h;(try dsimp only at h);(try simp only [au] at h);first | omega)) | exact (HB2.keep hR aH).pv 1 _ rfl | exact (HB1.keep hR aH).pv 1 _ rfl | assumption)) (fun done ab w hdk hJ=>hJ.src (ao.refl _) hdk Z) ?_
  replace HSt:=(HSt.ext e8).keep k102 aC
  refine ka (fun v W=>Bv W (fun b=>b8 < b) v r.2.1) (fun v w w' h k=>h.keep k eU) (fun done ab w hR hcl hdk hJ hdn hd=>bx.mono (K:=fun v w1=>aX w w1∧(fun v W=>Bv W (fun b=>b8 < b) v r.2.1) v w1) (av zk (hd 4 Z) (ae.mono (iD (HSt.keep hR eU) zo) fun v w1 ⟨h,e⟩=>⟨e,(h.fresh (Nat.le_refl _)).mono fun b _ hb=>by have:=hR.size;omega⟩)) fun v w1 h=>⟨aX.keep h.1,h.2,hJ.src h.1 hdk rfl⟩) ?_
  refine aI (fun done ab w hR hcl hdk hJ hdn hd=>aA 0 28 Z) (fun done ab w hdk hJ=>hJ.src (ao.refl _) hdk Z) ?_
  refine ea (fun done ab w hR hcl hdk hJ hdn hd=>aR (hd 6 Z) Z Z (by first | exact bs.one (hd 2 rfl) | exact bs.one (hd 2 rfl).1 | exact ck.one (hd 2 rfl) | exact ck.one (hd 2 rfl).1 | (have h:=hd 2 rfl;dsimp only [eS] at h;rw [h];rfl) | exact (hd 2 rfl).1 | (obtain ⟨_,h⟩:=hd 2 rfl;rw [h];rfl) | exact (congrArg Value.oneCell' (hd 2 rfl)).trans rfl) zk (hJ.at (n:=0) Z hdk (fun m h=>by cases h)) (by rw [fi];first | exact of_decide_eq_true rfl | (rw [hlen];exact of_decide_eq_true rfl)) (fun w1 hB k z=>⟨k,hJ.step (n:=0) rfl hdk (fun m h=>by cases h) (fun k h=>by cases h;exact hdn 2 rfl) (iw rfl) rfl hB⟩)) ?_
  refine aI (fun done ab w hR hcl hdk hJ hdn hd=>aA 1 28 Z) (fun done ab w hdk hJ=>hJ.src (ao.refl _) hdk Z) ?_
  refine ea (fun done ab w hR hcl hdk hJ hdn hd=>aR (hd 8 Z) Z Z (by first | exact bs.one (hd 5 rfl) | exact bs.one (hd 5 rfl).1 | exact ck.one (hd 5 rfl) | exact ck.one (hd 5 rfl).1 | (have h:=hd 5 rfl;dsimp only [eS] at h;rw [h];rfl) | exact (hd 5 rfl).1 | (obtain ⟨_,h⟩:=hd 5 rfl;rw [h];rfl) | exact (congrArg Value.oneCell' (hd 5 rfl)).trans rfl) zk (hJ.at (n:=1) Z hdk (fun m h=>⟨_,by cases h;rfl,hdn 7 rfl⟩)) (by rw [fi];first | exact of_decide_eq_true rfl | (rw [hlen];exact of_decide_eq_true rfl)) (fun w1 hB k z=>⟨k,hJ.step (n:=1) rfl hdk (fun m h=>⟨_,by cases h;rfl,hdn 7 rfl⟩) (fun k h=>by cases h;exact hdn 5 rfl) (iw rfl) rfl hB⟩)) ?_
  refine dq (fun ab w103 k103 J103=>?_)
  replace HSr:=(HSr.ext e8).keep k102 aC
  replace HSm:=(HSm.ext e8).keep k102 aC
  replace HOx:=(HOx.ext e8).keep k102 (by intro i ho he;have he0:=he;have ho0:=ho;(try dsimp only [aP] at he);(try simp only [Value.ownBlock,Option.some.injEq,reduceCtorEq] at ho);(try simp only [Value.ownBlock,Option.some.injEq,reduceCtorEq] at he);first | exact he.elim | exact ho.elim | omega | (have:=zo_HOx _ ho0;omega)) (by intro i _ hi _ he;have he0:=he;have hi:=hi;have he:=he;(try dsimp only [aP,bj] at hi he);(try simp only [Value.ownBlock,Option.some.injEq,reduceCtorEq] at he);all_goals first | exact hi.elim | exact hi.1.elim | exact he.elim | omega | (rcases hi with hi | hi <;> omega) | (rcases he with he | he <;> omega))
  rintro _ - rfl _ - rfl v19 qs2 HS19 _ - rfl _ - rfl v22 qs5 HS22 _ - rfl _ - - _ - rfl _ - -
  have:=k103.size
  have HX103:=J103.fin
  obtain ⟨a19,c19,rfl⟩:=bs.shape HS19
  obtain ⟨a22,c22,rfl⟩:=bs.shape HS22
  simp only [fF,sv,← qs2,← qs5] at HX103
  replace HB8:=HX103
  clear HX103
  try simp only [zS,Nat.zero_add,Nat.reduceAdd,List.drop_nil] at HB8
  replace HB1:=HB1.keep k103 aH
  replace HB2:=HB2.keep k103 aH
  replace HPq:=HPq.keep k103 (by intro h;(try dsimp only at h);(try simp only [au] at h);first | omega)
  refine ct (U (O zd (aa (bP Z) (aa (ap zk Z (by first | exact HB8.pv | exact HPq | exact HB2.pv | exact HB1.pv | assumption) Z) ?_))))
  refine ah (cp (t:=dv) (et:=53) (bytes:=64) zk zq (aZ Z) (gu HS19 HS22 hg) ?_)
  rintro b9 w9 zb9 HO9 e9 z9
  have:=e9.size
  have zo_HO9:=fun (b:Nat) h=>HO9.own_lt (b:=b) h
  have htl2:(rs.take i ++ [r]).length=i + 1:=by rw [List.length_append,htl];rfl
  replace HOx:=(HOx.keep k103 (by intro i ho he;have he0:=he;have ho0:=ho;(try dsimp only [aP] at he);(try simp only [Value.ownBlock,Option.some.injEq,reduceCtorEq] at ho);(try simp only [Value.ownBlock,Option.some.injEq,reduceCtorEq] at he);first | exact he.elim | exact ho.elim | omega | (have:=zo_HOx _ ho0;omega)) (by intro i _ hi _ he;have he0:=he;have hi:=hi;have he:=he;(try dsimp only [aP,bj] at hi he);(try simp only [Value.ownBlock,Option.some.injEq,reduceCtorEq] at he);all_goals first | exact hi.elim | exact hi.1.elim | exact he.elim | omega | (rcases hi with hi | hi <;> omega) | (rcases he with he | he <;> omega))).ext e9
  have HOy:=HOx.mono (F':=fun b=>n0≤b) fun b _ h=>h.1
  have zo_HOy:=fun (b:Nat) h=>HOy.own_lt (b:=b) h
  have zo_HOy:=zo_HOx
  have HS32:bs dv _ (fun b=>n1≤b) _ [r]:=HO9.view.mono fun i _ hi=>hi.elim (fun h=>by omega) (fun h=>by have:=h.1;(try dsimp only at this);omega)
  refine ah (cv (et:=53) (bytes:=64) zk (bI Z) HOy (bI Z) HS32 (lf fun b hb hb2=>⟨by omega,fun ho=>by have:=zo_HOx _ ho;omega⟩) (by first | omega | (simp;done) | (simp;omega)) (by simp only [maxLen];first | omega | (simp;done) | (simp;omega)) zo ?_)
  rintro a9 n9 c9 w9 HO19 hn9 k9 h9 i9
  have:=k9.size
  replace E:=(((E.trans e8.keep).step k102 bi).step k103 bi).trans e9.keep
  replace EL1:=(((EL1.trans e8.keep).step k102 bi).step k103 bi).trans e9.keep
  replace HSr:=(HSr.keep k103 aC).ext e9
  replace HSm:=(HSm.keep k103 aC).ext e9
  replace HSf:=(HSf.keep k103 aC).ext e9
  replace HSt:=(HSt.keep k103 aC).ext e9
  obtain rfl:n9=i + 1:=hn9.trans htl2
  have htk:rs.take i ++ [r]=rs.take (i + 1):=by rw [List.take_add_one,hx];rfl
  rw [htk] at HO19
  have zo_HO19:=fun (b:Nat) h=>HO19.own_lt (b:=b) h
  refine aa (cF Z) (ac (bE (U (O zd (aa (cn Z Z (by first | exact bn zo zo | rfl)) ?_)))))
  replace HB1:=(HB1.ext e9).keep k9 (by intro h;have he0:=h;(try dsimp only at h);(try simp only [Value.ownBlock,Option.some.injEq] at h);first | omega | (have:=(HOy).own_lt he0;omega) | (have:=zo_HOy _ he0;omega))
  replace HB2:=(HB2.ext e9).keep k9 (by intro h;have he0:=h;(try dsimp only at h);(try simp only [Value.ownBlock,Option.some.injEq] at h);first | omega | (have:=(HOy).own_lt he0;omega) | (have:=zo_HOy _ he0;omega))
  replace HPq:=HPq.ext e9
  replace HB8:=HB8.ext e9
  replace HS19:=HS19.ext e9
  replace HS22:=HS22.ext e9
  replace E:=E.step k9 (by intro i hi he;have he0:=he;(try dsimp only [aP] at hi he ⊢);(try simp only [Value.ownBlock,Option.some.injEq] at he);first | exact he.elim | omega | exact he | (have:=(HOy).own_lt he0;omega) | (have:=zo_HOy _ he0;omega) | (have:=(HOy).own_lt he0;rcases hi with hi | hi <;> omega))
  replace HSr:=HSr.keep k9 (by intro i _ hi he;have he0:=he;(try dsimp only [aP,bj] at hi he);(try simp only [Value.ownBlock,Option.some.injEq] at he);first | exact hi.elim | exact he.elim | omega | (rcases hi with hi | hi <;> omega) | (rcases he with he | he <;> omega) | (have:=(HOy).own_lt he0;omega) | (have:=zo_HOy _ he0;omega) | (have:=(HOy).own_lt he0;rcases hi with hi | hi <;> omega))
  replace HSm:=HSm.keep k9 (by intro i _ hi he;have he0:=he;(try dsimp only [aP,bj] at hi he);(try simp only [Value.ownBlock,Option.some.injEq] at he);first | exact hi.elim | exact he.elim | omega | (rcases hi with hi | hi <;> omega) | (rcases he with he | he <;> omega) | (have:=(HOy).own_lt he0;omega) | (have:=zo_HOy _ he0;omega) | (have:=(HOy).own_lt he0;rcases hi with hi | hi <;> omega))
  replace EL1:=EL1.step k9 (by intro i hi he;have he0:=he;(try dsimp only [aP] at hi he ⊢);(try simp only [Value.ownBlock,Option.some.injEq] at he);first | exact he.elim | omega | exact he | (have:=(HOy).own_lt he0;omega) | (have:=zo_HOy _ he0;omega) | (have:=(HOy).own_lt he0;rcases hi with hi | hi <;> omega))
  replace HO9:=HO9.keep k9 (by intro i ho he;have he0:=he;have ho0:=ho;(try dsimp only [aP] at he);(try simp only [Value.ownBlock,Option.some.injEq,reduceCtorEq] at ho);(try simp only [Value.ownBlock,Option.some.injEq,reduceCtorEq] at he);first | exact he.elim | exact ho.elim | omega | (have:=zo_HO9 _ ho0;omega) | (have:=(HOy).own_lt he0;omega) | (have:=zo_HOy _ he0;omega) | (have:=zo_HO9 _ ho0;have:=(HOy).own_lt he0;omega)) (by intro i _ hi _ he;have he0:=he;have hi:=hi;have he:=he;(try dsimp only [aP,bj] at hi he);(try simp only [Value.ownBlock,Option.some.injEq,reduceCtorEq] at he);all_goals first | exact hi.elim | exact hi.1.elim | exact he.elim | omega | (rcases hi with hi | hi <;> omega) | (rcases he with he | he <;> omega) | (have:=(HOy).own_lt he0;omega) | (have:=zo_HOy _ he0;omega) | (have:=(HOy).own_lt he0;rcases hi with hi | hi <;> omega))
  refine aa (aQ Z) (ac (U (⟨(i + 1,a9,c9),_,rfl,by (repeat (first | exact cD.of_over _ _ _ | refine cD.upd ?_ zq _ | refine cD.overs ?_ zq _)),⟨by first | rfl | exact congrArg (Value.int _) zo | (simp;done),by first | rfl | exact congrArg (Value.int _) zo | (simp;done),trivial⟩,⟨E,EL1,?_⟩,?_⟩)))
  ·
   exact ⟨by omega,HO19.mono fun b hb h=>⟨h,hb⟩⟩
  (dsimp only;omega)
 have hi:i=rs.length:=by have:=bf hlt;omega
 subst hi
 rw [List.take_length] at HOx
 have HSq:=HOx.view
 replace HSq:=HSq.mono (F':=fun b=>n0≤b∧b < w101.heap.size) fun b hb h=>⟨by rcases h with h | h <;> omega,hb⟩
 obtain ⟨n2,hn2'⟩:∃ n,n=w101.heap.size:=⟨_,rfl⟩
 rw [← hn2'] at HSq
 refine cl (bm (bm (cV (U (V (O zd (aa (bP Z) (aa (aA 0 24 Z) (aa (aA 1 22 Z) ?_)))))))))
 refine ah (aR (i:=1) Z Z (bI Z) Z zk HB1 bV ?_)
 rintro w104 HB1 k104 z104
 have:=k104.size
 try simp only [au] at k104
 try simp only [au] at HB1
 try simp only [zS,Nat.zero_add,Nat.reduceAdd,List.drop_nil] at HB1
 refine ac (U (V (O zd (aa (ad Z) (ac (U (V (V (O zd ?_)))))))))
 replace HB2:=HB2.keep k104 aH
 refine aa (aA 3 25 Z) (aa (ag zk Z (by first | exact HB2.pv 3 _ rfl | exact HB1.pv 3 _ rfl | assumption)) ?_)
 refine aa (ba (et:=55) zk Z) ?_
 replace E:=E.step k104 bi
 refine aa (be Z) (ac (U (aO (cy (τ:=Nat × Option Addr × Nat) [6,8,36,37,38,39,40,41,42,43,44,45,46,47,48] (fun (i,a5,c5)=>[(6,.slice a5 i c5),(36,.int .i64 i)]) (fun (i,a5,c5) W=>aX w W∧ao (fun b=>n2≤b) w104 W∧i≤ms.length∧ck eQ 55 W n2 (fun b=>n2≤b∧b < W.heap.size) (.slice a5 i c5) (ms.take i)) (fun (i,a5,c5)=>ms.length - i) (0,none,0) (by exact ⟨rfl,rfl,trivial⟩) (by exact ⟨E,ao.refl _,Nat.zero_le _,ck.nil _ _ _ _ _⟩) ?_))))
 replace HSm:=HSm.keep k104 aC
 replace HSq:=HSq.keep k104 aC
 rintro ⟨i,a5,c5⟩ w105 j ⟨E,EL2,h1,HOx⟩
 have:=EL2.size
 have zo_HOx:=fun (b:Nat) h=>HOx.own_lt (b:=b) h
 refine V (O zd (aa (bw Z Z) ?_))
 replace HSm:=HSm.keep EL2 aC
 replace HB1:=HB1.keep EL2 aH
 replace HB2:=HB2.keep EL2 aH
 replace HSq:=HSq.keep EL2 aC
 refine ac (U (V (am Z Z (fun hlt=>?_) (fun hlt=>?_))))
 ·
  have hlt:=bl hlt
  have htl:(ms.take i).length=i:=by rw [List.length_take];omega
  obtain ⟨r,hx,_⟩:=eC (l:=ms) (i:=i) zo
  obtain ⟨hl1,hl3⟩:=hl2 r (List.mem_of_getElem? hx)
  obtain ⟨n1,hn1'⟩:∃ n,n=w105.heap.size:=⟨_,rfl⟩
  refine ar (U (V (aO (V (O zd (ah (ed (et:=55) zk zk (bI Z) HSm (bB Z) Z hx ?_)))))))
  rintro q cs hF HPq hr
  have HG2:aY eQ _ _ _ r:=⟨cs,rfl,hr⟩
  obtain ⟨b3,d3,b5,d5,rfl,_,_,i1,i2,i3⟩:=cR hr
  have HG3:=aY.maMv HG2
  refine aa (ap zk Z (by first | exact HPq | exact HB2.pv | exact HB1.pv | assumption) Z) ?_
  refine ah (aD (z:=(.agg #[.int .i64 0,.slice none 0 0,.slice none 0 0,.bool false,.int .i64 0,.int .i64 0,.bool false])) (by unfold aE;kernel_rfl) ?_)
  rintro b8 w8 zb8 HB8 e8 z8
  have:=e8.size
  try simp only [Value.cells] at HB8
  refine ah (aq (n:=7) Z Z (aZ Z) zk Z cT HB8 bV ?_)
  rintro w106 HB8 k106 z106
  have:=k106.size
  try simp only [zS,Nat.zero_add,Nat.reduceAdd,List.drop_nil] at HB8
  replace HB1:=(HB1.ext e8).keep k106 aH
  replace HB2:=(HB2.ext e8).keep k106 aH
  replace HPq:=(HPq.ext e8).keep k106 (by intro h;(try dsimp only at h);(try simp only [au] at h);first | omega)
  refine ac (U (V (O zd (aa (aA 0 46 Z) (aa (ap zk Z (by first | exact (show Pv _ _ [_,_,_,_,_,_] from aN 0 6 HB8.pv) | exact (show Pv _ _ [_,_,_,_,_,_] from aN 0 6 HPq) | exact (show Pv _ _ [_,_,_,_,_,_] from aN 0 6 HB2.pv) | exact (show Pv _ _ [_,_,_,_,_,_] from aN 0 6 HB1.pv) | exact bg 0 HB8.pv | exact bg 0 HPq | exact bg 0 HB2.pv | exact bg 0 HB1.pv | exact HPq | assumption) Z) ?_)))))
  replace HG3:=(HG3.ext e8).keep k106 aC
  refine ah (av zk (aZ Z) (ae.mono (kN HG3 zo zo) ?_))
  rintro v42 w42 ⟨HG42,e42⟩
  have:=e42.size
  obtain ⟨a19,c19,a22,c22,rfl,HS19,HS22,j1,j2,j3⟩:=aY.mv HG42
  replace HB8:=HB8.ext e42
  refine aa (aA 0 46 Z) (ah (aq (n:=6) Z Z (aZ Z) zk Z cT HB8 bV ?_))
  rintro w107 HB8 k107 z107
  have:=k107.size
  try simp only [zS,Nat.zero_add,Nat.reduceAdd,List.drop_nil] at HB8
  replace HB1:=(HB1.ext e42).keep k107 aH
  replace HB2:=(HB2.ext e42).keep k107 aH
  replace HPq:=(HPq.ext e42).keep k107 (by intro h;(try dsimp only at h);(try simp only [au] at h);first | omega)
  refine ac (U (O zd (aa (bP Z) (aa (ap zk Z (by first | exact HB8.pv | exact HPq | exact HB2.pv | exact HB1.pv | assumption) Z) ?_))))
  replace HS19:=HS19.keep k107 aC
  replace HS22:=HS22.keep k107 aC
  refine ah (cp (t:=eQ) (et:=55) (bytes:=88) zk zq (aZ Z) (lN (HS19.mono (F':=fun b=>n1≤b) fun b _ h=>by have:=h.1;omega) (HS22.mono (F':=fun b=>n1≤b) fun b _ h=>by have:=h.1;omega) j1 j2 j3) ?_)
  rintro b9 w9 zb9 HO9 e9 z9
  have:=e9.size
  have zo_HO9:=fun (b:Nat) h=>HO9.own_lt (b:=b) h
  have htl2:(ms.take i ++ [r]).length=i + 1:=by rw [List.length_append,htl];rfl
  replace HOx:=((((HOx.ext e8).keep k106 (by intro i ho he;have he0:=he;have ho0:=ho;(try dsimp only [aP] at he);(try simp only [Value.ownBlock,Option.some.injEq,reduceCtorEq] at ho);(try simp only [Value.ownBlock,Option.some.injEq,reduceCtorEq] at he);first | exact he.elim | exact ho.elim | omega | (have:=zo_HOx _ ho0;omega)) (by intro i _ hi _ he;have he0:=he;have hi:=hi;have he:=he;(try dsimp only [aP,bj] at hi he);(try simp only [Value.ownBlock,Option.some.injEq,reduceCtorEq] at he);all_goals first | exact hi.elim | exact hi.1.elim | exact he.elim | omega | (rcases hi with hi | hi <;> omega) | (rcases he with he | he <;> omega))).ext e42).keep k107 (by intro i ho he;have he0:=he;have ho0:=ho;(try dsimp only [aP] at he);(try simp only [Value.ownBlock,Option.some.injEq,reduceCtorEq] at ho);(try simp only [Value.ownBlock,Option.some.injEq,reduceCtorEq] at he);first | exact he.elim | exact ho.elim | omega | (have:=zo_HOx _ ho0;omega)) (by intro i _ hi _ he;have he0:=he;have hi:=hi;have he:=he;(try dsimp only [aP,bj] at hi he);(try simp only [Value.ownBlock,Option.some.injEq,reduceCtorEq] at he);all_goals first | exact hi.elim | exact hi.1.elim | exact he.elim | omega | (rcases hi with hi | hi <;> omega) | (rcases he with he | he <;> omega))).ext e9
  have HOy:=HOx.mono (F':=fun b=>n2≤b) fun b _ h=>h.1
  have zo_HOy:=fun (b:Nat) h=>HOy.own_lt (b:=b) h
  have zo_HOy:=zo_HOx
  have HS32:bs eQ _ (fun b=>n1≤b) _ [r]:=HO9.view.mono fun i _ hi=>hi.elim (fun h=>by omega) (fun h=>by have:=h.1;(try dsimp only at this);omega)
  refine ah (cv (et:=55) (bytes:=88) zk (bI Z) HOy (bI Z) HS32 (lf fun b hb hb2=>⟨by omega,fun ho=>by have:=zo_HOx _ ho;omega⟩) (by first | omega | (simp;done) | (simp;omega)) (by simp only [maxLen];first | omega | (simp;done) | (simp;omega)) zo ?_)
  rintro a9 n9 c9 w9 HO19 hn9 k9 h9 i9
  have:=k9.size
  replace E:=((((E.trans e8.keep).step k106 bi).trans e42.keep).step k107 bi).trans e9.keep
  replace HSm:=((((HSm.ext e8).keep k106 aC).ext e42).keep k107 aC).ext e9
  replace HSq:=((((HSq.ext e8).keep k106 aC).ext e42).keep k107 aC).ext e9
  replace EL2:=((((EL2.trans e8.keep).step k106 bi).trans e42.keep).step k107 bi).trans e9.keep
  replace HG2:=((((HG2.ext e8).keep k106 aC).ext e42).keep k107 aC).ext e9
  replace HG3:=((HG3.ext e42).keep k107 aC).ext e9
  replace HG42:=(HG42.keep k107 aC).ext e9
  obtain rfl:n9=i + 1:=hn9.trans htl2
  have htk:ms.take i ++ [r]=ms.take (i + 1):=by rw [List.take_add_one,hx];rfl
  rw [htk] at HO19
  have zo_HO19:=fun (b:Nat) h=>HO19.own_lt (b:=b) h
  refine aa (cF Z) (ac (bE (U (O zd (aa (cn Z Z (by first | exact bn zo zo | rfl)) ?_)))))
  replace HB1:=(HB1.ext e9).keep k9 (by intro h;have he0:=h;(try dsimp only at h);(try simp only [Value.ownBlock,Option.some.injEq] at h);first | omega | (have:=(HOy).own_lt he0;omega) | (have:=zo_HOy _ he0;omega))
  replace HB2:=(HB2.ext e9).keep k9 (by intro h;have he0:=h;(try dsimp only at h);(try simp only [Value.ownBlock,Option.some.injEq] at h);first | omega | (have:=(HOy).own_lt he0;omega) | (have:=zo_HOy _ he0;omega))
  replace HPq:=HPq.ext e9
  replace HB8:=HB8.ext e9
  replace HS19:=HS19.ext e9
  replace HS22:=HS22.ext e9
  replace E:=E.step k9 (by intro i hi he;have he0:=he;(try dsimp only [aP] at hi he ⊢);(try simp only [Value.ownBlock,Option.some.injEq] at he);first | exact he.elim | omega | exact he | (have:=(HOy).own_lt he0;omega) | (have:=zo_HOy _ he0;omega) | (have:=(HOy).own_lt he0;rcases hi with hi | hi <;> omega))
  replace HSm:=HSm.keep k9 (by intro i _ hi he;have he0:=he;(try dsimp only [aP,bj] at hi he);(try simp only [Value.ownBlock,Option.some.injEq] at he);first | exact hi.elim | exact he.elim | omega | (rcases hi with hi | hi <;> omega) | (rcases he with he | he <;> omega) | (have:=(HOy).own_lt he0;omega) | (have:=zo_HOy _ he0;omega) | (have:=(HOy).own_lt he0;rcases hi with hi | hi <;> omega))
  replace HSq:=HSq.keep k9 (by intro i _ hi he;have he0:=he;(try dsimp only [aP,bj] at hi he);(try simp only [Value.ownBlock,Option.some.injEq] at he);first | exact hi.elim | exact he.elim | omega | (rcases hi with hi | hi <;> omega) | (rcases he with he | he <;> omega) | (have:=(HOy).own_lt he0;omega) | (have:=zo_HOy _ he0;omega) | (have:=(HOy).own_lt he0;rcases hi with hi | hi <;> omega))
  replace EL2:=EL2.step k9 (by intro i hi he;have he0:=he;(try dsimp only [aP] at hi he ⊢);(try simp only [Value.ownBlock,Option.some.injEq] at he);first | exact he.elim | omega | exact he | (have:=(HOy).own_lt he0;omega) | (have:=zo_HOy _ he0;omega) | (have:=(HOy).own_lt he0;rcases hi with hi | hi <;> omega))
  replace HO9:=HO9.keep k9 (by intro i ho he;have he0:=he;have ho0:=ho;(try dsimp only [aP] at he);(try simp only [Value.ownBlock,Option.some.injEq,reduceCtorEq] at ho);(try simp only [Value.ownBlock,Option.some.injEq,reduceCtorEq] at he);first | exact he.elim | exact ho.elim | omega | (have:=zo_HO9 _ ho0;omega) | (have:=(HOy).own_lt he0;omega) | (have:=zo_HOy _ he0;omega) | (have:=zo_HO9 _ ho0;have:=(HOy).own_lt he0;omega)) (by intro i _ hi _ he;have he0:=he;have hi:=hi;have he:=he;(try dsimp only [aP,bj] at hi he);(try simp only [Value.ownBlock,Option.some.injEq,reduceCtorEq] at he);all_goals first | exact hi.elim | exact hi.1.elim | exact he.elim | omega | (rcases hi with hi | hi <;> omega) | (rcases he with he | he <;> omega) | (have:=(HOy).own_lt he0;omega) | (have:=zo_HOy _ he0;omega) | (have:=(HOy).own_lt he0;rcases hi with hi | hi <;> omega))
  refine aa (aQ Z) (ac (U (⟨(i + 1,a9,c9),_,rfl,by (repeat (first | exact cD.of_over _ _ _ | refine cD.upd ?_ zq _ | refine cD.overs ?_ zq _)),⟨by first | rfl | exact congrArg (Value.int _) zo | (simp;done),by first | rfl | exact congrArg (Value.int _) zo | (simp;done),trivial⟩,⟨E,EL2,?_⟩,?_⟩)))
  ·
   exact ⟨by omega,HO19.mono fun b hb h=>⟨h,hb⟩⟩
  (dsimp only;omega)
 have hi:i=ms.length:=by have:=bf hlt;omega
 subst hi
 rw [List.take_length] at HOx
 refine cl (bm (bm (cV (U (V (O zd (aa (bP Z) (aa (aA 3 25 Z) (ah (aR Z Z (bI Z) Z zk HB1 bV ?_))))))))))
 rintro w108 HB1 k108 z108
 have:=k108.size
 try simp only [zS,Nat.zero_add,Nat.reduceAdd,List.drop_nil] at HB1
 replace HB2:=HB2.keep k108 aH
 refine ac (U (V (O zd (aa (ap zk Z (by first | exact HB2.pv | exact HB1.pv | assumption) Z) ?_))))
 refine ah (aq (n:=4) Z Z (aZ Z) zk Z cT HB2 bV ?_)
 rintro w109 HB2 k109 z109
 have:=k109.size
 try simp only [zS,Nat.zero_add,Nat.reduceAdd,List.drop_nil] at HB2
 refine ac (U (aw (jD (n:=4) Z zq Z zk HB2.pv Z ?_)))
 replace E:=(E.step k108 bi).step k109 bi
 replace HSq:=(HSq.keep k108 aC).keep k109 aC
 replace HOx:=(HOx.keep k108 (by intro i ho he;have he0:=he;have ho0:=ho;(try dsimp only [aP] at he);(try simp only [Value.ownBlock,Option.some.injEq,reduceCtorEq] at ho);(try simp only [Value.ownBlock,Option.some.injEq,reduceCtorEq] at he);first | exact he.elim | exact ho.elim | omega | (have:=zo_HOx _ ho0;omega)) (by intro i _ hi _ he;have he0:=he;have hi:=hi;have he:=he;(try dsimp only [aP,bj] at hi he);(try simp only [Value.ownBlock,Option.some.injEq,reduceCtorEq] at he);all_goals first | exact hi.elim | exact hi.1.elim | exact he.elim | omega | (rcases hi with hi | hi <;> omega) | (rcases he with he | he <;> omega))).keep k109 (by intro i ho he;have he0:=he;have ho0:=ho;(try dsimp only [aP] at he);(try simp only [Value.ownBlock,Option.some.injEq,reduceCtorEq] at ho);(try simp only [Value.ownBlock,Option.some.injEq,reduceCtorEq] at he);first | exact he.elim | exact ho.elim | omega | (have:=zo_HOx _ ho0;omega)) (by intro i _ hi _ he;have he0:=he;have hi:=hi;have he:=he;(try dsimp only [aP,bj] at hi he);(try simp only [Value.ownBlock,Option.some.injEq,reduceCtorEq] at he);all_goals first | exact hi.elim | exact hi.1.elim | exact he.elim | omega | (rcases hi with hi | hi <;> omega) | (rcases he with he | he <;> omega))
 exact ⟨⟨n2,_,_,_,_,by omega,by omega,rfl,HSq.mono fun b _ h=>⟨by have:=h.1;omega,h.2⟩,HOx.mono fun b hb h=>⟨h.1,hb⟩⟩,E⟩
theorem tK {w:World} {F:Nat→Prop} {B b n cap i:Nat} {xs:List fy} (HOx:ck eQ 55 w B F (.slice (some ⟨b,0,none⟩) n cap) xs) (hn:n=xs.length) (hi:i < xs.length):ae Tryz.prog 93 #[.slice (some ⟨b,0,none⟩) n cap,.int .i64 i,.int .i64 (i + 1)] w (fun o w'=>o=.slice (some ⟨b,0,none⟩) (n - 1) cap∧ck eQ 55 w' B F o (xs.eraseIdx i)∧ao (fun q=>q=b) w w'):=by
 subst hn
 have hcap:=ck.cap HOx
 refine aL 33 Tryz.func93 Z Z (by simp) ?_
 refine V ?_
 have E:=ao.refl (K:=fun q=>q=b) w
 have zo_HOx:=fun (b:Nat) h=>HOx.own_lt (b:=b) h
 refine O zd (aa (ad Z) (ac (U (V (O zd (aa (bP Z) (aa (aQ Z) (aa (aQ Z) (aa (bP Z) ?_)))))))))
 refine aa (ba (et:=55) zk Z) ?_
 refine aa (qQ (et:=55) (sz:=7) (l:=i) (h:=i + 1) (m:=xs.length) zk zk Z Z Z Z zo zo zo) ?_
 refine ac (U (V (V (O zd (aa (aQ Z) (aa (aQ Z) (aa (aJ Z Z) ?_)))))))
 refine ac (U (am Z Z (fun hc=>?_) (fun hc=>?_)))
 ·
  exact absurd (bl hc) zo
 refine ar (U (V (O zd (aa (bP Z) (aa (ba (et:=55) zk Z) ?_)))))
 refine aa (bO Z) (ac (U (V (cN zk ?_))))
 have e101:aX w { w with drawn:=w.drawn + 1 }:=ao.drawn _ _
 generalize hw101:({ w with drawn:=w.drawn + 1 }:World)=w101 at e101 ⊢
 clear hw101
 have:=e101.size
 refine bT 6 Z zd zd zd ?_
 refine cf (aP) zd zd ?_
 refine aB (fun ab w hR hd=>bP Z) ?_
 refine aB (fun ab w hR hd=>aQ Z) ?_
 refine aB (fun ab w hR hd=>eZ (et:=55) (sz:=7) (h:=i) zk zk (hd 0 Z) (hd 1 Z) (by first | rfl | omega) zo) ?_
 refine aB (fun ab w hR hd=>bP Z) ?_
 refine aB (fun ab w hR hd=>aQ Z) ?_
 refine aB (fun ab w hR hd=>jo (et:=55) (sz:=7) (l:=i + 1) (h:=xs.length) zk zk (hd 3 Z) ⟨.i64,((hd 4 Z)).trans (congrArg (Value.int _) zo)⟩ Z zo zo) ?_
 refine bU (fun w102 e102=>?_)
 rintro _ rfl _ rfl _ rfl _ rfl _ rfl _ rfl
 have:=e102.size
 refine bG (U (bT 1 Z zd zd zd ?_))
 refine bZ zd Z ?_
 replace HOx:=(HOx.ext e101).ext e102
 refine ah (qU (et:=55) (bytes:=88) (i:=i) zk Z HOx zo Z ?_)
 rintro w5 HO5 k5 z5
 have:=k5.size
 have zo_HO5:=fun (b:Nat) h=>HO5.own_lt (b:=b) h
 refine ac (U (bZ zd Z ?_))
 refine aa (cF Z) (ac (U (V (O zd (aa (bP Z) (aa (bP Z) (aa (ba (et:=55) zk Z) ?_)))))))
 refine aa (aQ Z) (aa (jo (et:=55) (sz:=7) (l:=xs.length - 1) (h:=xs.length) zk zk Z ⟨.i64,((show _=Value.int _ _ from Z)).trans (congrArg (Value.int _) zo)⟩ ⟨.i64,((show _=Value.int _ _ from Z)).trans (congrArg (Value.int _) zo)⟩ zo zo) ?_)
 refine ah (se (et:=55) (bytes:=88) (j:=xs.length - 1) zk HO5 (by first | rfl | exact (List.length_eraseIdx_of_lt (by assumption)).symm) zo zo zo Z (fun z hz=>by have:z=.agg #[.int .i64 0,.slice none 0 0,.slice none 0 0,.bool false,.int .i64 0,.int .i64 0,.bool false]:=Option.some.inj (hz.symm.trans (show _=some (Value.agg #[.int .i64 0,.slice none 0 0,.slice none 0 0,.bool false,.int .i64 0,.int .i64 0,.bool false]) from (by unfold aE;kernel_rfl:aE Tryz.prog 55 _)));subst this;simp [Value.cells,cL];exact ⟨rfl,rfl,rfl,rfl⟩) ?_)
 rintro w6 HO6 k6 z6
 have:=k6.size
 have zo_HO6:=fun (b:Nat) h=>HO6.own_lt (b:=b) h
 refine ac (U (V (O zd (aa (bP Z) (aa (cF Z) (ac (U (aw (aU Z zq (bI Z) ?_)))))))))
 replace E:=(((E.trans e101.keep).trans e102.keep).step k5 bi).step k6 bi
 exact ⟨rfl,HO6,E⟩
end Go.Proofs.YteehplloacefmaaGreat

/- Steps and lemmas for the walks. -/
import Derived.Test.YteehplloacefmaaGreatGe
import Derived.Test.YteehplloacefmaaGreatProg
set_option linter.unusedVariables false
set_option linter.unusedSimpArgs false
set_option maxRecDepth 100000
namespace Go.Proofs.YteehplloacefmaaGreat
open Go.Vc
theorem ip {w:World} {F G:Nat→Prop} {v u:Value} {x y:List UInt8} (HS1:Bv w F v x) (HS2:Bv w G u y):ae Tryz.prog 96 #[v,u] w (fun r w'=>r=.int .i64 (fm x y)∧aX w w'):=by
  obtain ⟨a1,c1,rfl⟩:=HS1.shape
  obtain ⟨a2,c2,rfl⟩:=HS2.shape
  refine aL 8 Tryz.func96 Z Z (by simp) ?_
  refine V ?_
  have E:=ao.refl (K:=aP) w
  replace HS1:=HS1.all
  replace HS2:=HS2.all
  refine O zd (aa (ad Z) (ac (U (V (O zd (aa (bP Z) (aa (bP Z) (aa (u3 ⟨_,rfl,zk,zk,zk,zk⟩ Z Z (by first | exact HS2 | exact HS1 | assumption) (by first | exact HS2 | exact HS1 | assumption)) ?_))))))))
  refine aa (bO Z) (ac (U (aw (aU Z zq (bB Z) ?_))))
  exact ⟨rfl,E⟩
theorem dI {w:World} {F G:Nat→Prop} {v u:Value} {x y:List UInt8} (HS1:Bv w F v x) (HS2:Bv w G u y):ae Tryz.prog 50 #[v,u] w (fun r w'=>r=.bool (decide (x=y))∧aX w w'):=by
  obtain ⟨a1,c1,rfl⟩:=HS1.shape
  obtain ⟨a2,c2,rfl⟩:=HS2.shape
  refine aL 10 Tryz.func50 Z Z (by simp) ?_
  refine V ?_
  have E:=ao.refl (K:=aP) w
  replace HS1:=HS1.all
  replace HS2:=HS2.all
  refine O zd (aa (ad Z) (ac (U (V (O zd (aa (bP Z) (aa (kW (et:=5) zk zk zk Z HS1) ?_)))))))
  refine aa (bP Z) (aa (kW (et:=5) zk zk zk Z HS2) ?_)
  refine aa (p7 Z Z) ?_
  refine aa (dl Z) (ac (U (aw (aU Z zq (cE Z) ?_))))
  exact ⟨rfl,E⟩
theorem iD {w:World} {F:Nat→Prop} {v:Value} {x:List UInt8} (HS1:Bv w F v x) (hl:x.length≤140737488355328):ae Tryz.prog 76 #[v] w (fun r w'=>ck cw 5 w' w.heap.size aP r x∧aX w w'):=by
 obtain ⟨a1,c1,rfl⟩:=HS1.shape
 have hmx:=HS1.max
 simp only [maxLen] at hmx
 refine aL 8 Tryz.func76 Z Z (by simp) ?_
 refine V ?_
 have E:=ao.refl (K:=aP) w
 replace HS1:=HS1.all
 refine O zd (aa (ad Z) (ac (U (V (V (O zd (aa (bP Z) (aa (lF (et:=5) zk Z Z) ?_))))))))
 refine ac (U (am Z Z (fun hc=>?_) (fun hc=>?_)))
 ·
  refine V (O zd (aa (ad Z) (ac (U (aw (ay (aU Z zq (bI Z) ?_)))))))
  have hn:a1=none:=by simpa using hc
  subst hn
  obtain ⟨a,c,hv,_,_,h3,_⟩:=HS1
  cases hv
  have:x=[]:=List.eq_nil_of_length_eq_zero (by have:=h3 rfl;omega)
  subst this
  exact ⟨ck.nil _ _ _ _ _,E⟩
 refine ar (U (V (O zd (ah (jp (t:=cw) (et:=5) (bytes:=1) zk ?_)))))
 rintro b2 w2 zb2 HO2 e2 z2
 have:=e2.size
 have zo_HO2:=fun (b:Nat) h=>HO2.own_lt (b:=b) h
 replace HS1:=HS1.ext e2
 refine aa (bP Z) (ah (cv (et:=5) (bytes:=1) zk (bI Z) HO2 (bI Z) HS1 (iy.to) (by first | omega | (simp;done) | (simp;omega)) (by simp only [maxLen];first | omega | (simp;done) | (simp;omega)) zo ?_))
 rintro a3 n3 c3 w3 HO3 hn3 k3 h3 i3
 have:=k3.size
 have zo_HO3:=fun (b:Nat) h=>HO3.own_lt (b:=b) h
 refine aa (cF Z) (ac (U (aw (aU Z zq (bI Z) ?_))))
 subst hn3
 replace E:=(E.trans e2.keep).step k3 (by intro i hi he;have he0:=he;(try dsimp only [aP] at hi he ⊢);(try simp only [Value.ownBlock,Option.some.injEq] at he);first | exact he.elim | omega | exact he | (have:=(HO2).own_lt he0;omega) | (have:=zo_HO2 _ he0;omega) | (have:=(HO2).own_lt he0;rcases hi with hi | hi <;> omega))
 exact ⟨HO3.base zo,E⟩
theorem wI {w:World} {F G:Nat→Prop} {v u:Value} {r:cO} {k:List UInt8} (HG1:aY dv w F v r) (HS2:Bv w G u k):ae Tryz.prog 81 #[v,u] w (fun o w'=>o=.bool (rz r k)∧aX w w'):=by
 obtain ⟨a1,c1,a2,c2,rfl,HSf,HSt,hg⟩:=HG1.rg
 obtain ⟨a3,c3,rfl⟩:=HS2.shape
 refine aL 22 Tryz.func81 Z Z (by simp) ?_
 refine V ?_
 have E:=ao.refl (K:=aP) w
 replace HSf:=HSf.all
 replace HSt:=HSt.all
 replace HS2:=HS2.all
 refine O zd (ah (aS (aZ Z) ?_))
 rintro b101 w101 zb101 HB101 e101 z101
 have:=e101.size
 try simp only [Value.cells] at HB101
 refine aa (ad Z) (ac (U (V (O zd (aa (bP Z) (aa (aA 0 28 Z) (aa (ag zk Z (by first | exact HB101.pv 0 _ rfl | assumption)) ?_)))))))
 replace HSf:=HSf.ext e101
 replace HS2:=HS2.ext e101
 refine ah (aW zk (bI Z) (bI Z) (ae.mono (ip HS2 HSf) ?_))
 rintro _ w5 ⟨rfl,e5⟩
 have:=e5.size
 refine aa (fc Z Z) ?_
 refine aa (bH Z) (aj Z Z (fun hG=>aA 2 4 Z) ?_)
 replace HB101:=HB101.ext e5
 refine aj Z Z (fun hG=>ag zk (gd hG Z) (by first | exact HB101.pv 2 _ rfl | assumption)) ?_
 refine aj Z Z (fun hG=>cg (gd hG Z)) ?_
 refine aj Z Z (fun hG=>be (t:=.bool _) (gd hG Z)) ?_
 refine gX Z Z (fun hG=>bP Z) ?_
 refine gX Z Z (fun hG=>aA 1 28 Z) ?_
 refine gX Z Z (fun hG=>ag zk (gd hG Z) (by first | exact HB101.pv 1 _ rfl | assumption)) ?_
 replace HSt:=(HSt.ext e101).ext e5
 replace HS2:=HS2.ext e5
 refine sS Z Z (fun hG=>aW zk (gd hG Z) (gd hG Z) (ip HS2 HSt)) ?_
 rintro w6 e6
 have:=e6.size
 refine gX Z Z (fun hG=>bw (gd hG Z) Z) ?_
 refine aj Z Z (fun hG=>bF (gd hG Z) (sY hG Z)) ?_
 refine aa (bu Z Z) ?_
 refine aa (dl Z) (ac (U (aw (aU Z zq (cE Z) ?_))))
 replace E:=((E.trans e101.keep).trans e5.keep).trans e6.keep
 refine ⟨?_,E⟩
 rw [rz,← my,← tj]
 all_goals (cases decide (0≤fm k r.1) <;> cases r.2.2.1 <;> rfl)
theorem nW {w:World} {n:Int}:ae Tryz.prog 95 #[.int .i64 n] w (fun o w'=>o=.bool (dJ n)∧aX w w'):=by
  refine aL 9 Tryz.func95 Z Z (by simp) ?_
  refine V (O zd (aa (ad Z) (ac (U (V (O zd (aa (aQ Z) (aa (fc Z Z) ?_))))))))
  refine aa (bH Z) (aj Z Z (fun hG=>aQ Z) (aj Z Z (fun hG=>bw (gd hG Z) Z) ?_))
  refine aa (bu Z Z) ?_
  refine aa (dl Z) (ac (U (aw (ke Z zq ?_))))
  refine ⟨?_,ao.refl _⟩
  rw [dJ]
  all_goals (cases decide (1≤n) <;> rfl)
theorem uU {w:World} {F:Nat→Prop} {v:Value} {k:List UInt8} (HS1:Bv w F v k):ae Tryz.prog 85 #[v] w (fun o w'=>o=.bool (decide (1≤k.length) && decide (k.length≤24))∧aX w w'):=by
  obtain ⟨a3,c3,rfl⟩:=HS1.shape
  refine aL 11 Tryz.func85 Z Z (by simp) ?_
  refine V ?_
  have E:=ao.refl (K:=aP) w
  replace HS1:=HS1.all
  refine O zd (aa (ad Z) (ac (U (V (O zd (aa (bP Z) (aa (ba (et:=5) zk Z) ?_)))))))
  refine aa (fc Z Z) ?_
  refine aa (bH Z) (aj Z Z (fun hG=>bP Z) (aj Z Z (fun hG=>ba (et:=5) zk (gd hG Z)) ?_))
  refine aj Z Z (fun hG=>fT (gd hG Z) Z) ?_
  refine aa (bu Z Z) ?_
  refine aa (dl Z) (ac (U (aw (aU Z zq (cE Z) ?_))))
  refine ⟨?_,E⟩
  have e1:decide ((1:Int)≤(k.length:Int))=decide (1≤k.length):=decide_eq_decide.2 zo
  have e2:decide ((k.length:Int)≤24)=decide (k.length≤24):=decide_eq_decide.2 zo
  rw [← e1,← e2]
  all_goals (cases decide ((1:Int)≤(k.length:Int)) <;> rfl)
theorem qH {w:World} {F:Nat→Prop} {v:Value} {r:cO} (HG1:aY dv w F v r) (hl1:r.1.length≤140737488355328) (hl2:r.2.1.length≤140737488355328):ae Tryz.prog 82 #[v] w (fun o w'=>aY dv w' (fun b=>w.heap.size≤b) o r∧aX w w'):=by
 obtain ⟨a1,c1,a2,c2,rfl,HSf,HSt,hg⟩:=HG1.rg
 replace HSf:=HSf.all
 replace HSt:=HSt.all
 refine aL 12 Tryz.func82 Z Z (by simp) ?_
 refine V ?_
 have E:=ao.refl (K:=aP) w
 replace HSf:=HSf.all
 replace HSt:=HSt.all
 refine O zd (ah (aS (aZ Z) ?_))
 rintro b1 w1 zb1 HB1 e1 z1
 have:=e1.size
 try simp only [Value.cells] at HB1
 refine ah (aD (z:=(.agg #[.slice none 0 0,.slice none 0 0,.bool false,.int .i64 0])) (by unfold aE;kernel_rfl) ?_)
 rintro b2 w2 zb2 HB2 e2 z2
 have:=e2.size
 try simp only [Value.cells] at HB2
 replace HB1:=HB1.ext e2
 refine ac (U (V (eD (fun k=>k=b1) (ly b1 _ _ [(7,0,some 2,(undef:Value)),(9,1,some 5,(undef:Value))]) zk zd zd (fun ab done hd=>ly.start (HB1.ext (ao.drawn _ _)) (fun a ha=>hd a.1 (qb (n:=10) Z a ha))) ?_)))
 refine aI (fun done ab w hR hcl hdk hJ hdn hd=>aA 0 28 Z) (fun done ab w hdk hJ=>hJ.src (ao.refl _) hdk Z) ?_
 refine aI (fun done ab w hR hcl hdk hJ hdn hd=>ag zk (hd 0 Z) (by first | exact (HB2.keep hR aH).pv 0 _ rfl | exact (hJ.at0 hcl hdk ⟨_,_,rfl,rfl,by decide⟩).pv 0 _ rfl | assumption)) (fun done ab w hdk hJ=>hJ.src (ao.refl _) hdk Z) ?_
 replace HSf:=(HSf.ext e1).ext e2
 refine ka (fun v W=>Bv W (fun b=>b2 < b) v r.1) (fun v w w' h k=>h.keep k eU) (fun done ab w hR hcl hdk hJ hdn hd=>bx.mono (K:=fun v w1=>aX w w1∧(fun v W=>Bv W (fun b=>b2 < b) v r.1) v w1) (av zk (hd 1 Z) (ae.mono (iD (HSf.keep hR eU) hl1) fun v w1 ⟨h,e⟩=>⟨e,(h.fresh (Nat.le_refl _)).mono fun b _ hb=>by have:=hR.size;omega⟩)) fun v w1 h=>⟨aX.keep h.1,h.2,hJ.src h.1 hdk rfl⟩) ?_
 refine aI (fun done ab w hR hcl hdk hJ hdn hd=>aA 1 28 Z) (fun done ab w hdk hJ=>hJ.src (ao.refl _) hdk Z) ?_
 refine aI (fun done ab w hR hcl hdk hJ hdn hd=>ag zk (hd 3 Z) (by first | exact (HB2.keep hR aH).pv 1 _ rfl | exact (hJ.at0 hcl hdk ⟨_,_,rfl,rfl,by decide⟩).pv 1 _ rfl | assumption)) (fun done ab w hdk hJ=>hJ.src (ao.refl _) hdk Z) ?_
 replace HSt:=(HSt.ext e1).ext e2
 refine ka (fun v W=>Bv W (fun b=>b2 < b) v r.2.1) (fun v w w' h k=>h.keep k eU) (fun done ab w hR hcl hdk hJ hdn hd=>bx.mono (K:=fun v w1=>aX w w1∧(fun v W=>Bv W (fun b=>b2 < b) v r.2.1) v w1) (av zk (hd 4 Z) (ae.mono (iD (HSt.keep hR eU) hl2) fun v w1 ⟨h,e⟩=>⟨e,(h.fresh (Nat.le_refl _)).mono fun b _ hb=>by have:=hR.size;omega⟩)) fun v w1 h=>⟨aX.keep h.1,h.2,hJ.src h.1 hdk rfl⟩) ?_
 refine aI (fun done ab w hR hcl hdk hJ hdn hd=>aA 0 28 Z) (fun done ab w hdk hJ=>hJ.src (ao.refl _) hdk Z) ?_
 refine ea (fun done ab w hR hcl hdk hJ hdn hd=>aR (hd 6 Z) Z Z (by first | exact bs.one (hd 2 rfl) | exact bs.one (hd 2 rfl).1 | exact ck.one (hd 2 rfl) | exact ck.one (hd 2 rfl).1 | (have h:=hd 2 rfl;dsimp only [eS] at h;rw [h];rfl) | exact (hd 2 rfl).1 | (obtain ⟨_,h⟩:=hd 2 rfl;rw [h];rfl) | exact (congrArg Value.oneCell' (hd 2 rfl)).trans rfl) zk (hJ.at (n:=0) Z hdk (fun m h=>by cases h)) (by rw [fi];first | exact of_decide_eq_true rfl | (rw [hlen];exact of_decide_eq_true rfl)) (fun w1 hB k z=>⟨k,hJ.step (n:=0) rfl hdk (fun m h=>by cases h) (fun k h=>by cases h;exact hdn 2 rfl) (iw rfl) rfl hB⟩)) ?_
 refine aI (fun done ab w hR hcl hdk hJ hdn hd=>aA 1 28 Z) (fun done ab w hdk hJ=>hJ.src (ao.refl _) hdk Z) ?_
 refine ea (fun done ab w hR hcl hdk hJ hdn hd=>aR (hd 8 Z) Z Z (by first | exact bs.one (hd 5 rfl) | exact bs.one (hd 5 rfl).1 | exact ck.one (hd 5 rfl) | exact ck.one (hd 5 rfl).1 | (have h:=hd 5 rfl;dsimp only [eS] at h;rw [h];rfl) | exact (hd 5 rfl).1 | (obtain ⟨_,h⟩:=hd 5 rfl;rw [h];rfl) | exact (congrArg Value.oneCell' (hd 5 rfl)).trans rfl) zk (hJ.at (n:=1) Z hdk (fun m h=>⟨_,by cases h;rfl,hdn 7 rfl⟩)) (by rw [fi];first | exact of_decide_eq_true rfl | (rw [hlen];exact of_decide_eq_true rfl)) (fun w1 hB k z=>⟨k,hJ.step (n:=1) rfl hdk (fun m h=>⟨_,by cases h;rfl,hdn 7 rfl⟩) (fun k h=>by cases h;exact hdn 5 rfl) (iw rfl) rfl hB⟩)) ?_
 refine dq (fun ab w101 k101 J101=>?_)
 rintro _ - rfl _ - rfl v5 qs2 HS5 _ - rfl _ - rfl v8 qs5 HS8 _ - rfl _ - - _ - rfl _ - -
 have:=k101.size
 have HX101:=J101.fin
 obtain ⟨a5,c5,rfl⟩:=HS5.shape
 obtain ⟨a8,c8,rfl⟩:=HS8.shape
 simp only [fF,sv,← qs2,← qs5] at HX101
 replace HB1:=HX101
 clear HX101
 try simp only [zS,Nat.zero_add,Nat.reduceAdd,List.drop_nil] at HB1
 replace HB2:=HB2.keep k101 aH
 refine ct (U (V (O zd (aa (ap zk Z (by first | exact HB2.pv | exact HB1.pv | assumption) Z) ?_))))
 refine ah (aq (n:=4) Z Z (aZ Z) zk Z cT HB2 bV ?_)
 rintro w102 HB2 k102 z102
 have:=k102.size
 try simp only [zS,Nat.zero_add,Nat.reduceAdd,List.drop_nil] at HB2
 refine ac (U (aw (jD (n:=4) Z zq Z zk HB2.pv Z ?_)))
 replace E:=(((E.trans e1.keep).trans e2.keep).step k101 bi).step k102 bi
 replace HS5:=HS5.keep k102 aC
 replace HS8:=HS8.keep k102 aC
 exact ⟨aY.mkRg (HS5.mono fun b _ h=>by omega) (HS8.mono fun b _ h=>by omega) hg,E⟩
end Go.Proofs.YteehplloacefmaaGreat
namespace Go.Proofs.YteehplloacefmaaGreat
open Go.Vc
theorem rv {e:Int} {r0:cO} {l:List cO} (h:((((decide (e < 1) || decide (2147483647 < e)) || decide (((r0 :: l).length:Int) < 1)) || decide (16 < ((r0 :: l).length:Int))) || decide (0 < (r0.1.length:Int)))=true):cY (e,r0 :: l)=false:=by
  simp only [Bool.or_eq_true,decide_eq_true_eq] at h
  have:¬ (1≤e∧e≤2147483647∧1≤(r0 :: l).length∧(r0 :: l).length≤16∧r0.1=[]):=by
    rintro ⟨h1,h2,h3,h4,h5⟩
    rw [h5] at h
    simp only [List.length_nil] at h
    omega
  rw [← Bool.not_eq_true]
  intro hh
  simp only [cY,Bool.and_eq_true,decide_eq_true_eq,List.headD_cons] at hh
  exact this ⟨hh.1.1.1.1.1,hh.1.1.1.1.2,hh.1.1.1.2,hh.1.1.2,List.isEmpty_iff.1 hh.1.2⟩
theorem pI {e:Int} {r0:cO} {l:List cO} (h:((((decide (e < 1) || decide (2147483647 < e)) || decide (((r0 :: l).length:Int) < 1)) || decide (16 < ((r0 :: l).length:Int))) || decide (0 < (r0.1.length:Int)))=false):cY (e,r0 :: l)=fl (r0 :: l)∧(r0 :: l).length≤16:=by
  simp only [Bool.or_eq_false_iff,decide_eq_false_iff_not] at h
  have h5:r0.1=[]:=List.eq_nil_of_length_eq_zero zo
  have h1:decide (1≤e)=true:=decide_eq_true zo
  have h2:decide (e≤2147483647)=true:=decide_eq_true zo
  have h3:decide (1≤(r0 :: l).length)=true:=decide_eq_true zo
  have h4:decide ((r0 :: l).length≤16)=true:=decide_eq_true zo
  refine ⟨?_,by omega⟩
  unfold cY
  simp only [List.headD_cons]
  rw [h1,h2,h3,h4,h5];rfl
theorem sN {e:Int}:cY (e,[])=false:=by simp [cY]
theorem mL {w:World} {F:Nat→Prop} {v:Value} {e:Int} {rs:List cO} (HG1:aY li w F v (e,rs)):ae Tryz.prog 48 #[v] w (fun o w'=>o=.bool (cY (e,rs))∧aX w w'):=by
 obtain ⟨a,c,rfl,HSr,he⟩:=HG1.mp
 simp only at HSr he
 have hmx:=HSr.len_max
 rcases rs with _ | ⟨r0,l⟩
 ·
  refine aL 93 Tryz.func48 Z Z (by simp) ?_
  refine V ?_
  have E:=ao.refl (K:=aP) w
  replace HSr:=HSr.all
  refine O zd (ah (aS (aZ Z) ?_))
  rintro b101 w101 zb101 HB101 e101 z101
  have:=e101.size
  try simp only [Value.cells] at HB101
  refine aa (ad Z) (ac (U (V (V (O zd (aa (aA 0 2 Z) (aa (ag zk Z (by first | exact HB101.pv 0 _ rfl | assumption)) ?_)))))))
  refine aa (bw Z Z) ?_
  refine aa (bH Z) (aj Z Z (fun hG=>aA 0 2 Z) ?_)
  refine aj Z Z (fun hG=>ag zk (gd hG Z) (by first | exact HB101.pv 0 _ rfl | assumption)) ?_
  refine aj Z Z (fun hG=>bX (gd hG Z) Z) ?_
  refine aa (bF Z Z) ?_
  refine aa (bH Z) (aj Z Z (fun hG=>aA 1 22 Z) ?_)
  refine aj Z Z (fun hG=>ag zk (gd hG Z) (by first | exact HB101.pv 1 _ rfl | assumption)) ?_
  refine aj Z Z (fun hG=>ba (et:=53) zk (gd hG Z)) ?_
  refine aj Z Z (fun hG=>bw (gd hG Z) Z) ?_
  refine aa (bF Z Z) ?_
  refine aa (bH Z) (aj Z Z (fun hG=>aA 1 22 Z) ?_)
  refine aj Z Z (fun hG=>ag zk (gd hG Z) (by first | exact HB101.pv 1 _ rfl | assumption)) ?_
  refine aj Z Z (fun hG=>ba (et:=53) zk (gd hG Z)) ?_
  refine aj Z Z (fun hG=>bX (gd hG Z) Z) ?_
  refine aa (bF Z Z) ?_
  refine aa (bH Z) (aj Z Z (fun hG=>aA 1 22 Z) ?_)
  refine aj Z Z (fun hG=>ag zk (gd hG Z) (by first | exact HB101.pv 1 _ rfl | assumption)) ?_
  refine aj Z Z (fun hG=>show aG _ _ _ _ (undef) from False.elim ((by simp at hG))) ?_
  refine aj Z Z (fun hG=>show aG _ _ _ _ (undef) from False.elim ((by simp at hG))) ?_
  refine aj Z Z (fun hG=>show aG _ _ _ _ (undef) from False.elim ((by simp at hG))) ?_
  refine aj Z Z (fun hG=>show aG _ _ _ _ (undef) from False.elim ((by simp at hG))) ?_
  refine aj Z Z (fun hG=>show aG _ _ _ _ (.bool true) from False.elim ((by simp at hG))) ?_
  refine aa (bF Z Z) ?_
  replace E:=E.trans e101.keep
  replace HSr:=HSr.ext e101
  refine ac (U (am Z Z (fun hc=>?_) (fun hc=>?_)))
  ·
   refine V (O zd (aa (ad Z) (ac (U (aw (ay (aU Z zq (cE Z) ?_)))))))
   exact ⟨by rw [sN],E⟩
  simp at hc
 replace HSr:=HSr.all
 obtain ⟨q0,cs0,rfl,hq0,_,HP0,hr0⟩:=HSr.el (k:=0) rfl
 obtain ⟨b1,d1,b2,d2,rfl,HSf0,HSt0,hg0⟩:=bN hr0
 obtain ⟨rs,hrs⟩:∃ x,x=r0 :: l:=⟨_,rfl⟩
 refine aL 93 Tryz.func48 Z Z (by simp) ?_
 refine V ?_
 have E:=ao.refl (K:=aP) w
 replace HSr:=HSr.all
 refine O zd (ah (aS (aZ Z) ?_))
 rintro b101 w101 zb101 HB101 e101 z101
 have:=e101.size
 try simp only [Value.cells] at HB101
 replace HP0:=HP0.ext e101
 refine aa (ad Z) (ac (U (V (V (O zd (aa (aA 0 2 Z) (aa (ag zk Z (by first | exact HB101.pv 0 _ rfl | exact HP0 0 _ rfl | assumption)) ?_)))))))
 refine aa (bw Z Z) ?_
 refine aa (bH Z) (aj Z Z (fun hG=>aA 0 2 Z) ?_)
 refine aj Z Z (fun hG=>ag zk (gd hG Z) (by first | exact HB101.pv 0 _ rfl | exact HP0 0 _ rfl | assumption)) ?_
 refine aj Z Z (fun hG=>bX (gd hG Z) Z) ?_
 refine aa (bF Z Z) ?_
 refine aa (bH Z) (aj Z Z (fun hG=>aA 1 22 Z) ?_)
 refine aj Z Z (fun hG=>ag zk (gd hG Z) (by first | exact HB101.pv 1 _ rfl | exact HP0 1 _ rfl | exact aK HP0 | assumption)) ?_
 refine aj Z Z (fun hG=>ba (et:=53) zk (gd hG Z)) ?_
 refine aj Z Z (fun hG=>bw (gd hG Z) Z) ?_
 refine aa (bF Z Z) ?_
 refine aa (bH Z) (aj Z Z (fun hG=>aA 1 22 Z) ?_)
 refine aj Z Z (fun hG=>ag zk (gd hG Z) (by first | exact HB101.pv 1 _ rfl | exact HP0 1 _ rfl | exact aK HP0 | assumption)) ?_
 refine aj Z Z (fun hG=>ba (et:=53) zk (gd hG Z)) ?_
 refine aj Z Z (fun hG=>bX (gd hG Z) Z) ?_
 refine aa (bF Z Z) ?_
 refine aa (bH Z) (aj Z Z (fun hG=>aA 1 22 Z) ?_)
 refine aj Z Z (fun hG=>ag zk (gd hG Z) (by first | exact HB101.pv 1 _ rfl | exact HP0 1 _ rfl | exact aK HP0 | assumption)) ?_
 refine aj Z Z (fun hG=>aF (et:=53) (sz:=4) (k:=0) zk zk (gd hG Z) Z (by first | rfl | omega) (by simp)) ?_
 refine aj Z Z (fun hG=>aA 0 28 (gd hG Z)) ?_
 refine aj Z Z (fun hG=>ag zk (gd hG Z) (by first | exact HB101.pv 0 _ rfl | exact HP0 0 _ rfl | assumption)) ?_
 refine aj Z Z (fun hG=>ba (et:=5) zk (gd hG Z)) ?_
 refine aj Z Z (fun hG=>bX (gd hG Z) Z) ?_
 refine aa (bF Z Z) ?_
 replace E:=E.trans e101.keep
 replace HSr:=HSr.ext e101
 refine ac (U (am Z Z (fun hc=>?_) (fun hc=>?_)))
 ·
  refine V (O zd (aa (ad Z) (ac (U (aw (ay (aU Z zq (cE Z) ?_)))))))
  exact ⟨by rw [rv hc],E⟩
 obtain ⟨hm,h16⟩:=pI hc
 rw [← hrs] at *
 refine ar (U (V (V (O zd (aa (aA 1 22 Z) (aa (ag zk Z (by first | exact HB101.pv 1 _ rfl | assumption)) ?_))))))
 refine aa (ba (et:=53) zk Z) ?_
 refine aa (be Z) (ac (U (aO (cy (τ:=Nat) [2,3,4,5,38,39,40,41,42,43,44,45,46,47,48,49,50,51,52,53,54,55,56,57,58,59,60,61,62,63,64,65,66,67,68,69,70,71,72,73,74,75,76,77,78,79,80,81,82,83,84,85,86,87,88,89,90,91,92] (fun i=>[(38,.int .i64 i)]) (fun i W=>aX w W∧ao (aP) w101 W∧i≤rs.length∧fl rs=fl (rs.drop i)) (fun i=>rs.length - i) 0 (by exact ⟨rfl,trivial⟩) (by exact ⟨E,ao.refl _,Nat.zero_le _,by rw [List.drop_zero]⟩) ?_))))
 rintro i w102 j ⟨E,EL1,h1,h2⟩
 have:=EL1.size
 refine V (O zd (aa (bw Z Z) ?_))
 replace HSr:=HSr.ext EL1
 replace HB101:=HB101.ext EL1
 refine ac (U (V (am Z Z (fun hlt=>?_) (fun hlt=>?_))))
 ·
  have hlt:=bl hlt
  obtain ⟨r,hx,hdr⟩:=eC (l:=rs) (i:=i) zo
  rw [hdr] at h2
  refine ar (U (V (aO (V (O zd (aa (aQ Z) (ah (ed (et:=53) zk zk (bI Z) HSr (bB Z) Z hx ?_))))))))
  rintro q cs hF HPq hr
  obtain ⟨a1,c1,a2,c2,rfl,HSf,HSt,hg⟩:=bN hr
  refine aa (ap zk Z (by first | exact HPq | exact HB101.pv | assumption) Z) ?_
  refine ah (aD (z:=.agg #[.slice none 0 0,.slice none 0 0,.bool false,.int .i64 0]) (by unfold aE;kernel_rfl) ?_)
  rintro b103 w103 zb103 HB103 e103 z103
  have:=e103.size
  try simp only [Value.cells] at HB103
  refine aa (bO Z) (ah (aq (n:=4) Z Z (aZ Z) zk Z cT HB103 bV ?_))
  rintro w104 HB103 k104 z104
  have:=k104.size
  try simp only [zS,Nat.zero_add,Nat.reduceAdd,List.drop_nil] at HB103
  replace HB101:=(HB101.ext e103).keep k104 aH
  replace HPq:=(HPq.ext e103).keep k104 (by intro h;(try dsimp only at h);(try simp only [au] at h);first | omega)
  refine ac (U (V (O zd (aa (aQ Z) (aa (aA 1 22 Z) (aa (ag zk Z (by first | exact HB103.pv 1 _ rfl | exact HPq 1 _ rfl | exact aK HPq | exact HB101.pv 1 _ rfl | assumption)) ?_))))))
  refine aa (ba (et:=53) zk Z) ?_
  refine aa (iE Z Z (by first | exact bn zo zo | rfl)) ?_
  refine aa (aJ Z Z) ?_
  refine aa (dl Z) (ac (U (aO (V (O zd (aa (aA 3 3 Z) (aa (ag zk Z (by first | exact HB103.pv 3 _ rfl | exact HPq 3 _ rfl | exact aK HPq | exact HB101.pv 3 _ rfl | assumption)) ?_)))))))
  refine ah (av zk (bB Z) (ae.mono (nW) ?_))
  replace HSr:=(HSr.ext e103).keep k104 aC
  replace HSf:=(HSf.ext e103).keep k104 aC
  replace HSt:=(HSt.ext e103).keep k104 aC
  rintro _ w105 ⟨rfl,e105⟩
  have:=e105.size
  have hlast:decide ((i:Int)=(rs.length:Int) - 1)=decide (rs.drop (i + 1)=[]):=decide_eq_decide.2 (by rw [List.drop_eq_nil_iff];omega)
  rw [hlast]
  refine aa (cg Z) ?_
  refine aa (bH Z) (aj Z Z (fun hG=>aA 2 4 Z) ?_)
  replace HB101:=HB101.ext e105
  replace HPq:=HPq.ext e105
  replace HB103:=HB103.ext e105
  refine aj Z Z (fun hG=>ag zk (gd hG Z) (by first | exact HB103.pv 2 _ rfl | exact HPq 2 _ rfl | exact aK HPq | exact HB101.pv 2 _ rfl | assumption)) ?_
  refine aj Z Z (fun hG=>bH Z) (aj Z Z (fun hG=>nD zk (gd hG Z) (gd hG Z)) ?_)
  refine aa (bF Z Z) ?_
  replace E:=((E.trans e103.keep).step k104 bi).trans e105.keep
  replace EL1:=((EL1.trans e103.keep).step k104 bi).trans e105.keep
  replace HSr:=HSr.ext e105
  replace HSf:=HSf.ext e105
  replace HSt:=HSt.ext e105
  refine aa (dl Z) (ac (U (am Z Z (fun h49=>?_) (fun h49=>?_))))
  ·
   refine V (O zd (aa (ad Z) (ac (U (aw (bz (bz (ay (ay ?_)))))))))
   refine bz (ay (aU Z zq (cE Z) ?_))
   refine ⟨?_,E⟩
   rw [hm,h2]
   cases hd:rs.drop (i + 1) with
   | nil=>rw [hd] at h49;revert h49;simp only [fl];cases dJ r.2.2.2 <;> cases r.2.2.1 <;> simp
   | cons s l2=>rw [hd] at h49;revert h49;simp only [fl];cases dJ r.2.2.2 <;> cases r.2.2.1 <;> simp
  refine V (O zd (aa (bH Z) (aa (dl Z) (ac (U (am Z Z (fun hl=>?_) (fun hl=>?_)))))))
  ·
   refine V (O zd (aa (aA 1 28 Z) (aa (ag zk Z (by first | exact HB103.pv 1 _ rfl | exact HPq 1 _ rfl | exact aK HPq | exact HB101.pv 1 _ rfl | assumption)) ?_)))
   refine aa (ba (et:=5) zk Z) ?_
   refine aa (aJ Z Z) ?_
   refine aa (dl Z) (ac (U (aw (bz (bz (ay (ay (bz (ay ?_)))))))))
   refine aU Z zq (cE Z) ?_
   refine ⟨?_,E⟩
   have hd:=bl hl
   rw [hd] at h49 h2
   rw [hm,h2]
   rw [qv]
   revert h49
   simp only [fl]
   cases dJ r.2.2.2 <;> cases r.2.2.1 <;> simp
  have hnl:=bf hl
  have hlt2:i + 1 < rs.length:=by rw [List.drop_eq_nil_iff] at hnl;omega
  obtain ⟨s,hx2,hds⟩:=eC (l:=rs) (i:=i + 1) hlt2
  obtain ⟨q1,cs1,hq1,hF1,_,HPs,hrs1⟩:=HSr.el hx2
  cases hq1
  obtain ⟨a3,c3,a4,c4,rfl,HSsf,HSst,hgs⟩:=bN hrs1
  replace HSsf:=HSsf.all
  refine V (dx (aP) zk zd zd ?_)
  refine aB (fun ab w hR hd=>aA 1 28 Z) ?_
  refine aB (fun ab w hR hd=>ag zk (hd 0 Z) (by first | exact (HPs.ext hR) 1 _ rfl | exact aK (HPs.ext hR) | exact (HB103.ext hR).pv 1 _ rfl | exact (HPq.ext hR) 1 _ rfl | exact aK (HPq.ext hR) | exact (HB101.ext hR).pv 1 _ rfl | assumption)) ?_
  refine aB (fun ab w hR hd=>ba (et:=5) zk (hd 1 Z)) ?_
  refine aB (fun ab w hR hd=>bX (hd 2 Z) Z) ?_
  refine aB (fun ab w hR hd=>be (t:=.bool _) (hd 3 Z)) ?_
  refine bh Z (fun ab w hd=>hd 4 Z) (fun ab w hR hd hG=>aA 0 28 Z) ?_
  refine bh Z (fun ab w hd=>hd 4 Z) (fun ab w hR hd hG=>ag zk (gd hG (hd 5 Z)) (by first | exact (HPs.ext hR) 0 _ rfl | exact (HB103.ext hR).pv 0 _ rfl | exact (HPq.ext hR) 0 _ rfl | exact (HB101.ext hR).pv 0 _ rfl | assumption)) ?_
  refine bh Z (fun ab w hd=>hd 4 Z) (fun ab w hR hd hG=>aA 1 28 Z) ?_
  refine bh Z (fun ab w hd=>hd 4 Z) (fun ab w hR hd hG=>ag zk (gd hG (hd 7 Z)) (by first | exact (HPs.ext hR) 1 _ rfl | exact aK (HPs.ext hR) | exact (HB103.ext hR).pv 1 _ rfl | exact (HPq.ext hR) 1 _ rfl | exact aK (HPq.ext hR) | exact (HB101.ext hR).pv 1 _ rfl | assumption)) ?_
  refine gx Z (fun ab w hd=>hd 4 Z) (fun ab w hR hd hG=>aW zk (gd hG (hd 6 Z)) (gd hG (hd 8 Z)) (ip (HSf.ext hR) (HSt.ext hR))) ?_
  refine bh Z (fun ab w hd=>hd 4 Z) (fun ab w hR hd hG=>fc (gd hG (hd 9 Z)) Z) ?_
  refine aB (fun ab w hR hd=>bF (hd 4 Z) (hd 10 Z)) ?_
  refine aB (fun ab w hR hd=>be (t:=.bool _) (hd 11 Z)) ?_
  refine bh Z (fun ab w hd=>hd 12 Z) (fun ab w hR hd hG=>aA 1 28 Z) ?_
  refine bh Z (fun ab w hd=>hd 12 Z) (fun ab w hR hd hG=>ag zk (gd hG (hd 13 Z)) (by first | exact (HPs.ext hR) 1 _ rfl | exact aK (HPs.ext hR) | exact (HB103.ext hR).pv 1 _ rfl | exact (HPq.ext hR) 1 _ rfl | exact aK (HPq.ext hR) | exact (HB101.ext hR).pv 1 _ rfl | assumption)) ?_
  refine bh Z (fun ab w hd=>hd 12 Z) (fun ab w hR hd hG=>aA 1 22 Z) ?_
  refine bh Z (fun ab w hd=>hd 12 Z) (fun ab w hR hd hG=>ag zk (gd hG (hd 15 Z)) (by first | exact (HPs.ext hR) 1 _ rfl | exact aK (HPs.ext hR) | exact (HB103.ext hR).pv 1 _ rfl | exact (HPq.ext hR) 1 _ rfl | exact aK (HPq.ext hR) | exact (HB101.ext hR).pv 1 _ rfl | assumption)) ?_
  refine bh Z (fun ab w hd=>hd 12 Z) (fun ab w hR hd hG=>aQ Z) ?_
  refine bh Z (fun ab w hd=>hd 12 Z) (fun ab w hR hd hG=>cn (gd hG (hd 17 Z)) Z (by first | exact bn zo zo | rfl)) ?_
  refine bh Z (fun ab w hd=>hd 12 Z) (fun ab w hR hd hG=>aF (et:=53) (sz:=4) (k:=i + 1) zk zk (gd hG (hd 16 Z)) (gd hG (hd 18 Z)) (by first | rfl | omega) (hlt2)) ?_
  refine bh Z (fun ab w hd=>hd 12 Z) (fun ab w hR hd hG=>aA 0 28 (gd hG (hd 19 Z))) ?_
  refine bh Z (fun ab w hd=>hd 12 Z) (fun ab w hR hd hG=>ag zk (gd hG (hd 20 Z)) (by first | exact (HPs.ext hR) 0 _ rfl | exact (HB103.ext hR).pv 0 _ rfl | exact (HPq.ext hR) 0 _ rfl | exact (HB101.ext hR).pv 0 _ rfl | assumption)) ?_
  refine gx Z (fun ab w hd=>hd 12 Z) (fun ab w hR hd hG=>aW zk (gd hG (hd 14 Z)) (gd hG (hd 21 Z)) (dI (HSt.ext hR) (HSsf.ext hR))) ?_
  refine bh Z (fun ab w hd=>hd 12 Z) (fun ab w hR hd hG=>cg (gd hG (hd 22 Z))) ?_
  refine aB (fun ab w hR hd=>bF (hd 12 Z) (hd 23 Z)) ?_
  refine aB (fun ab w hR hd=>ad (t:=.bool _) (hd 24 Z)) ?_
  refine bU (fun w106 e106=>?_)
  rintro _ rfl _ rfl _ rfl _ rfl _ rfl _ rfl _ rfl _ rfl _ rfl _ rfl _ rfl _ rfl _ rfl _ rfl _ rfl _ rfl _ rfl _ rfl _ rfl _ rfl _ rfl _ rfl _ rfl _ rfl _ rfl _ rfl
  have:=e106.size
  replace E:=E.trans e106.keep
  replace HSr:=HSr.ext e106
  replace HB101:=HB101.ext e106
  replace EL1:=EL1.trans e106.keep
  replace HPq:=HPq.ext e106
  replace HSf:=HSf.ext e106
  replace HSt:=HSt.ext e106
  replace HB103:=HB103.ext e106
  replace HPs:=HPs.ext e106
  replace HSsf:=HSsf.ext e106
  refine bG (U (am Z Z (fun h66=>?_) (fun h66=>?_)))
  ·
   refine V (O zd (aa (ad Z) (ac (U (aw (bz (bz (ay (ay ?_)))))))))
   refine bz (ay (aU Z zq (cE Z) ?_))
   refine ⟨?_,E⟩
   rw [hds] at h49 h2
   rw [hm,h2]
   have e1:decide (24 < (r.2.1.length:Int)) = !decide (r.2.1.length≤24):=by rw [← decide_not];exact decide_eq_decide.2 zo
   rw [e1,my] at h66
   revert h49 h66
   simp only [fl]
   cases dJ r.2.2.2 <;> cases r.2.2.1 <;> cases decide (r.2.1.length≤24) <;> cases decide (r.1 < r.2.1) <;> cases decide (r.2.1=s.1) <;> simp
  refine ar (bE (bE (U (O zd (aa (cn Z Z (by first | exact bn zo zo | rfl)) ?_)))))
  refine aa (aQ Z) (ac (U (⟨i + 1,_,rfl,by (repeat (first | exact cD.of_over _ _ _ | refine cD.upd ?_ zq _ | refine cD.overs ?_ zq _)),⟨by first | rfl | exact congrArg (Value.int _) zo | (simp;done),trivial⟩,⟨E,EL1,?_⟩,?_⟩)))
  ·
   refine ⟨by omega,?_⟩
   rw [hds] at h49 h2 ⊢
   have e1:decide (24 < (r.2.1.length:Int)) = !decide (r.2.1.length≤24):=by rw [← decide_not];exact decide_eq_decide.2 zo
   rw [e1,my] at h66
   rw [h2]
   revert h49 h66
   simp only [fl]
   cases dJ r.2.2.2 <;> cases r.2.2.1 <;> cases decide (r.2.1.length≤24) <;> cases decide (r.1 < r.2.1) <;> cases decide (r.2.1=s.1) <;> simp
  (dsimp only;omega)
 refine cl (bm (bm (cV (U (V (O zd (aa (ad Z) (ac (U ?_)))))))))
 refine aw (aU Z zq (cE Z) ?_)
 refine ⟨?_,E⟩
 have h:=bf hlt
 rw [hm,h2,List.drop_eq_nil_of_le zo];rfl
end Go.Proofs.YteehplloacefmaaGreat
namespace Go.Proofs.YteehplloacefmaaGreat
open Go.Vc
theorem wG {w:World} {g:Int} (hg:-9223372036854775808≤g∧g≤9223372036854775807):ae Tryz.prog 46 #[.int .i64 g] w (fun o w'=>(∃ v,o=.tuple #[v,.int .i64 (if dJ g then 0 else 2)]∧aY li w' (fun b=>w.heap.size≤b) v (if dJ g then (1,[([],[],false,g)]) else (0,[])))∧aX w w'):=by
 refine aL 12 Tryz.func46 Z Z (by simp) ?_
 refine V ?_
 have E:=ao.refl (K:=aP) w
 refine O zd (ah (aD (z:=.agg #[.int .i64 0,.slice none 0 0]) (by unfold aE;kernel_rfl) ?_))
 rintro b101 w101 zb101 HB101 e101 z101
 have:=e101.size
 try simp only [Value.cells] at HB101
 refine aa (ad Z) (ac (U (V (V (O zd (aa (aQ Z) (ah (av zk (bB Z) (ae.mono (nW) ?_)))))))))
 rintro _ w102 ⟨rfl,e102⟩
 have:=e102.size
 refine aa (cg Z) ?_
 replace E:=(E.trans e101.keep).trans e102.keep
 replace HB101:=HB101.ext e102
 refine ac (U (am Z Z (fun hc=>?_) (fun hc=>?_)))
 ·
  refine V (O zd (aa (aV (pl:=[(0,1),(1,1)]) (z:=.agg #[.int .i64 0,.slice none 0 0]) (zl:=[.int .i64 0,.slice none 0 0]) zk (by unfold aE;kernel_rfl) Z Z (cells:=[_,_]) Z) ?_))
  refine ah (aq (n:=2) Z Z (aZ Z) zk Z cT HB101 bV ?_)
  rintro w103 HB101 k103 z103
  have:=k103.size
  try simp only [zS,Nat.zero_add,Nat.reduceAdd,List.drop_nil] at HB101
  refine aa (ad Z) (ac (U (aw (ay (bL (n:=2) Z zq zq Z zk HB101.pv Z (bB Z) ?_)))))
  have h:dJ g=false:=by simpa using hc
  rw [h]
  replace E:=E.step k103 bi
  exact ⟨⟨_,rfl,aY.mkMp (bs.nil _ _ _) zo⟩,E⟩
 have h:dJ g=true:=by simpa using hc
 refine ar (U (V (O zd (aa (aQ Z) (aa (aV (pl:=[(0,1),(1,1),(2,1),(3,1)]) (z:=.agg #[.slice none 0 0,.slice none 0 0,.bool false,.int .i64 0]) (zl:=[.slice none 0 0,.slice none 0 0,.bool false,.int .i64 0]) zk (by unfold aE;kernel_rfl) Z Z (cells:=[_,_,_,_]) Z) ?_)))))
 refine ah (cp (t:=dv) (et:=53) (bytes:=64) zk zq (aZ Z) (gu (bs.nil cw _ aP) (bs.nil cw _ aP) hg) ?_)
 rintro b5 w5 zb5 HO5 e5 z5
 have:=e5.size
 have zo_HO5:=fun (b:Nat) h=>HO5.own_lt (b:=b) h
 refine aa (aV (pl:=[(0,1),(1,1)]) (z:=.agg #[.int .i64 0,.slice none 0 0]) (zl:=[.int .i64 0,.slice none 0 0]) zk (by unfold aE;kernel_rfl) Z Z (cells:=[_,_]) Z) ?_
 replace HB101:=HB101.ext e5
 refine ah (aq (n:=2) Z Z (aZ Z) zk Z cT HB101 bV ?_)
 rintro w104 HB101 k104 z104
 have:=k104.size
 try simp only [zS,Nat.zero_add,Nat.reduceAdd,List.drop_nil] at HB101
 refine aa (ad Z) (ac (U (aw (bL (n:=2) Z zq zq Z zk HB101.pv Z (bB Z) ?_))))
 rw [h]
 replace E:=(E.trans e5.keep).step k104 bi
 replace HO5:=HO5.keep k104 (by intro i ho he;have he0:=he;have ho0:=ho;(try dsimp only [aP] at he);(try simp only [Value.ownBlock,Option.some.injEq,reduceCtorEq] at ho);(try simp only [Value.ownBlock,Option.some.injEq,reduceCtorEq] at he);first | exact he.elim | exact ho.elim | omega | (have:=zo_HO5 _ ho0;omega)) (by intro i _ hi _ he;have he0:=he;have hi:=hi;have he:=he;(try dsimp only [aP,bj] at hi he);(try simp only [Value.ownBlock,Option.some.injEq,reduceCtorEq] at he);all_goals first | exact hi.elim | exact hi.1.elim | exact he.elim | omega | (rcases hi with hi | hi <;> omega) | (rcases he with he | he <;> omega))
 exact ⟨⟨_,rfl,aY.mkMp (HO5.view.mono fun b _ h=>by rcases h with h | h;omega;exact h.1.elim) zo⟩,E⟩
end Go.Proofs.YteehplloacefmaaGreat

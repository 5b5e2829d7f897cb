/- Steps and lemmas for the walks. -/
import Derived.Test.YteehplloacefmaaGreatM7
import Derived.Test.YteehplloacefmaaGreatMe
set_option linter.unusedVariables false
set_option linter.unusedSimpArgs false
set_option maxRecDepth 100000
namespace Go.Proofs.YteehplloacefmaaGreat
open Go.Vc
theorem eB {w:World} {F G:Nat→Prop} {v u:Value} {x y:List UInt8} (HS1:Bv w F v x) (HS2:Bv w G u y):ae Tryz.prog 26 #[v,u] w (fun o w'=>o=.bool (decide (x=y))∧aX w w'):=by
  obtain ⟨a,c,rfl⟩:=HS1.shape
  obtain ⟨a2,c2,rfl⟩:=HS2.shape
  refine aL 10 Tryz.func26 Z Z (by simp) ?_
  refine V ?_
  have E:=ao.refl (K:=aP) w
  replace HS1:=HS1.all
  replace HS2:=HS2.all
  refine O zd (aa (ad Z) (ac (U (V (O zd (aa (bP Z) (aa (kW (et:=5) zk zk zk Z HS1) ?_)))))))
  refine aa (bP Z) (aa (kW (et:=5) zk zk zk Z HS2) ?_)
  refine aa (p7 Z Z) ?_
  refine aa (dl Z) (ac (U (aw (aU Z zq (cE Z) ?_))))
  exact ⟨rfl,E⟩
theorem oK {w:World} {F G:Nat→Prop} {v u:Value} {a b:iJ} (HG1:aY jU w F v a) (HG2:aY jU w G u b):ae Tryz.prog 36 #[v,u] w (fun o w'=>o=.bool (decide (a=b))∧aX w w'):=by
 obtain ⟨n,f,t,d,og,ng⟩:=a
 obtain ⟨n',f',t',d',og',ng'⟩:=b
 obtain ⟨a1,c1,a2,c2,rfl,HS1,HS2,hi1,hi2,hi3⟩:=HG1.mv
 obtain ⟨a3,c3,a4,c4,rfl,HS3,HS4,hj1,hj2,hj3⟩:=HG2.mv
 simp only [] at HS1 HS2 HS3 HS4
 refine aL 45 Tryz.func36 Z Z (by simp) ?_
 refine V ?_
 have E:=ao.refl (K:=aP) w
 replace HS1:=HS1.all
 replace HS2:=HS2.all
 replace HS3:=HS3.all
 replace HS4:=HS4.all
 refine O zd (ah (aS (aZ Z) ?_))
 rintro b101 w101 zb101 HB101 e101 z101
 have:=e101.size
 try simp only [Value.cells] at HB101
 refine ah (aS (aZ Z) ?_)
 rintro b102 w102 zb102 HB102 e102 z102
 have:=e102.size
 try simp only [Value.cells] at HB102
 replace HB101:=HB101.ext e102
 refine aa (ad Z) (ac (U (V (O zd (aa (aA 0 2 Z) (aa (ag zk Z (by first | exact HB102.pv 0 _ rfl | exact HB101.pv 0 _ rfl | assumption)) ?_))))))
 refine aa (aA 0 2 Z) (aa (ag zk Z (by first | exact HB102.pv 0 _ rfl | exact HB101.pv 0 _ rfl | assumption)) ?_)
 refine aa (aJ Z Z) ?_
 refine aa (bH Z) (aj Z Z (fun hG=>aA 1 28 Z) ?_)
 refine aj Z Z (fun hG=>ag zk (gd hG Z) (by first | exact HB102.pv 1 _ rfl | exact HB101.pv 1 _ rfl | assumption)) ?_
 refine aj Z Z (fun hG=>aA 1 28 Z) ?_
 refine aj Z Z (fun hG=>ag zk (gd hG Z) (by first | exact HB102.pv 1 _ rfl | exact HB101.pv 1 _ rfl | assumption)) ?_
 replace HS1:=(HS1.ext e101).ext e102
 replace HS3:=(HS3.ext e101).ext e102
 refine cI Z Z (fun hG=>aW zk (gd hG Z) (gd hG Z) (eB HS1 HS3)) ?_
 rintro w103 e103
 have:=e103.size
 refine aa (bu Z Z) ?_
 refine aa (bH Z) (aj Z Z (fun hG=>aA 2 28 Z) ?_)
 replace HB101:=HB101.ext e103
 replace HB102:=HB102.ext e103
 refine aj Z Z (fun hG=>ag zk (gd hG Z) (by first | exact HB102.pv 2 _ rfl | exact HB101.pv 2 _ rfl | assumption)) ?_
 refine aj Z Z (fun hG=>aA 2 28 Z) ?_
 refine aj Z Z (fun hG=>ag zk (gd hG Z) (by first | exact HB102.pv 2 _ rfl | exact HB101.pv 2 _ rfl | assumption)) ?_
 replace HS2:=((HS2.ext e101).ext e102).ext e103
 replace HS4:=((HS4.ext e101).ext e102).ext e103
 refine cI Z Z (fun hG=>aW zk (gd hG Z) (gd hG Z) (eB HS2 HS4)) ?_
 rintro w104 e104
 have:=e104.size
 refine aa (bu Z Z) ?_
 refine aa (bH Z) (aj Z Z (fun hG=>aA 3 4 Z) ?_)
 replace HB101:=HB101.ext e104
 replace HB102:=HB102.ext e104
 refine aj Z Z (fun hG=>ag zk (gd hG Z) (by first | exact HB102.pv 3 _ rfl | exact HB101.pv 3 _ rfl | assumption)) ?_
 refine aj Z Z (fun hG=>aA 3 4 Z) ?_
 refine aj Z Z (fun hG=>ag zk (gd hG Z) (by first | exact HB102.pv 3 _ rfl | exact HB101.pv 3 _ rfl | assumption)) ?_
 refine aj Z Z (fun hG=>nD zk (gd hG Z) (gd hG Z)) ?_
 refine aa (bu Z Z) ?_
 refine aa (bH Z) (aj Z Z (fun hG=>aA 4 3 Z) ?_)
 refine aj Z Z (fun hG=>ag zk (gd hG Z) (by first | exact HB102.pv 4 _ rfl | exact HB101.pv 4 _ rfl | assumption)) ?_
 refine aj Z Z (fun hG=>aA 4 3 Z) ?_
 refine aj Z Z (fun hG=>ag zk (gd hG Z) (by first | exact HB102.pv 4 _ rfl | exact HB101.pv 4 _ rfl | assumption)) ?_
 refine aj Z Z (fun hG=>aJ (gd hG Z) (gd hG Z)) ?_
 refine aa (bu Z Z) ?_
 refine aa (bH Z) (aj Z Z (fun hG=>aA 5 3 Z) ?_)
 refine aj Z Z (fun hG=>ag zk (gd hG Z) (by first | exact HB102.pv 5 _ rfl | exact HB101.pv 5 _ rfl | assumption)) ?_
 refine aj Z Z (fun hG=>aA 5 3 Z) ?_
 refine aj Z Z (fun hG=>ag zk (gd hG Z) (by first | exact HB102.pv 5 _ rfl | exact HB101.pv 5 _ rfl | assumption)) ?_
 refine aj Z Z (fun hG=>aJ (gd hG Z) (gd hG Z)) ?_
 refine aa (bu Z Z) ?_
 refine aa (dl Z) (ac (U (aw (aU Z zq (cE Z) ?_))))
 replace E:=(((E.trans e101.keep).trans e102.keep).trans e103.keep).trans e104.keep
 refine ⟨?_,E⟩
 congr 1
 rw [Bool.eq_iff_iff,decide_eq_true_eq]
 simp only [Prod.mk.injEq]
 cases d <;> cases d' <;> simp [and_assoc]
theorem nP {w:World} {F G:Nat→Prop} {v u:Value} {s t:it} (HG1:aY iK w F v s) (HG2:aY iK w G u t):ae Tryz.prog 9 #[v,u] w (fun o w'=>o=.bool (decide (s=t))∧aX w w'):=by
 obtain ⟨⟨e,rs⟩,n,ms⟩:=s
 obtain ⟨⟨e2,ss⟩,n2,ns⟩:=t
 obtain ⟨a,c,a2,c2,rfl,HSr,HSm,ie,im⟩:=HG1.mt
 obtain ⟨a3,c3,a4,c4,rfl,HSs,HSn,ie2,im2⟩:=HG2.mt
 simp only at HSr HSm ie im HSs HSn ie2 im2
 have hmx:=HSr.len_max
 have hmx2:=HSm.len_max
 refine aL 127 Tryz.func9 Z Z (by simp) ?_
 refine V ?_
 have E:=ao.refl (K:=aP) w
 replace HSr:=HSr.all
 replace HSm:=HSm.all
 replace HSs:=HSs.all
 replace HSn:=HSn.all
 refine O zd (ah (aS (aZ Z) ?_))
 rintro b101 w101 zb101 HB101 e101 z101
 have:=e101.size
 try simp only [Value.cells] at HB101
 refine ah (aS (aZ Z) ?_)
 rintro b102 w102 zb102 HB102 e102 z102
 have:=e102.size
 try simp only [Value.cells] at HB102
 replace HB101:=HB101.ext e102
 refine aa (ad Z) (ac (U (V (V (O zd (aa (aA 0 24 Z) (aa (aA 0 2 Z) (aa (ag zk Z (by first | exact HB102.pv 0 _ rfl | exact HB101.pv 0 _ rfl | assumption)) ?_))))))))
 refine aa (aA 0 24 Z) (aa (aA 0 2 Z) (aa (ag zk Z (by first | exact HB102.pv 0 _ rfl | exact HB101.pv 0 _ rfl | assumption)) ?_))
 refine aa (bD Z Z) ?_
 refine aa (bH Z) (aj Z Z (fun hG=>aA 2 2 Z) ?_)
 refine aj Z Z (fun hG=>ag zk (gd hG Z) (by first | exact HB102.pv 2 _ rfl | exact HB101.pv 2 _ rfl | assumption)) ?_
 refine aj Z Z (fun hG=>aA 2 2 Z) ?_
 refine aj Z Z (fun hG=>ag zk (gd hG Z) (by first | exact HB102.pv 2 _ rfl | exact HB101.pv 2 _ rfl | assumption)) ?_
 refine aj Z Z (fun hG=>bD (gd hG Z) (gd hG Z)) ?_
 refine aa (bF Z Z) ?_
 refine aa (bH Z) (aj Z Z (fun hG=>aA 0 24 Z) ?_)
 refine aj Z Z (fun hG=>aA 1 22 (gd hG Z)) ?_
 refine aj Z Z (fun hG=>ag zk (gd hG Z) (by first | exact HB102.pv 1 _ rfl | exact HB101.pv 1 _ rfl | assumption)) ?_
 refine aj Z Z (fun hG=>ba (et:=53) zk (gd hG Z)) ?_
 refine aj Z Z (fun hG=>aA 0 24 Z) ?_
 refine aj Z Z (fun hG=>aA 1 22 (gd hG Z)) ?_
 refine aj Z Z (fun hG=>ag zk (gd hG Z) (by first | exact HB102.pv 1 _ rfl | exact HB101.pv 1 _ rfl | assumption)) ?_
 refine aj Z Z (fun hG=>ba (et:=53) zk (gd hG Z)) ?_
 refine aj Z Z (fun hG=>bD (gd hG Z) (gd hG Z)) ?_
 refine aa (bF Z Z) ?_
 refine aa (bH Z) (aj Z Z (fun hG=>aA 3 25 Z) ?_)
 refine aj Z Z (fun hG=>ag zk (gd hG Z) (by first | exact HB102.pv 3 _ rfl | exact HB101.pv 3 _ rfl | assumption)) ?_
 refine aj Z Z (fun hG=>ba (et:=55) zk (gd hG Z)) ?_
 refine aj Z Z (fun hG=>aA 3 25 Z) ?_
 refine aj Z Z (fun hG=>ag zk (gd hG Z) (by first | exact HB102.pv 3 _ rfl | exact HB101.pv 3 _ rfl | assumption)) ?_
 refine aj Z Z (fun hG=>ba (et:=55) zk (gd hG Z)) ?_
 refine aj Z Z (fun hG=>bD (gd hG Z) (gd hG Z)) ?_
 refine aa (bF Z Z) ?_
 replace E:=(E.trans e101.keep).trans e102.keep
 replace HSr:=(HSr.ext e101).ext e102
 replace HSm:=(HSm.ext e101).ext e102
 replace HSs:=(HSs.ext e101).ext e102
 replace HSn:=(HSn.ext e101).ext e102
 refine ac (U (am Z Z (fun hc=>?_) (fun hc=>?_)))
 ·
  refine V (O zd (aa (ad Z) (ac (U (aw (ay (aU Z zq (cE Z) ?_)))))))
  refine ⟨?_,E⟩
  have hn:¬ (((e,rs),n,ms):it)=((e2,ss),n2,ns):=by
   rintro h;cases h;simp at hc
  rw [decide_eq_false hn]
 have he3:e=e2∧n=n2∧rs.length=ss.length∧ms.length=ns.length:=by simp at hc;omega
 obtain ⟨rfl,rfl,hlen,hlen2⟩:=he3
 refine ar (U (V (V (O zd (aa (ad Z) (ac (U (aO (cy (τ:=Nat) [4,5,6,7,43,44,45,46,47,48,49,50,51,52,53,54,55,56,57,58,59,60,61,62,63,64,65,66,67,68,69,70,71,72,73,74,75,76,77,78,79,80,81,82,83,84,85,86,87,88,89,90] (fun i=>[(5,.int .i64 i)]) (fun i W=>aX w W∧ao (aP) w102 W∧i≤rs.length∧rs.take i=ss.take i) (fun i=>rs.length - i) 0 (by exact ⟨rfl,trivial⟩) (by exact ⟨E,ao.refl _,Nat.zero_le _,rfl⟩) ?_)))))))))
 rintro i w103 j ⟨E,EL1,h1,h2⟩
 have:=EL1.size
 replace HB101:=HB101.ext EL1
 replace HB102:=HB102.ext EL1
 refine V (V (O zd (aa (aQ Z) (aa (aA 0 24 Z) (aa (aA 1 22 Z) (aa (ag zk Z (by first | exact HB102.pv 1 _ rfl | exact HB101.pv 1 _ rfl | assumption)) ?_))))))
 refine aa (ba (et:=53) zk Z) ?_
 refine aa (bw Z Z) ?_
 replace HSr:=HSr.ext EL1
 replace HSm:=HSm.ext EL1
 replace HSs:=HSs.ext EL1
 replace HSn:=HSn.ext EL1
 refine ac (U (am Z Z (fun hlt=>?_) (fun hlt=>?_)))
 ·
  have hlt:=bl hlt
  obtain ⟨r,hx,hdr⟩:=eC (l:=rs) (i:=i) zo
  obtain ⟨s,hy,hds⟩:=eC (l:=ss) (i:=i) zo
  obtain ⟨q1,cs1,rfl,hq1,_,HP1,hr1⟩:=HSr.el hx
  obtain ⟨q2,cs2,rfl,hq2,_,HP2,hr2⟩:=HSs.el hy
  obtain ⟨b1,d1,b2,d2,rfl,HSa,HSb,_⟩:=bN hr1
  obtain ⟨b3,d3,b4,d4,rfl,HSc,HSd,_⟩:=bN hr2
  refine ar (U (V (aO (V (cN zk ?_)))))
  have e104:aX w103 { w103 with drawn:=w103.drawn + 1 }:=ao.drawn _ _
  generalize hw104:({ w103 with drawn:=w103.drawn + 1 }:World)=w104 at e104 ⊢
  clear hw104
  have:=e104.size
  refine bT 15 Z zd zd zd ?_
  refine eH (fun k=>w104.heap.size≤k) (iP w104.heap.size [⟨12,some 14,53,([.slice none 0 0,.slice none 0 0,.bool false,.int .i64 0]:List Value),([.slice b1 r.1.length d1,.slice b2 r.2.1.length d2,.bool r.2.2.1,.int .i64 r.2.2.2]:List Value)⟩,⟨13,none,53,([.slice none 0 0,.slice none 0 0,.bool false,.int .i64 0]:List Value),([.slice none 0 0,.slice none 0 0,.bool false,.int .i64 0]:List Value)⟩]) zd zd (fun ab done hd=>iP.start (Nat.le_refl _) (fun a ha=>hd a.al (mG (n:=15) Z a ha))) ?_
  refine aI (fun done ab w hR hcl hdk hJ hdn hd=>aA 0 24 Z) (fun _ _ _ _ j=>j.src (ao.refl _) Z) ?_
  refine aI (fun done ab w hR hcl hdk hJ hdn hd=>aA 1 22 (hd 0 Z)) (fun _ _ _ _ j=>j.src (ao.refl _) Z) ?_
  replace HB101:=HB101.ext e104
  replace HB102:=HB102.ext e104
  replace HP1:=HP1.ext e104
  replace HP2:=HP2.ext e104
  refine aI (fun done ab w hR hcl hdk hJ hdn hd=>ag zk (hd 1 Z) (by first | exact (HP2.keep hR (by intro h;(try dsimp only at h);(try simp only [au] at h);first | omega)) 1 _ rfl | exact aK (HP2.keep hR (by intro h;(try dsimp only at h);(try simp only [au] at h);first | omega)) | exact (HP1.keep hR (by intro h;(try dsimp only at h);(try simp only [au] at h);first | omega)) 1 _ rfl | exact aK (HP1.keep hR (by intro h;(try dsimp only at h);(try simp only [au] at h);first | omega)) | exact (HB102.keep hR aH).pv 1 _ rfl | exact (HB101.keep hR aH).pv 1 _ rfl | assumption)) (fun _ _ _ _ j=>j.src (ao.refl _) Z) ?_
  refine aI (fun done ab w hR hcl hdk hJ hdn hd=>aQ Z) (fun _ _ _ _ j=>j.src (ao.refl _) Z) ?_
  refine aI (fun done ab w hR hcl hdk hJ hdn hd=>aF (et:=53) (sz:=4) (k:=i) zk zk (hd 2 Z) (hd 3 Z) (by first | rfl | omega) zo) (fun _ _ _ _ j=>j.src (ao.refl _) Z) ?_
  refine aI (fun done ab w hR hcl hdk hJ hdn hd=>ap zk (hd 4 Z) (by first | exact (HP2.keep hR (by intro h;(try dsimp only at h);(try simp only [au] at h);first | omega)) | exact (HP1.keep hR (by intro h;(try dsimp only at h);(try simp only [au] at h);first | omega)) | exact (HB102.keep hR aH).pv | exact (HB101.keep hR aH).pv | assumption) Z) (fun _ _ _ _ j=>j.src (ao.refl _) Z) ?_
  refine aI (fun done ab w hR hcl hdk hJ hdn hd=>aA 0 24 Z) (fun _ _ _ _ j=>j.src (ao.refl _) Z) ?_
  refine aI (fun done ab w hR hcl hdk hJ hdn hd=>aA 1 22 (hd 6 Z)) (fun _ _ _ _ j=>j.src (ao.refl _) Z) ?_
  refine aI (fun done ab w hR hcl hdk hJ hdn hd=>ag zk (hd 7 Z) (by first | exact (HP2.keep hR (by intro h;(try dsimp only at h);(try simp only [au] at h);first | omega)) 1 _ rfl | exact aK (HP2.keep hR (by intro h;(try dsimp only at h);(try simp only [au] at h);first | omega)) | exact (HP1.keep hR (by intro h;(try dsimp only at h);(try simp only [au] at h);first | omega)) 1 _ rfl | exact aK (HP1.keep hR (by intro h;(try dsimp only at h);(try simp only [au] at h);first | omega)) | exact (HB102.keep hR aH).pv 1 _ rfl | exact (HB101.keep hR aH).pv 1 _ rfl | assumption)) (fun _ _ _ _ j=>j.src (ao.refl _) Z) ?_
  refine aI (fun done ab w hR hcl hdk hJ hdn hd=>aQ Z) (fun _ _ _ _ j=>j.src (ao.refl _) Z) ?_
  refine aI (fun done ab w hR hcl hdk hJ hdn hd=>aF (et:=53) (sz:=4) (k:=i) zk zk (hd 8 Z) (hd 9 Z) (by first | rfl | omega) zo) (fun _ _ _ _ j=>j.src (ao.refl _) Z) ?_
  refine aI (fun done ab w hR hcl hdk hJ hdn hd=>ap zk (hd 10 Z) (by first | exact (HP2.keep hR (by intro h;(try dsimp only at h);(try simp only [au] at h);first | omega)) | exact (HP1.keep hR (by intro h;(try dsimp only at h);(try simp only [au] at h);first | omega)) | exact (HB102.keep hR aH).pv | exact (HB101.keep hR aH).pv | assumption) Z) (fun _ _ _ _ j=>j.src (ao.refl _) Z) ?_
  refine ea (fun done ab w hR hcl hdk hJ hdn hd=>aD (z:=.agg #[.slice none 0 0,.slice none 0 0,.bool false,.int .i64 0]) (by unfold aE;kernel_rfl) fun b w1 hb hB e hz=>⟨aX.keep e,hJ.al (i:=0) Z Z hdk hcl (fun m a hm he=>ej (i:=0) (m:=m) Z Z hm he) (fun a ha=>eP Z ha (List.mem_of_getElem? (i:=0) Z)) (fun s hs=>by cases hs;exact ⟨_,rfl,rfl⟩) hb hB e⟩) ?_
  refine ea (fun done ab w hR hcl hdk hJ hdn hd=>aD (z:=.agg #[.slice none 0 0,.slice none 0 0,.bool false,.int .i64 0]) (by unfold aE;kernel_rfl) fun b w1 hb hB e hz=>⟨aX.keep e,hJ.al (i:=1) Z Z hdk hcl (fun m a hm he=>ej (i:=1) (m:=m) Z Z hm he) (fun a ha=>eP Z ha (List.mem_of_getElem? (i:=1) Z)) (fun s hs=>by cases hs) hb hB e⟩) ?_
  replace E:=E.trans e104.keep
  replace HSr:=HSr.ext e104
  replace HSm:=HSm.ext e104
  replace HSs:=HSs.ext e104
  replace HSn:=HSn.ext e104
  replace EL1:=EL1.trans e104.keep
  replace HSa:=HSa.ext e104
  replace HSb:=HSb.ext e104
  replace HSc:=HSc.ext e104
  replace HSd:=HSd.ext e104
  refine ea (fun done ab w hR hcl hdk hJ hdn hd=>by
    obtain ⟨b,hb,hn,hB⟩:=hJ.at (i:=0) rfl rfl hdk (hdn 12 rfl)
    exact aq (n:=4) (hb:_=Value.pointer (some ⟨b,0,none⟩)) rfl (hd 5 rfl) zk rfl (by first | (simp [cL];done) | (simp only [List.forall_mem_cons,List.cons_append,List.nil_append];repeat' (first | exact rfl | apply And.intro | (intro u hu;cases hu;done)))) hB (of_decide_eq_true rfl) (fun w1 hB1 kk z=>⟨kk.mono (fun i _ h=>by rw [h];exact hn),hJ.st (i:=0) rfl rfl hdk (hdn 12 rfl) (fun m a hm he=>kA (i:=0) (m:=m) rfl rfl hm rfl he) (fun a ha h=>eP (a:=_) rfl (List.mem_of_getElem? (i:=0) rfl) ha (by rw [h])) rfl (fun m a hm he=>ej (i:=0) (m:=m) rfl rfl hm he) hb hB1 kk⟩)) ?_
  refine dq (fun ab w105 k105 J105=>?_)
  rintro _ - rfl _ - rfl _ - rfl _ - rfl _ - rfl _ - rfl _ - rfl _ - rfl _ - rfl _ - rfl _ - rfl _ - rfl v6 qv6 - v7 qv7 - _ - -
  have:=k105.size
  obtain ⟨b6,hb6,zb6,HB6⟩:=J105.fin (i:=0) rfl
  try dsimp only at HB6
  have zl6:=HB6.lt
  obtain ⟨b7,hb7,zb7,HB7⟩:=J105.fin (i:=1) rfl
  try dsimp only at HB7
  have zl7:=HB7.lt
  have ne6_7:=J105.ne (i:=0) (m:=1) rfl rfl (by dsimp only;decide) hb6 hb7
  obtain rfl:=qv6.trans hb6
  obtain rfl:=qv7.trans hb7
  refine ct (U (bZ zd Z ?_))
  refine ah (aq (n:=4) Z Z (aZ Z) zk Z cT HB7 bV ?_)
  rintro w106 HB7 k106 z106
  have:=k106.size
  try simp only [zS,Nat.zero_add,Nat.reduceAdd,List.drop_nil] at HB7
  replace HB101:=(HB101.keep k105 aH).keep k106 aH
  replace HB102:=(HB102.keep k105 aH).keep k106 aH
  replace HP1:=(HP1.keep k105 (by intro h;(try dsimp only at h);(try simp only [au] at h);first | omega)).keep k106 (by intro h;(try dsimp only at h);(try simp only [au] at h);first | omega)
  replace HP2:=(HP2.keep k105 (by intro h;(try dsimp only at h);(try simp only [au] at h);first | omega)).keep k106 (by intro h;(try dsimp only at h);(try simp only [au] at h);first | omega)
  replace HB6:=HB6.keep k106 aH
  refine ac (U (V (O zd (aa (aA 0 28 Z) (aa (ag zk Z (by first | exact HB7.pv 0 _ rfl | exact HB6.pv 0 _ rfl | exact HP2 0 _ rfl | exact HP1 0 _ rfl | exact HB102.pv 0 _ rfl | exact HB101.pv 0 _ rfl | assumption)) ?_)))))
  refine aa (aA 0 28 Z) (aa (ag zk Z (by first | exact HB7.pv 0 _ rfl | exact HB6.pv 0 _ rfl | exact HP2 0 _ rfl | exact HP1 0 _ rfl | exact HB102.pv 0 _ rfl | exact HB101.pv 0 _ rfl | assumption)) ?_)
  replace HSa:=(HSa.keep k105 aC).keep k106 aC
  replace HSc:=(HSc.keep k105 aC).keep k106 aC
  refine ah (aW zk (bI Z) (bI Z) (ae.mono (eB HSa HSc) ?_))
  replace HSr:=(HSr.keep k105 aC).keep k106 aC
  replace HSm:=(HSm.keep k105 aC).keep k106 aC
  replace HSs:=(HSs.keep k105 aC).keep k106 aC
  replace HSn:=(HSn.keep k105 aC).keep k106 aC
  replace HSb:=(HSb.keep k105 aC).keep k106 aC
  replace HSd:=(HSd.keep k105 aC).keep k106 aC
  rintro _ w107 ⟨rfl,e107⟩
  have:=e107.size
  refine aa (cg Z) ?_
  refine aa (bH Z) (aj Z Z (fun hG=>aA 1 28 Z) ?_)
  replace HB101:=HB101.ext e107
  replace HB102:=HB102.ext e107
  replace HP1:=HP1.ext e107
  replace HP2:=HP2.ext e107
  replace HB6:=HB6.ext e107
  replace HB7:=HB7.ext e107
  refine aj Z Z (fun hG=>ag zk (gd hG Z) (by first | exact HB7.pv 1 _ rfl | exact HB6.pv 1 _ rfl | exact HP2 1 _ rfl | exact aK HP2 | exact HP1 1 _ rfl | exact aK HP1 | exact HB102.pv 1 _ rfl | exact HB101.pv 1 _ rfl | assumption)) ?_
  refine aj Z Z (fun hG=>aA 1 28 Z) ?_
  refine aj Z Z (fun hG=>ag zk (gd hG Z) (by first | exact HB7.pv 1 _ rfl | exact HB6.pv 1 _ rfl | exact HP2 1 _ rfl | exact aK HP2 | exact HP1 1 _ rfl | exact aK HP1 | exact HB102.pv 1 _ rfl | exact HB101.pv 1 _ rfl | assumption)) ?_
  replace HSb:=HSb.ext e107
  replace HSd:=HSd.ext e107
  refine cI Z Z (fun hG=>aW zk (gd hG Z) (gd hG Z) (eB HSb HSd)) ?_
  rintro w108 e108
  have:=e108.size
  refine aj Z Z (fun hG=>cg (gd hG Z)) ?_
  refine aa (bF Z Z) ?_
  refine aa (bH Z) (aj Z Z (fun hG=>aA 2 4 Z) ?_)
  replace HB101:=HB101.ext e108
  replace HB102:=HB102.ext e108
  replace HP1:=HP1.ext e108
  replace HP2:=HP2.ext e108
  replace HB6:=HB6.ext e108
  replace HB7:=HB7.ext e108
  refine aj Z Z (fun hG=>ag zk (gd hG Z) (by first | exact HB7.pv 2 _ rfl | exact HB6.pv 2 _ rfl | exact HP2 2 _ rfl | exact aK HP2 | exact HP1 2 _ rfl | exact aK HP1 | exact HB102.pv 2 _ rfl | exact HB101.pv 2 _ rfl | assumption)) ?_
  refine aj Z Z (fun hG=>aA 2 4 Z) ?_
  refine aj Z Z (fun hG=>ag zk (gd hG Z) (by first | exact HB7.pv 2 _ rfl | exact HB6.pv 2 _ rfl | exact HP2 2 _ rfl | exact aK HP2 | exact HP1 2 _ rfl | exact aK HP1 | exact HB102.pv 2 _ rfl | exact HB101.pv 2 _ rfl | assumption)) ?_
  refine aj Z Z (fun hG=>gU zk (gd hG Z) (gd hG Z)) ?_
  refine aa (bF Z Z) ?_
  refine aa (bH Z) (aj Z Z (fun hG=>aA 3 3 Z) ?_)
  refine aj Z Z (fun hG=>ag zk (gd hG Z) (by first | exact HB7.pv 3 _ rfl | exact HB6.pv 3 _ rfl | exact HP2 3 _ rfl | exact aK HP2 | exact HP1 3 _ rfl | exact aK HP1 | exact HB102.pv 3 _ rfl | exact HB101.pv 3 _ rfl | assumption)) ?_
  refine aj Z Z (fun hG=>aA 3 3 Z) ?_
  refine aj Z Z (fun hG=>ag zk (gd hG Z) (by first | exact HB7.pv 3 _ rfl | exact HB6.pv 3 _ rfl | exact HP2 3 _ rfl | exact aK HP2 | exact HP1 3 _ rfl | exact aK HP1 | exact HB102.pv 3 _ rfl | exact HB101.pv 3 _ rfl | assumption)) ?_
  refine aj Z Z (fun hG=>bD (gd hG Z) (gd hG Z)) ?_
  refine aa (bF Z Z) ?_
  replace E:=(((E.step k105 bi).step k106 bi).trans e107.keep).trans e108.keep
  replace EL1:=(((EL1.step k105 bi).step k106 bi).trans e107.keep).trans e108.keep
  replace HSr:=(HSr.ext e107).ext e108
  replace HSm:=(HSm.ext e107).ext e108
  replace HSs:=(HSs.ext e107).ext e108
  replace HSn:=(HSn.ext e107).ext e108
  replace HSa:=(HSa.ext e107).ext e108
  replace HSc:=(HSc.ext e107).ext e108
  replace HSb:=HSb.ext e108
  replace HSd:=HSd.ext e108
  refine ac (U (am Z Z (fun h90=>?_) (fun h90=>?_)))
  ·
   refine V (O zd (aa (ad Z) (ac (U (aw (bz (ay (ay (bz ?_)))))))))
   refine ay (aU Z zq (cE Z) ?_)
   refine ⟨?_,E⟩
   rw [decide_eq_false]
   rintro h;cases h
   rw [hx] at hy;cases hy
   simp at h90
  refine ar (bE (U (O zd (aa (aQ Z) (aa (cn Z Z (by first | exact bn zo zo | rfl)) ?_)))))
  refine aa (bO Z) (ac (U (⟨i + 1,_,rfl,by (repeat (first | exact cD.of_over _ _ _ | refine cD.upd ?_ zq _ | refine cD.overs ?_ zq _)),⟨by first | rfl | exact congrArg (Value.int _) zo | (simp;done),trivial⟩,⟨E,EL1,?_⟩,?_⟩)))
  ·
   refine ⟨by omega,?_⟩
   have hs:r=s:=by obtain ⟨r1,r2,r3,r4⟩:=r;obtain ⟨s1,s2,s3,s4⟩:=s;simpa [and_assoc] using h90
   rw [List.take_add_one,List.take_add_one,h2,hx,hy,hs]
  (dsimp only;omega)
 have hrs:rs=ss:=by
  have h:=bf hlt
  rw [← List.take_of_length_le (l:=rs) (i:=i) zo,h2,List.take_of_length_le zo]
 subst hrs
 refine cl (bm (bm (cV (U (V (V (O zd (aa (ad Z) (ac ?_)))))))))
 refine U (aO (cy (τ:=Nat) [4,8,91,92,93,94,95,96,97,98,99,100,101,102,103,104,105,106,107,108,109,110,111,112,113,114,115,116,117,118,119,120,121,122,123,124,125,126] (fun i=>[(8,.int .i64 i)]) (fun i W=>aX w W∧ao (aP) w103 W∧i≤ms.length∧ms.take i=ns.take i) (fun i=>ms.length - i) 0 (by exact ⟨rfl,trivial⟩) (by exact ⟨E,ao.refl _,Nat.zero_le _,rfl⟩) ?_))
 rintro i w109 j ⟨E,EL2,h3,h4⟩
 have:=EL2.size
 replace HB101:=HB101.ext EL2
 replace HB102:=HB102.ext EL2
 refine V (V (O zd (aa (aQ Z) (aa (aA 3 25 Z) (aa (ag zk Z (by first | exact HB102.pv 3 _ rfl | exact HB101.pv 3 _ rfl | assumption)) ?_)))))
 refine aa (ba (et:=55) zk Z) ?_
 refine aa (bw Z Z) ?_
 replace HSr:=HSr.ext EL2
 replace HSm:=HSm.ext EL2
 replace HSs:=HSs.ext EL2
 replace HSn:=HSn.ext EL2
 refine ac (U (am Z Z (fun hlt2=>?_) (fun hlt2=>?_)))
 ·
  have hlt2:=bl hlt2
  obtain ⟨r,hx,hdr⟩:=eC (l:=ms) (i:=i) zo
  obtain ⟨s,hy,hds⟩:=eC (l:=ns) (i:=i) zo
  obtain ⟨q1,cs1,rfl,hq1,_,HP1,hr1⟩:=HSm.el hx
  obtain ⟨q2,cs2,rfl,hq2,_,HP2,hr2⟩:=HSn.el hy
  have HG5:aY eQ _ _ _ r:=⟨cs1,rfl,hr1⟩
  have HG6:aY eQ _ _ _ s:=⟨cs2,rfl,hr2⟩
  obtain ⟨b1,d1,b2,d2,rfl,_⟩:=cR hr1
  obtain ⟨b3,d3,b4,d4,rfl,_⟩:=cR hr2
  have HG7:=aY.maMv HG5
  have HG8:=aY.maMv HG6
  refine ar (U (V (aO (V (dx (aP) zk zd zd ?_)))))
  refine aB (fun ab w hR hd=>aA 3 25 Z) ?_
  refine aB (fun ab w hR hd=>ag zk (hd 0 Z) (by first | exact (HP2.ext hR) 3 _ rfl | exact aK (HP2.ext hR) | exact (HP1.ext hR) 3 _ rfl | exact aK (HP1.ext hR) | exact (HB102.ext hR).pv 3 _ rfl | exact (HB101.ext hR).pv 3 _ rfl | assumption)) ?_
  refine aB (fun ab w hR hd=>aQ Z) ?_
  refine aB (fun ab w hR hd=>aF (et:=55) (sz:=7) (k:=i) zk zk (hd 1 Z) (hd 2 Z) (by first | rfl | omega) zo) ?_
  refine aB (fun ab w hR hd=>aA 6 4 (hd 3 Z)) ?_
  refine aB (fun ab w hR hd=>ag zk (hd 4 Z) (by first | exact (HP2.ext hR) 6 _ rfl | exact aK (HP2.ext hR) | exact (HP1.ext hR) 6 _ rfl | exact aK (HP1.ext hR) | exact (HB102.ext hR).pv 6 _ rfl | exact (HB101.ext hR).pv 6 _ rfl | assumption)) ?_
  refine aB (fun ab w hR hd=>aA 3 25 Z) ?_
  refine aB (fun ab w hR hd=>ag zk (hd 6 Z) (by first | exact (HP2.ext hR) 3 _ rfl | exact aK (HP2.ext hR) | exact (HP1.ext hR) 3 _ rfl | exact aK (HP1.ext hR) | exact (HB102.ext hR).pv 3 _ rfl | exact (HB101.ext hR).pv 3 _ rfl | assumption)) ?_
  refine aB (fun ab w hR hd=>aQ Z) ?_
  refine aB (fun ab w hR hd=>aF (et:=55) (sz:=7) (k:=i) zk zk (hd 7 Z) (hd 8 Z) (by first | rfl | omega) zo) ?_
  refine aB (fun ab w hR hd=>aA 6 4 (hd 9 Z)) ?_
  refine aB (fun ab w hR hd=>ag zk (hd 10 Z) (by first | exact (HP2.ext hR) 6 _ rfl | exact aK (HP2.ext hR) | exact (HP1.ext hR) 6 _ rfl | exact aK (HP1.ext hR) | exact (HB102.ext hR).pv 6 _ rfl | exact (HB101.ext hR).pv 6 _ rfl | assumption)) ?_
  refine aB (fun ab w hR hd=>gU zk (hd 5 Z) (hd 11 Z)) ?_
  refine aB (fun ab w hR hd=>be (t:=.bool _) (hd 12 Z)) ?_
  refine bh Z (fun ab w hd=>hd 13 Z) (fun ab w hR hd hG=>aA 3 25 Z) ?_
  refine bh Z (fun ab w hd=>hd 13 Z) (fun ab w hR hd hG=>ag zk (gd hG (hd 14 Z)) (by first | exact (HP2.ext hR) 3 _ rfl | exact aK (HP2.ext hR) | exact (HP1.ext hR) 3 _ rfl | exact aK (HP1.ext hR) | exact (HB102.ext hR).pv 3 _ rfl | exact (HB101.ext hR).pv 3 _ rfl | assumption)) ?_
  refine bh Z (fun ab w hd=>hd 13 Z) (fun ab w hR hd hG=>aQ Z) ?_
  refine bh Z (fun ab w hd=>hd 13 Z) (fun ab w hR hd hG=>aF (et:=55) (sz:=7) (k:=i) zk zk (gd hG (hd 15 Z)) (gd hG (hd 16 Z)) (by first | rfl | omega) zo) ?_
  refine bh Z (fun ab w hd=>hd 13 Z) (fun ab w hR hd hG=>aA 0 46 (gd hG (hd 17 Z))) ?_
  refine bh Z (fun ab w hd=>hd 13 Z) (fun ab w hR hd hG=>ap zk (gd hG (hd 18 Z)) (by first | exact (show Pv _ _ [_,_,_,_,_,_] from aN 0 6 (HP2.ext hR)) | exact (show Pv _ _ [_,_,_,_,_,_] from aN 0 6 (HP1.ext hR)) | exact (show Pv _ _ [_,_,_,_,_,_] from aN 0 6 (HB102.ext hR).pv) | exact (show Pv _ _ [_,_,_,_,_,_] from aN 0 6 (HB101.ext hR).pv) | exact bg 0 (HP2.ext hR) | exact bg 0 (HP1.ext hR) | exact bg 0 (HB102.ext hR).pv | exact bg 0 (HB101.ext hR).pv | exact (HP2.ext hR) | exact (HP1.ext hR) | assumption) Z) ?_
  refine bh Z (fun ab w hd=>hd 13 Z) (fun ab w hR hd hG=>aA 3 25 Z) ?_
  refine bh Z (fun ab w hd=>hd 13 Z) (fun ab w hR hd hG=>ag zk (gd hG (hd 20 Z)) (by first | exact (HP2.ext hR) 3 _ rfl | exact aK (HP2.ext hR) | exact (HP1.ext hR) 3 _ rfl | exact aK (HP1.ext hR) | exact (HB102.ext hR).pv 3 _ rfl | exact (HB101.ext hR).pv 3 _ rfl | assumption)) ?_
  refine bh Z (fun ab w hd=>hd 13 Z) (fun ab w hR hd hG=>aQ Z) ?_
  refine bh Z (fun ab w hd=>hd 13 Z) (fun ab w hR hd hG=>aF (et:=55) (sz:=7) (k:=i) zk zk (gd hG (hd 21 Z)) (gd hG (hd 22 Z)) (by first | rfl | omega) zo) ?_
  refine bh Z (fun ab w hd=>hd 13 Z) (fun ab w hR hd hG=>aA 0 46 (gd hG (hd 23 Z))) ?_
  refine bh Z (fun ab w hd=>hd 13 Z) (fun ab w hR hd hG=>ap zk (gd hG (hd 24 Z)) (by first | exact (show Pv _ _ [_,_,_,_,_,_] from aN 0 6 (HP2.ext hR)) | exact (show Pv _ _ [_,_,_,_,_,_] from aN 0 6 (HP1.ext hR)) | exact (show Pv _ _ [_,_,_,_,_,_] from aN 0 6 (HB102.ext hR).pv) | exact (show Pv _ _ [_,_,_,_,_,_] from aN 0 6 (HB101.ext hR).pv) | exact bg 0 (HP2.ext hR) | exact bg 0 (HP1.ext hR) | exact bg 0 (HB102.ext hR).pv | exact bg 0 (HB101.ext hR).pv | exact (HP2.ext hR) | exact (HP1.ext hR) | assumption) Z) ?_
  refine gx Z (fun ab w hd=>hd 13 Z) (fun ab w hR hd hG=>aW zk (gd hG (hd 19 Z)) (gd hG (hd 25 Z)) (oK (HG7.ext hR) (HG8.ext hR))) ?_
  refine bh Z (fun ab w hd=>hd 13 Z) (fun ab w hR hd hG=>cg (gd hG (hd 26 Z))) ?_
  refine aB (fun ab w hR hd=>bF (hd 13 Z) (hd 27 Z)) ?_
  refine bU (fun w110 e110=>?_)
  rintro _ rfl _ rfl _ rfl _ rfl _ rfl _ rfl _ rfl _ rfl _ rfl _ rfl _ rfl _ rfl _ rfl _ rfl _ rfl _ rfl _ rfl _ rfl _ rfl _ rfl _ rfl _ rfl _ rfl _ rfl _ rfl _ rfl _ rfl _ rfl _ rfl
  have:=e110.size
  replace E:=E.trans e110.keep
  replace HSr:=HSr.ext e110
  replace HSm:=HSm.ext e110
  replace HSs:=HSs.ext e110
  replace HSn:=HSn.ext e110
  replace HB101:=HB101.ext e110
  replace HB102:=HB102.ext e110
  replace EL2:=EL2.trans e110.keep
  replace HP1:=HP1.ext e110
  replace HP2:=HP2.ext e110
  replace HG7:=HG7.ext e110
  replace HG8:=HG8.ext e110
  refine bG (U (am Z Z (fun h126=>?_) (fun h126=>?_)))
  ·
   refine V (O zd (aa (ad Z) (ac (U (aw (bz (ay (ay (bz ?_)))))))))
   refine ay (aU Z zq (cE Z) ?_)
   refine ⟨?_,E⟩
   rw [decide_eq_false]
   rintro h;cases h
   rw [hx] at hy;cases hy
   simp at h126
  refine ar (bE (U (O zd (aa (aQ Z) (aa (cn Z Z (by first | exact bn zo zo | rfl)) ?_)))))
  refine aa (bO Z) (ac (U (⟨i + 1,_,rfl,by (repeat (first | exact cD.of_over _ _ _ | refine cD.upd ?_ zq _ | refine cD.overs ?_ zq _)),⟨by first | rfl | exact congrArg (Value.int _) zo | (simp;done),trivial⟩,⟨E,EL2,?_⟩,?_⟩)))
  ·
   refine ⟨by omega,?_⟩
   have hs:r=s:=by obtain ⟨r1,r2⟩:=r;obtain ⟨s1,s2⟩:=s;have h5:r2=s2∧r1=s1:=(by simpa using h126);rw [h5.1,h5.2]
   rw [List.take_add_one,List.take_add_one,h4,hx,hy,hs]
  (dsimp only;omega)
 refine cl (bm (bm (cV (U (V (O zd (aa (ad Z) (ac (U ?_)))))))))
 refine aw (aU Z zq (cE Z) ?_)
 refine ⟨?_,E⟩
 have h:=bf hlt2
 have:ms=ns:=by rw [← List.take_of_length_le (l:=ms) (i:=i) zo,h4,List.take_of_length_le zo]
 subst this;simp
def wM (s:it):Bool:=decide (s.1.2.length≤40) && decide (s.2.2.length≤40)
theorem tV {w:World} {F:Nat→Prop} {v:Value} {s:it} (HG1:aY iK w F v s):ae Tryz.prog 4 #[v] w (fun o w'=>o=.bool (wM s)∧aX w w'):=by
  obtain ⟨a,c,a2,c2,rfl,HSr,HSm,ie,im⟩:=HG1.mt
  refine aL 14 Tryz.func4 Z Z (by simp) ?_
  refine V ?_
  have E:=ao.refl (K:=aP) w
  replace HSr:=HSr.all
  replace HSm:=HSm.all
  refine O zd (ah (aS (aZ Z) ?_))
  rintro b101 w101 zb101 HB101 e101 z101
  have:=e101.size
  try simp only [Value.cells] at HB101
  refine aa (ad Z) (ac (U (V (O zd (aa (aA 0 24 Z) (aa (aA 1 22 Z) (aa (ag zk Z (by first | exact HB101.pv 1 _ rfl | assumption)) ?_)))))))
  refine aa (ba (et:=53) zk Z) ?_
  refine aa (fT Z Z) ?_
  refine aa (bH Z) (aj Z Z (fun hG=>aA 3 25 Z) ?_)
  refine aj Z Z (fun hG=>ag zk (gd hG Z) (by first | exact HB101.pv 3 _ rfl | assumption)) ?_
  refine aj Z Z (fun hG=>ba (et:=55) zk (gd hG Z)) ?_
  refine aj Z Z (fun hG=>fT (gd hG Z) Z) ?_
  refine aa (bu Z Z) ?_
  refine aa (dl Z) (ac (U (aw (aU Z zq (cE Z) ?_))))
  replace E:=E.trans e101.keep
  refine ⟨?_,E⟩
  congr 1;rw [wM]
  have e1:decide ((s.1.2.length:Int)≤40)=decide (s.1.2.length≤40):=decide_eq_decide.2 zo
  have e2:decide ((s.2.2.length:Int)≤40)=decide (s.2.2.length≤40):=decide_eq_decide.2 zo
  rw [e1,e2]
end Go.Proofs.YteehplloacefmaaGreat
namespace Go.Proofs.YteehplloacefmaaGreat
open Go.Vc
theorem sR {c d:UInt8} {x y:List UInt8}:decide (c :: x < d :: y)=if c.toNat=d.toNat then decide (x < y) else decide (c.toNat < d.toNat):=by
  by_cases h:c.toNat=d.toNat
  · obtain rfl:c=d:=UInt8.toNat_inj.1 h
    rw [if_pos rfl];exact decide_eq_decide.2 (by simp [List.cons_lt_cons_iff])
  · rw [if_neg h];refine decide_eq_decide.2 ⟨fun h2=>?_,fun h2=>List.cons_lt_cons_iff.2 (.inl h2)⟩
    rcases List.cons_lt_cons_iff.1 h2 with h3 | ⟨h3,_⟩
    · exact h3
    · exact absurd (congrArg UInt8.toNat h3) h
theorem ua {x y:List UInt8} (h:x=[]∨y=[]):decide (x < y)=decide (x.length < y.length):=by
  cases x <;> cases y <;> simp_all
theorem ql {w:World} {F G:Nat→Prop} {v u:Value} {x y:List UInt8} (HS1:Bv w F v x) (HS2:Bv w G u y):ae Tryz.prog 60 #[v,u] w (fun o w'=>o=.bool (decide (x < y))∧aX w w'):=by
 obtain ⟨a,c,rfl⟩:=HS1.shape
 obtain ⟨b,d,rfl⟩:=HS2.shape
 have hm1:=HS1.len_max
 have hm2:=HS2.len_max
 refine aL 41 Tryz.func60 Z Z (by simp) ?_
 refine V ?_
 have E:=ao.refl (K:=aP) w
 replace HS1:=HS1.all
 replace HS2:=HS2.all
 refine O zd (aa (ad Z) (ac (U (V (V (O zd (aa (ad Z) (ac (U ?_)))))))))
 refine aO (cy (τ:=Nat) [4,5,6,7,8,9,10,11,12,13,14,15,16,17,18,19,20,21,22,23,24,25,26,27,28,29,30,31,32,33,34,35] (fun i=>[(5,.int .i64 i)]) (fun i W=>aX w W∧ao (aP) w W∧i≤x.length∧i≤y.length∧decide (x < y)=decide (x.drop i < y.drop i)) (fun i=>x.length - i) 0 (by exact ⟨rfl,trivial⟩) (by exact ⟨E,ao.refl _,Nat.zero_le _,Nat.zero_le _,rfl⟩) ?_)
 rintro i w101 j ⟨E,EL1,h1,h2,h3⟩
 have:=EL1.size
 refine V (V (O zd (aa (aQ Z) (aa (bP Z) (aa (ba (et:=5) zk Z) ?_)))))
 refine aa (bw Z Z) ?_
 refine aa (bH Z) (aj Z Z (fun hG=>aQ Z) (aj Z Z (fun hG=>bP Z) (aj Z Z (fun hG=>ba (et:=5) zk (gd hG Z)) ?_)))
 refine aj Z Z (fun hG=>bw (gd hG Z) (gd hG Z)) ?_
 refine aa (bu Z Z) ?_
 replace HS1:=HS1.ext EL1
 replace HS2:=HS2.ext EL1
 refine ac (U (am Z Z (fun hlt=>?_) (fun hlt=>?_)))
 ·
  have hlt2:i < x.length∧i < y.length:=by simpa only [Bool.and_eq_true,decide_eq_true_eq,Int.ofNat_lt] using hlt
  obtain ⟨r,hx,hdr⟩:=eC (l:=x) (i:=i) zo
  obtain ⟨s,hy,hds⟩:=eC (l:=y) (i:=i) zo
  obtain ⟨q1,cs1,rfl,hF1,_,HP1,hr1⟩:=HS1.el hx
  obtain ⟨q2,cs2,rfl,hF2,_,HP2,hr2⟩:=HS2.el hy
  obtain rfl:=hr1
  obtain rfl:=hr2
  rw [hdr,hds,sR] at h3
  refine ar (U (V (aO (V (dx (aP) zk zd zd ?_)))))
  refine aB (fun ab w hR hd=>bP Z) ?_
  refine aB (fun ab w hR hd=>aQ Z) ?_
  refine aB (fun ab w hR hd=>aF (et:=5) (sz:=1) (k:=i) zk zk (hd 0 Z) (hd 1 Z) (by first | rfl | omega) zo) ?_
  refine aB (fun ab w hR hd=>ag zk (hd 2 Z) (by first | exact aK (HP2.ext hR) | exact aK (HP1.ext hR) | assumption)) ?_
  refine aB (fun ab w hR hd=>bP Z) ?_
  refine aB (fun ab w hR hd=>aQ Z) ?_
  refine aB (fun ab w hR hd=>aF (et:=5) (sz:=1) (k:=i) zk zk (hd 4 Z) (hd 5 Z) (by first | rfl | omega) zo) ?_
  refine aB (fun ab w hR hd=>ag zk (hd 6 Z) (by first | exact aK (HP2.ext hR) | exact aK (HP1.ext hR) | assumption)) ?_
  refine aB (fun ab w hR hd=>bD (hd 3 Z) (hd 7 Z)) ?_
  refine bU (fun w102 e102=>?_)
  rintro _ rfl _ rfl _ rfl _ rfl _ rfl _ rfl _ rfl _ rfl _ rfl
  have:=e102.size
  replace E:=E.trans e102.keep
  replace HS1:=HS1.ext e102
  replace HS2:=HS2.ext e102
  replace EL1:=EL1.trans e102.keep
  replace HP1:=HP1.ext e102
  replace HP2:=HP2.ext e102
  refine bG (U (am Z Z (fun hc=>?_) (fun hc=>?_)))
  ·
   have hc:¬ r.toNat=s.toNat:=by intro h;rw [h] at hc;simp at hc
   refine V (dx (aP) zk zd zd ?_)
   refine aB (fun ab w hR hd=>bP Z) ?_
   refine aB (fun ab w hR hd=>aQ Z) ?_
   refine aB (fun ab w hR hd=>aF (et:=5) (sz:=1) (k:=i) zk zk (hd 0 Z) (hd 1 Z) (by first | rfl | omega) zo) ?_
   refine aB (fun ab w hR hd=>ag zk (hd 2 Z) (by first | exact aK (HP2.ext hR) | exact aK (HP1.ext hR) | assumption)) ?_
   refine aB (fun ab w hR hd=>bP Z) ?_
   refine aB (fun ab w hR hd=>aQ Z) ?_
   refine aB (fun ab w hR hd=>aF (et:=5) (sz:=1) (k:=i) zk zk (hd 4 Z) (hd 5 Z) (by first | rfl | omega) zo) ?_
   refine aB (fun ab w hR hd=>ag zk (hd 6 Z) (by first | exact aK (HP2.ext hR) | exact aK (HP1.ext hR) | assumption)) ?_
   refine aB (fun ab w hR hd=>bw (hd 3 Z) (hd 7 Z)) ?_
   refine aB (fun ab w hR hd=>ad (t:=.bool _) (hd 8 Z)) ?_
   refine bU (fun w103 e103=>?_)
   rintro _ rfl _ rfl _ rfl _ rfl _ rfl _ rfl _ rfl _ rfl _ rfl _ rfl
   have:=e103.size
   refine bG (U (aw (bz (ay (ay (bz (ay (aU Z zq (cE Z) ?_))))))))
   replace E:=E.trans e103.keep
   exact ⟨by rw [h3,if_neg hc];congr 1;exact decide_eq_decide.2 zo,E⟩
  have hc:r.toNat=s.toNat:=by simp at hc;omega
  refine ar (bE (U (O zd (aa (aQ Z) (aa (cn Z Z (by first | exact bn zo zo | rfl)) ?_)))))
  refine aa (bO Z) (ac (U (⟨i + 1,_,rfl,by (repeat (first | exact cD.of_over _ _ _ | refine cD.upd ?_ zq _ | refine cD.overs ?_ zq _)),⟨by first | rfl | exact congrArg (Value.int _) zo | (simp;done),trivial⟩,⟨E,EL1,?_⟩,?_⟩)))
  ·
   exact ⟨by omega,by omega,by rw [h3,if_pos hc]⟩
  (dsimp only;omega)
 have hend:¬ (i < x.length∧i < y.length):=by
  intro h;have:(decide ((i:Int) < x.length) && decide ((i:Int) < y.length))=true:=by simp;omega
  rw [this] at hlt;cases hlt
 have hz:x.drop i=[]∨y.drop i=[]:=by
  rcases Nat.lt_or_ge i x.length with h | h
  ·
   exact .inr (List.drop_eq_nil_of_le zo)
  exact .inl (List.drop_eq_nil_of_le zo)
 rw [ua hz,List.length_drop,List.length_drop] at h3
 refine cl (bm (bm (cV (U (V (O zd (aa (bP Z) (aa (ba (et:=5) zk Z) ?_))))))))
 refine aa (bP Z) (aa (ba (et:=5) zk Z) ?_)
 refine aa (bw Z Z) ?_
 refine aa (dl Z) (ac (U (aw (aU Z zq (cE Z) ?_))))
 exact ⟨by rw [h3];congr 1;exact decide_eq_decide.2 zo,E⟩
theorem rp {w:World} {F G:Nat→Prop} {v kv:Value} {e:Int} {rs:List cO} {k:List UInt8} (HG1:aY li w F v (e,rs)) (HS2:Bv w G kv k):ae Tryz.prog 24 #[v,kv] w (fun o w'=>o=.int .i64 (dP (dH rs k))∧aX w w'):=by
 obtain ⟨a,c,rfl,HSr,he⟩:=HG1.mp
 obtain ⟨a3,c3,rfl⟩:=HS2.shape
 simp only at HSr he
 have hmx:=HSr.len_max
 refine aL 22 Tryz.func24 Z Z (by simp) ?_
 refine V ?_
 have E:=ao.refl (K:=aP) w
 replace HSr:=HSr.all
 replace HS2:=HS2.all
 refine O zd (ah (aS (aZ Z) ?_))
 rintro b2 w2 zb2 HB2 e2 z2
 have:=e2.size
 try simp only [Value.cells] at HB2
 refine aa (ad Z) (ac (U (V (V (O zd (aa (ad Z) (ac (U (aO ?_)))))))))
 replace E:=E.trans e2.keep
 refine cy (τ:=Nat) [4,5,6,7,8,9,10,11,12,13,14,15,16,17,18,19,20,21] (fun i=>[(5,.int .i64 i)]) (fun i W=>aX w W∧ao (aP) w2 W∧i≤rs.length∧gJ (ge k) rs 0=gJ (ge k) (rs.drop i) i) (fun i=>rs.length - i) 0 (by exact ⟨rfl,trivial⟩) (by exact ⟨E,ao.refl _,Nat.zero_le _,by rw [List.drop_zero]⟩) ?_
 rintro i w101 j ⟨E,EL1,h1,h2⟩
 have:=EL1.size
 replace HB2:=HB2.ext EL1
 refine V (V (O zd (aa (aQ Z) (aa (aA 1 22 Z) (aa (ag zk Z (by first | exact HB2.pv 1 _ rfl | assumption)) ?_)))))
 refine aa (ba (et:=53) zk Z) ?_
 refine aa (bw Z Z) ?_
 replace HSr:=(HSr.ext e2).ext EL1
 replace HS2:=(HS2.ext e2).ext EL1
 refine ac (U (am Z Z (fun hlt=>?_) (fun hlt=>?_)))
 ·
  have hlt:=bl hlt
  obtain ⟨r,hx,hdr⟩:=eC (l:=rs) (i:=i) zo
  obtain ⟨q,cs,rfl,hF,_,HPq,hr⟩:=HSr.el hx
  obtain ⟨b5,d5,b6,d6,rfl,HSf,_⟩:=bN hr
  refine ar (U (V (aO (V (O zd (aa (aA 1 22 Z) (aa (ag zk Z (by first | exact HPq 1 _ rfl | exact aK HPq | exact HB2.pv 1 _ rfl | assumption)) ?_)))))))
  refine aa (aQ Z) (aa (aF (et:=53) (sz:=4) (k:=i) zk zk Z Z (by first | rfl | omega) zo) ?_)
  refine aa (aA 0 28 Z) (aa (ag zk Z (by first | exact HPq 0 _ rfl | exact HB2.pv 0 _ rfl | assumption)) ?_)
  refine aa (bP Z) (ah (aW zk (bI Z) (bI Z) (ae.mono (eB HSf HS2) ?_)))
  rintro _ w102 ⟨rfl,e102⟩
  have:=e102.size
  replace E:=E.trans e102.keep
  replace HSr:=HSr.ext e102
  replace HS2:=HS2.ext e102
  replace HB2:=HB2.ext e102
  replace EL1:=EL1.trans e102.keep
  replace HPq:=HPq.ext e102
  replace HSf:=HSf.ext e102
  refine ac (U (am Z Z (fun hc=>?_) (fun hc=>?_)))
  ·
   refine V (O zd (aa (aQ Z) (aa (bO Z) (ac (U (aw (bz (ay (ay ?_)))))))))
   refine bz (ay (aU Z zq (bB Z) ?_))
   refine ⟨?_,E⟩
   rw [← ia,h2,hdr,gJ,if_pos (show ge k r=true from hc)]
  refine ar (bE (U (O zd (aa (aQ Z) (aa (cn Z Z (by first | exact bn zo zo | rfl)) ?_)))))
  refine aa (bO Z) (ac (U (⟨i + 1,_,rfl,by (repeat (first | exact cD.of_over _ _ _ | refine cD.upd ?_ zq _ | refine cD.overs ?_ zq _)),⟨by first | rfl | exact congrArg (Value.int _) zo | (simp;done),trivial⟩,⟨E,EL1,?_⟩,?_⟩)))
  ·
   refine ⟨by omega,?_⟩
   rw [h2,hdr,gJ,if_neg (by rw [show ge k r=false from hc];simp)]
  (dsimp only;omega)
 refine cl (bm (bm (cV (U (V (O zd (aa (ad Z) (ac (U ?_)))))))))
 refine aw (aU Z zq (bB Z) ?_)
 refine ⟨?_,E⟩
 rw [← ia,h2,List.drop_eq_nil_of_le (by have:=bf hlt;omega)];rfl
theorem pE {w:World} {F:Nat→Prop} {v:Value} {a:iJ} (HG1:aY jU w F v a):ae Tryz.prog 25 #[v] w (fun o w'=>o=.bool (di a)∧aX w w'):=by
 obtain ⟨n,f,t,e,og,ng⟩:=a
 obtain ⟨a1,c1,a2,c2,rfl,HS1,HS2,hi1,hi2,hi3⟩:=HG1.mv
 simp only [] at HS1 HS2 hi1 hi2 hi3 ⊢
 have hm1:=HS1.len_max
 have hm2:=HS2.len_max
 refine aL 62 Tryz.func25 Z Z (by simp) ?_
 refine V ?_
 have E:=ao.refl (K:=aP) w
 replace HS1:=HS1.all
 replace HS2:=HS2.all
 refine O zd (ah (aS (aZ Z) ?_))
 rintro b101 w101 zb101 HB101 e101 z101
 have:=e101.size
 try simp only [Value.cells] at HB101
 refine aa (ad Z) (ac (U (V (V (O zd (aa (aA 0 2 Z) (aa (ag zk Z (by first | exact HB101.pv 0 _ rfl | assumption)) ?_)))))))
 refine aa (bw Z Z) ?_
 refine aa (bH Z) (aj Z Z (fun hG=>aA 0 2 Z) ?_)
 refine aj Z Z (fun hG=>ag zk (gd hG Z) (by first | exact HB101.pv 0 _ rfl | assumption)) ?_
 refine aj Z Z (fun hG=>bX (gd hG Z) Z) ?_
 refine aa (bF Z Z) ?_
 refine aa (bH Z) (aj Z Z (fun hG=>aA 1 28 Z) ?_)
 refine aj Z Z (fun hG=>ag zk (gd hG Z) (by first | exact HB101.pv 1 _ rfl | assumption)) ?_
 refine aj Z Z (fun hG=>ba (et:=5) zk (gd hG Z)) ?_
 refine aj Z Z (fun hG=>bX (gd hG Z) Z) ?_
 refine aa (bF Z Z) ?_
 refine aa (bH Z) (aj Z Z (fun hG=>aA 4 3 Z) ?_)
 refine aj Z Z (fun hG=>ag zk (gd hG Z) (by first | exact HB101.pv 4 _ rfl | assumption)) ?_
 refine aj Z Z (fun hG=>bw (gd hG Z) Z) ?_
 refine aa (bF Z Z) ?_
 refine aa (bH Z) (aj Z Z (fun hG=>aA 4 3 Z) ?_)
 refine aj Z Z (fun hG=>ag zk (gd hG Z) (by first | exact HB101.pv 4 _ rfl | assumption)) ?_
 refine aj Z Z (fun hG=>bX (gd hG Z) Z) ?_
 refine aa (bF Z Z) ?_
 refine aa (bH Z) (aj Z Z (fun hG=>aA 5 3 Z) ?_)
 refine aj Z Z (fun hG=>ag zk (gd hG Z) (by first | exact HB101.pv 5 _ rfl | assumption)) ?_
 refine aj Z Z (fun hG=>bw (gd hG Z) Z) ?_
 refine aa (bF Z Z) ?_
 refine aa (bH Z) (aj Z Z (fun hG=>aA 5 3 Z) ?_)
 refine aj Z Z (fun hG=>ag zk (gd hG Z) (by first | exact HB101.pv 5 _ rfl | assumption)) ?_
 refine aj Z Z (fun hG=>bX (gd hG Z) Z) ?_
 refine aa (bF Z Z) ?_
 refine aa (bH Z) (aj Z Z (fun hG=>aA 4 3 Z) ?_)
 refine aj Z Z (fun hG=>ag zk (gd hG Z) (by first | exact HB101.pv 4 _ rfl | assumption)) ?_
 refine aj Z Z (fun hG=>aA 5 3 Z) ?_
 refine aj Z Z (fun hG=>ag zk (gd hG Z) (by first | exact HB101.pv 5 _ rfl | assumption)) ?_
 refine aj Z Z (fun hG=>aJ (gd hG Z) (gd hG Z)) ?_
 refine aa (bF Z Z) ?_
 replace E:=E.trans e101.keep
 replace HS1:=HS1.ext e101
 replace HS2:=HS2.ext e101
 refine ac (U (am Z Z (fun hc=>?_) (fun hc=>?_)))
 ·
  refine V (O zd (aa (ad Z) (ac (U (aw (ay (aU Z zq (cE Z) ?_)))))))
  refine ⟨?_,E⟩
  congr 1;symm;rw [Bool.eq_false_iff];intro h
  obtain ⟨g1,g2,g3,g4,g5,g6,g7,g8⟩:=km h
  have g9:¬ og=ng:=by intro h9;subst h9;simp [di] at h
  simp only [Bool.or_eq_true,decide_eq_true_eq] at hc
  omega
 have hg:1≤n∧n≤2147483647∧f.length≤24∧1≤og∧og≤4∧1≤ng∧ng≤4∧¬ og=ng:=by
  simp only [Bool.or_eq_false_iff,decide_eq_false_iff_not] at hc
  omega
 obtain ⟨g1,g2,g3,g4,g5,g6,g7,g8⟩:=hg
 have hm:di (n,f,t,e,og,ng)=(if e then ep t && decide (f < t) else t.isEmpty):=by
  have e4:dJ og=true:=by simp [dJ];omega
  have e5:dJ ng=true:=by simp [dJ];omega
  simp only [di,t8,decide_eq_true g1,decide_eq_true g2,decide_eq_true g3,e4,e5,decide_eq_false g8,Bool.not_false,Bool.and_self,Bool.true_and]
 refine ar (U (V (V (O zd (aa (aA 3 4 Z) (aa (ag zk Z (by first | exact HB101.pv 3 _ rfl | assumption)) ?_))))))
 refine aa (cg Z) ?_
 refine ac (U (am Z Z (fun he=>?_) (fun he=>?_)))
 ·
  refine V (O zd (aa (aA 2 28 Z) (aa (ag zk Z (by first | exact HB101.pv 2 _ rfl | assumption)) ?_)))
  refine aa (ba (et:=5) zk Z) ?_
  refine aa (aJ Z Z) ?_
  refine aa (dl Z) (ac (U (aw (ay (aU Z zq (cE Z) ?_)))))
  refine ⟨?_,E⟩
  obtain rfl:e=false:=by simpa using he
  rw [hm];congr 1
  simp only [Bool.false_eq_true,if_false]
  rw [← qv]
 refine ar (U (V (O zd (aa (aA 2 28 Z) (aa (ag zk Z (by first | exact HB101.pv 2 _ rfl | assumption)) ?_)))))
 refine aa (ba (et:=5) zk Z) ?_
 refine aa (fT Z Z) ?_
 refine aa (bH Z) (aj Z Z (fun hG=>aA 1 28 Z) ?_)
 refine aj Z Z (fun hG=>ag zk (gd hG Z) (by first | exact HB101.pv 1 _ rfl | assumption)) ?_
 refine aj Z Z (fun hG=>aA 2 28 Z) ?_
 refine aj Z Z (fun hG=>ag zk (gd hG Z) (by first | exact HB101.pv 2 _ rfl | assumption)) ?_
 refine cI Z Z (fun hG=>aW zk (gd hG Z) (gd hG Z) (ql HS1 HS2)) ?_
 rintro w102 e102
 have:=e102.size
 refine aa (bu Z Z) ?_
 refine aa (dl Z) (ac (U (aw (aU Z zq (cE Z) ?_))))
 replace E:=E.trans e102.keep
 refine ⟨?_,E⟩
 obtain rfl:e=true:=by simpa using he
 rw [hm];congr 1
 simp only [if_true,ep]
 rw [Bool.eq_iff_iff]
 simp only [Bool.and_eq_true,decide_eq_true_eq]
 replace HS1:=HS1.ext e102
 replace HS2:=HS2.ext e102
 replace HB101:=HB101.ext e102
 constructor
 ·
  intro h
  have h1:t.length≤24∧f < t:=⟨by have:=h.1;omega,h.2⟩
  refine ⟨⟨?_,h1.1⟩,h1.2⟩
  cases t with
  | nil=>exact absurd h1.2 (pL _)
  | cons a b=>simp
 rintro ⟨⟨h1,h2⟩,h3⟩
 exact ⟨by omega,h3⟩
theorem rm {w:World} {F:Nat→Prop} {v:Value} {e:Int} {rs:List cO} (HG1:aY li w F v (e,rs)):ae Tryz.prog 23 #[v] w (fun o w'=>o=.bool (cY (e,rs))∧aX w w'):=by
 obtain ⟨a,c,rfl,HSr,he⟩:=HG1.mp
 simp only at HSr he
 have hmx:=HSr.len_max
 refine aL 105 Tryz.func23 Z Z (by simp) ?_
 refine V ?_
 have E:=ao.refl (K:=aP) w
 replace HSr:=HSr.all
 refine O zd (ah (aS (aZ Z) ?_))
 rintro b1 w1 zb1 HB1 e1 z1
 have:=e1.size
 try simp only [Value.cells] at HB1
 refine aa (ad Z) (ac (U (V (V (O zd (aa (aA 0 2 Z) (aa (ag zk Z (by first | exact HB1.pv 0 _ rfl | assumption)) ?_)))))))
 refine aa (bw Z Z) ?_
 refine aa (bH Z) (aj Z Z (fun hG=>aA 0 2 Z) ?_)
 refine aj Z Z (fun hG=>ag zk (gd hG Z) (by first | exact HB1.pv 0 _ rfl | assumption)) ?_
 refine aj Z Z (fun hG=>bX (gd hG Z) Z) ?_
 refine aa (bF Z Z) ?_
 refine aa (bH Z) (aj Z Z (fun hG=>aA 1 22 Z) ?_)
 refine aj Z Z (fun hG=>ag zk (gd hG Z) (by first | exact HB1.pv 1 _ rfl | assumption)) ?_
 refine aj Z Z (fun hG=>ba (et:=53) zk (gd hG Z)) ?_
 refine aj Z Z (fun hG=>bw (gd hG Z) Z) ?_
 refine aa (bF Z Z) ?_
 refine aa (bH Z) (aj Z Z (fun hG=>aA 1 22 Z) ?_)
 refine aj Z Z (fun hG=>ag zk (gd hG Z) (by first | exact HB1.pv 1 _ rfl | assumption)) ?_
 refine aj Z Z (fun hG=>ba (et:=53) zk (gd hG Z)) ?_
 refine aj Z Z (fun hG=>bX (gd hG Z) Z) ?_
 refine aa (bF Z Z) ?_
 replace E:=E.trans e1.keep
 replace HSr:=HSr.ext e1
 refine ac (U (am Z Z (fun hc=>?_) (fun hc=>?_)))
 ·
  refine V (O zd (aa (ad Z) (ac (U (aw (ay (aU Z zq (cE Z) ?_)))))))
  refine ⟨?_,E⟩
  congr 1;symm;rw [Bool.eq_false_iff];intro h
  obtain ⟨g1,g2,g3,g4,_⟩:=ko.1 h
  simp only [Bool.or_eq_true,decide_eq_true_eq] at hc
  omega
 have hg:1≤e∧e≤2147483647∧1≤rs.length∧rs.length≤16:=by
  simp only [Bool.or_eq_false_iff,decide_eq_false_iff_not] at hc
  omega
 refine ar (U (V (V (O zd (aa (ad Z) (ac (U (aO (cy (τ:=Nat) ([2,3,4,25,26,27,28,29,30,31,32,33,34,35,36,37] ++ [38,39,40,41,42,43,44,45,46,47,48,49,50,51,52,53] ++ [54,55,56,57,58,59,60,61,62,63,64,65,66,67,68,69] ++ [70,71,72,73,74,75,76,77,78,79,80,81,82,83,84,85] ++ [86,87,88,89,90,91,92,93,94,95,96,97,98,99,100,101] ++ [102,103,104]) (fun i=>[(3,.int .i64 i)]) (fun i W=>aX w W∧ao (aP) w1 W∧i≤rs.length∧∀ j,j < i→∀ r,rs[j]? = some r→wD rs.length j r rs[j + 1]?) (fun i=>rs.length - i) 0 (by exact ⟨rfl,trivial⟩) (by exact ⟨E,ao.refl _,Nat.zero_le _,fun j hj=>by omega⟩) ?_)))))))))
 rintro i w101 j ⟨E,EL1,h1,h2⟩
 have:=EL1.size
 replace HB1:=HB1.ext EL1
 refine V (V (O zd (aa (aQ Z) (aa (aA 1 22 Z) (aa (ag zk Z (by first | exact HB1.pv 1 _ rfl | assumption)) ?_)))))
 refine aa (ba (et:=53) zk Z) ?_
 refine aa (bw Z Z) ?_
 replace HSr:=HSr.ext EL1
 refine ac (U (am Z Z (fun hlt=>?_) (fun hlt=>?_)))
 ·
  have hlt:=bl hlt
  obtain ⟨x,hx,hdr⟩:=eC (l:=rs) (i:=i) zo
  obtain ⟨q,cs,hq,hF,_,HPq,hr⟩:=HSr.el hx
  subst hq
  obtain ⟨b5,d5,b6,d6,rfl,HSf,HSt,hgx⟩:=bN hr
  refine ar (U (V (aO (V (O zd (aa (aA 1 22 Z) (aa (ag zk Z (by first | exact HPq 1 _ rfl | exact aK HPq | exact HB1.pv 1 _ rfl | assumption)) ?_)))))))
  refine aa (aQ Z) (aa (aF (et:=53) (sz:=4) (k:=i) zk zk Z Z (by first | rfl | omega) zo) ?_)
  refine aa (ap zk Z (by first | exact HPq | exact HB1.pv | assumption) Z) ?_
  refine ah (aD (z:=(.agg #[.slice none 0 0,.slice none 0 0,.bool false,.int .i64 0])) (by unfold aE;kernel_rfl) ?_)
  rintro b4 w4 zb4 HB4 e4 z4
  have:=e4.size
  try simp only [Value.cells] at HB4
  refine ah (aq (n:=4) Z Z (aZ Z) zk Z cT HB4 bV ?_)
  rintro w102 HB4 k102 z102
  have:=k102.size
  try simp only [zS,Nat.zero_add,Nat.reduceAdd,List.drop_nil] at HB4
  replace HB1:=(HB1.ext e4).keep k102 aH
  replace HPq:=(HPq.ext e4).keep k102 (by intro h;(try dsimp only at h);(try simp only [au] at h);first | omega)
  refine ac (U (V (V (O zd (aa (aA 3 3 Z) (aa (ag zk Z (by first | exact HB4.pv 3 _ rfl | exact HPq 3 _ rfl | exact aK HPq | exact HB1.pv 3 _ rfl | assumption)) ?_))))))
  refine aa (bw Z Z) ?_
  refine aa (bH Z) (aj Z Z (fun hG=>aA 3 3 Z) ?_)
  refine aj Z Z (fun hG=>ag zk (gd hG Z) (by first | exact HB4.pv 3 _ rfl | exact HPq 3 _ rfl | exact aK HPq | exact HB1.pv 3 _ rfl | assumption)) ?_
  refine aj Z Z (fun hG=>bX (gd hG Z) Z) ?_
  refine aa (bF Z Z) ?_
  refine aa (bH Z) (aj Z Z (fun hG=>aA 0 28 Z) ?_)
  refine aj Z Z (fun hG=>ag zk (gd hG Z) (by first | exact HB4.pv 0 _ rfl | exact HPq 0 _ rfl | exact HB1.pv 0 _ rfl | assumption)) ?_
  refine aj Z Z (fun hG=>ba (et:=5) zk (gd hG Z)) ?_
  refine aj Z Z (fun hG=>aJ (gd hG Z) Z) ?_
  refine aj Z Z (fun hG=>aQ Z) (aj Z Z (fun hG=>aJ (gd hG Z) Z) ?_)
  refine aj Z Z (fun hG=>gU zk (gd hG Z) (gd hG Z)) ?_
  refine aa (bF Z Z) ?_
  refine aa (bH Z) (aj Z Z (fun hG=>aA 0 28 Z) ?_)
  refine aj Z Z (fun hG=>ag zk (gd hG Z) (by first | exact HB4.pv 0 _ rfl | exact HPq 0 _ rfl | exact HB1.pv 0 _ rfl | assumption)) ?_
  refine aj Z Z (fun hG=>ba (et:=5) zk (gd hG Z)) ?_
  refine aj Z Z (fun hG=>bX (gd hG Z) Z) ?_
  refine aa (bF Z Z) ?_
  refine aa (bH Z) (aj Z Z (fun hG=>aA 2 4 Z) ?_)
  refine aj Z Z (fun hG=>ag zk (gd hG Z) (by first | exact HB4.pv 2 _ rfl | exact HPq 2 _ rfl | exact aK HPq | exact HB1.pv 2 _ rfl | assumption)) ?_
  refine aj Z Z (fun hG=>aQ Z) (aj Z Z (fun hG=>cn (gd hG Z) Z (by first | exact bn zo zo | rfl)) ?_)
  refine aj Z Z (fun hG=>aA 1 22 Z) ?_
  refine aj Z Z (fun hG=>ag zk (gd hG Z) (by first | exact HB4.pv 1 _ rfl | exact HPq 1 _ rfl | exact aK HPq | exact HB1.pv 1 _ rfl | assumption)) ?_
  refine aj Z Z (fun hG=>ba (et:=53) zk (gd hG Z)) ?_
  refine aj Z Z (fun hG=>bw (gd hG Z) (gd hG Z)) ?_
  refine aj Z Z (fun hG=>gU zk (gd hG Z) (gd hG Z)) ?_
  refine aa (bF Z Z) ?_
  refine aa (bH Z) (aj Z Z (fun hG=>aA 2 4 Z) ?_)
  refine aj Z Z (fun hG=>ag zk (gd hG Z) (by first | exact HB4.pv 2 _ rfl | exact HPq 2 _ rfl | exact aK HPq | exact HB1.pv 2 _ rfl | assumption)) ?_
  refine aj Z Z (fun hG=>cg (gd hG Z)) ?_
  refine aj Z Z (fun hG=>be (t:=.bool _) (gd hG Z)) ?_
  refine gX Z Z (fun hG=>aA 1 28 Z) ?_
  refine gX Z Z (fun hG=>ag zk (gd hG Z) (by first | exact HB4.pv 1 _ rfl | exact HPq 1 _ rfl | exact aK HPq | exact HB1.pv 1 _ rfl | assumption)) ?_
  refine gX Z Z (fun hG=>ba (et:=5) zk (gd hG Z)) ?_
  refine gX Z Z (fun hG=>bX (gd hG Z) Z) ?_
  refine aj Z Z (fun hG=>bu (gd hG Z) (sY hG Z)) ?_
  refine aa (bF Z Z) ?_
  replace E:=(E.trans e4.keep).step k102 bi
  replace HSr:=(HSr.ext e4).keep k102 aC
  replace EL1:=(EL1.trans e4.keep).step k102 bi
  replace HSf:=(HSf.ext e4).keep k102 aC
  replace HSt:=(HSt.ext e4).keep k102 aC
  refine ac (U (am Z Z (fun h81=>?_) (fun h81=>?_)))
  ·
   refine V (O zd (aa (ad Z) (ac (U (aw (ay (bz (ay (ay ?_)))))))))
   refine bz (ay (aU Z zq (cE Z) ?_))
   refine ⟨?_,E⟩
   congr 1;symm;rw [Bool.eq_false_iff];intro h
   have hk:=(ko.1 h).2.2.2.2 i x hx
   obtain ⟨k1,k2⟩:=gF hk.g
   have k3:(x.1.length:Int)=0↔(i:Int)=0:=by rw [show ((i:Int)=0↔i=0) from by omega,← hk.f];cases x.1 <;> simp;omega
   have k4:=hk.l
   have k5:x.2.2.1=decide ((i:Int) + 1 < rs.length):=by rw [hk.e];exact decide_eq_decide.2 zo
   have k6:=hk.z
   have k7:decide ((x.1.length:Int)=0)=decide ((i:Int)=0):=decide_eq_decide.2 k3
   rw [k7,k5] at h81
   revert k6;rw [k5];intro k6
   by_cases hn:(i:Int) + 1 < rs.length
   ·
    simp [hn] at h81;omega
   have:=k6 (by simpa using hn)
   rw [this] at h81;simp [hn] at h81;omega
  have hk1:dJ x.2.2.2=true∧(x.1=[]↔i=0)∧x.1.length≤24∧x.2.2.1=decide (i + 1 < rs.length)∧(x.2.2.1=false→x.2.1=[]):=by
   simp only [Bool.or_eq_false_iff,decide_eq_false_iff_not] at h81
   obtain ⟨⟨⟨⟨⟨j1,j2⟩,j3⟩,j4⟩,j5⟩,j6⟩:=h81
   have e3':decide ((x.1.length:Int)=0)=decide ((i:Int)=0):=by simpa using j3
   have e3:=decide_eq_decide.1 e3'
   have e5:x.2.2.1=decide ((i:Int) + 1 < rs.length):=by simpa using j5
   refine ⟨by simp [dJ];omega,?_,by omega,by rw [e5];exact decide_eq_decide.2 zo,fun h9=>?_⟩
   ·
    rw [← List.length_eq_zero_iff];omega
   rw [h9] at j6
   have:¬ 0 < (x.2.1.length:Int):=by simpa using j6
   exact List.eq_nil_of_length_eq_zero zo
  obtain ⟨k1,k2,k3,k4,k5⟩:=hk1
  by_cases hi1:i + 1 < rs.length
  ·
   refine ar (U (V ?_))
   obtain ⟨s,hs,_⟩:=eC (l:=rs) (i:=i + 1) hi1
   obtain ⟨q2,cs2,hq2,hF2,_,HPs,hrs⟩:=HSr.el hs
   cases hq2
   obtain ⟨b7,d7,b8,d8,rfl,HSsf,_⟩:=bN hrs
   have hend:x.2.2.1=true:=by rw [k4];simpa using hi1
   refine dx (aP) zk zd zd ?_
   refine aB (fun ab w hR hd=>aA 2 4 Z) ?_
   refine aB (fun ab w hR hd=>ag zk (hd 0 Z) (by first | exact (HPs.ext hR) 2 _ rfl | exact aK (HPs.ext hR) | exact (HB4.ext hR).pv 2 _ rfl | exact (HPq.ext hR) 2 _ rfl | exact aK (HPq.ext hR) | exact (HB1.ext hR).pv 2 _ rfl | assumption)) ?_
   refine aB (fun ab w hR hd=>be (t:=.bool _) (hd 1 Z)) ?_
   refine bh Z (fun ab w hd=>hd 2 Z) (fun ab w hR hd hG=>aA 0 28 Z) ?_
   refine bh Z (fun ab w hd=>hd 2 Z) (fun ab w hR hd hG=>ag zk (gd hG (hd 3 Z)) (by first | exact (HPs.ext hR) 0 _ rfl | exact (HB4.ext hR).pv 0 _ rfl | exact (HPq.ext hR) 0 _ rfl | exact (HB1.ext hR).pv 0 _ rfl | assumption)) ?_
   refine bh Z (fun ab w hd=>hd 2 Z) (fun ab w hR hd hG=>aA 1 28 Z) ?_
   refine bh Z (fun ab w hd=>hd 2 Z) (fun ab w hR hd hG=>ag zk (gd hG (hd 5 Z)) (by first | exact (HPs.ext hR) 1 _ rfl | exact aK (HPs.ext hR) | exact (HB4.ext hR).pv 1 _ rfl | exact (HPq.ext hR) 1 _ rfl | exact aK (HPq.ext hR) | exact (HB1.ext hR).pv 1 _ rfl | assumption)) ?_
   refine gx Z (fun ab w hd=>hd 2 Z) (fun ab w hR hd hG=>aW zk (gd hG (hd 4 Z)) (gd hG (hd 6 Z)) (ql (HSf.ext hR) (HSt.ext hR))) ?_
   refine bh Z (fun ab w hd=>hd 2 Z) (fun ab w hR hd hG=>cg (gd hG (hd 7 Z))) ?_
   refine bh Z (fun ab w hd=>hd 2 Z) (fun ab w hR hd hG=>be (t:=.bool _) (gd hG (hd 8 Z))) ?_
   refine db Z (fun ab w hd=>hd 9 Z) (fun ab w hR hd hG=>aA 1 28 Z) ?_
   refine db Z (fun ab w hd=>hd 9 Z) (fun ab w hR hd hG=>ag zk (gd hG (hd 10 Z)) (by first | exact (HPs.ext hR) 1 _ rfl | exact aK (HPs.ext hR) | exact (HB4.ext hR).pv 1 _ rfl | exact (HPq.ext hR) 1 _ rfl | exact aK (HPq.ext hR) | exact (HB1.ext hR).pv 1 _ rfl | assumption)) ?_
   refine db Z (fun ab w hd=>hd 9 Z) (fun ab w hR hd hG=>aA 1 22 Z) ?_
   refine db Z (fun ab w hd=>hd 9 Z) (fun ab w hR hd hG=>ag zk (gd hG (hd 12 Z)) (by first | exact (HPs.ext hR) 1 _ rfl | exact aK (HPs.ext hR) | exact (HB4.ext hR).pv 1 _ rfl | exact (HPq.ext hR) 1 _ rfl | exact aK (HPq.ext hR) | exact (HB1.ext hR).pv 1 _ rfl | assumption)) ?_
   refine db Z (fun ab w hd=>hd 9 Z) (fun ab w hR hd hG=>aQ Z) ?_
   refine db Z (fun ab w hd=>hd 9 Z) (fun ab w hR hd hG=>cn (gd hG (hd 14 Z)) Z (by first | exact bn zo zo | rfl)) ?_
   refine db Z (fun ab w hd=>hd 9 Z) (fun ab w hR hd hG=>aF (et:=53) (sz:=4) (k:=i + 1) zk zk (gd hG (hd 13 Z)) (gd hG (hd 15 Z)) (by first | rfl | omega) (hi1)) ?_
   refine db Z (fun ab w hd=>hd 9 Z) (fun ab w hR hd hG=>aA 0 28 (gd hG (hd 16 Z))) ?_
   refine db Z (fun ab w hd=>hd 9 Z) (fun ab w hR hd hG=>ag zk (gd hG (hd 17 Z)) (by first | exact (HPs.ext hR) 0 _ rfl | exact (HB4.ext hR).pv 0 _ rfl | exact (HPq.ext hR) 0 _ rfl | exact (HB1.ext hR).pv 0 _ rfl | assumption)) ?_
   refine su Z (fun ab w hd=>hd 9 Z) (fun ab w hR hd hG=>aW zk (gd hG (hd 11 Z)) (gd hG (hd 18 Z)) (eB (HSt.ext hR) (HSsf.ext hR))) ?_
   refine db Z (fun ab w hd=>hd 9 Z) (fun ab w hR hd hG=>cg (gd hG (hd 19 Z))) ?_
   refine bh Z (fun ab w hd=>hd 2 Z) (fun ab w hR hd hG=>bF (gd hG (hd 9 Z)) (sY hG (hd 20 Z))) ?_
   refine aB (fun ab w hR hd=>bu (hd 2 Z) (hd 21 Z)) ?_
   refine bU (fun w103 e103=>?_)
   rintro _ rfl _ rfl _ rfl _ rfl _ rfl _ rfl _ rfl _ rfl _ rfl _ rfl _ rfl _ rfl _ rfl _ rfl _ rfl _ rfl _ rfl _ rfl _ rfl _ rfl _ rfl _ rfl _ rfl
   have:=e103.size
   replace E:=E.trans e103.keep
   replace HSr:=HSr.ext e103
   replace HB1:=HB1.ext e103
   replace EL1:=EL1.trans e103.keep
   replace HPq:=HPq.ext e103
   replace HSf:=HSf.ext e103
   replace HSt:=HSt.ext e103
   replace HB4:=HB4.ext e103
   replace HPs:=HPs.ext e103
   replace HSsf:=HSsf.ext e103
   refine bG (U (am Z Z (fun h104=>?_) (fun h104=>?_)))
   ·
    refine V (O zd (aa (ad Z) (ac (U (aw (bz (ay (ay (bz ?_)))))))))
    refine ay (aU Z zq (cE Z) ?_)
    refine ⟨?_,E⟩
    congr 1;symm;rw [Bool.eq_false_iff];intro h
    have hk:=(ko.1 h).2.2.2.2 i x hx
    have p1:=(hk.t hend).1
    have p2:=(hk.t hend).2 s hs
    rw [hend] at h104
    simp only [Bool.true_and,Bool.or_eq_true,Bool.not_eq_true',decide_eq_false_iff_not] at h104
    rcases h104 with h | h
    ·
     exact h p1
    exact h p2
   refine ar (bE (U (O zd (aa (aQ Z) (aa (cn Z Z (by first | exact bn zo zo | rfl)) ?_)))))
   refine aa (bO Z) (ac (U (⟨i + 1,_,rfl,by (repeat' (first | exact cD.of_over _ _ _ | refine cD.upd ?_ zq _ | refine cD.overs ?_ zq _)),⟨by first | rfl | exact congrArg (Value.int _) zo | (simp;done),trivial⟩,⟨E,EL1,?_⟩,?_⟩)))
   ·
    refine ⟨by omega,fun j hj r hr=>?_⟩
    rcases Nat.lt_or_ge j i with hji | hji
    ·
     exact h2 j hji r hr
    obtain rfl:j=i:=by omega
    obtain rfl:x=r:=by rw [hx] at hr;exact Option.some.inj hr
    rw [hend] at h104
    simp only [Bool.true_and,Bool.or_eq_false_iff,Bool.not_eq_false',decide_eq_true_eq] at h104
    exact ⟨k1,k2,k3,k4,fun _=>⟨h104.1,fun y hy=>by rw [hs] at hy;cases hy;exact h104.2⟩,k5⟩
   (dsimp only;omega)
  refine ar (U (V ?_))
  have hend:x.2.2.1=false:=by rw [k4];simpa using hi1
  rw [hend] at HB4
  refine dx (aP) zk zd zd ?_
  refine aB (fun ab w hR hd=>aA 2 4 Z) ?_
  refine aB (fun ab w hR hd=>ag zk (hd 0 Z) (by first | exact (HB4.ext hR).pv 2 _ rfl | exact (HPq.ext hR) 2 _ rfl | exact aK (HPq.ext hR) | exact (HB1.ext hR).pv 2 _ rfl | assumption)) ?_
  refine aB (fun ab w hR hd=>be (t:=.bool _) (hd 1 Z)) ?_
  refine bJ (u:=.bool false) Z (fun ab w hd=>hd 2 Z) Z ?_
  refine bJ (u:=.bool false) Z (fun ab w hd=>hd 2 Z) Z ?_
  refine bJ (u:=.bool false) Z (fun ab w hd=>hd 2 Z) Z ?_
  refine bJ (u:=.bool false) Z (fun ab w hd=>hd 2 Z) Z ?_
  refine bJ (u:=.bool false) Z (fun ab w hd=>hd 2 Z) Z ?_
  refine bJ (u:=.bool false) Z (fun ab w hd=>hd 2 Z) Z ?_
  refine bJ (u:=.bool false) Z (fun ab w hd=>hd 2 Z) Z ?_
  refine bJ (u:=undef) Z (fun ab w hd=>hd 9 Z) Z ?_
  refine bJ (u:=undef) Z (fun ab w hd=>hd 9 Z) Z ?_
  refine bJ (u:=undef) Z (fun ab w hd=>hd 9 Z) Z ?_
  refine bJ (u:=undef) Z (fun ab w hd=>hd 9 Z) Z ?_
  refine bJ (u:=undef) Z (fun ab w hd=>hd 9 Z) Z ?_
  refine bJ (u:=undef) Z (fun ab w hd=>hd 9 Z) Z ?_
  refine bJ (u:=undef) Z (fun ab w hd=>hd 9 Z) Z ?_
  refine bJ (u:=undef) Z (fun ab w hd=>hd 9 Z) Z ?_
  refine bJ (u:=undef) Z (fun ab w hd=>hd 9 Z) Z ?_
  refine bJ (u:=undef) Z (fun ab w hd=>hd 9 Z) Z ?_
  refine bJ (u:=undef) Z (fun ab w hd=>hd 9 Z) Z ?_
  refine bJ (u:=.bool false) Z (fun ab w hd=>hd 2 Z) Z ?_
  refine aB (fun ab w hR hd=>fG (hd 2 Z)) ?_
  refine bU (fun w104 e104=>?_)
  rintro _ rfl _ rfl _ rfl _ rfl _ rfl _ rfl _ rfl _ rfl _ rfl _ rfl _ rfl _ rfl _ rfl _ rfl _ rfl _ rfl _ rfl _ rfl _ rfl _ rfl _ rfl _ rfl _ rfl
  have:=e104.size
  replace E:=E.trans e104.keep
  replace HSr:=HSr.ext e104
  replace HB1:=HB1.ext e104
  replace EL1:=EL1.trans e104.keep
  replace HPq:=HPq.ext e104
  replace HSf:=HSf.ext e104
  replace HSt:=HSt.ext e104
  replace HB4:=HB4.ext e104
  refine bG (U (am Z Z (fun h104=>?_) (fun h104=>?_)))
  ·
   cases h104
  refine ar (bE (U (O zd (aa (aQ Z) (aa (cn Z Z (by first | exact bn zo zo | rfl)) ?_)))))
  refine aa (bO Z) (ac (U (⟨i + 1,_,rfl,by (repeat' (first | exact cD.of_over _ _ _ | refine cD.upd ?_ zq _ | refine cD.overs ?_ zq _)),⟨by first | rfl | exact congrArg (Value.int _) zo | (simp;done),trivial⟩,⟨E,EL1,?_⟩,?_⟩)))
  ·
   refine ⟨by omega,fun j hj r hr=>?_⟩
   rcases Nat.lt_or_ge j i with hji | hji
   ·
    exact h2 j hji r hr
   obtain rfl:j=i:=by omega
   obtain rfl:x=r:=by rw [hx] at hr;exact Option.some.inj hr
   exact ⟨k1,k2,k3,k4,(fun h=>by rw [hend] at h;cases h),k5⟩
  (dsimp only;omega)
 refine cl (bm (bm (cV (U (V (O zd (aa (ad Z) (ac (U ?_)))))))))
 refine aw (aU Z zq (cE Z) ?_)
 refine ⟨?_,E⟩
 rw [ko.2 ⟨hg.1,hg.2.1,hg.2.2.1,hg.2.2.2,fun j r hr=>h2 j (by have:=bf hlt;have:=(List.getElem?_eq_some_iff.1 hr).1;omega) r hr⟩]
end Go.Proofs.YteehplloacefmaaGreat

/- Steps and lemmas for the walks. -/
import Derived.Test.YteehplloacefmaaGreatC8
import Derived.Test.YteehplloacefmaaGreatCz
set_option linter.unusedVariables false
set_option linter.unusedSimpArgs false
set_option maxRecDepth 100000
namespace Go.Proofs.YteehplloacefmaaGreat
open Go.Vc
def eY:iq→List UInt8
  | (k,rq,mv,en,an,key,g)=>aT k.toNat ++ (if k=2 then aT rq.1.toNat ++ aT rq.2.1.toNat ++ mS rq.2.2 else if k=3∨k=5∨k=9∨k=10 then hU mv else if k=4 then hU mv ++ az (bQ jV en) ++ az an else if k=6∨k=7 then az key else if k=8 then az key ++ aT g.toNat else [])
theorem pK {l:List dS} (h:∀ e ∈ l,cS e=true) (hl:l.length≤65536):(bQ jV l).length≤10 + l.length * 65710:=by
  have h1:∀ (k:List dS),(∀ e ∈ k,cS e=true)→((k.map jV).flatten).length≤k.length * 65710:=by
    intro k
    induction k with
    | nil=>intro _;simp
    | cons e k ih=>
      intro hk
      have i1:=ih (fun x hx=>hk x (List.mem_cons_of_mem _ hx))
      have i2:=pN (hk e List.mem_cons_self)
      have i3:=ec (l:=ou e) zo
      simp only [List.map_cons,List.flatten_cons,List.length_append,List.length_cons,jV] at i1 ⊢
      omega
  have i1:=h1 l h
  have i2:=bA (n:=l.length) zo
  rw [bQ,List.length_append];omega
theorem lZ {w:World} {n:Int} (h0:0≤n) (hn:n≤9223372036854775807):ae Tryz.prog 54 #[.int .i64 n] w (fun r w'=>ck cw iF w' w.heap.size aP r (aT n.toNat)∧(∃ q c,r=.slice (some q) (aT n.toNat).length c)∧aX w w'):=by
  obtain ⟨n,rfl⟩:=Int.eq_ofNat_of_zero_le h0
  refine aL 6 Tryz.func54 Z Z (by simp) ?_
  refine V ?_
  have E:=ao.refl (K:=aP) w
  refine O zd (aa (ad Z) (ac (U (V (O zd (aa (aQ Z) (aa (bS (ds:=.int .i64) zk zk Z (by first | exact cq zo zo | rfl)) ?_)))))))
  refine ah (av zk (bB Z) (ae.mono (ew (n:=n) zo) ?_))
  rintro _ w1 ⟨HO1,⟨q1,c1,rfl⟩,e1⟩
  have:=e1.size
  have zo_HO1:=fun (b:Nat) h=>HO1.own_lt (b:=b) h
  refine aa (cF Z) (ac (U (aw (aU Z zq (bI Z) ?_))))
  replace E:=E.trans e1.keep
  exact ⟨HO1,⟨q1,c1,rfl⟩,E⟩
theorem sH {w:World} {n:Int} (h0:0≤n) (hn:n≤9223372036854775807):ae Tryz.prog 55 #[.int .i64 n] w (fun r w'=>ck cw iF w' w.heap.size aP r (aT n.toNat)∧(∃ q c,r=.slice (some q) (aT n.toNat).length c)∧aX w w'):=by
  obtain ⟨n,rfl⟩:=Int.eq_ofNat_of_zero_le h0
  refine aL 6 Tryz.func55 Z Z (by simp) ?_
  refine V ?_
  have E:=ao.refl (K:=aP) w
  refine O zd (aa (ad Z) (ac (U (V (O zd (aa (aQ Z) (aa (bS (ds:=.int .i64) zk zk Z (by first | exact cq zo zo | rfl)) ?_)))))))
  refine ah (av zk (bB Z) (ae.mono (ew (n:=n) zo) ?_))
  rintro _ w1 ⟨HO1,⟨q1,c1,rfl⟩,e1⟩
  have:=e1.size
  have zo_HO1:=fun (b:Nat) h=>HO1.own_lt (b:=b) h
  refine aa (cF Z) (ac (U (aw (aU Z zq (bI Z) ?_))))
  replace E:=E.trans e1.keep
  exact ⟨HO1,⟨q1,c1,rfl⟩,E⟩
theorem vu {w:World} {n:Int} (h0:0≤n) (hn:n≤9223372036854775807):ae Tryz.prog 53 #[.int .i64 n] w (fun r w'=>ck cw iF w' w.heap.size aP r (aT n.toNat)∧(∃ q c,r=.slice (some q) (aT n.toNat).length c)∧aX w w'):=by
  obtain ⟨n,rfl⟩:=Int.eq_ofNat_of_zero_le h0
  refine aL 6 Tryz.func53 Z Z (by simp) ?_
  refine V ?_
  have E:=ao.refl (K:=aP) w
  refine O zd (aa (ad Z) (ac (U (V (O zd (aa (aQ Z) (aa (bS (ds:=.int .i64) zk zk Z (by first | exact cq zo zo | rfl)) ?_)))))))
  refine ah (av zk (bB Z) (ae.mono (ew (n:=n) zo) ?_))
  rintro _ w1 ⟨HO1,⟨q1,c1,rfl⟩,e1⟩
  have:=e1.size
  have zo_HO1:=fun (b:Nat) h=>HO1.own_lt (b:=b) h
  refine aa (cF Z) (ac (U (aw (aU Z zq (bI Z) ?_))))
  replace E:=E.trans e1.keep
  exact ⟨HO1,⟨q1,c1,rfl⟩,E⟩
theorem vv {w:World} {n:Int} (h0:0≤n) (hn:n≤9223372036854775807):ae Tryz.prog 101 #[.int .i64 n] w (fun r w'=>ck cw iF w' w.heap.size aP r (aT n.toNat)∧(∃ q c,r=.slice (some q) (aT n.toNat).length c)∧aX w w'):=by
  obtain ⟨n,rfl⟩:=Int.eq_ofNat_of_zero_le h0
  refine aL 6 Tryz.func101 Z Z (by simp) ?_
  refine V ?_
  have E:=ao.refl (K:=aP) w
  refine O zd (aa (ad Z) (ac (U (V (O zd (aa (aQ Z) (aa (bS (ds:=.int .i64) zk zk Z (by first | exact cq zo zo | rfl)) ?_)))))))
  refine ah (av zk (bB Z) (ae.mono (ew (n:=n) zo) ?_))
  rintro _ w1 ⟨HO1,⟨q1,c1,rfl⟩,e1⟩
  have:=e1.size
  have zo_HO1:=fun (b:Nat) h=>HO1.own_lt (b:=b) h
  refine aa (cF Z) (ac (U (aw (aU Z zq (bI Z) ?_))))
  replace E:=E.trans e1.keep
  exact ⟨HO1,⟨q1,c1,rfl⟩,E⟩
theorem nS {w:World} {F:Nat→Prop} {b n c n0:Nat} {a:Option Addr} {x:List UInt8} {v:Value} {is:Bool} {ls:List (List UInt8)} (HB1:dh w b [.slice a n c] 28) (HS1:Bv w (fun i=>i≠b∧n0≤i) (.slice a n c) x) (HS2:bs (dB cw) w F v ls) (hn0:n0≤w.heap.size) (hl:x.length + ls.flatten.length≤140737488355300) :
    ae Tryz.prog 102 (#[.bool is,v] ++ #[.pointer (some ⟨b,0,none⟩)]) w (fun o w'=>(∃ a' c',dh w' b [.slice a' (x ++ de is ls.flatten).length c'] 28∧Bv w' (fun i=>i≠b∧n0≤i) (.slice a' (x ++ de is ls.flatten).length c') (x ++ de is ls.flatten))∧ao (fun i=>i=b) w w'):=by
 obtain ⟨a2,c2,rfl⟩:=HS2.shape
 obtain ⟨a1,c1,hv⟩:=HS1.shape
 cases hv
 have zl1:=HB1.lt
 show ae _ _ #[_,_,_] _ _
 refine aL 11 Tryz.func102 Z Z (by simp) ?_
 refine V ?_
 have E:=ao.refl (K:=fun i=>i=b) w
 refine O zd (aa (bH Z) (ac (U (am Z Z (fun hc=>?_) (fun hc=>?_)))))
 ·
  refine cN zk ?_
  have e101:aX w { w with drawn:=w.drawn + 1 }:=ao.drawn _ _
  generalize hw101:({ w with drawn:=w.drawn + 1 }:World)=w101 at e101 ⊢
  clear hw101
  have:=e101.size
  refine bT 3 Z zd zd zd ?_
  refine cf (aP) zd zd ?_
  replace HB1:=HB1.ext e101
  refine aB (fun ab w hR hd=>ag zk Z (by first | exact (HB1.ext hR).cell rfl | assumption)) ?_
  refine aB (fun ab w hR hd=>bP Z) ?_
  replace HS2:=HS2.ext e101
  refine cr (fun v W=>Bv W bj v ls.flatten) (fun v w w' h k=>h.ext k) (fun ab w hR hd=>av zk (hd 1 Z) (ae.mono (dN (HS2.ext hR) zo) fun v w1 ⟨h,_,e⟩=>⟨e,h.view.allB⟩)) ?_
  refine bU (fun w102 e102=>?_)
  rintro _ rfl _ rfl v9 HS9
  have:=e102.size
  have HS9:Bv _ bj v9 ls.flatten:=HS9
  obtain ⟨a9,c9,rfl⟩:=HS9.shape
  refine bG (U (bT 1 Z zd zd zd ?_))
  refine bZ zd Z ?_
  replace HS1:=(HS1.ext e101).ext e102
  refine ah (cz (t:=dB cw) (xs:=[x,ls.flatten]) (et:=28) (bytes:=24) (zl:=[.slice none 0 0,.slice none 0 0]) zk zq zq (by unfold cQ;kernel_rfl) Z (cells:=[_,_]) Z Z Z ((nb (t:=dB cw) (c1:=[_]) (c2:=[_]) ⟨_,rfl,HS1.allB⟩ ⟨_,rfl,HS9⟩)) ?_)
  rintro b10 w10 zb10 HO10 e10 z10
  have:=e10.size
  have zo_HO10:=fun (b:Nat) h=>HO10.own_lt (b:=b) h
  refine ac (U (bT 1 Z zd zd zd ?_))
  refine bZ zd Z ?_
  refine ah (av zk (bI Z) (ae.mono (dN HO10.view (by simp only [List.flatten_cons,List.flatten_nil,List.append_nil,List.length_append];omega)) ?_))
  rintro _ w11 ⟨HO11,⟨q11,c11,rfl⟩,e11⟩
  have:=e11.size
  have HS11:=HO11.view.mono (F':=fun i=>b < i∧n0≤i) (fun i _ h=>Or.elim h (fun h=>by omega) (fun h=>h.elim))
  have zo_HO11:=fun (b:Nat) h=>HO11.own_lt (b:=b) h
  refine ac (U (bZ zd Z ?_))
  replace HB1:=((HB1.ext e102).ext e10).ext e11
  refine ah (aR Z Z (bI Z) Z zk HB1 (by simp) ?_)
  rintro w31 HB1 k31 z31
  have:=k31.size
  try simp only [List.set_cons_zero,List.set_cons_succ] at HB1
  refine ac (ti Z ?_)
  have h:[x,ls.flatten].flatten=x ++ de true ls.flatten:=by simp [de]
  replace HS11:=HS11.keep k31 aC
  rw [h] at HB1 HS11
  rw [hc]
  replace E:=((((E.trans e101.keep).trans e102.keep).trans e10.keep).trans e11.keep).step k31 bi
  exact ⟨⟨_,_,HB1,HS11.mono fun i _ h=>by omega⟩,E⟩
 refine ar (ti Z ?_)
 rw [hc]
 have h:x=x ++ de false ls.flatten:=by simp [de]
 rw [← h]
 exact ⟨⟨_,_,HB1,HS1⟩,E⟩
theorem me {w:World} {F:Nat→Prop} {v:Value} {a:iJ} (HG1:aY jU w F v a) (hm:di a=true):ae Tryz.prog 57 #[v] w (fun r w'=>(∃ q c,r=.slice (some q) (hU a).length c)∧ck cw iF w' w.heap.size aP r (hU a)∧aX w w'):=by
 have hlen:=jQ hm
 obtain ⟨n,f,t,d,og,ng⟩:=a
 obtain ⟨a1,c1,a2,c2,rfl,HS1,HS2,hi1,hi2,hi3⟩:=HG1.mv
 clear HG1
 obtain ⟨g1,g2,g3,g4,g5,g6,g7,g8⟩:=km hm
 simp only [] at HS1 HS2
 refine aL 23 Tryz.func57 Z Z (by simp) ?_
 refine V ?_
 have E:=ao.refl (K:=aP) w
 replace HS1:=HS1.all
 replace HS2:=HS2.all
 refine O zd (ah (aS (aZ Z) ?_))
 rintro b1 w1 zb1 HB1 e1 z1
 have:=e1.size
 try simp only [Value.cells] at HB1
 obtain ⟨n4,hn4⟩:∃ n,n=w.heap.size:=⟨_,rfl⟩
 refine aa (ad Z) (ac (U (V (cN zk ?_))))
 have e101:aX w1 { w1 with drawn:=w1.drawn + 1 }:=ao.drawn _ _
 generalize hw101:({ w1 with drawn:=w1.drawn + 1 }:World)=w101 at e101 ⊢
 clear hw101
 have:=e101.size
 refine bT 20 Z zd zd zd ?_
 refine cf (aP) zd zd ?_
 refine aB (fun ab w hR hd=>aA 0 2 Z) ?_
 replace HB1:=HB1.ext e101
 refine aB (fun ab w hR hd=>ag zk (hd 0 Z) (by first | exact (HB1.ext hR).pv 0 _ rfl | assumption)) ?_
 refine cr (fun v W=>Bv W bj v (aT n.toNat)) (fun v w w' h k=>h.ext k) (fun ab w hR hd=>av zk (hd 1 Z) (ae.mono (sH zo zo) fun v w1 ⟨h,_,e⟩=>⟨e,h.view.allB⟩)) ?_
 refine aB (fun ab w hR hd=>aA 1 28 Z) ?_
 refine aB (fun ab w hR hd=>ag zk (hd 3 Z) (by first | exact (HB1.ext hR).pv 1 _ rfl | assumption)) ?_
 replace HS1:=(HS1.ext e1).ext e101
 refine cr (fun v W=>Bv W bj v (az f)) (fun v w w' h k=>h.ext k) (fun ab w hR hd=>av zk (hd 4 Z) (ae.mono (dT (HS1.ext hR) zo) fun v w1 ⟨h,_,e⟩=>⟨e,h.view.allB⟩)) ?_
 refine aB (fun ab w hR hd=>aA 3 4 Z) ?_
 refine aB (fun ab w hR hd=>ag zk (hd 6 Z) (by first | exact (HB1.ext hR).pv 3 _ rfl | assumption)) ?_
 refine cr (fun v W=>Bv W bj v (dk d)) (fun v w w' h k=>h.ext k) (fun ab w hR hd=>av zk (hd 7 Z) (ae.mono (p5) fun v w1 ⟨h,_,e⟩=>⟨e,h.view.allB⟩)) ?_
 refine aB (fun ab w hR hd=>aA 2 28 Z) ?_
 refine aB (fun ab w hR hd=>ag zk (hd 9 Z) (by first | exact (HB1.ext hR).pv 2 _ rfl | assumption)) ?_
 replace HS2:=(HS2.ext e1).ext e101
 refine cr (fun v W=>Bv W bj v (az t)) (fun v w w' h k=>h.ext k) (fun ab w hR hd=>av zk (hd 10 Z) (ae.mono (dT (HS2.ext hR) zo) fun v w1 ⟨h,_,e⟩=>⟨e,h.view.allB⟩)) ?_
 refine aB (fun ab w hR hd=>aA 4 3 Z) ?_
 refine aB (fun ab w hR hd=>ag zk (hd 12 Z) (by first | exact (HB1.ext hR).pv 4 _ rfl | assumption)) ?_
 refine cr (fun v W=>Bv W bj v (aT og.toNat)) (fun v w w' h k=>h.ext k) (fun ab w hR hd=>av zk (hd 13 Z) (ae.mono (lZ zo zo) fun v w1 ⟨h,_,e⟩=>⟨e,h.view.allB⟩)) ?_
 refine aB (fun ab w hR hd=>aA 5 3 Z) ?_
 refine aB (fun ab w hR hd=>ag zk (hd 15 Z) (by first | exact (HB1.ext hR).pv 5 _ rfl | assumption)) ?_
 refine cr (fun v W=>Bv W bj v (aT ng.toNat)) (fun v w w' h k=>h.ext k) (fun ab w hR hd=>av zk (hd 16 Z) (ae.mono (lZ zo zo) fun v w1 ⟨h,_,e⟩=>⟨e,h.view.allB⟩)) ?_
 refine cr (fun v W=>bs (dB cw) W bj v [aT n.toNat,az f,dk d,az t,aT og.toNat,aT ng.toNat]) (fun v w w' h k=>h.ext k) (fun ab w hR hd=>pn (et:=28) (bytes:=24) (z:=.slice none 0 0) zk (by unfold cQ;kernel_rfl) (show _=ab 2 from Z) (show _=ab 5 from Z) (show _=ab 8 from Z) (show _=ab 11 from Z) (show _=ab 14 from Z) (show _=ab 17 from Z) (show Bv _ bj _ (aT n.toNat) from hd 2 Z) (show Bv _ bj _ (az f) from hd 5 Z) (show Bv _ bj _ (dk d) from hd 8 Z) (show Bv _ bj _ (az t) from hd 11 Z) (show Bv _ bj _ (aT og.toNat) from hd 14 Z) (show Bv _ bj _ (aT ng.toNat) from hd 17 Z) (fun b w1 hb HO e z=>⟨e,HO.view.allB⟩)) ?_
 refine cr (fun v W=>(∃ q c,v=.slice (some q) (hU (n,f,t,d,og,ng)).length c)∧ck cw iF W n4 aP v (hU (n,f,t,d,og,ng))) (fun v w w' h k=>⟨h.1,h.2.ext k⟩) (fun ab w hR hd=>av zk (show _=ab 18 from Z) (ae.mono (dN (show bs (dB cw) _ bj _ [aT n.toNat,az f,dk d,az t,aT og.toNat,aT ng.toNat] from hd 18 Z) (by have:=hlen;simp only [hU,List.length_append] at this;simp;omega)) fun v w1 ⟨h,⟨q,c,hv⟩,e⟩=>⟨e,by have h9:[aT n.toNat,az f,dk d,az t,aT og.toNat,aT ng.toNat].flatten=hU (n,f,t,d,og,ng):=(by simp [hU]);rw [h9] at h hv;exact ⟨⟨q,c,hv⟩,h.base (by have:=hR.size;omega)⟩⟩)) ?_
 refine bU (fun w102 e102=>?_)
 rintro _ rfl _ rfl v5 hs5 _ rfl _ rfl v8 hs8 _ rfl _ rfl v11 hs11 _ rfl _ rfl v14 hs14 _ rfl _ rfl v17 hs17 _ rfl _ rfl v20 hs20 v21 hs21 v22 hs22
 have:=e102.size
 have hs22:(∃ q c,v22=.slice (some q) (hU (n,f,t,d,og,ng)).length c)∧ck cw iF _ n4 aP v22 (hU (n,f,t,d,og,ng)):=hs22
 obtain ⟨⟨q22,c22,rfl⟩,HO22⟩:=hs22
 refine bG (U (bZ zd Z ?_))
 refine aa (cF Z) (ac (U (aw (aU Z zq (bI Z) ?_))))
 replace E:=((E.trans e1.keep).trans e101.keep).trans e102.keep
 exact ⟨⟨q22,c22,rfl⟩,hn4 ▸ HO22,E⟩
theorem wA {w:World} {F:Nat→Prop} {v:Value} {a:mN} (HG1:aY qY w F v a) (hm:fD a=true):ae Tryz.prog 56 #[v] w (fun r w'=>∃ a' c',r=.slice a' (mS a).length c'∧Bv w' (fun i=>w.heap.size≤i) r (mS a)∧aX w w'):=by
 obtain ⟨k,key,to,val,was,no,most⟩:=a
 obtain ⟨a1,c1,a2,c2,a3,c3,a4,c4,rfl,HS1,HS2,HS3,HS4,hi1,hi2⟩:=HG1.ak
 clear HG1
 simp only [] at HS1 HS2 HS3 HS4 hi1 hi2 ⊢
 obtain ⟨g1,g2,g3,g4,g5,g6,g7,g8⟩:=qs hm
 have q0:=bA (n:=k.toNat) zo
 have q1:=ec (l:=key) zo
 have q2:=ec (l:=to) zo
 have q3:=ec (l:=val) zo
 have q4:=ec (l:=was) zo
 have q5:=pj no
 have q6:=bA (n:=most.toNat) zo
 have o1:=gO (b:=(dR k).2.1) (l:=[az to].flatten)
 have o2:=gO (b:=(dR k).2.2.1) (l:=[az val].flatten)
 have o3:=gO (b:=(dR k).2.2.2.1) (l:=[az was,dk no].flatten)
 have o4:=gO (b:=(dR k).2.2.2.2) (l:=[aT most.toNat].flatten)
 have p3:([az was,dk no].flatten).length≤60:=by simp;omega
 refine aL 55 Tryz.func56 Z Z (by simp) ?_
 refine V ?_
 have E:=ao.refl (K:=aP) w
 replace HS1:=HS1.all
 replace HS2:=HS2.all
 replace HS3:=HS3.all
 replace HS4:=HS4.all
 refine O zd (ah (aS (aZ Z) ?_))
 rintro b1 w1 zb1 HB1 e1 z1
 have:=e1.size
 try simp only [Value.cells] at HB1
 refine aa (ad Z) (ac (U (V (cN zk ?_))))
 have e101:aX w1 { w1 with drawn:=w1.drawn + 1 }:=ao.drawn _ _
 generalize hw101:({ w1 with drawn:=w1.drawn + 1 }:World)=w101 at e101 ⊢
 clear hw101
 have:=e101.size
 refine bT 5 Z zd zd zd ?_
 refine eH (fun k=>w101.heap.size≤k) (iP w101.heap.size [⟨4,none,149,([.bool false,.bool false,.bool false,.bool false,.bool false]:List Value),([.bool false,.bool false,.bool false,.bool false,.bool false]:List Value)⟩]) zd zd (fun ab done hd=>iP.start (Nat.le_refl _) (fun a ha=>hd a.al (mG (n:=5) Z a ha))) ?_
 refine fJ (fun done ab w hR hcl hdk hJ hdn hd=>j0 zk (pW)) (fun done ab w w1 hdk hJ e=>hJ.src e Z) ?_
 refine aI (fun done ab w hR hcl hdk hJ hdn hd=>aA 0 40 Z) (fun _ _ _ _ j=>j.src (ao.refl _) Z) ?_
 replace HB1:=HB1.ext e101
 refine aI (fun done ab w hR hcl hdk hJ hdn hd=>ag zk (hd 1 Z) (by first | exact (HB1.keep hR aH).pv 0 _ rfl | assumption)) (fun _ _ _ _ j=>j.src (ao.refl _) Z) ?_
 refine aI (fun done ab w hR hcl hdk hJ hdn hd=>lG (et:=149) (n:=6) (sz:=5) (k:=k.toNat) zk zk (hd 0 Z) (hd 2 Z) zo zo (Value.agg.inj (pG zo zo))) (fun _ _ _ _ j=>j.src (ao.refl _) Z) ?_
 refine ea (fun done ab w hR hcl hdk hJ hdn hd=>aD (z:=.agg #[.bool false,.bool false,.bool false,.bool false,.bool false]) (by unfold aE;kernel_rfl) fun b w1 hb hB e hz=>⟨aX.keep e,hJ.al (i:=0) Z Z hdk hcl (fun m a hm he=>ej (i:=0) (m:=m) Z Z hm he) (fun a ha=>eP Z ha (List.mem_of_getElem? (i:=0) Z)) (fun s hs=>by cases hs) hb hB e⟩) ?_
 refine dq (fun ab w102 k102 J102=>?_)
 rintro _ - rfl _ - rfl _ - rfl _ - rfl v3 qv3 -
 have:=k102.size
 obtain ⟨b3,hb3,zb3,HB3⟩:=J102.fin (i:=0) rfl
 try dsimp only at HB3
 have zl3:=HB3.lt
 obtain rfl:=qv3.trans hb3
 refine ct (U (bZ zd Z ?_))
 refine ah (aq (n:=5) Z Z (aZ Z) zk Z cT HB3 bV ?_)
 rintro w103 HB3 k103 z103
 have:=k103.size
 try simp only [zS,Nat.zero_add,Nat.reduceAdd,List.drop_nil] at HB3
 refine ac (U (V (cN zk ?_)))
 have e104:aX w103 { w103 with drawn:=w103.drawn + 1 }:=ao.drawn _ _
 replace E:=(((E.trans e1.keep).trans e101.keep).step k102 bi).step k103 bi
 replace HS1:=(((HS1.ext e1).ext e101).keep k102 aC).keep k103 aC
 replace HS2:=(((HS2.ext e1).ext e101).keep k102 aC).keep k103 aC
 replace HS3:=(((HS3.ext e1).ext e101).keep k102 aC).keep k103 aC
 replace HS4:=(((HS4.ext e1).ext e101).keep k102 aC).keep k103 aC
 replace HB1:=(HB1.keep k102 aH).keep k103 aH
 generalize hw104:({ w103 with drawn:=w103.drawn + 1 }:World)=w104 at e104 ⊢
 clear hw104
 have:=e104.size
 refine bT 9 Z zd zd zd ?_
 obtain ⟨n4,hn4⟩:∃ n,n=w104.heap.size:=⟨_,rfl⟩
 refine cf (aP) zd zd ?_
 refine aB (fun ab w hR hd=>aA 0 40 Z) ?_
 replace HB1:=HB1.ext e104
 replace HB3:=HB3.ext e104
 refine aB (fun ab w hR hd=>ag zk (hd 0 Z) (by first | exact (HB3.ext hR).pv 0 _ rfl | exact (HB1.ext hR).pv 0 _ rfl | assumption)) ?_
 refine cr (fun v W=>Bv W bj v (aT k.toNat)) (fun v w w' h k=>h.ext k) (fun ab w hR hd=>av zk (hd 1 Z) (ae.mono (vv zo zo) fun v w1 ⟨h,_,e⟩=>⟨e,h.view.allB⟩)) ?_
 refine aB (fun ab w hR hd=>aA 1 28 Z) ?_
 refine aB (fun ab w hR hd=>ag zk (hd 3 Z) (by first | exact (HB3.ext hR).pv 1 _ rfl | exact (HB1.ext hR).pv 1 _ rfl | assumption)) ?_
 replace HS1:=HS1.ext e104
 refine cr (fun v W=>Bv W bj v (az key)) (fun v w w' h k=>h.ext k) (fun ab w hR hd=>av zk (hd 4 Z) (ae.mono (dT (HS1.ext hR) zo) fun v w1 ⟨h,_,e⟩=>⟨e,h.view.allB⟩)) ?_
 refine cr (fun v W=>bs (dB cw) W bj v [aT k.toNat,az key]) (fun v w w' h k=>h.ext k) (fun ab w hR hd=>lK (et:=28) (bytes:=24) (z:=.slice none 0 0) zk (by unfold cQ;kernel_rfl) (show _=ab 2 from Z) (show _=ab 5 from Z) (show Bv _ bj _ (aT k.toNat) from hd 2 Z) (show Bv _ bj _ (az key) from hd 5 Z) (fun b w1 hb HO e z=>⟨e,HO.view.allB⟩)) ?_
 refine cr (fun v W=>(∃ q c,v=.slice (some q) (aT k.toNat ++ az key).length c)∧ck cw iF W n4 aP v (aT k.toNat ++ az key)) (fun v w w' h k=>⟨h.1,h.2.ext k⟩) (fun ab w hR hd=>av zk (show _=ab 6 from Z) (ae.mono (dN (show bs (dB cw) _ bj _ [aT k.toNat,az key] from hd 6 Z) (by simp;omega)) fun v w1 ⟨h,⟨q,c,hv⟩,e⟩=>⟨e,by have h9:[aT k.toNat,az key].flatten=aT k.toNat ++ az key:=(by simp);rw [h9] at h hv;exact ⟨⟨q,c,hv⟩,h.base (by have:=hR.size;omega)⟩⟩)) ?_
 refine cr (fun v W=>∃ b,v=.pointer (some ⟨b,0,none⟩)∧dh W b [.slice none 0 0] 28∧n4≤b) (fun v w w' h k=>by obtain ⟨b,h1,h2,h3⟩:=h;exact ⟨b,h1,h2.ext k,h3⟩) (fun ab w hR hd=>aD (z:=.slice none 0 0) (by unfold aE;kernel_rfl) (fun b w1 hb hB e hz=>⟨e,b,rfl,hB,by have:=hR.size;omega⟩)) ?_
 refine bU (fun w105 e105=>?_)
 rintro _ rfl _ rfl v12 hs12 _ rfl _ rfl v15 hs15 v16 hs16 v17 hs17 v4 hz4
 have:=e105.size
 have hs17:(∃ q c,v17=.slice (some q) (aT k.toNat ++ az key).length c)∧ck cw iF _ n4 aP v17 (aT k.toNat ++ az key):=hs17
 obtain ⟨⟨q17,c17,rfl⟩,HO17⟩:=hs17
 have hz4:∃ b,v4=.pointer (some ⟨b,0,none⟩)∧dh _ b [.slice none 0 0] 28∧n4≤b:=hz4
 obtain ⟨b4,rfl,HB4,hb4⟩:=hz4
 have hne:=HO17.ne_blk HB4 zq
 have zl4:=HB4.lt
 have HS33:=HO17.view.just
 have zq33:=(HO17.own_lt (b:=q17.block) rfl).1
 refine bG (U (bZ zd Z ?_))
 refine ah (aR Z Z (bI Z) Z zk HB4 (by simp) ?_)
 rintro w33 HB4 k33 z33
 have:=k33.size
 try simp only [List.set_cons_zero,List.set_cons_succ] at HB4
 replace HS33:=HS33.mono (F':=fun i=>i≠b4∧w.heap.size≤i) (fun i _ h=>by have:=zq33;omega)
 refine ac (U (V (O zd (aa (cC (by simp [ev];rfl) (by simp [ev];rfl)) ?_))))
 refine aa (ad Z) (ac (U (V (cN zk ?_))))
 have e106:aX w33 { w33 with drawn:=w33.drawn + 1 }:=ao.drawn _ _
 replace E:=((E.trans e104.keep).trans e105.keep).step k33 bi
 replace HS2:=((HS2.ext e104).ext e105).keep k33 aC
 replace HS3:=((HS3.ext e104).ext e105).keep k33 aC
 replace HS4:=((HS4.ext e104).ext e105).keep k33 aC
 replace HS1:=(HS1.ext e105).keep k33 aC
 replace HB1:=(HB1.ext e105).keep k33 aH
 replace HB3:=(HB3.ext e105).keep k33 aH
 replace HO17:=HO17.keep k33 (by intro i ho he;have he0:=he;have ho0:=ho;(try dsimp only [aP] at he);(try simp only [Value.ownBlock,Option.some.injEq,reduceCtorEq] at ho);(try simp only [Value.ownBlock,Option.some.injEq,reduceCtorEq] at he);first | exact he.elim | exact ho.elim | omega | (have:=zo_HO17 _ ho0;omega)) (by intro i _ hi _ he;have he0:=he;have hi:=hi;have he:=he;(try dsimp only [aP,bj] at hi he);(try simp only [Value.ownBlock,Option.some.injEq,reduceCtorEq] at he);all_goals first | exact hi.elim | exact hi.1.elim | exact he.elim | omega | (rcases hi with hi | hi <;> omega) | (rcases he with he | he <;> omega))
 replace HS33:=HS33.keep k33 aC
 generalize hw106:({ w33 with drawn:=w33.drawn + 1 }:World)=w106 at e106 ⊢
 clear hw106
 have:=e106.size
 refine bT 7 Z zd zd zd ?_
 refine cf (aP) zd zd ?_
 refine aB (fun ab w hR hd=>be Z) ?_
 refine aB (fun ab w hR hd=>aA 1 4 Z) ?_
 replace HB1:=HB1.ext e106
 replace HB3:=HB3.ext e106
 replace HB4:=HB4.ext e106
 refine aB (fun ab w hR hd=>ag zk (hd 1 Z) (by first | exact (HB4.ext hR).pv 1 _ rfl | exact (HB3.ext hR).pv 1 _ rfl | exact (HB1.ext hR).pv 1 _ rfl | assumption)) ?_
 refine aB (fun ab w hR hd=>aA 2 28 Z) ?_
 refine aB (fun ab w hR hd=>ag zk (hd 3 Z) (by first | exact (HB4.ext hR).pv 2 _ rfl | exact (HB3.ext hR).pv 2 _ rfl | exact (HB1.ext hR).pv 2 _ rfl | assumption)) ?_
 replace HS2:=HS2.ext e106
 refine cr (fun v W=>Bv W bj v (az to)) (fun v w w' h k=>h.ext k) (fun ab w hR hd=>av zk (hd 4 Z) (ae.mono (dT (HS2.ext hR) zo) fun v w1 ⟨h,_,e⟩=>⟨e,h.view.allB⟩)) ?_
 refine cr (fun v W=>bs (dB cw) W bj v [az to]) (fun v w w' h k=>h.ext k) (fun ab w hR hd=>cp (t:=dB cw) (et:=28) (bytes:=24) zk zq (show _=ab 5 from Z) (nM (show Bv _ bj _ (az to) from hd 5 Z)) (fun b w1 hb HO e z=>⟨e,HO.view.allB⟩)) ?_
 refine bU (fun w107 e107=>?_)
 rintro _ rfl _ rfl _ rfl _ rfl _ rfl v24 hs24 v25 hs25
 have:=e107.size
 have hs25:bs (dB cw) _ bj v25 [az to]:=hs25
 obtain ⟨a25,c25,rfl⟩:=hs25.shape
 refine bG (U (bZ zd Z ?_))
 replace HS33:=(HS33.ext e106).ext e107
 replace HB4:=HB4.ext e107
 refine ah (dd zk Z (cE Z) (bI Z) (ae.mono (nS (n0:=w.heap.size) (ls:=[az to]) HB4 HS33 hs25 zo (by simp only [List.length_append,List.flatten_cons,List.flatten_nil,List.append_nil] at o1 o2 o3 o4 p3 ⊢;omega)) ?_))
 rintro _ w26 ⟨⟨a26,c26,HB4,HS33⟩,k26⟩
 have:=k26.size
 refine ac (U (V (cN zk ?_)))
 have e108:aX w26 { w26 with drawn:=w26.drawn + 1 }:=ao.drawn _ _
 replace E:=((E.trans e106.keep).trans e107.keep).step k26 bi
 replace HS1:=((HS1.ext e106).ext e107).keep k26 aC
 replace HS3:=((HS3.ext e106).ext e107).keep k26 aC
 replace HS4:=((HS4.ext e106).ext e107).keep k26 aC
 replace HO17:=((HO17.ext e106).ext e107).keep k26 (by intro i ho he;have he0:=he;have ho0:=ho;(try dsimp only [aP] at he);(try simp only [Value.ownBlock,Option.some.injEq,reduceCtorEq] at ho);(try simp only [Value.ownBlock,Option.some.injEq,reduceCtorEq] at he);first | exact he.elim | exact ho.elim | omega | (have:=zo_HO17 _ ho0;omega)) (by intro i _ hi _ he;have he0:=he;have hi:=hi;have he:=he;(try dsimp only [aP,bj] at hi he);(try simp only [Value.ownBlock,Option.some.injEq,reduceCtorEq] at he);all_goals first | exact hi.elim | exact hi.1.elim | exact he.elim | omega | (rcases hi with hi | hi <;> omega) | (rcases he with he | he <;> omega))
 replace HS2:=(HS2.ext e107).keep k26 aC
 replace HB1:=(HB1.ext e107).keep k26 aH
 replace HB3:=(HB3.ext e107).keep k26 aH
 generalize hw108:({ w26 with drawn:=w26.drawn + 1 }:World)=w108 at e108 ⊢
 clear hw108
 have:=e108.size
 refine bT 7 Z zd zd zd ?_
 refine cf (aP) zd zd ?_
 refine aB (fun ab w hR hd=>be Z) ?_
 refine aB (fun ab w hR hd=>aA 2 4 Z) ?_
 replace HB1:=HB1.ext e108
 replace HB3:=HB3.ext e108
 replace HB4:=HB4.ext e108
 refine aB (fun ab w hR hd=>ag zk (hd 1 Z) (by first | exact (HB4.ext hR).pv 2 _ rfl | exact (HB3.ext hR).pv 2 _ rfl | exact (HB1.ext hR).pv 2 _ rfl | assumption)) ?_
 refine aB (fun ab w hR hd=>aA 3 28 Z) ?_
 refine aB (fun ab w hR hd=>ag zk (hd 3 Z) (by first | exact (HB4.ext hR).pv 3 _ rfl | exact (HB3.ext hR).pv 3 _ rfl | exact (HB1.ext hR).pv 3 _ rfl | assumption)) ?_
 replace HS3:=HS3.ext e108
 refine cr (fun v W=>Bv W bj v (az val)) (fun v w w' h k=>h.ext k) (fun ab w hR hd=>av zk (hd 4 Z) (ae.mono (dT (HS3.ext hR) zo) fun v w1 ⟨h,_,e⟩=>⟨e,h.view.allB⟩)) ?_
 refine cr (fun v W=>bs (dB cw) W bj v [az val]) (fun v w w' h k=>h.ext k) (fun ab w hR hd=>cp (t:=dB cw) (et:=28) (bytes:=24) zk zq (show _=ab 5 from Z) (nM (show Bv _ bj _ (az val) from hd 5 Z)) (fun b w1 hb HO e z=>⟨e,HO.view.allB⟩)) ?_
 refine bU (fun w109 e109=>?_)
 rintro _ rfl _ rfl _ rfl _ rfl _ rfl v32 hs32 v33 hs33
 have:=e109.size
 have hs33:bs (dB cw) _ bj v33 [az val]:=hs33
 obtain ⟨a33,c33,rfl⟩:=hs33.shape
 refine bG (U (bZ zd Z ?_))
 replace HS33:=(HS33.ext e108).ext e109
 replace HB4:=HB4.ext e109
 refine ah (dd zk Z (cE Z) (bI Z) (ae.mono (nS (n0:=w.heap.size) (ls:=[az val]) HB4 HS33 hs33 zo (by simp only [List.length_append,List.flatten_cons,List.flatten_nil,List.append_nil] at o1 o2 o3 o4 p3 ⊢;omega)) ?_))
 rintro _ w34 ⟨⟨a34,c34,HB4,HS33⟩,k34⟩
 have:=k34.size
 refine ac (U (V (cN zk ?_)))
 have e110:aX w34 { w34 with drawn:=w34.drawn + 1 }:=ao.drawn _ _
 replace E:=((E.trans e108.keep).trans e109.keep).step k34 bi
 replace HS1:=((HS1.ext e108).ext e109).keep k34 aC
 replace HS2:=((HS2.ext e108).ext e109).keep k34 aC
 replace HS4:=((HS4.ext e108).ext e109).keep k34 aC
 replace HO17:=((HO17.ext e108).ext e109).keep k34 (by intro i ho he;have he0:=he;have ho0:=ho;(try dsimp only [aP] at he);(try simp only [Value.ownBlock,Option.some.injEq,reduceCtorEq] at ho);(try simp only [Value.ownBlock,Option.some.injEq,reduceCtorEq] at he);first | exact he.elim | exact ho.elim | omega | (have:=zo_HO17 _ ho0;omega)) (by intro i _ hi _ he;have he0:=he;have hi:=hi;have he:=he;(try dsimp only [aP,bj] at hi he);(try simp only [Value.ownBlock,Option.some.injEq,reduceCtorEq] at he);all_goals first | exact hi.elim | exact hi.1.elim | exact he.elim | omega | (rcases hi with hi | hi <;> omega) | (rcases he with he | he <;> omega))
 replace HS3:=(HS3.ext e109).keep k34 aC
 replace HB1:=(HB1.ext e109).keep k34 aH
 replace HB3:=(HB3.ext e109).keep k34 aH
 generalize hw110:({ w34 with drawn:=w34.drawn + 1 }:World)=w110 at e110 ⊢
 clear hw110
 have:=e110.size
 refine bT 10 Z zd zd zd ?_
 refine cf (aP) zd zd ?_
 refine aB (fun ab w hR hd=>be Z) ?_
 refine aB (fun ab w hR hd=>aA 3 4 Z) ?_
 replace HB1:=HB1.ext e110
 replace HB3:=HB3.ext e110
 replace HB4:=HB4.ext e110
 refine aB (fun ab w hR hd=>ag zk (hd 1 Z) (by first | exact (HB4.ext hR).pv 3 _ rfl | exact (HB3.ext hR).pv 3 _ rfl | exact (HB1.ext hR).pv 3 _ rfl | assumption)) ?_
 refine aB (fun ab w hR hd=>aA 4 28 Z) ?_
 refine aB (fun ab w hR hd=>ag zk (hd 3 Z) (by first | exact (HB4.ext hR).pv 4 _ rfl | exact (HB3.ext hR).pv 4 _ rfl | exact (HB1.ext hR).pv 4 _ rfl | assumption)) ?_
 replace HS4:=HS4.ext e110
 refine cr (fun v W=>Bv W bj v (az was)) (fun v w w' h k=>h.ext k) (fun ab w hR hd=>av zk (hd 4 Z) (ae.mono (dT (HS4.ext hR) zo) fun v w1 ⟨h,_,e⟩=>⟨e,h.view.allB⟩)) ?_
 refine aB (fun ab w hR hd=>aA 5 4 Z) ?_
 refine aB (fun ab w hR hd=>ag zk (hd 6 Z) (by first | exact (HB4.ext hR).pv 5 _ rfl | exact (HB3.ext hR).pv 5 _ rfl | exact (HB1.ext hR).pv 5 _ rfl | assumption)) ?_
 refine cr (fun v W=>Bv W bj v (dk no)) (fun v w w' h k=>h.ext k) (fun ab w hR hd=>av zk (hd 7 Z) (ae.mono (p5) fun v w1 ⟨h,_,e⟩=>⟨e,h.view.allB⟩)) ?_
 refine cr (fun v W=>bs (dB cw) W bj v [az was,dk no]) (fun v w w' h k=>h.ext k) (fun ab w hR hd=>lK (et:=28) (bytes:=24) (z:=.slice none 0 0) zk (by unfold cQ;kernel_rfl) (show _=ab 5 from Z) (show _=ab 8 from Z) (show Bv _ bj _ (az was) from hd 5 Z) (show Bv _ bj _ (dk no) from hd 8 Z) (fun b w1 hb HO e z=>⟨e,HO.view.allB⟩)) ?_
 refine bU (fun w111 e111=>?_)
 rintro _ rfl _ rfl _ rfl _ rfl _ rfl v40 hs40 _ rfl _ rfl v43 hs43 v44 hs44
 have:=e111.size
 have hs44:bs (dB cw) _ bj v44 [az was,dk no]:=hs44
 obtain ⟨a44,c44,rfl⟩:=hs44.shape
 refine bG (U (bZ zd Z ?_))
 replace HS33:=(HS33.ext e110).ext e111
 replace HB4:=HB4.ext e111
 refine ah (dd zk Z (cE Z) (bI Z) (ae.mono (nS (n0:=w.heap.size) (ls:=[az was,dk no]) HB4 HS33 hs44 zo (by simp only [List.length_append,List.flatten_cons,List.flatten_nil,List.append_nil] at o1 o2 o3 o4 p3 ⊢;omega)) ?_))
 rintro _ w45 ⟨⟨a45,c45,HB4,HS33⟩,k45⟩
 have:=k45.size
 refine ac (U (V (cN zk ?_)))
 have e112:aX w45 { w45 with drawn:=w45.drawn + 1 }:=ao.drawn _ _
 replace E:=((E.trans e110.keep).trans e111.keep).step k45 bi
 replace HS1:=((HS1.ext e110).ext e111).keep k45 aC
 replace HS2:=((HS2.ext e110).ext e111).keep k45 aC
 replace HS3:=((HS3.ext e110).ext e111).keep k45 aC
 replace HO17:=((HO17.ext e110).ext e111).keep k45 (by intro i ho he;have he0:=he;have ho0:=ho;(try dsimp only [aP] at he);(try simp only [Value.ownBlock,Option.some.injEq,reduceCtorEq] at ho);(try simp only [Value.ownBlock,Option.some.injEq,reduceCtorEq] at he);first | exact he.elim | exact ho.elim | omega | (have:=zo_HO17 _ ho0;omega)) (by intro i _ hi _ he;have he0:=he;have hi:=hi;have he:=he;(try dsimp only [aP,bj] at hi he);(try simp only [Value.ownBlock,Option.some.injEq,reduceCtorEq] at he);all_goals first | exact hi.elim | exact hi.1.elim | exact he.elim | omega | (rcases hi with hi | hi <;> omega) | (rcases he with he | he <;> omega))
 replace HS4:=(HS4.ext e111).keep k45 aC
 replace HB1:=(HB1.ext e111).keep k45 aH
 replace HB3:=(HB3.ext e111).keep k45 aH
 generalize hw112:({ w45 with drawn:=w45.drawn + 1 }:World)=w112 at e112 ⊢
 clear hw112
 have:=e112.size
 refine bT 7 Z zd zd zd ?_
 refine cf (aP) zd zd ?_
 refine aB (fun ab w hR hd=>be Z) ?_
 refine aB (fun ab w hR hd=>aA 4 4 Z) ?_
 replace HB1:=HB1.ext e112
 replace HB3:=HB3.ext e112
 replace HB4:=HB4.ext e112
 refine aB (fun ab w hR hd=>ag zk (hd 1 Z) (by first | exact (HB4.ext hR).pv 4 _ rfl | exact (HB3.ext hR).pv 4 _ rfl | exact (HB1.ext hR).pv 4 _ rfl | assumption)) ?_
 refine aB (fun ab w hR hd=>aA 6 3 Z) ?_
 refine aB (fun ab w hR hd=>ag zk (hd 3 Z) (by first | exact (HB4.ext hR).pv 6 _ rfl | exact (HB3.ext hR).pv 6 _ rfl | exact (HB1.ext hR).pv 6 _ rfl | assumption)) ?_
 refine cr (fun v W=>Bv W bj v (aT most.toNat)) (fun v w w' h k=>h.ext k) (fun ab w hR hd=>av zk (hd 4 Z) (ae.mono (lZ zo zo) fun v w1 ⟨h,_,e⟩=>⟨e,h.view.allB⟩)) ?_
 refine cr (fun v W=>bs (dB cw) W bj v [aT most.toNat]) (fun v w w' h k=>h.ext k) (fun ab w hR hd=>cp (t:=dB cw) (et:=28) (bytes:=24) zk zq (show _=ab 5 from Z) (nM (show Bv _ bj _ (aT most.toNat) from hd 5 Z)) (fun b w1 hb HO e z=>⟨e,HO.view.allB⟩)) ?_
 refine bU (fun w113 e113=>?_)
 rintro _ rfl _ rfl _ rfl _ rfl _ rfl v51 hs51 v52 hs52
 have:=e113.size
 have hs52:bs (dB cw) _ bj v52 [aT most.toNat]:=hs52
 obtain ⟨a52,c52,rfl⟩:=hs52.shape
 refine bG (U (bZ zd Z ?_))
 replace HS33:=(HS33.ext e112).ext e113
 replace HB4:=HB4.ext e113
 refine ah (dd zk Z (cE Z) (bI Z) (ae.mono (nS (n0:=w.heap.size) (ls:=[aT most.toNat]) HB4 HS33 hs52 zo (by simp only [List.length_append,List.flatten_cons,List.flatten_nil,List.append_nil] at o1 o2 o3 o4 p3 ⊢;omega)) ?_))
 rintro _ w53 ⟨⟨a53,c53,HB4,HS33⟩,k53⟩
 have:=k53.size
 replace HB1:=(HB1.ext e113).keep k53 aH
 replace HB3:=(HB3.ext e113).keep k53 aH
 refine ac (U (V (O zd (aa (ag zk Z (by first | exact HB4.cell rfl | exact HB3.cell rfl | exact HB1.cell rfl | assumption)) ?_))))
 refine aa (cF Z) (ac (U (aw (aU Z zq (bI Z) ?_))))
 have h9:aT k.toNat ++ az key ++ de (dR k).2.1 [az to].flatten ++ de (dR k).2.2.1 [az val].flatten ++ de (dR k).2.2.2.1 [az was,dk no].flatten ++ de (dR k).2.2.2.2 [aT most.toNat].flatten=mS (k,key,to,val,was,no,most):=by simp [mS]
 rw [h9] at HS33 ⊢
 replace E:=((E.trans e112.keep).trans e113.keep).step k53 bi
 exact ⟨_,_,rfl,HS33.mono fun i _ h=>h.2,E⟩
end Go.Proofs.YteehplloacefmaaGreat
namespace Go.Proofs.YteehplloacefmaaGreat
open Go.Vc
theorem sV {w:World} {F:Nat→Prop} {v:Value} {a:dS} (HG1:aY fd w F v a) (hm:cS a=true):ae Tryz.prog 108 #[v] w (fun r w'=>(∃ q c,r=.tuple #[.slice (some q) (ou a).length c,.int .i64 0]∧ck cw iF w' w.heap.size aP (.slice (some q) (ou a).length c) (ou a))∧aX w w'):=by
 have hlen:=pN hm
 obtain ⟨key,seq,kind,val⟩:=a
 have hm2:=hm
 simp only [cS,Bool.and_eq_true,decide_eq_true_eq,Bool.or_eq_true] at hm2
 obtain ⟨⟨⟨⟨⟨g1,g2⟩,g3⟩,g4⟩,g5⟩,g6⟩:=hm2
 obtain ⟨a1,c1,a2,c2,rfl,HS1,HS2,hi1,hi2⟩:=HG1.ik
 simp only [] at HS1 HS2
 obtain ⟨sq,rfl⟩:=Int.eq_ofNat_of_zero_le (show 0≤seq by omega)
 obtain ⟨kd,rfl⟩:=Int.eq_ofNat_of_zero_le (show 0≤kind by rcases g6 with h | ⟨h,_⟩ <;> omega)
 have hkd:kd≤2:=by rcases g6 with h | ⟨h,_⟩ <;> omega
 have q1:=ec (l:=key) zo
 have q2:=ec (l:=val) zo
 have q3:=bA (n:=sq) zo
 have q4:=bA (n:=kd) zo
 refine aL 31 Tryz.func108 Z Z (by simp) ?_
 refine V ?_
 have E:=ao.refl (K:=aP) w
 replace HG1:=HG1.all
 replace HS1:=HS1.all
 replace HS2:=HS2.all
 refine O zd (ah (aS (aZ Z) ?_))
 rintro b1 w1 zb1 HB1 e1 z1
 have:=e1.size
 try simp only [Value.cells] at HB1
 refine aa (ad Z) (aa (ad Z) (ac (U (V (V (O zd (aa (ap zk Z (by first | exact HB1.pv | assumption) Z) ?_)))))))
 replace HG1:=HG1.ext e1
 refine ah (av zk (aZ Z) (ae.mono (mn HG1 hm) ?_))
 rintro _ w101 ⟨rfl,e101⟩
 have:=e101.size
 refine aa (cg Z) ?_
 replace E:=(E.trans e1.keep).trans e101.keep
 replace HS1:=(HS1.ext e1).ext e101
 replace HS2:=(HS2.ext e1).ext e101
 replace HG1:=HG1.ext e101
 replace HB1:=HB1.ext e101
 refine ac (U (am Z Z (fun hc=>?_) (fun hc=>?_)))
 ·
  cases hc
 refine ar (U (V (cN zk ?_)))
 have e102:aX w101 { w101 with drawn:=w101.drawn + 1 }:=ao.drawn _ _
 generalize hw102:({ w101 with drawn:=w101.drawn + 1 }:World)=w102 at e102 ⊢
 clear hw102
 have:=e102.size
 refine bT 10 Z zd zd zd ?_
 refine cf (aP) zd zd ?_
 refine aB (fun ab w hR hd=>aA 0 28 Z) ?_
 replace HB1:=HB1.ext e102
 refine aB (fun ab w hR hd=>ag zk (hd 0 Z) (by first | exact (HB1.ext hR).pv 0 _ rfl | assumption)) ?_
 replace HS1:=HS1.ext e102
 refine cr (fun v W=>Bv W bj v (az key)) (fun v w w' h k=>h.ext k) (fun ab w hR hd=>av zk (hd 1 Z) (ae.mono (dT (HS1.ext hR) zo) fun v w1 ⟨h,_,e⟩=>⟨e,h.view.allB⟩)) ?_
 refine aB (fun ab w hR hd=>aA 1 2 Z) ?_
 refine aB (fun ab w hR hd=>ag zk (hd 3 Z) (by first | exact (HB1.ext hR).pv 1 _ rfl | assumption)) ?_
 refine aB (fun ab w hR hd=>bS (ds:=.int .i64) zk zk (hd 4 Z) (by first | exact cq zo zo | rfl)) ?_
 refine cr (fun v W=>Bv W bj v (aT sq)) (fun v w w' h k=>h.ext k) (fun ab w hR hd=>av zk (hd 5 Z) (ae.mono (ew (n:=sq) zo) fun v w1 ⟨h,_,e⟩=>⟨e,h.view.allB⟩)) ?_
 refine aB (fun ab w hR hd=>aA 2 154 Z) ?_
 refine aB (fun ab w hR hd=>ag zk (hd 7 Z) (by first | exact (HB1.ext hR).pv 2 _ rfl | assumption)) ?_
 refine aB (fun ab w hR hd=>bS (ds:=.int .i64) zk zk (hd 8 Z) (by first | exact cq zo zo | rfl)) ?_
 refine bU (fun w103 e103=>?_)
 rintro _ rfl _ rfl v10 HS10 _ rfl _ rfl _ rfl v14 HS14 _ rfl _ rfl _ rfl
 have:=e103.size
 obtain ⟨a10,d10,rfl⟩:=HS10.shape
 obtain ⟨a14,d14,rfl⟩:=HS14.shape
 refine bG (U (bT 1 Z zd zd zd ?_))
 refine bZ zd Z ?_
 refine ah (av zk (bB Z) (ae.mono (ew (n:=kd) zo) ?_))
 rintro _ w18 ⟨HO18,⟨q18,c18,rfl⟩,e18⟩
 have:=e18.size
 have zo_HO18:=fun (b:Nat) h=>HO18.own_lt (b:=b) h
 refine ac (U (bT 1 Z zd zd zd ?_))
 refine bZ zd Z ?_
 replace HS10:=HS10.ext e18
 replace HS14:=HS14.ext e18
 refine ah (cz (t:=dB cw) (xs:=[az key,aT sq,aT kd]) (et:=28) (bytes:=24) (zl:=[.slice none 0 0,.slice none 0 0,.slice none 0 0]) zk zq zq (by unfold cQ;kernel_rfl) Z (cells:=[_,_,_]) Z Z Z ((vd HS10 HS14 HO18.view.allB)) ?_)
 rintro b19 w19 zb19 HO19 e19 z19
 have:=e19.size
 have zo_HO19:=fun (b:Nat) h=>HO19.own_lt (b:=b) h
 refine ac (U (bT 1 Z zd zd zd ?_))
 refine bZ zd Z ?_
 refine ah (av zk (bI Z) (ae.mono (dN HO19.view (by simp;omega)) ?_))
 rintro _ w20 ⟨HO20,⟨q20,c20,rfl⟩,e20⟩
 have:=e20.size
 have zo_HO20:=fun (b:Nat) h=>HO20.own_lt (b:=b) h
 refine ac (U (bZ zd Z ?_))
 replace HB1:=(((HB1.ext e103).ext e18).ext e19).ext e20
 refine aa (cF Z) (ac (U (V (V (O zd (aa (aA 2 154 Z) (aa (ag zk Z (by first | exact HB1.pv 2 _ rfl | assumption)) ?_)))))))
 refine aa (aJ Z Z) ?_
 replace E:=((((E.trans e102.keep).trans e103.keep).trans e18.keep).trans e19.keep).trans e20.keep
 replace HG1:=((((HG1.ext e102).ext e103).ext e18).ext e19).ext e20
 replace HS2:=((((HS2.ext e102).ext e103).ext e18).ext e19).ext e20
 replace HS1:=(((HS1.ext e103).ext e18).ext e19).ext e20
 replace HS10:=(HS10.ext e19).ext e20
 replace HS14:=(HS14.ext e19).ext e20
 replace HO18:=(HO18.ext e19).ext e20
 replace HO19:=HO19.ext e20
 refine ac (U (am Z Z (fun hk=>?_) (fun hk=>?_)))
 ·
  refine O zd (aa (bP Z) (aa (aA 3 28 Z) (aa (ag zk Z (by first | exact HB1.pv 3 _ rfl | assumption)) ?_)))
  refine ah (av zk (bI Z) (ae.mono (dT HS2 zo) ?_))
  rintro _ w27 ⟨HO27,⟨q27,c27,rfl⟩,e27⟩
  have:=e27.size
  have zo_HO27:=fun (b:Nat) h=>HO27.own_lt (b:=b) h
  replace HO20:=HO20.ext e27
  refine ah (cz (t:=dB cw) (xs:=[[az key,aT sq,aT kd].flatten,az val]) (et:=28) (bytes:=24) (zl:=[.slice none 0 0,.slice none 0 0]) zk zq zq (by unfold cQ;kernel_rfl) Z (cells:=[_,_]) Z Z Z ((jK HO20.view.allB HO27.view.allB)) ?_)
  rintro b28 w28 zb28 HO28 e28 z28
  have:=e28.size
  have zo_HO28:=fun (b:Nat) h=>HO28.own_lt (b:=b) h
  refine ah (av zk (bI Z) (ae.mono (dN HO28.view (by simp;omega)) ?_))
  rintro _ w29 ⟨HO29,⟨q29,c29,rfl⟩,e29⟩
  have:=e29.size
  have zo_HO29:=fun (b:Nat) h=>HO29.own_lt (b:=b) h
  refine aa (cF Z) (ac (U (V (O zd (aa (bP Z) (aa (cF Z) (aa (ad Z) (ac (U ?_)))))))))
  refine aw (fu Z zq zq (bI Z) (bB Z) ?_)
  have h9:[[az key,aT sq,aT kd].flatten,az val].flatten=ou (key,sq,kd,val):=by simp [ou,show kd=1 from by have:=bl hk;omega]
  rw [h9] at HO29
  simp only [h9]
  replace E:=((E.trans e27.keep).trans e28.keep).trans e29.keep
  exact ⟨⟨q29,c29,rfl,HO29.base zo⟩,E⟩
 refine ar (U (V (O zd (aa (bP Z) (aa (cF Z) (aa (ad Z) (ac (U (aw ?_)))))))))
 refine fu Z zq zq (bI Z) (bB Z) ?_
 have h9:[az key,aT sq,aT kd].flatten=ou (key,sq,kd,val):=by
  have hk1:¬ ((kd:Int)=1):=bf hk
  simp [ou,hk1,show ¬ kd=1 from by omega]
 rw [h9] at HO20
 simp only [h9]
 exact ⟨⟨q20,c20,rfl,HO20.base zo⟩,E⟩
theorem wy {w:World} {F:Nat→Prop} {v:Value} {a:dS} (HG1:aY fd w F v a):ae Tryz.prog 103 (#[v] ++ #[]) w (fun o w'=>o=.bool (!cS a)∧aX w w'):=by
  obtain ⟨a1,c1,a2,c2,rfl,_⟩:=HG1.ik
  show ae _ _ #[_] _ _
  refine aL 6 Tryz.func103 Z Z (by simp) ?_
  refine V ?_
  have E:=ao.refl (K:=aP) w
  replace HG1:=HG1.all
  refine O zd (ah (aS (aZ Z) ?_))
  rintro b1 w1 zb1 HB1 e1 z1
  have:=e1.size
  try simp only [Value.cells] at HB1
  refine aa (ad Z) (ac (U (V (O zd (aa (ap zk Z (by first | exact HB1.pv | assumption) Z) ?_)))))
  replace HG1:=HG1.ext e1
  refine ah (av zk (aZ Z) (ae.mono (nV HG1) ?_))
  rintro _ w101 ⟨rfl,e101⟩
  have:=e101.size
  refine aa (cg Z) ?_
  refine aa (dl Z) (ac (U (aw (aU Z zq (cE Z) ?_))))
  replace E:=(E.trans e1.keep).trans e101.keep
  exact ⟨rfl,E⟩
theorem we {w:World} {F:Nat→Prop} {cs:List Value} {x:dS} (hr:fd.rep w F cs x) (hm:cS x=true):ae Tryz.prog 107 (#[.agg cs.toArray] ++ #[]) w (fun r w2=>ck cw iF w2 w.heap.size aP r (jV x)∧aX w w2):=by
  have hlen:=pN hm
  have HG1:aY fd w F (.agg cs.toArray) x:=⟨cs,rfl,hr⟩
  obtain ⟨a1,c1,a2,c2,rfl,_⟩:=eN hr
  show ae _ _ #[_] _ _
  refine aL 12 Tryz.func107 Z Z (by simp) ?_
  refine V ?_
  have E:=ao.refl (K:=aP) w
  replace HG1:=HG1.all
  refine O zd (ah (aS (aZ Z) ?_))
  rintro b1 w1 zb1 HB1 e1 z1
  have:=e1.size
  try simp only [Value.cells] at HB1
  refine aa (ad Z) (ac (U (V (O zd (aa (ap zk Z (by first | exact HB1.pv | assumption) Z) ?_)))))
  replace HG1:=HG1.ext e1
  refine ah (av zk (aZ Z) (ae.mono (sV HG1 hm) ?_))
  rintro _ w2 ⟨⟨q2,c2',rfl,HO2⟩,e2⟩
  have:=e2.size
  have zo_HO2:=fun (b:Nat) h=>HO2.own_lt (b:=b) h
  refine aa (dY Z) (aa (ai (t:=.slice _ _ _) Z Z) (aa (ai (t:=.int _ _) Z Z) (aa (cF Z) (aa (bO Z) (ac (U (V (O zd (aa (bP Z) ?_)))))))))
  refine ah (av zk (bI Z) (ae.mono (dT HO2.view zo) ?_))
  rintro _ w3 ⟨HO3,⟨q3,c3,rfl⟩,e3⟩
  have:=e3.size
  have zo_HO3:=fun (b:Nat) h=>HO3.own_lt (b:=b) h
  refine aa (cF Z) (ac (U (aw (aU Z zq (bI Z) ?_))))
  replace E:=((E.trans e1.keep).trans e2.keep).trans e3.keep
  exact ⟨HO3.base zo,E⟩
theorem vh {w:World} {v:Value} {F:Nat→Prop} {xs:List (dS)} {fr:Nat} {cap:Array Value} (hv:bs (fd) w F v xs) (hb:dj Tryz.prog fr=true) (sp:dS→List UInt8)
    (hform:∀ (w1:World) (cs:List Value) (x:dS),aX w w1→(fd).rep w1 F cs x→x ∈ xs→ae Tryz.prog fr (#[.agg cs.toArray] ++ cap) w1 (fun r w2=>ck cw iF w2 w1.heap.size aP r (sp x)∧aX w1 w2))
    (hl:(bQ sp xs).length≤140737488355300) (hn:xs.length≤5000000000000) :
    ae Tryz.prog 106 #[v,.func (.func fr) #[] cap] w (fun r w'=>∃ q c,r=.tuple #[.slice (some q) (bQ sp xs).length c,.int .i64 0]∧ck cw iF w' w.heap.size aP (.slice (some q) (bQ sp xs).length c) (bQ sp xs)∧aX w w'):=by
 obtain ⟨a,c,rfl⟩:=hv.shape
 obtain ⟨w0,rfl⟩:∃ x,x=w:=⟨w,rfl⟩
 refine aL 32 Tryz.func106 Z Z (by simp) ?_
 refine V (O zd (aa (ad Z) (aa (ad Z) (ac (U (V (V (O zd (aa (jA Z) ?_)))))))))
 refine aa (eM (ps:=#[156]) (rs:=#[28]) (v:=false) zk Z Z) ?_
 refine ac (U (am Z Z (fun hc=>?_) (fun hc=>?_)))
 ·
  cases hc
 refine ar (U (V (O zd (aa (bP Z) (aa (ba (et:=156) zk Z) ?_)))))
 refine aa (bS (ds:=.int .i64) zk zk Z (by first | exact cq zo zo | rfl)) ?_
 refine ah (av zk (bB Z) (ae.mono (ew (n:=xs.length) zo) ?_))
 rintro _ w1 ⟨o1,⟨q1,c1,rfl⟩,e1⟩
 have:=e1.size
 refine ah (cp (t:=dB cw) (et:=28) (bytes:=24) zk zq (bI Z) ((show (dB cw).rep _ _ [_] _ from ⟨_,rfl,o1.view⟩)) ?_)
 rintro b2 w2 rfl o2 e2 z2
 have:=e2.size
 refine aa (cF Z) (ac (U (V (V (O zd (aa (bP Z) (aa (ba (et:=156) zk Z) ?_)))))))
 refine aa (be Z) (ac (U (aO (cy (τ:=Option Addr × Nat × Nat) [6,7,17,18,19,20,21,22,23,24,25,26,27,28,29] (fun (a1,c1,k)=>[(6,.slice a1 (k + 1) c1),(17,.int .i64 k)]) (fun (a1,c1,k) w=>ck (dB cw) nSl w w0.heap.size (fun b=>w0.heap.size≤b) (.slice a1 (k + 1) c1) (aT xs.length :: (xs.take k).map sp)∧aX w0 w∧k≤xs.length) (fun (a1,c1,k)=>xs.length - k) (some ⟨w1.heap.size,0,none⟩,1,0) (by exact ⟨rfl,rfl,trivial⟩) (by exact ⟨(o2.base zo).mono (fun b _ h=>by rcases h.1 with h | h;exact h;exact h.elim),e1.trans e2,Nat.zero_le _⟩) ?_))))
 rintro ⟨a1,c1,k⟩ w3 j ⟨o3,e3,h3⟩
 refine V (O zd (aa (bw Z Z) ?_))
 refine ac (U (V (am Z Z (fun hc2=>?_) (fun hc2=>?_))))
 ·
  have hc2:=bl hc2
  have:=e3.size
  obtain ⟨x,hx⟩:∃ x,xs[k]? = some x:=⟨xs[k]'zo,by simp [show k < xs.length by omega]⟩
  have hlk:(aT xs.length :: (xs.take k).map sp).length=k + 1:=by simp;omega
  refine ar (U (V (aO (V (O zd (aa (aQ Z) (aa (bO Z) (ac (U ?_)))))))))
  refine O zd (aa (bP Z) (aa (jA Z) (aa (bP Z) (aa (aQ Z) (ah (ed (et:=156) zk zk (bI Z) (hv.ext e3) (bB Z) Z hx ?_))))))
  rintro q cs hF hp hr
  skip
  refine aa (ap (n:=4) zk Z hp (fd.len hr)) ?_
  refine ah (eV hb Z (aZ Z) (ae.mono ((hform w3 _ x e3 hr (List.mem_of_getElem? hx))) ?_))
  rintro _ w4 ⟨o4,e4⟩
  have:=e4.size
  obtain ⟨a4,c4,rfl⟩:=o4.shape
  refine ah (cp (t:=dB cw) (et:=28) (bytes:=24) zk zq (bI Z) ((show (dB cw).rep _ _ [_] _ from ⟨_,rfl,o4.view⟩)) ?_)
  rintro b5 w5 rfl o5 e5 z5
  have:=e5.size
  refine ah (cv (et:=28) (bytes:=24) zk (bI Z) (o3.ext (e4.trans e5)) (bI Z) o5.view ((jw o3 (by intro b hb;simp only [aP,or_false] at hb;omega) zo)) (by first | omega | (simp;done) | (simp;omega)) (by simp only [maxLen];first | omega | (simp;done) | (simp;omega)) zo ?_)
  rintro a6 n6 c6 w6 o6 hn6 k6 b6 i6
  have:=k6.size
  have hlk2:((aT xs.length :: (xs.take k).map sp) ++ [sp x]).length=k + 1 + 1:=by simp;omega
  rw [hlk2] at hn6
  subst hn6
  have e6:aX w0 w6:=((e3.trans e4).trans e5).step k6 fun b hb h=>by have:=(o3.own_lt h).1;omega
  have htk:(xs.take (k + 1)).map sp=(xs.take k).map sp ++ [sp x]:=by rw [List.take_add_one,hx];simp
  refine aa (cF Z) (ac (bE (U (O zd (aa (cn Z Z (by first | exact bn zo zo | rfl)) ?_)))))
  refine aa (aQ Z) (ac (U (⟨(a6,c6,k + 1),_,rfl,by (repeat (first | exact cD.of_over _ _ _ | refine cD.upd ?_ zq _ | refine cD.overs ?_ zq _)),⟨by first | rfl | exact congrArg (Value.int _) zo | (simp;done),by first | rfl | exact congrArg (Value.int _) zo | (simp;done),trivial⟩,?_,?_⟩)))
  ·
   exact ⟨by rw [htk];exact o6,e6,by omega⟩
  dsimp only;omega
 have hc2:=bf hc2
 obtain rfl:k=xs.length:=by omega
 rw [List.take_length] at o3
 have:=e3.size
 refine cl (bm (bm (cV (U (V (O zd (aa (bP Z) (ah (av zk (bI Z) (ae.mono (dN o3.view (by simpa [bQ] using hl)) ?_))))))))))
 rintro _ w4 ⟨o4,⟨q4,c4,rfl⟩,e4⟩
 have:=e4.size
 refine aa (cF Z) (aa (ad Z) (ac (U (aw (ee Z zq zq ?_)))))
 have hfl:(aT xs.length :: xs.map sp).flatten=bQ sp xs:=by simp [bQ]
 rw [hfl] at o4 ⊢
 exact ⟨q4,c4,rfl,o4.base zo,e3.trans e4⟩
theorem vM {w:World} {F:Nat→Prop} {v:Value} {l:List dS} (HS1:bs fd w F v l) (hm:∀ e ∈ l,cS e=true) (hl:l.length≤65536):ae Tryz.prog 58 #[v] w (fun r w'=>(∃ q c,r=.tuple #[.slice (some q) (bQ jV l).length c,.int .i64 0]∧ck cw iF w' w.heap.size aP (.slice (some q) (bQ jV l).length c) (bQ jV l))∧aX w w'):=by
 obtain ⟨a,c,rfl⟩:=HS1.shape
 have hlen:=pK hm hl
 have hany:(l.any fun e=>!cS e)=false:=by
  rw [List.any_eq_false];intro x hx;simp [hm x hx]
 refine aL 17 Tryz.func58 Z Z (by simp) ?_
 refine V ?_
 have E:=ao.refl (K:=aP) w
 replace HS1:=HS1.all
 refine O zd (aa (ad Z) (aa (ad Z) (ac (U (V (O zd (aa (ad Z) (ac (U ?_)))))))))
 refine V (V (O zd (aa (bP Z) (aa (ba (et:=156) zk Z) ?_))))
 refine aa (bX Z Z) ?_
 refine aa (bH Z) (aj Z Z (fun hG=>bP Z) (aj Z Z (fun hG=>be Z) (cI Z Z (fun hG=>aW zk (gd hG Z) (gd hG Z) (lp HS1 zk (fun W u r e h _=>wy h))) ?_)))
 rintro w101 e101
 have:=e101.size
 refine aa (bF Z Z) ?_
 replace E:=E.trans e101.keep
 replace HS1:=HS1.ext e101
 refine ac (U (am Z Z (fun hc=>?_) (fun hc=>?_)))
 ·
  rw [hany] at hc;simp at hc;omega
 refine ar (U (V (O zd (aa (bP Z) (ah (aW zk (bI Z) Z (ae.mono (vh (cap:=#[]) HS1 zk jV (fun w1 cs x e1 hr hx=>we hr (hm x hx)) zo zo) ?_)))))))
 rintro _ w14 ⟨q14,c14,rfl,HO14,e14⟩
 have:=e14.size
 have zo_HO14:=fun (b:Nat) h=>HO14.own_lt (b:=b) h
 refine aa (ai (t:=.slice _ _ _) Z Z) (aa (ai (t:=.int _ _) Z Z) (aa (cF Z) (aa (bO Z) (ac (U (aw (fu Z zq zq (bI Z) (bB Z) ?_)))))))
 replace E:=E.trans e14.keep
 exact ⟨⟨q14,c14,rfl,HO14.base zo⟩,E⟩
end Go.Proofs.YteehplloacefmaaGreat

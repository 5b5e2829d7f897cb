/- Steps and lemmas for the walks. -/
import Derived.Test.YteehplloacefmaaGreatBx
set_option linter.unusedVariables false
set_option linter.unusedSimpArgs false
set_option maxRecDepth 100000
namespace Go.Proofs.YteehplloacefmaaGreat
open Go.Vc
def lO (r:cO):cO:=(r.1,[],false,r.2.2.2)
theorem nw:∀ l,fl l=true→gK (l.map lO)=l
  | [],_=>rfl
  | [r],h=>by
    simp only [fl,Bool.and_eq_true,Bool.not_eq_true'] at h
    obtain ⟨a,b,c,d⟩:=r
    have h1:c=false:=h.1.2
    have h2:b=[]:=List.isEmpty_iff.1 h.2
    subst h1;subst h2;rfl
  | r :: s :: l,h=>by
    rw [mh,Bool.and_eq_true] at h
    have h2:=nw (s :: l) h.2
    have h1:=h.1
    simp only [qn,Bool.and_eq_true,decide_eq_true_eq] at h1
    simp only [List.map_cons] at h2 ⊢
    rw [gK,h2]
    obtain ⟨a,b,c,d⟩:=r
    have e1:b=s.1:=h1.2
    have e2:c=true:=h1.1.1.1.2
    rw [e1,e2];rfl
theorem sC {r:cO} (h1:r.1.length≤24) (h2:dJ r.2.2.2=true) (t:List UInt8):mQ (mP r ++ t)=.ok (lO r,t):=by
  have hg:=gF h2
  have e1:br 24 (mP r ++ t)=.ok (r.1,aT r.2.2.2.toNat ++ t):=by
    rw [mP,br,bR,az,List.append_assoc,List.append_assoc,dr zo]
    simp only [h1,if_true]
    rw [fa,if_pos (by simp)]
    simp
  rw [mQ,e1]
  simp only []
  rw [dr zo]
  simp only []
  rw [if_pos zo,lO,show ((r.2.2.2.toNat:Nat):Int)=r.2.2.2 by omega]
theorem iR {α:Type} {ρ:List UInt8→Except Int (α × List UInt8)} {sp:α→List UInt8} {f:α→α}:∀ (xs:List α) (r:List UInt8),(∀ x ∈ xs,∀ r,ρ (sp x ++ r)=.ok (f x,r))→bp ρ xs.length ((xs.map sp).flatten ++ r)=.ok (xs.map f,r)
  | [],r,_=>by simp [bp]
  | x :: xs,r,h=>by
    have h1:=iR xs r (fun y hy=>h y (List.mem_cons_of_mem _ hy))
    simp only [List.map_cons,List.flatten_cons,List.length_cons,bp,List.append_assoc]
    rw [h x List.mem_cons_self]
    simp only []
    rw [h1]
theorem pz {m:lz} (hm:cY m=true):gi (jz m)=(m,0):=by
  obtain ⟨e,rs⟩:=m
  obtain ⟨p1,p2,p3,p4,_,p6⟩:=cP hm
  simp only at p1 p2 p3 p4 p6
  have hl:=eA hm
  simp only at hl
  have h1:bR (bp mQ) 16 (bQ mP rs)=.ok (rs.map lO,[]):=by
    have h:=iR (ρ:=mQ) (sp:=mP) (f:=lO) rs [] (fun x hx r=>sC (hl x hx).1 (hl x hx).2.2 r)
    rw [List.append_nil] at h
    rw [bR,bQ,dr zo]
    simp only [p4,if_true]
    exact h
  rw [gi,jz,dr zo]
  simp only []
  rw [h1]
  simp only []
  have he:((e.toNat:Nat):Int)=e:=by omega
  rw [nw rs p6,he,if_pos ⟨trivial,by omega,hm⟩]
theorem uS:∀ (n:Nat) (l:List Nat),l.Nodup→(∀ x ∈ l,x < n)→l.length≤n
  | 0,l,_,h=>by
    cases l with
    | nil=>simp
    | cons a b=>have:=h a List.mem_cons_self;omega
  | n + 1,l,hd,h=>by
    have h1:=uS n (l.erase n) (hd.erase n) (fun x hx=>by
      have h2:=h x (List.mem_of_mem_erase hx)
      have h3:x≠n:=fun e=>by subst e;exact hd.not_mem_erase hx
      omega)
    have h2:=List.length_erase (a:=n) (l:=l)
    split at h2 <;> omega
theorem qp {rs:List cO} {n:Int} {ms:List fy} (h:lh rs n ms):ms.length≤rs.length:=by
  have hat:∀ x ∈ ms,∃ i,dH rs x.1.2.1=some i∧i < rs.length∧(rs.getD i fV).1=x.1.2.1:=fun x hx=>by
    have h3:=(h.1 x hx).2.2
    unfold kz at h3
    rcases hb:dH rs x.1.2.1 with _ | i
    · rw [hb] at h3;cases h3
    · exact ⟨i,rfl,fj hb⟩
  have h1:=uS rs.length (ms.map fun x=>(dH rs x.1.2.1).getD 0) (by
    rw [List.Nodup,List.pairwise_map]
    refine h.2.imp_of_mem fun {a b} ha hb hab he=>?_
    obtain ⟨i,hi,_,hi2⟩:=hat a ha
    obtain ⟨j,hj,_,hj2⟩:=hat b hb
    rw [hi,hj] at he
    have he:i=j:=he
    subst he
    exact hab.2 (hi2.symm.trans hj2)) (fun y hy=>by
    obtain ⟨x,hx,rfl⟩:=List.mem_map.1 hy
    obtain ⟨i,hi,hlt,_⟩:=hat x hx
    rw [hi];exact hlt)
  simpa using h1
theorem oJ {α:Type} {ρ:List UInt8→Except Int (α × List UInt8)} {sp:α→List UInt8} (xs:List α) (r:List UInt8) (h:∀ x ∈ xs,∀ r,ρ (sp x ++ r)=.ok (x,r)):bp ρ xs.length ((xs.map sp).flatten ++ r)=.ok (xs,r):=by
  have:=iR (f:=fun x=>x) xs r h
  simpa using this
theorem oI {s:it} (hs:dA s=true):eJ (rT s)=(s,0):=by
  obtain ⟨⟨e,rs⟩,n,ms⟩:=s
  obtain ⟨p1,p2,p3,p4⟩:=eg.1 hs
  simp only at p1 p2 p3 p4
  have hle:=qp p4
  obtain ⟨_,_,_,q4,_⟩:=cP p1
  simp only at q4
  have hmw:=(kp p1).2
  have h1:bR (bp nN) 16 (bQ mU ms)=.ok (ms,[]):=by
    have h:=oJ (ρ:=nN) (sp:=mU) ms [] (fun x hx r=>sE (p4.1 x hx).1)
    rw [List.append_nil] at h
    rw [bR,bQ,dr zo]
    simp only [show ms.length≤16 by omega,if_true]
    exact h
  rw [eJ,rT,List.append_assoc,fg (x:=jz (e,rs)) zo zq]
  simp only
  rw [dr zo]
  simp only
  rw [h1]
  have he:((n.toNat:Nat):Int)=n:=by omega
  simp only [pz p1,he]
  rw [if_pos ⟨trivial,trivial,by omega,hs⟩]
end Go.Proofs.YteehplloacefmaaGreat
namespace Go.Proofs.YteehplloacefmaaGreat
open Go.Vc
theorem lH {α:Type} {ρ:List UInt8→Except Int (α × List UInt8)} {sp:α→List UInt8} (hρ:∀ l x r,ρ l=.ok (x,r)→l=sp x ++ r) {k:Nat} {l r:List UInt8} {xs:List α} (h:bR (bp ρ) k l=.ok (xs,r)):l=bQ sp xs ++ r:=by
  rw [bR] at h
  rcases hd:cK l with _ | ⟨n,l'⟩
  · rw [hd] at h;cases h
  · rw [hd] at h
    simp only [] at h
    have hf:=cX hd
    by_cases hn:n≤k
    · rw [if_pos hn] at h
      obtain ⟨h1,h2⟩:=k0 hρ n l' xs r h
      rw [hf,h2,bQ,h1,List.append_assoc]
    · rw [if_neg hn] at h;cases h
theorem sB:∀ l x r,mQ l=.ok (x,r)→l=mP x ++ r:=by
  intro l x r h
  rw [mQ] at h
  rcases hd:br 24 l with e | ⟨fr,l1⟩
  · rw [hd] at h;cases h
  · rw [hd] at h;simp only [] at h
    have h1:=(fb hd).2.2
    rcases hd2:cK l1 with _ | ⟨n,l2⟩
    · rw [hd2] at h;cases h
    · rw [hd2] at h;simp only [] at h
      by_cases h5:n < 5
      · rw [if_pos h5] at h;cases h
        rw [h1,cX hd2,mP];simp
      · rw [if_neg h5] at h;cases h
theorem qA:∀ l:List cO,(gK l).map mP=l.map mP
  | []=>rfl
  | [_]=>rfl
  | r :: s :: t=>by
    rw [gK,List.map_cons,qA (s :: t),List.map_cons (l:=s :: t)];rfl
theorem py {l:List UInt8} {m:lz} (h:gi l=(m,0)):jz m=l:=by
  rw [gi] at h
  rcases hd:cK l with _ | ⟨n,l1⟩
  · rw [hd] at h;cases h
  · rw [hd] at h;simp only [] at h
    rcases ht:bR (bp mQ) 16 l1 with e | ⟨rs,l2⟩
    · rw [ht] at h;cases h
    · rw [ht] at h;simp only [] at h
      split at h
      · rename_i hc
        cases h
        obtain ⟨h2,_,_⟩:=hc
        have h3:=lH sB ht
        rw [jz,bQ,qA,ks,cX hd,h3,h2,bQ]
        simp
      · cases h
theorem kZ {l:List UInt8} {s:it} (h:eJ l=(s,0)):dA s=true∧rT s=l:=by
  rw [eJ] at h
  rcases hb:br 1048576 l with e | ⟨mb,l1⟩
  · rw [hb] at h;cases h
  · rw [hb] at h;simp only [] at h
    rcases hd:cK l1 with _ | ⟨n,l2⟩
    · rw [hd] at h;cases h
    · rw [hd] at h;simp only [] at h
      rcases ht:bR (bp nN) 16 l2 with e | ⟨ms,l3⟩
      · rw [ht] at h;cases h
      · rw [ht] at h;simp only [] at h
        split at h
        · rename_i hc
          cases h
          obtain ⟨h0,h3,_,hm⟩:=hc
          refine ⟨hm,?_⟩
          have h4:=lH (fun l x r h=>(sD h).2) ht
          have h5:=py (l:=mb) (m:=(gi mb).1) (by rw [← h0])
          rw [rT]
          simp only [h5]
          rw [(fb hb).2.2,cX hd,h4,h3]
          simp
        · cases h
end Go.Proofs.YteehplloacefmaaGreat
namespace Go.Proofs.YteehplloacefmaaGreat
open Go.Vc
theorem lT (l:List UInt8):(eJ l).2=0∨eJ l=(f0,4):=by
  unfold eJ
  split
  · exact .inr rfl
  · split
    · exact .inr rfl
    · split
      · exact .inr rfl
      · split
        · exact .inl rfl
        · exact .inr rfl
theorem sJ {w:World}:aY iK w bj (.agg #[.int .i64 0,.slice none 0 0,.int .i64 0,.slice none 0 0]) f0:=jR
theorem rt {s:it} (hs:dA s=true):(rT s).length≤100000:=by
  obtain ⟨p1,p2,p3,p4⟩:=eg.1 hs
  obtain ⟨⟨e,rs⟩,n,ms⟩:=s
  simp only at *
  have hle:=qp p4
  obtain ⟨_,_,_,q4,_⟩:=cP p1
  simp only at q4
  have h1:=lq (sp:=mU) (k:=320) ms fun x hx=>sk (p4.1 x hx).1
  have h2:=bA (n:=ms.length) zo
  have h3:=bA (n:=n.toNat) zo
  have h4:=(kp p1).2
  have h5:=gZ (l:=jz (e,rs)) zo
  have h6:(bQ mU ms).length≤6000:=by rw [bQ,List.length_append];omega
  rw [rT,List.length_append,List.length_append];simp only;omega
set_option maxHeartbeats 1000000 in
theorem pZ {w:World} {F G:Nat→Prop} {v bv:Value} {s:it} {l:List UInt8} (HG1:aY iK w F v s) (HS2:Bv w G bv l):ae Tryz.prog 3 #[v,bv] w (fun o w'=>o=.bool true∧aX w w'):=by
 obtain ⟨⟨e,rs⟩,n,ms⟩:=s
 obtain ⟨a1,c1,a2,c2,rfl,_⟩:=HG1.mt
 obtain ⟨a3,c3,rfl⟩:=HS2.shape
 have hmx:=HS2.len_max
 refine aL 92 Tryz.func3 Z Z (by simp) ?_
 refine V ?_
 have E:=ao.refl (K:=aP) w
 replace HG1:=HG1.all
 replace HS2:=HS2.all
 refine O zd (ah (aS (aZ Z) ?_))
 rintro b2 w2 zb2 HB2 e2 z2
 have:=e2.size
 try simp only [Value.cells] at HB2
 refine aa (ad Z) (ac (U (V (V (O zd (aa (ap zk Z (by first | exact HB2.pv | assumption) Z) ?_))))))
 replace HG1:=HG1.ext e2
 refine ah (av zk (aZ Z) (ae.mono (tV HG1) ?_))
 rintro _ w101 ⟨rfl,e101⟩
 have:=e101.size
 refine aa (cg Z) ?_
 refine aa (bH Z) (aj Z Z (fun hG=>bP Z) (aj Z Z (fun hG=>ba (et:=5) zk (gd hG Z)) ?_))
 refine aj Z Z (fun hG=>bX (gd hG Z) Z) ?_
 refine aa (bF Z Z) ?_
 replace E:=(E.trans e2.keep).trans e101.keep
 replace HS2:=(HS2.ext e2).ext e101
 replace HG1:=HG1.ext e101
 replace HB2:=HB2.ext e101
 refine ac (U (am Z Z (fun h19=>?_) (fun h19=>?_)))
 ·
  refine V (O zd (ah (j0 zk (ae.mono (hX) ?_))))
  rintro _ w102 ⟨rfl,e102⟩
  have:=e102.size
  refine aa (dl Z) (ac (U (aw (ay (aU Z zq (cE Z) ?_)))))
  replace E:=E.trans e102.keep
  exact ⟨rfl,E⟩
 have hz:wM ((e,rs),n,ms)=true∧l.length≤4000:=by
  simp only [Bool.or_eq_false_iff,Bool.not_eq_false',decide_eq_false_iff_not] at h19
  exact ⟨h19.1,by have:=h19.2;omega⟩
 obtain ⟨hz1,hz2⟩:=hz
 have hz3:rs.length≤40∧ms.length≤40:=by simpa [wM] using hz1
 refine ar (U (V (O zd (aa (ap zk Z (by first | exact HB2.pv | assumption) Z) ?_))))
 refine ah (av zk (aZ Z) (ae.mono (kS HG1 zo) ?_))
 rintro _ w23 ⟨⟨y23,rfl,HS5⟩,e23⟩
 have:=e23.size
 obtain ⟨a5,c5,rfl⟩:=HS5.shape
 replace HS5:=HS5.mono (F':=fun b=>b < w23.heap.size) fun b hb _=>hb
 refine aa (dY Z) (aa (ai (t:=.slice _ _ _) Z Z) (aa (ai (t:=.int _ _) Z Z) (aa (cF Z) (aa (bO Z) (ac (U (V (V (O zd ?_)))))))))
 refine aa (aQ Z) (aa (aJ Z Z) ?_)
 replace HB2:=HB2.ext e23
 refine aa (ap zk Z (by first | exact HB2.pv | assumption) Z) ?_
 replace HG1:=HG1.ext e23
 refine ah (av zk (aZ Z) (ae.mono (pD HG1) ?_))
 rintro _ w103 ⟨rfl,e103⟩
 have:=e103.size
 refine aa (gU zk Z Z) ?_
 refine aa (bH Z) (aj Z Z (fun hG=>aQ Z) (aj Z Z (fun hG=>bD (gd hG Z) Z) ?_))
 refine aj Z Z (fun hG=>be (t:=.bool _) (gd hG Z)) ?_
 refine gX Z Z (fun hG=>aQ Z) ?_
 refine gX Z Z (fun hG=>bD (gd hG Z) Z) ?_
 refine aj Z Z (fun hG=>bu (gd hG Z) (sY hG Z)) ?_
 refine aa (bF Z Z) ?_
 refine ac (U ?_)
 replace E:=(E.trans e23.keep).trans e103.keep
 replace HS2:=(HS2.ext e23).ext e103
 replace HG1:=HG1.ext e103
 replace HB2:=HB2.ext e103
 replace HS5:=HS5.ext e103
 by_cases hm:dA ((e,rs),n,ms)=true
 ·
  rw [if_pos hm] at HS5
  rw [hm]
  refine am Z Z (fun h38=>?_) (fun h38=>?_)
  ·
   simp at h38
  refine ar (U (V (V (O zd (aa (aQ Z) (aa (aJ Z Z) ?_))))))
  refine ac (U (am Z Z (fun h40=>?_) (fun h40=>?_)))
  ·
   refine V (O zd (aa (bP Z) (ah (av zk (bI Z) (ae.mono (mK HS5 (rt hm)) ?_)))))
   rintro _ w43 ⟨⟨y43,rfl,HG7⟩,e43⟩
   have:=e43.size
   rw [oI hm] at HG7 ⊢
   replace HG7:=HG7.mono (F':=fun b=>b < w43.heap.size) fun b hb _=>hb
   obtain ⟨a6,c6,a7,c7,rfl,_⟩:=aY.mt HG7
   refine aa (dY Z) (aa (ai (t:=.agg _) Z Z) (aa (ai (t:=.int _ _) Z Z) (ah (aD (z:=(.agg #[.int .i64 0,.slice none 0 0,.int .i64 0,.slice none 0 0])) (by unfold aE;kernel_rfl) ?_))))
   rintro b7 w7 zb7 HB7 e7 z7
   have:=e7.size
   try simp only [Value.cells] at HB7
   refine ah (aq (n:=4) Z Z (aZ Z) zk Z cT HB7 bV ?_)
   rintro w104 HB7 k104 z104
   have:=k104.size
   try simp only [zS,Nat.zero_add,Nat.reduceAdd,List.drop_nil] at HB7
   refine aa (bO Z) (ac (U (V (O zd (aa (aQ Z) (aa (bD Z Z) ?_))))))
   replace HB2:=((HB2.ext e43).ext e7).keep k104 aH
   refine aa (bH Z) (aj Z Z (fun hG=>ap zk Z (by first | exact HB7.pv | exact HB2.pv | assumption) Z) ?_)
   refine aj Z Z (fun hG=>ap zk Z (by first | exact HB7.pv | exact HB2.pv | assumption) Z) ?_
   replace HG1:=((HG1.ext e43).ext e7).keep k104 aC
   replace HG7:=(HG7.ext e7).keep k104 aC
   refine cI Z Z (fun hG=>aW zk (gd hG Z) (gd hG Z) (nP HG7 HG1)) ?_
   rintro w105 e105
   have:=e105.size
   refine aj Z Z (fun hG=>cg (gd hG Z)) ?_
   refine aa (bF Z Z) ?_
   replace E:=(((E.trans e43.keep).trans e7.keep).step k104 bi).trans e105.keep
   replace HS2:=(((HS2.ext e43).ext e7).keep k104 aC).ext e105
   replace HS5:=(((HS5.ext e43).ext e7).keep k104 aC).ext e105
   replace HG1:=HG1.ext e105
   replace HB2:=HB2.ext e105
   replace HG7:=HG7.ext e105
   replace HB7:=HB7.ext e105
   refine ac (U (am Z Z (fun h53=>?_) (fun h53=>?_)))
   ·
    simp at h53
   refine ar (U (V (O zd (aa (bP Z) (ah (av zk (bI Z) (ae.mono (mK HS2 zo) ?_)))))))
   rintro _ w56 ⟨⟨y56,rfl,HG9⟩,e56⟩
   have:=e56.size
   obtain ⟨s9,hs9⟩:∃ x,x=eJ l:=⟨_,rfl⟩
   rw [← hs9] at HG9 ⊢
   replace HG9:=HG9.mono (F':=fun b=>b < w56.heap.size) fun b hb _=>hb
   obtain ⟨⟨⟨eq9,rs9⟩,n9,ms9⟩,er9⟩:=s9
   simp only at HG9
   obtain ⟨a9,c9,a10,c10,rfl,_⟩:=aY.mt HG9
   refine aa (dY Z) (aa (ai (t:=.agg _) Z Z) (aa (ai (t:=.int _ _) Z Z) (ah (aD (z:=(.agg #[.int .i64 0,.slice none 0 0,.int .i64 0,.slice none 0 0])) (by unfold aE;kernel_rfl) ?_))))
   rintro b9 w9 zb9 HB9 e99 z9
   have:=e99.size
   try simp only [Value.cells] at HB9
   refine ah (aq (n:=4) Z Z (aZ Z) zk Z cT HB9 bV ?_)
   rintro w106 HB9 k106 z106
   have:=k106.size
   try simp only [zS,Nat.zero_add,Nat.reduceAdd,List.drop_nil] at HB9
   refine aa (bO Z) (ac (U (V (V (O zd (aa (aQ Z) (aa (bD Z Z) ?_)))))))
   replace E:=((E.trans e56.keep).trans e99.keep).step k106 bi
   replace HG1:=((HG1.ext e56).ext e99).keep k106 aC
   replace HS2:=((HS2.ext e56).ext e99).keep k106 aC
   replace HB2:=((HB2.ext e56).ext e99).keep k106 aH
   replace HG9:=(HG9.ext e99).keep k106 aC
   refine ac (U (am Z Z (fun h60=>?_) (fun h60=>?_)))
   ·
    have hz9:(((eq9,rs9),n9,ms9),er9)=(f0,4):=by rw [hs9];exact (lT l).resolve_left (fun h=>by rw [← hs9] at h;simp only at h;rw [h] at h60;simp at h60)
    have hz1:(((eq9,rs9),n9,ms9):it)=f0:=congrArg Prod.fst hz9
    have hz2:er9=4:=congrArg Prod.snd hz9
    refine V (O zd (aa (aQ Z) (aa (aJ Z Z) ?_)))
    refine aa (bH Z) (aj Z Z (fun hG=>ap zk Z (by first | exact HB9.pv | exact HB2.pv | assumption) Z) ?_)
    refine aj Z Z (fun hG=>aV (pl:=[(0,2),(2,1),(3,1)]) (z:=.agg #[.int .i64 0,.slice none 0 0,.int .i64 0,.slice none 0 0]) (zl:=[.int .i64 0,.slice none 0 0,.int .i64 0,.slice none 0 0]) zk (by unfold aE;kernel_rfl) Z Z (cells:=[_,_,_,_]) Z) ?_
    refine cI Z Z (fun hG=>aW zk (gd hG Z) (gd hG Z) (nP HG9 sJ)) ?_
    rintro w107 e107
    have:=e107.size
    refine aa (bu Z Z) ?_
    refine aa (bH Z) (cI Z Z (fun hG=>j0 zk (hX)) ?_)
    rintro w108 e108
    have:=e108.size
    refine aa (bu Z Z) ?_
    refine aa (dl Z) (ac (U (aw (ay (aU Z zq (cE Z) ?_)))))
    replace E:=(E.trans e107.keep).trans e108.keep
    refine ⟨?_,E⟩
    rw [hz1,hz2];simp
   have hz0:er9=0:=by simpa using h60
   subst hz0
   obtain ⟨hm9,hw9⟩:=kZ hs9.symm
   have hl9:ms9.length≤1000:=by have h1:=qp (eg.1 hm9).2.2.2;have h2:=(cP (eg.1 hm9).1).2.2.2.1;simp only at h1 h2;omega
   refine ar (U (V (O zd (aa (ap zk Z (by first | exact HB9.pv | exact HB2.pv | assumption) Z) ?_))))
   refine ah (av zk (aZ Z) (ae.mono (kS HG9 hl9) ?_))
   rintro _ w73 ⟨⟨y73,rfl,HS73⟩,e73⟩
   have:=e73.size
   rw [if_pos hm9] at HS73
   rw [if_pos hm9]
   rw [hw9] at HS73
   obtain ⟨a73,c73,rfl⟩:=HS73.shape
   replace HS73:=HS73.mono (F':=fun b=>b < w73.heap.size) fun b hb _=>hb
   refine aa (dY Z) (aa (ai (t:=.slice _ _ _) Z Z) (aa (ai (t:=.int _ _) Z Z) (aa (cF Z) (aa (bO Z) (ac (U (V (O zd (aa (aQ Z) ?_)))))))))
   refine aa (aJ Z Z) ?_
   refine aa (bH Z) (aj Z Z (fun hG=>bP Z) (aj Z Z (fun hG=>kW (et:=5) zk zk zk (gd hG Z) HS73) ?_))
   replace HS2:=HS2.ext e73
   refine aj Z Z (fun hG=>bP Z) (aj Z Z (fun hG=>kW (et:=5) zk zk zk (gd hG Z) HS2) ?_)
   refine aj Z Z (fun hG=>p7 (gd hG Z) (gd hG Z)) ?_
   refine aa (bu Z Z) ?_
   replace HB2:=HB2.ext e73
   replace HB9:=HB9.ext e73
   refine aa (bH Z) (aj Z Z (fun hG=>ap zk Z (by first | exact HB9.pv | exact HB2.pv | assumption) Z) ?_)
   replace HG9:=HG9.ext e73
   refine cI Z Z (fun hG=>av zk (gd hG Z) (pD HG9)) ?_
   rintro w109 e109
   have:=e109.size
   refine aa (bu Z Z) ?_
   refine aa (bH Z) (cI Z Z (fun hG=>j0 zk (hX)) ?_)
   rintro w110 e110
   have:=e110.size
   refine aa (bu Z Z) ?_
   refine aa (dl Z) (ac (U (aw (aU Z zq (cE Z) ?_))))
   replace E:=((E.trans e73.keep).trans e109.keep).trans e110.keep
   refine ⟨?_,E⟩
   rw [hm9];simp
  simp at h40
 rw [if_neg hm] at HS5
 have hmf:dA ((e,rs),n,ms)=false:=by simpa using hm
 rw [hmf]
 refine am Z Z (fun h38=>?_) (fun h38=>?_)
 ·
  simp at h38
 refine ar (U (V (V (O zd (aa (aQ Z) (aa (aJ Z Z) ?_))))))
 refine ac (U (am Z Z (fun h40=>?_) (fun h40=>?_)))
 ·
  simp at h40
 refine ar (U (V (O zd (aa (bP Z) (ah (av zk (bI Z) (ae.mono (mK HS2 zo) ?_)))))))
 rintro _ w56 ⟨⟨y56,rfl,HG9⟩,e56⟩
 have:=e56.size
 obtain ⟨s9,hs9⟩:∃ x,x=eJ l:=⟨_,rfl⟩
 rw [← hs9] at HG9 ⊢
 replace HG9:=HG9.mono (F':=fun b=>b < w56.heap.size) fun b hb _=>hb
 obtain ⟨⟨⟨eq9,rs9⟩,n9,ms9⟩,er9⟩:=s9
 simp only at HG9
 obtain ⟨a9,c9,a10,c10,rfl,_⟩:=aY.mt HG9
 refine aa (dY Z) (aa (ai (t:=.agg _) Z Z) (aa (ai (t:=.int _ _) Z Z) (ah (aD (z:=(.agg #[.int .i64 0,.slice none 0 0,.int .i64 0,.slice none 0 0])) (by unfold aE;kernel_rfl) ?_))))
 rintro b9 w9 zb9 HB9 e99 z9
 have:=e99.size
 try simp only [Value.cells] at HB9
 refine ah (aq (n:=4) Z Z (aZ Z) zk Z cT HB9 bV ?_)
 rintro w111 HB9 k111 z111
 have:=k111.size
 try simp only [zS,Nat.zero_add,Nat.reduceAdd,List.drop_nil] at HB9
 refine aa (bO Z) (ac (U (V (V (O zd (aa (aQ Z) (aa (bD Z Z) ?_)))))))
 replace E:=((E.trans e56.keep).trans e99.keep).step k111 bi
 replace HG1:=((HG1.ext e56).ext e99).keep k111 aC
 replace HS2:=((HS2.ext e56).ext e99).keep k111 aC
 replace HB2:=((HB2.ext e56).ext e99).keep k111 aH
 replace HG9:=(HG9.ext e99).keep k111 aC
 refine ac (U (am Z Z (fun h60=>?_) (fun h60=>?_)))
 ·
  have hz9:(((eq9,rs9),n9,ms9),er9)=(f0,4):=by rw [hs9];exact (lT l).resolve_left (fun h=>by rw [← hs9] at h;simp only at h;rw [h] at h60;simp at h60)
  have hz1:(((eq9,rs9),n9,ms9):it)=f0:=congrArg Prod.fst hz9
  have hz2:er9=4:=congrArg Prod.snd hz9
  refine V (O zd (aa (aQ Z) (aa (aJ Z Z) ?_)))
  refine aa (bH Z) (aj Z Z (fun hG=>ap zk Z (by first | exact HB9.pv | exact HB2.pv | assumption) Z) ?_)
  refine aj Z Z (fun hG=>aV (pl:=[(0,2),(2,1),(3,1)]) (z:=.agg #[.int .i64 0,.slice none 0 0,.int .i64 0,.slice none 0 0]) (zl:=[.int .i64 0,.slice none 0 0,.int .i64 0,.slice none 0 0]) zk (by unfold aE;kernel_rfl) Z Z (cells:=[_,_,_,_]) Z) ?_
  refine cI Z Z (fun hG=>aW zk (gd hG Z) (gd hG Z) (nP HG9 sJ)) ?_
  rintro w112 e112
  have:=e112.size
  refine aa (bu Z Z) ?_
  refine aa (bH Z) (cI Z Z (fun hG=>j0 zk (hX)) ?_)
  rintro w113 e113
  have:=e113.size
  refine aa (bu Z Z) ?_
  refine aa (dl Z) (ac (U (aw (ay (aU Z zq (cE Z) ?_)))))
  replace E:=(E.trans e112.keep).trans e113.keep
  refine ⟨?_,E⟩
  rw [hz1,hz2];simp
 have hz0:er9=0:=by simpa using h60
 subst hz0
 obtain ⟨hm9,hw9⟩:=kZ hs9.symm
 have hl9:ms9.length≤1000:=by have h1:=qp (eg.1 hm9).2.2.2;have h2:=(cP (eg.1 hm9).1).2.2.2.1;simp only at h1 h2;omega
 refine ar (U (V (O zd (aa (ap zk Z (by first | exact HB9.pv | exact HB2.pv | assumption) Z) ?_))))
 refine ah (av zk (aZ Z) (ae.mono (kS HG9 hl9) ?_))
 rintro _ w73 ⟨⟨y73,rfl,HS73⟩,e73⟩
 have:=e73.size
 rw [if_pos hm9] at HS73
 rw [if_pos hm9]
 rw [hw9] at HS73
 obtain ⟨a73,c73,rfl⟩:=HS73.shape
 replace HS73:=HS73.mono (F':=fun b=>b < w73.heap.size) fun b hb _=>hb
 refine aa (dY Z) (aa (ai (t:=.slice _ _ _) Z Z) (aa (ai (t:=.int _ _) Z Z) (aa (cF Z) (aa (bO Z) (ac (U (V (O zd (aa (aQ Z) ?_)))))))))
 refine aa (aJ Z Z) ?_
 refine aa (bH Z) (aj Z Z (fun hG=>bP Z) (aj Z Z (fun hG=>kW (et:=5) zk zk zk (gd hG Z) HS73) ?_))
 replace HS2:=HS2.ext e73
 refine aj Z Z (fun hG=>bP Z) (aj Z Z (fun hG=>kW (et:=5) zk zk zk (gd hG Z) HS2) ?_)
 refine aj Z Z (fun hG=>p7 (gd hG Z) (gd hG Z)) ?_
 refine aa (bu Z Z) ?_
 replace HB2:=HB2.ext e73
 replace HB9:=HB9.ext e73
 refine aa (bH Z) (aj Z Z (fun hG=>ap zk Z (by first | exact HB9.pv | exact HB2.pv | assumption) Z) ?_)
 replace HG9:=HG9.ext e73
 refine cI Z Z (fun hG=>av zk (gd hG Z) (pD HG9)) ?_
 rintro w114 e114
 have:=e114.size
 refine aa (bu Z Z) ?_
 refine aa (bH Z) (cI Z Z (fun hG=>j0 zk (hX)) ?_)
 rintro w115 e115
 have:=e115.size
 refine aa (bu Z Z) ?_
 refine aa (dl Z) (ac (U (aw (aU Z zq (cE Z) ?_))))
 replace E:=((E.trans e73.keep).trans e114.keep).trans e115.keep
 refine ⟨?_,E⟩
 rw [hm9];simp
end Go.Proofs.YteehplloacefmaaGreat

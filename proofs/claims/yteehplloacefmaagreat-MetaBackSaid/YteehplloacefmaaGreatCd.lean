/- Steps and lemmas for the walks. -/
import Derived.Test.YteehplloacefmaaGreatC11
set_option linter.unusedVariables false
set_option linter.unusedSimpArgs false
set_option maxRecDepth 100000
namespace Go.Proofs.YteehplloacefmaaGreat
open Go.Vc
theorem fg {x r:List UInt8} {most:Nat} (hl:x.length≤most) (hm:most < 18446744073709551616):br most (az x ++ r)=.ok (x,r):=by
  rw [br,bR,az,List.append_assoc,dr zo]
  simp only [hl,if_true]
  rw [fa,if_pos (by simp)]
  simp
theorem fh {m:Nat} {l:List UInt8} {x:List UInt8} {r:List UInt8} (h:br m l=.ok (x,r)):r.length≤l.length∧x.length≤m∧l=az x ++ r:=by
  rw [br,bR] at h
  rcases hd:cK l with _ | ⟨n,l'⟩
  · rw [hd] at h;cases h
  · rw [hd] at h
    simp only [] at h
    have hf:=cX hd
    by_cases hn:n≤m
    · rw [if_pos hn,fa] at h
      by_cases h2:n≤l'.length
      · rw [if_pos h2] at h
        cases h
        have hl:=congrArg List.length hf
        rw [List.length_append] at hl
        have e1:(l'.take n).length=n:=by rw [List.length_take];omega
        refine ⟨by rw [List.length_drop];omega,by omega,?_⟩
        rw [az,e1,List.append_assoc,List.take_append_drop];exact hf
      · rw [if_neg h2] at h;cases h
    · rw [if_neg hn] at h;cases h
theorem qo (l:List UInt8):∃ (n:Nat) (e:Int),fk l=.tuple #[.int .u64 n,.int .i64 e]∧n < 18446744073709551616∧(ca l).length≤l.length∧((e=0∧cK l=some (n,ca l))∨(e=4∧n=0∧ca l=l∧cK l=none)):=by
  rcases hd:cK l with _ | ⟨n,r⟩
  · exact ⟨0,4,by rw [fk,hd];rfl,by decide,by rw [ca,hd];exact Nat.le_refl _,.inr ⟨rfl,rfl,by rw [ca,hd],rfl⟩⟩
  · have hr:ca l=r:=by rw [ca,hd]
    have:=congrArg List.length (cX hd)
    rw [List.length_append] at this
    exact ⟨n,0,by rw [fk,hd],gy hd,by rw [hr];omega,.inl ⟨rfl,by rw [hr]⟩⟩
def nY (n:Nat):Int:=IntKind.i64.wrap (n:Int)
theorem pR {n:Nat}:nY n=if (n:Int) % 18446744073709551616 ≥ 9223372036854775808 then (n:Int) % 18446744073709551616 - 18446744073709551616 else (n:Int) % 18446744073709551616:=by
  simp [nY,IntKind.wrap,IntKind.bits,IntKind.signed]
theorem mz {n:Nat} (h:n < 9223372036854775808):nY n=n:=by rw [pR,if_neg zo];omega
theorem qD {n:Nat} (h:n < 18446744073709551616) {k:Nat} (hk:k < 9223372036854775808):nY n=k↔n=k:=by
  rw [pR];split <;> omega
theorem qC {n:Nat}:cH (nY n):=by rw [pR];split <;> omega
def un (x:dS) (l:List UInt8):Option dS:=if l=[]∧cS x=true then some x else none
def jO (l:List UInt8):Option dS:=match br 32 l with
  | .error _=>none
  | .ok (key,l1)=>match cK l1 with
    | none=>none
    | some (sq,l2)=>match cK l2 with
      | none=>none
      | some (kd,l3)=>if kd=1 then (match br 65536 l3 with
        | .error _=>none
        | .ok (v,l4)=>un (key,sq,kd,v) l4) else un (key,sq,kd,[]) l3
theorem lr {x y:dS} {l:List UInt8} (h:un x l=some y):l=[]∧cS x=true∧x=y:=by
  unfold un at h
  split at h
  · next h1=>cases h;exact ⟨h1.1,h1.2,rfl⟩
  · cases h
theorem tZ {l:List UInt8} {x:dS} (h:jO l=some x):cS x=true∧ou x=l:=by
  rw [jO] at h
  rcases h1:br 32 l with e | ⟨key,l1⟩
  · rw [h1] at h;cases h
  · rw [h1] at h;simp only [] at h
    rcases h2:cK l1 with _ | ⟨sq,l2⟩
    · rw [h2] at h;cases h
    · rw [h2] at h;simp only [] at h
      rcases h3:cK l2 with _ | ⟨kd,l3⟩
      · rw [h3] at h;cases h
      · rw [h3] at h;simp only [] at h
        have f1:=(fh h1).2.2
        have f2:=cX h2
        have f3:=cX h3
        by_cases hk:kd=1
        · rw [if_pos hk] at h
          rcases h4:br 65536 l3 with e | ⟨v,l4⟩
          · rw [h4] at h;cases h
          · rw [h4] at h
            obtain ⟨rfl,hm,rfl⟩:=lr h
            have f4:=(fh h4).2.2
            refine ⟨hm,?_⟩
            rw [f1,f2,f3,f4];subst hk;simp [ou]
        · rw [if_neg hk] at h
          obtain ⟨rfl,hm,rfl⟩:=lr h
          refine ⟨hm,?_⟩
          rw [f1,f2,f3];simp [ou];omega
theorem rh {x:dS} (hm:cS x=true):jO (ou x)=some x:=by
  obtain ⟨key,seq,kind,val⟩:=x
  have hm2:=hm
  simp only [cS,Bool.and_eq_true,decide_eq_true_eq,Bool.or_eq_true] at hm2
  obtain ⟨⟨⟨⟨⟨g1,g2⟩,g3⟩,g4⟩,g5⟩,g6⟩:=hm2
  obtain ⟨sq,rfl⟩:=Int.eq_ofNat_of_zero_le (show 0≤seq by omega)
  obtain ⟨kd,rfl⟩:=Int.eq_ofNat_of_zero_le (show 0≤kind by rcases g6 with h | ⟨h,_⟩ <;> omega)
  have hkd:kd≤2:=by rcases g6 with h | ⟨h,_⟩ <;> omega
  rw [jO]
  simp only [ou,List.append_assoc,Int.toNat_natCast]
  rw [fg g2 zq];simp only []
  rw [dr zo];simp only []
  rw [dr zo];simp only []
  by_cases hk:kd=1
  · subst hk
    rw [if_pos rfl,if_pos (show ((1:Nat):Int)=1 from rfl)]
    have:=fg (x:=val) (r:=[]) (most:=65536) g5 zq
    rw [List.append_nil] at this
    rw [this]
    exact if_pos ⟨rfl,hm⟩
  · rw [if_neg hk,if_neg zo]
    have hv:val=[]:=by
      rcases g6 with h | ⟨_,h⟩
      · omega
      · simpa using h
    subst hv
    exact if_pos ⟨rfl,hm⟩
theorem lV {l:List UInt8} {x:dS} (h:jO l=some x):∃ key l1 sq l2 kd l3,br 32 l=.ok (key,l1)∧cK l1=some (sq,l2)∧cK l2=some (kd,l3)∧sq≤2147483647∧kd≤2 ∧
    ((kd=1∧∃ v,br 65536 l3=.ok (v,[])∧cS (key,sq,kd,v)=true)∨(kd≠1∧l3=[]∧cS (key,sq,kd,[])=true)):=by
  have hb:∀ {key:List UInt8} {sq kd:Nat} {v:List UInt8},cS (key,(sq:Int),(kd:Int),v)=true→sq≤2147483647∧kd≤2:=by
    intro key sq kd v hm
    simp only [cS,Bool.and_eq_true,decide_eq_true_eq,Bool.or_eq_true] at hm
    omega
  rw [jO] at h
  rcases h1:br 32 l with e | ⟨key,l1⟩
  · rw [h1] at h;cases h
  · rw [h1] at h;simp only [] at h
    rcases h2:cK l1 with _ | ⟨sq,l2⟩
    · rw [h2] at h;cases h
    · rw [h2] at h;simp only [] at h
      rcases h3:cK l2 with _ | ⟨kd,l3⟩
      · rw [h3] at h;cases h
      · rw [h3] at h;simp only [] at h
        by_cases hk:kd=1
        · rw [if_pos hk] at h
          rcases h4:br 65536 l3 with e | ⟨v,l4⟩
          · rw [h4] at h;cases h
          · rw [h4] at h
            obtain ⟨rfl,hm,rfl⟩:=lr h
            exact ⟨key,l1,sq,l2,kd,l3,rfl,h2,h3,(hb hm).1,(hb hm).2,.inl ⟨hk,v,h4,hm⟩⟩
        · rw [if_neg hk] at h
          obtain ⟨rfl,hm,rfl⟩:=lr h
          exact ⟨key,l1,sq,l2,kd,[],rfl,h2,h3,(hb hm).1,(hb hm).2,.inr ⟨hk,rfl,hm⟩⟩
theorem oQ {key v:List UInt8} {n kd:Nat} (hn:n≤2147483647) (hk:kd < 18446744073709551616) (h:cS (key,nY n,nY kd,v)=true):nY n=n∧nY kd=kd∧kd≤2:=by
  have h1:=mz (n:=n) zo
  simp only [cS,Bool.and_eq_true,decide_eq_true_eq,Bool.or_eq_true] at h
  rcases h.2 with h2 | ⟨h2,_⟩
  · have:=(qD hk (k:=1) zq).1 h2;subst this;exact ⟨h1,h2,by omega⟩
  · have:=(qD hk (k:=2) zq).1 h2;subst this;exact ⟨h1,h2,by omega⟩
def vT:dS:=([],0,0,[])
theorem nU {w:World} {F:Nat→Prop}:aY fd w F (.agg #[.slice none 0 0,.int .i64 0,.int .i64 0,.slice none 0 0]) vT:=⟨_,rfl,pr (bs.nil _ _ _) (bs.nil _ _ _) ⟨by decide,by decide⟩ ⟨by decide,by decide⟩⟩
set_option maxHeartbeats 4000000 in
theorem uk {w:World} {F:Nat→Prop} {v:Value} {l:List UInt8} (HS1:Bv w F v l) (hl:l.length≤1000000):ae Tryz.prog 112 #[v] w (fun o w'=>(∃ u x e,o=.tuple #[u,.int .i64 e]∧aY fd w' (fun i=>w.heap.size≤i) u x∧((e=0∧jO l=some x)∨(e=4∧x=vT∧jO l=none)))∧aX w w'):=by
 obtain ⟨a0,c0,rfl⟩:=HS1.shape
 refine aL 76 Tryz.func112 Z Z (by simp) ?_
 refine V ?_
 have E:=ao.refl (K:=aP) w
 replace HS1:=HS1.all
 refine O zd (ah (aD (z:=(.agg #[.slice none 0 0,.int .i64 0,.int .i64 0,.slice none 0 0])) (by unfold aE;kernel_rfl) ?_))
 rintro b2 w2 zb2 HB2 e2 z2
 have:=e2.size
 try simp only [Value.cells] at HB2
 replace HS1:=HS1.ext e2
 refine aa (ad Z) (ac (U (V (O zd (aa (bP Z) (ah (av zk (bI Z) (ae.mono (mJ HS1 zo) ?_))))))))
 rintro _ w11 ⟨b4,rfl,HR4,hb4,e11,zb4⟩
 have:=e11.size
 refine aa (mO Z) (ac (U (V (O zd (aa (bK Z) (ah (aW zk (ci Z) (bB Z) (ae.mono (fZ (most:=32) HR4 (fun k hk=>hk.2) zq zq zo) ?_))))))))
 rintro r w12 ⟨hr12,k12⟩
 have:=k12.size
 obtain ⟨a5,c5,er5,fr,l1,rfl,HO5,HR5,hx5⟩:=eL hr12
 have HS5:=HO5.view.mono (F':=fun i=>w2.heap.size≤i∧i≠b4∧i < w12.heap.size) (fun i hi h=>h.elim (fun h=>by omega) (fun h=>by omega))
 replace E:=(E.trans e2.keep).trans e11.keep
 replace HS1:=HS1.ext e11
 replace HB2:=HB2.ext e11
 have hl1:l1.length≤l.length:=by
  rcases hx5 with ⟨_,hq⟩ | ⟨_,_,h,_⟩
  ·
   exact (fh (m:=32) hq).1
  rw [h];omega
 have zo_HO5:=fun (b:Nat) h=>HO5.own_lt (b:=b) h
 refine aa (dY Z) (aa (ai (t:=.slice _ _ _) Z Z) (aa (ai (t:=.int _ _) Z Z) (aa (cF Z) (aa (bO Z) (ac (U (V (O zd (aa (bK Z) ?_)))))))))
 refine ah (av zk (ci Z) (ae.mono (cd HR5 (fun h=>by omega)) ?_))
 rintro o13 w13 ⟨ho13,HR6,k13⟩
 have:=k13.size
 obtain ⟨n,e6,hn6,hn6b,hr6,hx6⟩:=qo l1
 rw [hn6] at ho13
 subst ho13
 refine aa (dY Z) (aa (ai (t:=.int _ _) Z Z) (aa (ai (t:=.int _ _) Z Z) (aa (bO Z) (aa (bO Z) (ac (U (V (O zd (aa (bK Z) ?_)))))))))
 refine ah (av zk (ci Z) (ae.mono (cd HR6 (fun h=>by omega)) ?_))
 rintro o14 w14 ⟨ho14,HR7,k14⟩
 have:=k14.size
 obtain ⟨kd,e7,hn7,hn7b,hr7,hx7⟩:=qo (ca l1)
 rw [hn7] at ho14
 subst ho14
 refine aa (dY Z) (aa (ai (t:=.int _ _) Z Z) (aa (ai (t:=.int _ _) Z Z) (aa (bO Z) (aa (bO Z) (ac (U (V (O zd (aa (bP Z) ?_)))))))))
 refine aa (aQ Z) (aa (bS (t:=(nY n)) (ds:=.int .u64) zk zk Z (rfl)) ?_)
 refine aa (aQ Z) (aa (bS (t:=(nY kd)) (ds:=.int .u64) zk zk Z (rfl)) ?_)
 refine aa (aV (pl:=[(0,1),(1,1),(2,1),(3,1)]) (z:=.agg #[.slice none 0 0,.int .i64 0,.int .i64 0,.slice none 0 0]) (zl:=[.slice none 0 0,.int .i64 0,.int .i64 0,.slice none 0 0]) zk (by unfold aE;kernel_rfl) Z Z (cells:=[_,_,_,_]) Z) ?_
 refine ah (aD (z:=(.agg #[.slice none 0 0,.int .i64 0,.int .i64 0,.slice none 0 0])) (by unfold aE;kernel_rfl) ?_)
 rintro b11 w15 zb11 HB11 e15 z15
 have:=e15.size
 try simp only [Value.cells] at HB11
 refine ah (aq (n:=4) Z Z (aZ Z) zk Z cT HB11 bV ?_)
 rintro w101 HB11 k101 z101
 have:=k101.size
 try simp only [zS,Nat.zero_add,Nat.reduceAdd,List.drop_nil] at HB11
 replace HB2:=((((HB2.keep k12 aH).keep k13 aH).keep k14 aH).ext e15).keep k101 aH
 refine ac (U (V (V (O zd (aa (aA 2 154 Z) (aa (ag zk Z (by first | exact HB11.pv 2 _ rfl | exact HB2.pv 2 _ rfl | assumption)) ?_))))))
 refine aa (aJ Z Z) ?_
 replace E:=((((E.step k12 bi).step k13 bi).step k14 bi).trans e15.keep).step k101 bi
 replace HS1:=((((HS1.keep k12 aC).keep k13 aC).keep k14 aC).ext e15).keep k101 aC
 replace HS5:=(((HS5.keep k13 aC).keep k14 aC).ext e15).keep k101 aC
 replace HR7:=(HR7.ext e15).keep k101 fB (by intro i hi he;have hi0:=hi;have hi:=hi;have he:=he;(try dsimp only [aP] at hi he);first | exact he.elim | omega | (have:=hF i hi0;omega))
 refine ac (U (am Z Z (fun hk=>?_) (fun hk=>?_)))
 ·
  have hk1:kd=1:=(qD hn7b (k:=1) zq).1 (bl hk)
  obtain ⟨n15,hn15⟩:∃ n,n=w101.heap.size:=⟨_,rfl⟩
  refine V (O zd (aa (bK Z) (ah (aW zk (ci Z) (bB Z) (ae.mono (fZ (most:=65536) HR7 (fun k hk=>hk.2) zq zq zo) ?_)))))
  rintro r16 w16 ⟨hr16,k16⟩
  have:=k16.size
  obtain ⟨a8,c8,er8,fv,l4,rfl,HO8,HR8,hx8⟩:=eL hr16
  have HS8:=HO8.view.mono (F':=fun i=>n15≤i) (fun i _ h=>h.elim (fun h=>by omega) (fun h=>by omega))
  have zo_HO8:=fun (b:Nat) h=>HO8.own_lt (b:=b) h
  refine aa (dY Z) (aa (ai (t:=.slice _ _ _) Z Z) (aa (ai (t:=.int _ _) Z Z) (aa (cF Z) (aa (bO Z) (ac (U (V (V (O zd ?_)))))))))
  refine aa (aQ Z) (aa (bD Z Z) ?_)
  replace E:=E.step k16 bi
  replace HS1:=HS1.keep k16 aC
  replace HB2:=HB2.keep k16 aH
  replace HS5:=HS5.keep k16 aC
  replace HB11:=HB11.keep k16 aH
  refine ac (U (am Z Z (fun he=>?_) (fun he=>?_)))
  ·
   refine V (O zd (aa (aV (pl:=[(0,1),(1,1),(2,1),(3,1)]) (z:=.agg #[.slice none 0 0,.int .i64 0,.int .i64 0,.slice none 0 0]) (zl:=[.slice none 0 0,.int .i64 0,.int .i64 0,.slice none 0 0]) zk (by unfold aE;kernel_rfl) Z Z (cells:=[_,_,_,_]) Z) ?_))
   refine ah (aq (n:=4) Z Z (aZ Z) zk Z cT HB2 bV ?_)
   rintro w102 HB2 k102 z102
   have:=k102.size
   try simp only [zS,Nat.zero_add,Nat.reduceAdd,List.drop_nil] at HB2
   refine aa (ad Z) (ac (U (aw (ay (ay (bL (n:=4) Z zq zq Z zk HB2.pv Z (bB Z) ?_))))))
   replace E:=E.step k102 bi
   refine ⟨⟨_,vT,4,rfl,nU,.inr ⟨rfl,rfl,?_⟩⟩,E⟩
   replace HS1:=HS1.keep k102 aC
   replace HS5:=HS5.keep k102 aC
   replace HB11:=HB11.keep k102 aH
   replace HR8:=HR8.keep k102 fB (by intro i hi he;have hi0:=hi;have hi:=hi;have he:=he;(try dsimp only [aP] at hi he);first | exact he.elim | omega | (have:=hF i hi0;omega))
   replace HS8:=HS8.keep k102 aC
   cases hrd:jO l with
   | none=>rfl
   | some x=>
    exfalso
    obtain ⟨key,y1,sq,y2,kk,y3,i1,i2,i3,i4,i5,i6⟩:=lV hrd
    rcases hx5 with ⟨_,hq5⟩ | ⟨_,_,_,_,_,hq5⟩
    ·
     rw [show br 32 l=_ from hq5] at i1;cases i1
     rcases hx6 with ⟨_,hq6⟩ | ⟨_,_,_,hq6⟩
     ·
      rw [hq6] at i2;cases i2
      rcases hx7 with ⟨_,hq7⟩ | ⟨_,_,_,hq7⟩
      ·
       rw [hq7] at i3;cases i3
       rcases i6 with ⟨_,v,i7,_⟩ | ⟨i7,_⟩
       ·
        rcases hx8 with ⟨h8,_⟩ | ⟨_,_,_,_,_,hq8⟩
        ·
         rw [h8] at he;cases he
        rw [show br 65536 _=_ from hq8] at i7;cases i7
       exact i7 hk1
      rw [hq7] at i3;cases i3
     rw [hq6] at i2;cases i2
    rw [show br 32 l=_ from hq5] at i1;cases i1
  refine ar (U (O zd (aa (bP Z) (aa (aA 3 28 Z) (ah (aR Z Z (bI Z) Z zk HB11 bV ?_))))))
  rintro w103 HB11 k103 z103
  have:=k103.size
  try simp only [zS,Nat.zero_add,Nat.reduceAdd,List.drop_nil] at HB11
  refine ac (U (V (V ?_)))
  replace HS5:=HS5.keep k103 aC
  replace HS8:=HS8.keep k103 aC
  have HG9:aY fd _ (fun i=>w2.heap.size≤i∧i≠b4) (.agg #[_,_,_,_]) (fr,nY n,nY kd,fv):=⟨_,rfl,pr (HS5.mono fun i _ h=>⟨h.1,h.2.1⟩) (HS8.mono fun i _ h=>by omega) qC qC⟩
  refine O zd (aa (aQ Z) (aa (bD Z Z) ?_))
  refine aa (bH Z) (aj Z Z (fun hG=>aQ Z) (aj Z Z (fun hG=>bD (gd hG Z) Z) ?_))
  refine aa (bF Z Z) ?_
  refine aa (bH Z) (aj Z Z (fun hG=>aQ Z) (aj Z Z (fun hG=>bD (gd hG Z) Z) ?_))
  refine aa (bF Z Z) ?_
  replace HR8:=HR8.keep k103 fB (by intro i hi he;have hi0:=hi;have hi:=hi;have he:=he;(try dsimp only [aP] at hi he);first | exact he.elim | omega | (have:=hF i hi0;omega))
  refine aa (bH Z) (aj Z Z (fun hG=>bK Z) (cI Z Z (fun hG=>av zk (gd hG Z) (nA HR8)) ?_))
  rintro w104 e104
  have:=e104.size
  refine aj Z Z (fun hG=>bD (gd hG Z) Z) ?_
  refine aa (bF Z Z) ?_
  refine aa (bH Z) (aj Z Z (fun hG=>aQ Z) (aj Z Z (fun hG=>bX (gd hG Z) Z) ?_))
  refine aa (bF Z Z) ?_
  replace HB2:=(HB2.keep k103 aH).ext e104
  replace HB11:=HB11.ext e104
  refine aa (bH Z) (aj Z Z (fun hG=>ap zk Z (by first | exact HB11.pv | exact HB2.pv | assumption) Z) ?_)
  replace HG9:=HG9.ext e104
  refine cI Z Z (fun hG=>av zk (gd hG Z) (nV HG9)) ?_
  rintro w105 e105
  have:=e105.size
  refine aj Z Z (fun hG=>cg (gd hG Z)) ?_
  refine aa (bF Z Z) ?_
  replace E:=((E.step k103 bi).trans e104.keep).trans e105.keep
  replace HS1:=((HS1.keep k103 aC).ext e104).ext e105
  replace HS5:=(HS5.ext e104).ext e105
  replace HR8:=(HR8.ext e104).ext e105
  replace HS8:=(HS8.ext e104).ext e105
  replace HB2:=HB2.ext e105
  replace HB11:=HB11.ext e105
  replace HG9:=HG9.ext e105
  refine ac (U (am Z Z (fun hc=>?_) (fun hc=>?_)))
  ·
   refine V (O zd (aa (aV (pl:=[(0,1),(1,1),(2,1),(3,1)]) (z:=.agg #[.slice none 0 0,.int .i64 0,.int .i64 0,.slice none 0 0]) (zl:=[.slice none 0 0,.int .i64 0,.int .i64 0,.slice none 0 0]) zk (by unfold aE;kernel_rfl) Z Z (cells:=[_,_,_,_]) Z) ?_))
   refine ah (aq (n:=4) Z Z (aZ Z) zk Z cT HB2 bV ?_)
   rintro w106 HB2 k106 z106
   have:=k106.size
   try simp only [zS,Nat.zero_add,Nat.reduceAdd,List.drop_nil] at HB2
   refine aa (ad Z) (ac (U (aw (ay (bL (n:=4) Z zq zq Z zk HB2.pv Z (bB Z) ?_)))))
   replace E:=E.step k106 bi
   refine ⟨⟨_,vT,4,rfl,nU,.inr ⟨rfl,rfl,?_⟩⟩,E⟩
   replace HS1:=HS1.keep k106 aC
   replace HS5:=HS5.keep k106 aC
   replace HB11:=HB11.keep k106 aH
   replace HR8:=HR8.keep k106 fB (by intro i hi he;have hi0:=hi;have hi:=hi;have he:=he;(try dsimp only [aP] at hi he);first | exact he.elim | omega | (have:=hF i hi0;omega))
   replace HS8:=HS8.keep k106 aC
   replace HG9:=HG9.keep k106 aC
   cases hrd:jO l with
   | none=>rfl
   | some x=>
    exfalso
    obtain ⟨key,y1,sq,y2,kk,y3,i1,i2,i3,i4,i5,i6⟩:=lV hrd
    rcases hx5 with ⟨h5,hq5⟩ | ⟨_,_,_,_,_,hq5⟩
    ·
     rw [show br 32 l=_ from hq5] at i1;cases i1
     rcases hx6 with ⟨h6,hq6⟩ | ⟨_,_,_,hq6⟩
     ·
      rw [hq6] at i2;cases i2
      rcases hx7 with ⟨h7,hq7⟩ | ⟨_,_,_,hq7⟩
      ·
       rw [hq7] at i3;cases i3
       rcases i6 with ⟨_,v,i7,i8⟩ | ⟨i7,_⟩
       ·
        rcases hx8 with ⟨h8,hq8⟩ | ⟨_,_,_,_,_,hq8⟩
        ·
         rw [show br 65536 _=_ from hq8] at i7;cases i7
         rw [h5,h6,h7,mz (n:=n) zo,mz (n:=kd) zo,i8] at hc
         simp at hc;omega
        rw [show br 65536 _=_ from hq8] at i7;cases i7
       exact i7 hk1
      rw [hq7] at i3;cases i3
     rw [hq6] at i2;cases i2
    rw [show br 32 l=_ from hq5] at i1;cases i1
  refine ar (U (V (O zd (aa (ap zk Z (by first | exact HB11.pv | exact HB2.pv | assumption) Z) ?_))))
  refine ah (aq (n:=4) Z Z (aZ Z) zk Z cT HB2 bV ?_)
  rintro w107 HB2 k107 z107
  have:=k107.size
  try simp only [zS,Nat.zero_add,Nat.reduceAdd,List.drop_nil] at HB2
  refine aa (ad Z) (ac (U (aw (bL (n:=4) Z zq zq Z zk HB2.pv Z (bB Z) ?_))))
  simp only [Bool.or_eq_false_iff,Bool.not_eq_false',decide_eq_true_eq,decide_eq_false_iff_not,Bool.not_eq_eq_eq_not,Bool.not_false,Bool.not_true] at hc
  obtain ⟨⟨⟨⟨⟨h5,h6⟩,h7⟩,h8⟩,hn⟩,hm⟩:=hc
  replace E:=E.step k107 bi
  replace HS1:=HS1.keep k107 aC
  replace HS5:=HS5.keep k107 aC
  replace HB11:=HB11.keep k107 aH
  replace HR8:=HR8.keep k107 fB (by intro i hi he;have hi0:=hi;have hi:=hi;have he:=he;(try dsimp only [aP] at hi he);first | exact he.elim | omega | (have:=hF i hi0;omega))
  replace HS8:=HS8.keep k107 aC
  replace HG9:=HG9.keep k107 aC
  obtain ⟨m1,m2,m3⟩:=oQ zo hn7b hm
  refine ⟨⟨_,(fr,nY n,nY kd,fv),0,rfl,HG9.mono (fun i _ h=>by have:=h.1;omega),.inl ⟨rfl,?_⟩⟩,E⟩
  rcases hx5 with ⟨_,hq5⟩ | ⟨h,_⟩
  ·
   rcases hx6 with ⟨_,hq6⟩ | ⟨h,_⟩
   ·
    rcases hx7 with ⟨_,hq7⟩ | ⟨h,_⟩
    ·
     rcases hx8 with ⟨_,hq8⟩ | ⟨h,_⟩
     ·
      have hl4:l4=[]:=(by by_cases hz:l4=[];exact hz;(rw [if_neg hz] at h8;simp at h8))
      subst hl4
      rw [m1,m2] at hm ⊢
      rw [jO,show br 32 l=_ from hq5];simp only []
      rw [hq6];simp only []
      rw [hq7];simp only []
      rw [if_pos hk1,show br 65536 _=_ from hq8]
      exact if_pos ⟨rfl,hm⟩
     exact absurd (by simpa using he) h
    omega
   omega
  exact absurd (by simpa using h5) h
 have hk1:¬ kd=1:=fun h=>bf hk ((qD hn7b (k:=1) zq).2 h)
 have HG9:aY fd _ (fun i=>w2.heap.size≤i∧i≠b4) (.agg #[_,_,_,_]) (fr,nY n,nY kd,[]):=⟨_,rfl,pr (HS5.mono fun i _ h=>⟨h.1,h.2.1⟩) (bs.nil _ _ _) qC qC⟩
 refine ar (U (V (V (O zd (aa (aQ Z) (aa (bD Z Z) ?_))))))
 refine aa (bH Z) (aj Z Z (fun hG=>aQ Z) (aj Z Z (fun hG=>bD (gd hG Z) Z) ?_))
 refine aa (bF Z Z) ?_
 refine aa (bH Z) (aj Z Z (fun hG=>aQ Z) (aj Z Z (fun hG=>bD (gd hG Z) Z) ?_))
 refine aa (bF Z Z) ?_
 refine aa (bH Z) (aj Z Z (fun hG=>bK Z) (cI Z Z (fun hG=>av zk (gd hG Z) (nA HR7)) ?_))
 rintro w108 e108
 have:=e108.size
 refine aj Z Z (fun hG=>bD (gd hG Z) Z) ?_
 refine aa (bF Z Z) ?_
 refine aa (bH Z) (aj Z Z (fun hG=>aQ Z) (aj Z Z (fun hG=>bX (gd hG Z) Z) ?_))
 refine aa (bF Z Z) ?_
 replace HB2:=HB2.ext e108
 replace HB11:=HB11.ext e108
 refine aa (bH Z) (aj Z Z (fun hG=>ap zk Z (by first | exact HB11.pv | exact HB2.pv | assumption) Z) ?_)
 replace HG9:=HG9.ext e108
 refine cI Z Z (fun hG=>av zk (gd hG Z) (nV HG9)) ?_
 rintro w109 e109
 have:=e109.size
 refine aj Z Z (fun hG=>cg (gd hG Z)) ?_
 refine aa (bF Z Z) ?_
 replace E:=(E.trans e108.keep).trans e109.keep
 replace HS1:=(HS1.ext e108).ext e109
 replace HS5:=(HS5.ext e108).ext e109
 replace HR7:=(HR7.ext e108).ext e109
 replace HB2:=HB2.ext e109
 replace HB11:=HB11.ext e109
 replace HG9:=HG9.ext e109
 refine ac (U (am Z Z (fun hc=>?_) (fun hc=>?_)))
 ·
  refine V (O zd (aa (aV (pl:=[(0,1),(1,1),(2,1),(3,1)]) (z:=.agg #[.slice none 0 0,.int .i64 0,.int .i64 0,.slice none 0 0]) (zl:=[.slice none 0 0,.int .i64 0,.int .i64 0,.slice none 0 0]) zk (by unfold aE;kernel_rfl) Z Z (cells:=[_,_,_,_]) Z) ?_))
  refine ah (aq (n:=4) Z Z (aZ Z) zk Z cT HB2 bV ?_)
  rintro w110 HB2 k110 z110
  have:=k110.size
  try simp only [zS,Nat.zero_add,Nat.reduceAdd,List.drop_nil] at HB2
  refine aa (ad Z) (ac (U (aw (ay (bL (n:=4) Z zq zq Z zk HB2.pv Z (bB Z) ?_)))))
  replace E:=E.step k110 bi
  refine ⟨⟨_,vT,4,rfl,nU,.inr ⟨rfl,rfl,?_⟩⟩,E⟩
  replace HS1:=HS1.keep k110 aC
  replace HS5:=HS5.keep k110 aC
  replace HR7:=HR7.keep k110 fB (by intro i hi he;have hi0:=hi;have hi:=hi;have he:=he;(try dsimp only [aP] at hi he);first | exact he.elim | omega | (have:=hF i hi0;omega))
  replace HB11:=HB11.keep k110 aH
  replace HG9:=HG9.keep k110 aC
  cases hrd:jO l with
  | none=>rfl
  | some x=>
   exfalso
   obtain ⟨key,y1,sq,y2,kk,y3,i1,i2,i3,i4,i5,i6⟩:=lV hrd
   rcases hx5 with ⟨h5,hq5⟩ | ⟨_,_,_,_,_,hq5⟩
   ·
    rw [show br 32 l=_ from hq5] at i1;cases i1
    rcases hx6 with ⟨h6,hq6⟩ | ⟨_,_,_,hq6⟩
    ·
     rw [hq6] at i2;cases i2
     rcases hx7 with ⟨h7,hq7⟩ | ⟨_,_,_,hq7⟩
     ·
      rw [hq7] at i3;cases i3
      rcases i6 with ⟨i7,_⟩ | ⟨_,i7,i8⟩
      ·
       exact hk1 i7
      rw [h5,h6,h7,i7,mz (n:=n) zo,mz (n:=kd) zo,i8] at hc
      simp at hc;omega
     rw [hq7] at i3;cases i3
    rw [hq6] at i2;cases i2
   rw [show br 32 l=_ from hq5] at i1;cases i1
 refine ar (U (V (O zd (aa (ap zk Z (by first | exact HB11.pv | exact HB2.pv | assumption) Z) ?_))))
 refine ah (aq (n:=4) Z Z (aZ Z) zk Z cT HB2 bV ?_)
 rintro w111 HB2 k111 z111
 have:=k111.size
 try simp only [zS,Nat.zero_add,Nat.reduceAdd,List.drop_nil] at HB2
 refine aa (ad Z) (ac (U (aw (bL (n:=4) Z zq zq Z zk HB2.pv Z (bB Z) ?_))))
 simp only [Bool.or_eq_false_iff,Bool.not_eq_false',decide_eq_true_eq,decide_eq_false_iff_not,Bool.not_eq_eq_eq_not,Bool.not_false,Bool.not_true] at hc
 obtain ⟨⟨⟨⟨⟨h5,h6⟩,h7⟩,h8⟩,hn⟩,hm⟩:=hc
 replace E:=E.step k111 bi
 replace HS1:=HS1.keep k111 aC
 replace HS5:=HS5.keep k111 aC
 replace HR7:=HR7.keep k111 fB (by intro i hi he;have hi0:=hi;have hi:=hi;have he:=he;(try dsimp only [aP] at hi he);first | exact he.elim | omega | (have:=hF i hi0;omega))
 replace HB11:=HB11.keep k111 aH
 replace HG9:=HG9.keep k111 aC
 obtain ⟨m1,m2,m3⟩:=oQ zo hn7b hm
 refine ⟨⟨_,(fr,nY n,nY kd,[]),0,rfl,HG9.mono (fun i _ h=>by have:=h.1;omega),.inl ⟨rfl,?_⟩⟩,E⟩
 rcases hx5 with ⟨_,hq5⟩ | ⟨h,_⟩
 ·
  rcases hx6 with ⟨_,hq6⟩ | ⟨h,_⟩
  ·
   rcases hx7 with ⟨_,hq7⟩ | ⟨h,_⟩
   ·
    have hl4:ca (ca l1)=[]:=(by by_cases hz:ca (ca l1)=[];exact hz;(rw [if_neg hz] at h8;simp at h8))
    rw [m1,m2] at hm ⊢
    rw [jO,show br 32 l=_ from hq5];simp only []
    rw [hq6];simp only []
    rw [hq7];simp only []
    rw [if_neg hk1]
    exact if_pos ⟨hl4,hm⟩
   omega
  omega
 exact absurd (by simpa using h5) h
end Go.Proofs.YteehplloacefmaaGreat
namespace Go.Proofs.YteehplloacefmaaGreat
open Go.Vc
theorem uh {e:dS} (h:cS e=true):(ou e).length≤65636:=by
  obtain ⟨key,seq,kind,val⟩:=e
  simp only [cS,Bool.and_eq_true,decide_eq_true_eq,Bool.or_eq_true] at h
  obtain ⟨⟨⟨⟨⟨h1,h2⟩,h3⟩,h4⟩,h5⟩,h6⟩:=h
  have b1:=gY 0 key.length zo
  have b2:=gY 2 val.length zo
  have b3:=gY 4 seq.toNat zo
  have hk:kind.toNat≤2:=by rcases h6 with h6 | ⟨h6,_⟩ <;> omega
  have b4:=gY 0 kind.toNat zo
  simp only [ou,az,List.length_append]
  split
  · simp only [List.length_append];omega
  · simp only [List.length_nil];omega
def iL (l:List UInt8):Except Int (dS × List UInt8):=match br 65636 l with
  | .error e=>.error e
  | .ok (x,r)=>match jO x with
    | some y=>.ok (y,r)
    | none=>.error 4
theorem nO {l:List UInt8} {x:dS} {r:List UInt8} (h:iL l=.ok (x,r)):l=jV x ++ r∧cS x=true∧r.length < l.length:=by
  rw [iL] at h
  rcases h1:br 65636 l with e | ⟨y,l1⟩
  · rw [h1] at h;cases h
  · rw [h1] at h;simp only [] at h
    rcases h2:jO y with _ | z
    · rw [h2] at h;cases h
    · rw [h2] at h;cases h
      obtain ⟨a1,a2,a3⟩:=fh h1
      obtain ⟨b1,b2⟩:=tZ h2
      refine ⟨by rw [a3,jV,b2],b1,?_⟩
      have hp:=jW y.length
      have:=congrArg List.length a3
      rw [az,List.length_append,List.length_append] at this
      omega
theorem pB:∀ l x r,iL l=.ok (x,r)→r.length < l.length:=fun l x r h=>(nO h).2.2
theorem rf {x:dS} {r:List UInt8} (h:cS x=true):iL (jV x ++ r)=.ok (x,r):=by
  rw [iL,jV,fg (uh h) zq]
  simp only []
  rw [rh h]
theorem kg {α:Type} {ρ:List UInt8→Except Int (α × List UInt8)} {sp:α→List UInt8}:∀ (xs:List α) (r:List UInt8),(∀ x ∈ xs,∀ r,ρ (sp x ++ r)=.ok (x,r))→bp ρ xs.length ((xs.map sp).flatten ++ r)=.ok (xs,r)
  | [],r,_=>by simp [bp]
  | x :: xs,r,h=>by
    have h1:=kg xs r (fun y hy=>h y (List.mem_cons_of_mem _ hy))
    simp only [List.map_cons,List.flatten_cons,List.length_cons,bp,List.append_assoc]
    rw [h x List.mem_cons_self]
    simp only []
    rw [h1]
theorem lU {α:Type} {ρ:List UInt8→Except Int (α × List UInt8)} {sp:α→List UInt8} {p:α→Prop} (h:∀ l x r,ρ l=.ok (x,r)→l=sp x ++ r∧p x):∀ (n:Nat) (l:List UInt8) (xs:List α) (r:List UInt8),bp ρ n l=.ok (xs,r)→xs.length=n∧l=(xs.map sp).flatten ++ r∧∀ x ∈ xs,p x
  | 0,l,xs,r,h1=>by rw [bp] at h1;cases h1;simp
  | n + 1,l,xs,r,h1=>by
    rw [bp] at h1
    rcases h2:ρ l with e | ⟨x,l2⟩
    · rw [h2] at h1;cases h1
    · rw [h2] at h1;simp only [] at h1
      rcases h3:bp ρ n l2 with e | ⟨ys,l3⟩
      · rw [h3] at h1;cases h1
      · rw [h3] at h1;cases h1
        obtain ⟨a1,a2⟩:=h _ _ _ h2
        obtain ⟨b1,b2,b3⟩:=lU h n l2 ys _ h3
        refine ⟨by simp [b1],by rw [a1,b2];simp,fun y hy=>?_⟩
        rcases List.mem_cons.1 hy with rfl | hy
        · exact a2
        · exact b3 y hy
def lm (l:List UInt8):Option (List dS):=match bR (bp iL) 65536 l with
  | .ok (xs,[])=>some xs
  | _=>none
theorem tY {l:List UInt8} {xs:List dS} (h:lm l=some xs):(∀ e ∈ xs,cS e=true)∧xs.length≤65536∧bQ jV xs=l:=by
  rw [lm] at h
  split at h
  · next ys hq=>
    cases h
    rw [bR] at hq
    rcases hd:cK l with _ | ⟨n,l'⟩
    · rw [hd] at hq;cases hq
    · rw [hd] at hq;simp only [] at hq
      by_cases hn:n≤65536
      · rw [if_pos hn] at hq
        obtain ⟨b1,b2,b3⟩:=lU (sp:=jV) (p:=fun x=>cS x=true) (fun l x r h=>⟨(nO h).1,(nO h).2.1⟩) _ _ _ _ hq
        refine ⟨b3,by omega,?_⟩
        rw [bQ,b1,cX hd,b2,List.append_nil]
      · rw [if_neg hn] at hq;cases hq
  · cases h
theorem re {xs:List dS} (h:∀ e ∈ xs,cS e=true) (hl:xs.length≤65536):lm (bQ jV xs)=some xs:=by
  rw [lm,bR,bQ,dr zo]
  simp only []
  rw [if_pos hl]
  have:=kg (ρ:=iL) (sp:=jV) xs [] (fun x hx r=>rf (h x hx))
  rw [List.append_nil] at this
  rw [this]
def qO (w1 w2:World) (c:Nat) (F:Nat→Prop):Except Int (dS × List UInt8)→Value→Prop
  | .ok (x,l2),r=>∃ cs,r=.tuple #[.agg cs.toArray,.int .i64 0]∧(fd).rep w2 (fun b=>w1.heap.size≤b) cs x∧Rd ef w2 c F l2
  | .error e,r=>e≠0∧∃ cs x,r=.tuple #[.agg cs.toArray,.int .i64 e]∧(fd).rep w2 (fun b=>w1.heap.size≤b) cs x
theorem rN {w1 w2:World} {c:Nat} {F:Nat→Prop} {q:Except Int (dS × List UInt8)} {r:Value} (h:qO w1 w2 c F q r):∃ (cs:List Value) (x:dS) (er:Int),r=.tuple #[.agg cs.toArray,.int .i64 er]∧(fd).rep w2 (fun b=>w1.heap.size≤b) cs x ∧
    ((er=0∧∃ l2,q=.ok (x,l2)∧Rd ef w2 c F l2)∨(er≠0∧q=.error er)):=by
  match q,h with
  | .ok (x,l2),⟨cs,hr,h1,h2⟩=>exact ⟨cs,x,0,hr,h1,.inl ⟨rfl,l2,rfl,h2⟩⟩
  | .error e,⟨he,cs,x,hr,h1⟩=>exact ⟨cs,x,e,hr,h1,.inr ⟨he,rfl⟩⟩
theorem m7 {w:World} {b pf:Nat} {pT:TypeId} {F:Nat→Prop} {l:List UInt8} {n fr:Nat} {cap:Array Value} (hr:Rd ef w b F l) (hF:∀ k,F k→k < w.heap.size) (hFb:¬ F b) (hn:n≤9223372036854775807) (hl:l.length≤1000000000000) (hb:dj Tryz.prog fr=true)
    (hpf:dh w pf [.func (.func fr) #[] cap] pT) (hpb:pf≠b)
    (ρ:List UInt8→Except Int (dS × List UInt8)) (hρ:∀ l x l2,ρ l=.ok (x,l2)→l2.length < l.length)
    (hone:∀ (w1:World) (l1:List UInt8),ao (fun k=>k=b) w w1→Rd ef w1 b F l1→l1.length≤l.length→ae Tryz.prog fr (#[.pointer (some ⟨b,0,none⟩)] ++ cap) w1 (fun r w2=>qO w1 w2 b F (ρ l1) r∧ao (fun k=>k=b) w1 w2)) :
    ae Tryz.prog 127 #[.pointer (some ⟨b,0,none⟩),.int .i64 n,.pointer (some ⟨pf,0,none⟩)] w (fun r w'=>jg (fd) 156 ef w w' b F (bp ρ n l) r∧ao (fun k=>k=b) w w'):=by
 obtain ⟨w0,rfl⟩:∃ x,x=w:=⟨w,rfl⟩
 have hblt:b < w0.heap.size:=by obtain ⟨_,_,h,_⟩:=hr;exact h.lt
 have hplt:=hpf.lt
 refine aL 28 Tryz.func127 Z Z (by simp) ?_
 refine V (O zd (aa (ad Z) (aa (ad Z) (ac (U (V (aO (cy (τ:=Option Addr × Nat × Int × List (dS) × List UInt8) [5,6,7,8,9,10,11,12,13,14,15,16,17,18,19,20,21,22,23,24,25] (fun (a1,c1,er,xs,l1)=>[(5,.slice a1 xs.length c1),(6,.int .i64 er)]) (fun (a1,c1,er,xs,l1) w=>ck (fd) 156 w w0.heap.size (fun k=>w0.heap.size≤k) (.slice a1 xs.length c1) xs∧ao (fun k=>k=b) w0 w∧xs.length≤n∧((er=0∧Rd ef w b F l1∧xs.length + l1.length≤l.length∧bp ρ n l=je xs (bp ρ (n - xs.length) l1))∨(er≠0∧bp ρ n l=.error er))) (fun (a1,c1,er,xs,l1)=>n - xs.length) (none,0,0,[],l) (by exact ⟨rfl,rfl,trivial⟩) (by exact ⟨ck.nil _ _ _ _ _,ao.refl _,Nat.zero_le _,.inl ⟨rfl,hr,by simp,by simp [kR]⟩⟩) ?_))))))))
 rintro ⟨a1,c1,er,xs,l1⟩ w1 j ⟨o1,k1,h1,h1c⟩
 refine V (V (O zd (aa (bP Z) (aa (ba (et:=156) zk Z) ?_))))
 refine aa (aQ Z) (aa (bw Z Z) ?_)
 refine aa (bH Z) (aj Z Z (fun hG=>aQ Z) (aj Z Z (fun hG=>aJ (gd hG Z) Z) ?_))
 refine aa (bu Z Z) ?_
 refine ac (U (am Z Z (fun hc=>?_) (fun hc=>?_)))
 ·
  have hcl:xs.length < n:=by simp at hc;omega
  have hce:er=0:=by simp at hc;omega
  obtain ⟨_,r1,hll,hrd⟩:=h1c.resolve_right (fun h=>h.1 hce)
  have:=k1.size
  refine ar (U (aO (V (O zd (ah (aD (z:=(.agg #[.slice none 0 0,.int .i64 0,.int .i64 0,.slice none 0 0])) (by unfold aE;kernel_rfl) ?_))))))
  rintro b2 w2 rfl hb2 e2 z2
  have:=e2.size
  refine ac (U (V (O zd (aa (ag zk Z ((((hpf.keep k1 hpb)).ext e2).pv 0 _ Z)) ?_))))
  refine aa (bK Z) (ah (eV hb Z (ci Z) (ae.mono ((hone w2 l1 (k1.trans (e2.mono fun _ _ h=>h.elim)) (r1.ext e2) zo)) ?_)))
  rintro r w3 ⟨hr3,k3⟩
  have:=k3.size
  obtain ⟨cs,x,er2,hr3,hrep,hnx⟩:=rN hr3
  subst hr3
  have hrep1:=hrep
  obtain ⟨a9,c9,a10,c10,rfl,_,_,_,_⟩:=eN hrep
  refine aa (dY Z) (aa (ai (t:=.agg _) Z Z) (aa (ai (t:=.int _ _) Z Z) (ah (aq (n:=4) Z Z (aZ Z) zk Z (by first | (simp [cL];done) | (simp only [List.forall_mem_cons,List.cons_append,List.nil_append];repeat' (first | exact rfl | apply And.intro | (intro u hu;cases hu;done)))) (hb2.keep k3 zo) bV ?_))))
  rintro w4 h4 k4 z4
  have:=k4.size
  have hrep4:=(fd).keep hrep1 k4 (fun i hi h hk=>by omega)
  have o4:=((((o1.mono (F':=fun k=>w0.heap.size≤k∧k < w1.heap.size) (fun i hi h=>⟨h,hi⟩)).ext e2).keep k3 (fun i hi h=>by have:=(o1.own_lt hi).1;omega) (fun i _ hi _ h=>by omega)).keep k4 (fun i hi h=>by have:=(o1.own_lt hi).2;omega) (fun i _ hi _ h=>by omega)).mono (F':=fun k=>w0.heap.size≤k) (fun i _ h=>h.1)
  have k46:ao (fun k=>k=b) w0 w4:=(((k1.trans (e2.mono fun _ _ h=>h.elim)).trans k3).step k4 (fun i hi h=>by omega))
  have hnx4:(er2=0∧∃ l2,ρ l1=.ok (x,l2)∧Rd ef w4 b F l2)∨(er2≠0∧ρ l1=.error er2):=by
   rcases hnx with ⟨he2,l2,hq,r3⟩ | h
   ·
    exact .inl ⟨he2,l2,hq,r3.keep k4 zo (fun i hi h=>by have:=hF i hi;omega)⟩
   exact .inr h
  refine aa (bO Z) (ac (U (O zd (aa (bP Z) (aa (ap zk Z h4.pv Z) ?_)))))
  refine ah (cp (t:=fd) (et:=156) (bytes:=64) zk zq (aZ Z) (hrep4) ?_)
  rintro b5 w5 rfl o5 e5 z5
  have:=e5.size
  refine ah (cv (et:=156) (bytes:=64) zk (bI Z) (o4.ext e5) (bI Z) o5.view ((jw o1 (by intro i hi;omega) zo)) (by first | omega | (simp;done) | (simp;omega)) (by simp only [maxLen];first | omega | (simp;done) | (simp;omega)) zo ?_)
  rintro a6 n6 c6 w6 o6 hn6 k6 b6 i6
  have:=k6.size
  subst hn6
  have k36:ao (fun k=>k=b) w0 w6:=(k46.trans (e5.mono fun _ _ h=>h.elim)).step k6 (fun i hi h=>by have:=(o1.own_lt h).1;omega)
  have hsub:n - xs.length=(n - (xs ++ [x]).length) + 1:=by simp only [List.length_append,List.length_singleton];omega
  obtain ⟨l2,hinv⟩:∃ l2,((er2=0∧Rd ef w6 b F l2∧(xs ++ [x]).length + l2.length≤l.length∧bp ρ n l=je (xs ++ [x]) (bp ρ (n - (xs ++ [x]).length) l2))∨(er2≠0∧bp ρ n l=.error er2)):=by
   rcases hnx4 with ⟨he2,l2,hq,r4⟩ | ⟨hne,hq⟩
   ·
    refine ⟨l2,.inl ⟨he2,?_,?_,?_⟩⟩
    ·
     exact (r4.ext e5).keep k6 (fun h=>by have:=(o1.own_lt h).1;omega) (fun i hi h=>by have:=(o1.own_lt h).1;have:=hF i hi;omega)
    ·
     have:=hρ _ _ _ hq;simp only [List.length_append,List.length_singleton];omega
    rw [hrd,hsub];exact kM hq
   exact ⟨[],.inr ⟨hne,by rw [hrd,hsub];exact jN hq⟩⟩
  refine aa (cF Z) (ac (bE (U (⟨(a6,c6,er2,xs ++ [x],l2),_,rfl,by (repeat (first | exact cD.of_over _ _ _ | refine cD.upd ?_ zq _ | refine cD.overs ?_ zq _)),⟨by first | rfl | exact congrArg (Value.int _) zo | (simp;done),by first | rfl | exact congrArg (Value.int _) zo | (simp;done),trivial⟩,?_,?_⟩))))
  ·
   exact ⟨o6,k36,by simp only [List.length_append,List.length_singleton];omega,hinv⟩
  simp only [List.length_append,List.length_singleton];omega
 refine cl (bm (bm (cV (U (V (O zd (aa (bP Z) (aa (aQ Z) (aa (cF Z) ?_)))))))))
 refine aa (bO Z) (ac (U (aw (ee Z zq zq ?_))))
 refine ⟨?_,k1⟩
 rcases h1c with ⟨he,r1,_,hrd⟩ | ⟨hne,hq⟩
 ·
  have hcl:¬ xs.length < n:=by subst he;simpa using hc
  rw [hrd,show n - xs.length=0 by omega]
  subst he
  show jg _ _ _ _ _ _ _ (.ok (xs ++ [],l1)) _
  rw [List.append_nil]
  exact ⟨a1,c1,rfl,o1,r1⟩
 rw [hq]
 exact ⟨hne,_,_,_,rfl⟩
theorem sc {w:World} {b:Nat} {F:Nat→Prop} {l:List UInt8} {most:Int} {fr:Nat} {cap:Array Value} (hr:Rd ef w b F l) (hF:∀ k,F k→k < b) (hm:0≤most) (hm2:most≤9223372036854775807) (hb:dj Tryz.prog fr=true)
    (ρ:Nat→List UInt8→Except Int (List dS × List UInt8))
    (hread:∀ (w1:World) (c:Nat) (l1:List UInt8) (n:Nat),aX w w1→w.heap.size≤c→Rd ef w1 c F l1→l1.length≤l.length→(n:Int)≤most→ae Tryz.prog fr (#[.pointer (some ⟨c,0,none⟩),.int .i64 n] ++ cap) w1 (fun r w2=>jg (fd) 156 ef w1 w2 c F (ρ n l1) r∧ao (fun k=>k=c) w1 w2)) :
    ae Tryz.prog 126 #[.pointer (some ⟨b,0,none⟩),.int .i64 most,.func (.func fr) #[] cap] w (fun r w'=>od (fd) 156 ef w w' b F l (bR ρ most.toNat l) r∧ao (fun k=>k=b) w w'):=by
 have hnF:¬ F b:=fun h=>absurd (hF b h) (Nat.lt_irrefl b)
 obtain ⟨a,c,hb0,hv⟩:=hr
 have hblt:=hb0.lt
 rcases hd:cK l with _ | ⟨n,l'⟩
 ·
  obtain ⟨er,her⟩:∃ er:Int,er=4:=⟨4,rfl⟩
  have htr:bR ρ most.toNat l=.error er:=by rw [bR,hd,her]
  refine aL 56 Tryz.func126 Z Z (by simp) ?_
  refine V (O zd (aa (ad Z) (aa (ad Z) (ac (U (V (O zd (aa (ad Z) (ac ?_)))))))))
  refine U (V (V (O zd (aa (bK Z) (ah (av zk (ci Z) (ae.mono (cU hb0) ?_)))))))
  rintro _ w1 ⟨rfl,e1⟩
  have:=e1.size
  refine ac (U (am Z Z (fun hc=>?_) (fun hc=>?_)))
  ·
   cases hc
  refine ar (U (V (V (O zd (aa (aQ Z) (aa (bw Z Z) ?_))))))
  refine ac (U (am Z Z (fun hc2=>?_) (fun hc2=>?_)))
  ·
   have:=bl hc2;omega
  refine ar (U (V (O zd (aa (bK Z) (aa (aM Z) ?_)))))
  refine aa (aA 0 28 Z) (aa (ag zk Z ((hb0.ext e1).pv 0 _ Z)) ?_)
  refine aa (aV (pl:=[(0,1)]) (z:=.agg #[.slice none 0 0]) (zl:=[.slice none 0 0]) zk (by unfold aE;kernel_rfl) Z Z (cells:=[_]) Z) ?_
  refine ah (aS (aZ Z) ?_)
  rintro b2 w2 rfl hb2 e2 z2
  have:=e2.size
  have e12:=e1.trans e2
  refine aa (mO Z) (ac (U (V (O zd (aa (bK Z) (ah (av zk (ci Z) (ae.mono (cd (b:=w1.heap.size) (l:=l) (F:=F) ⟨a,c,hb2,hv.ext e12⟩ (fun h=>by have:=hF _ h;omega)) ?_))))))))
  rintro r w3 ⟨hr3,h3,k3⟩
  have:=k3.size
  rw [fk,hd,← her] at hr3
  subst hr3
  have e3:aX w w3:=e12.step k3 fun i hi h=>by omega
  refine aa (dY Z) (aa (ai (t:=.int _ _) Z Z) (aa (ai (t:=.int _ _) Z Z) (aa (bO Z) (aa (bO Z) (ac (U (V (V (O zd ?_)))))))))
  refine aa (aQ Z) (aa (aJ Z Z) ?_)
  refine aa (bH Z) (aj Z Z (fun hG=>aQ Z) (aj Z Z (fun hG=>aQ Z) (aj Z Z (fun hG=>bS (ds:=.int .i64) zk zk (gd hG Z) (by first | exact cq zo zo | rfl)) ?_)))
  refine aj Z Z (fun hG=>bX (gd hG Z) (gd hG Z)) ?_
  refine aa (bu Z Z) ?_
  refine ac (U (am Z Z (fun hc3=>?_) (fun hc3=>?_)))
  ·
   simp at hc3;omega
  refine ar (U (V (V (O zd (aa (aQ Z) (aa (aJ Z Z) ?_))))))
  refine ac (U (am Z Z (fun hc4=>?_) (fun hc4=>?_)))
  ·
   have:=bl hc4;omega
  refine ar (U (V (V (O zd (aa (aQ Z) (aa (bD Z Z) ?_))))))
  refine ac (U (am Z Z (fun hc5=>?_) (fun hc5=>?_)))
  ·
   refine V (O zd (aa (bP Z) (aa (aQ Z) (aa (cF Z) (aa (bO Z) (ac (U (aw (ay ?_)))))))))
   refine ee Z zq zq ?_
   refine ⟨?_,e3.keep⟩
   rw [htr]
   exact ⟨by omega,rfl,⟨a,c,hb0.ext e3,hv.ext e3⟩⟩
  simp at hc5;omega
 have hlt:=gy hd
 have hll:l'.length≤l.length:=by obtain ⟨k,_,_,h⟩:=ff l 0 hd;rw [h,List.length_drop];omega
 obtain ⟨z,hz⟩:∃ z:Int,z=0:=⟨0,rfl⟩
 by_cases hnm:(n:Int)≤most
 ·
  have htr:bR ρ most.toNat l=ρ n l':=by rw [bR,hd];simp only [];rw [if_pos zo]
  cases hρ:ρ n l' with
  | error er=>
   refine aL 56 Tryz.func126 Z Z (by simp) ?_
   refine V (O zd (aa (ad Z) (aa (ad Z) (ac (U (V (O zd (aa (ad Z) (ac ?_)))))))))
   refine U (V (V (O zd (aa (bK Z) (ah (av zk (ci Z) (ae.mono (cU hb0) ?_)))))))
   rintro _ w1 ⟨rfl,e1⟩
   have:=e1.size
   refine ac (U (am Z Z (fun hc=>?_) (fun hc=>?_)))
   ·
    cases hc
   refine ar (U (V (V (O zd (aa (aQ Z) (aa (bw Z Z) ?_))))))
   refine ac (U (am Z Z (fun hc2=>?_) (fun hc2=>?_)))
   ·
    have:=bl hc2;omega
   refine ar (U (V (O zd (aa (bK Z) (aa (aM Z) ?_)))))
   refine aa (aA 0 28 Z) (aa (ag zk Z ((hb0.ext e1).pv 0 _ Z)) ?_)
   refine aa (aV (pl:=[(0,1)]) (z:=.agg #[.slice none 0 0]) (zl:=[.slice none 0 0]) zk (by unfold aE;kernel_rfl) Z Z (cells:=[_]) Z) ?_
   refine ah (aS (aZ Z) ?_)
   rintro b2 w2 rfl hb2 e2 z2
   have:=e2.size
   have e12:=e1.trans e2
   refine aa (mO Z) (ac (U (V (O zd (aa (bK Z) (ah (av zk (ci Z) (ae.mono (cd (b:=w1.heap.size) (l:=l) (F:=F) ⟨a,c,hb2,hv.ext e12⟩ (fun h=>by have:=hF _ h;omega)) ?_))))))))
   rintro r w3 ⟨hr3,h3,k3⟩
   have:=k3.size
   rw [fk,hd] at hr3
   simp only [] at hr3
   rw [← hz] at hr3
   subst hr3
   have e3:aX w w3:=e12.step k3 fun i hi h=>by omega
   have hrest:ca l=l':=by rw [ca,hd]
   rw [hrest] at h3
   refine aa (dY Z) (aa (ai (t:=.int _ _) Z Z) (aa (ai (t:=.int _ _) Z Z) (aa (bO Z) (aa (bO Z) (ac (U (V (V (O zd ?_)))))))))
   refine aa (aQ Z) (aa (aJ Z Z) ?_)
   refine aa (bH Z) (aj Z Z (fun hG=>aQ Z) (aj Z Z (fun hG=>aQ Z) (aj Z Z (fun hG=>bS (ds:=.int .i64) zk zk (gd hG Z) (by first | exact cq zo zo | rfl)) ?_)))
   refine aj Z Z (fun hG=>bX (gd hG Z) (gd hG Z)) ?_
   refine aa (bu Z Z) ?_
   refine ac (U (am Z Z (fun hc3=>?_) (fun hc3=>?_)))
   ·
    simp at hc3;omega
   refine ar (U (V (V (O zd (aa (aQ Z) (aa (aJ Z Z) ?_))))))
   refine ac (U (am Z Z (fun hc4=>?_) (fun hc4=>?_)))
   ·
    refine O zd (aa (jA Z) (aa (bK Z) (aa (aQ Z) (aa (bS (ds:=.int .u64) zk zk Z (by first | exact bn zo zo | rfl)) ?_))))
    refine ah (dd hb Z (ci Z) (bB Z) (ae.mono (hread w3 _ l' n e3 zo h3 hll hnm) ?_))
    rintro r4 w4 ⟨hr4,k4⟩
    have:=k4.size
    rw [hρ] at hr4
    obtain ⟨her,va,vn,vc,hr4⟩:=hr4
    subst hr4
    have e4:aX w w4:=e3.step k4 fun i hi h=>by omega
    refine aa (dY Z) (aa (ai (t:=.slice _ _ _) Z Z) (aa (ai (t:=.int _ _) Z Z) (aa (cF Z) (aa (bO Z) (ac (U (V (V (O zd ?_)))))))))
    refine aa (aQ Z) (aa (bD Z Z) ?_)
    refine ac (U (am Z Z (fun hc5=>?_) (fun hc5=>?_)))
    ·
     refine V (O zd (aa (bP Z) (aa (aQ Z) (aa (cF Z) (aa (bO Z) (ac (U (aw (ay ?_)))))))))
     refine ee Z zq zq ?_
     refine ⟨?_,e4.keep⟩
     rw [htr,hρ]
     exact ⟨her,rfl,⟨a,c,hb0.ext e4,hv.ext e4⟩⟩
    simp at hc5;omega
   have:=bf hc4;omega
  | ok xl=>
   obtain ⟨x,l2⟩:=xl
   refine aL 56 Tryz.func126 Z Z (by simp) ?_
   refine V (O zd (aa (ad Z) (aa (ad Z) (ac (U (V (O zd (aa (ad Z) (ac ?_)))))))))
   refine U (V (V (O zd (aa (bK Z) (ah (av zk (ci Z) (ae.mono (cU hb0) ?_)))))))
   rintro _ w1 ⟨rfl,e1⟩
   have:=e1.size
   refine ac (U (am Z Z (fun hc=>?_) (fun hc=>?_)))
   ·
    cases hc
   refine ar (U (V (V (O zd (aa (aQ Z) (aa (bw Z Z) ?_))))))
   refine ac (U (am Z Z (fun hc2=>?_) (fun hc2=>?_)))
   ·
    have:=bl hc2;omega
   refine ar (U (V (O zd (aa (bK Z) (aa (aM Z) ?_)))))
   refine aa (aA 0 28 Z) (aa (ag zk Z ((hb0.ext e1).pv 0 _ Z)) ?_)
   refine aa (aV (pl:=[(0,1)]) (z:=.agg #[.slice none 0 0]) (zl:=[.slice none 0 0]) zk (by unfold aE;kernel_rfl) Z Z (cells:=[_]) Z) ?_
   refine ah (aS (aZ Z) ?_)
   rintro b2 w2 rfl hb2 e2 z2
   have:=e2.size
   have e12:=e1.trans e2
   refine aa (mO Z) (ac (U (V (O zd (aa (bK Z) (ah (av zk (ci Z) (ae.mono (cd (b:=w1.heap.size) (l:=l) (F:=F) ⟨a,c,hb2,hv.ext e12⟩ (fun h=>by have:=hF _ h;omega)) ?_))))))))
   rintro r w3 ⟨hr3,h3,k3⟩
   have:=k3.size
   rw [fk,hd] at hr3
   simp only [] at hr3
   rw [← hz] at hr3
   subst hr3
   have e3:aX w w3:=e12.step k3 fun i hi h=>by omega
   have hrest:ca l=l':=by rw [ca,hd]
   rw [hrest] at h3
   refine aa (dY Z) (aa (ai (t:=.int _ _) Z Z) (aa (ai (t:=.int _ _) Z Z) (aa (bO Z) (aa (bO Z) (ac (U (V (V (O zd ?_)))))))))
   refine aa (aQ Z) (aa (aJ Z Z) ?_)
   refine aa (bH Z) (aj Z Z (fun hG=>aQ Z) (aj Z Z (fun hG=>aQ Z) (aj Z Z (fun hG=>bS (ds:=.int .i64) zk zk (gd hG Z) (by first | exact cq zo zo | rfl)) ?_)))
   refine aj Z Z (fun hG=>bX (gd hG Z) (gd hG Z)) ?_
   refine aa (bu Z Z) ?_
   refine ac (U (am Z Z (fun hc3=>?_) (fun hc3=>?_)))
   ·
    simp at hc3;omega
   refine ar (U (V (V (O zd (aa (aQ Z) (aa (aJ Z Z) ?_))))))
   refine ac (U (am Z Z (fun hc4=>?_) (fun hc4=>?_)))
   ·
    refine O zd (aa (jA Z) (aa (bK Z) (aa (aQ Z) (aa (bS (ds:=.int .u64) zk zk Z (by first | exact bn zo zo | rfl)) ?_))))
    refine ah (dd hb Z (ci Z) (bB Z) (ae.mono (hread w3 _ l' n e3 zo h3 hll hnm) ?_))
    rintro r4 w4 ⟨hr4,k4⟩
    have:=k4.size
    rw [hρ] at hr4
    obtain ⟨a4,c4,hr4,hx4,a5,c5,hb5,hv5⟩:=hr4
    subst hr4
    have e4:aX w w4:=e3.step k4 fun i hi h=>by omega
    refine aa (dY Z) (aa (ai (t:=.slice _ _ _) Z Z) (aa (ai (t:=.int _ _) Z Z) (aa (cF Z) (aa (bO Z) (ac (U (V (V (O zd ?_)))))))))
    refine aa (aQ Z) (aa (bD Z Z) ?_)
    refine ac (U (am Z Z (fun hc5=>?_) (fun hc5=>?_)))
    ·
     simp at hc5
    refine ar (U (V (O zd (aa (bK Z) (aa (bK Z) (aa (aM Z) ?_))))))
    refine aa (ap zk Z hb5.pv Z) ?_
    refine aa (aM Z) ?_
    refine ah (aq (n:=1) Z Z (aZ Z) zk Z (by first | (simp [cL];done) | (simp only [List.forall_mem_cons,List.cons_append,List.nil_append];repeat' (first | exact rfl | apply And.intro | (intro u hu;cases hu;done)))) (hb0.ext e4) bV ?_)
    rintro w5 h5 k5 z5
    have:=k5.size
    refine ac (U (V (O zd (aa (bP Z) (aa (cF Z) (aa (ad Z) (ac (U (aw ?_)))))))))
    refine ee Z zq zq ?_
    refine ⟨?_,e4.keep.trans k5⟩
    rw [htr,hρ]
    refine ⟨_,_,rfl,(hx4.base zo).mono (F':=fun k=>w.heap.size≤k) (fun i _ hi=>by omega) |>.keep k5 (fun i hi h=>?_) (fun i _ hi _ h=>by omega),a5,c5,h5,hv5.keep k5 fun i _ hi h=>hnF (by subst h;exact hi)⟩
    have:=(hx4.own_lt hi).1
    omega
   have:=bf hc4;omega
 have htr:bR ρ most.toNat l=.error 3:=by rw [bR,hd];simp only [];rw [if_neg zo]
 refine aL 56 Tryz.func126 Z Z (by simp) ?_
 refine V (O zd (aa (ad Z) (aa (ad Z) (ac (U (V (O zd (aa (ad Z) (ac ?_)))))))))
 refine U (V (V (O zd (aa (bK Z) (ah (av zk (ci Z) (ae.mono (cU hb0) ?_)))))))
 rintro _ w1 ⟨rfl,e1⟩
 have:=e1.size
 refine ac (U (am Z Z (fun hc=>?_) (fun hc=>?_)))
 ·
  cases hc
 refine ar (U (V (V (O zd (aa (aQ Z) (aa (bw Z Z) ?_))))))
 refine ac (U (am Z Z (fun hc2=>?_) (fun hc2=>?_)))
 ·
  have:=bl hc2;omega
 refine ar (U (V (O zd (aa (bK Z) (aa (aM Z) ?_)))))
 refine aa (aA 0 28 Z) (aa (ag zk Z ((hb0.ext e1).pv 0 _ Z)) ?_)
 refine aa (aV (pl:=[(0,1)]) (z:=.agg #[.slice none 0 0]) (zl:=[.slice none 0 0]) zk (by unfold aE;kernel_rfl) Z Z (cells:=[_]) Z) ?_
 refine ah (aS (aZ Z) ?_)
 rintro b2 w2 rfl hb2 e2 z2
 have:=e2.size
 have e12:=e1.trans e2
 refine aa (mO Z) (ac (U (V (O zd (aa (bK Z) (ah (av zk (ci Z) (ae.mono (cd (b:=w1.heap.size) (l:=l) (F:=F) ⟨a,c,hb2,hv.ext e12⟩ (fun h=>by have:=hF _ h;omega)) ?_))))))))
 rintro r w3 ⟨hr3,h3,k3⟩
 have:=k3.size
 rw [fk,hd] at hr3
 simp only [] at hr3
 rw [← hz] at hr3
 subst hr3
 have e3:aX w w3:=e12.step k3 fun i hi h=>by omega
 refine aa (dY Z) (aa (ai (t:=.int _ _) Z Z) (aa (ai (t:=.int _ _) Z Z) (aa (bO Z) (aa (bO Z) (ac (U (V (V (O zd ?_)))))))))
 refine aa (aQ Z) (aa (aJ Z Z) ?_)
 refine aa (bH Z) (aj Z Z (fun hG=>aQ Z) (aj Z Z (fun hG=>aQ Z) (aj Z Z (fun hG=>bS (ds:=.int .i64) zk zk (gd hG Z) (by first | exact cq zo zo | rfl)) ?_)))
 refine aj Z Z (fun hG=>bX (gd hG Z) (gd hG Z)) ?_
 refine aa (bu Z Z) ?_
 refine ac (U (am Z Z (fun hc3=>?_) (fun hc3=>?_)))
 ·
  refine O zd (aa (ad Z) (ac (U (V (V (O zd (aa (aQ Z) (aa (aJ Z Z) ?_))))))))
  refine ac (U (am Z Z (fun hc4=>?_) (fun hc4=>?_)))
  ·
   have:=bl hc4;omega
  refine ar (U (V (V (O zd (aa (aQ Z) (aa (bD Z Z) ?_))))))
  refine ac (U (am Z Z (fun hc5=>?_) (fun hc5=>?_)))
  ·
   refine V (O zd (aa (bP Z) (aa (aQ Z) (aa (cF Z) (aa (bO Z) (ac (U (aw (ay ?_)))))))))
   refine ee Z zq zq ?_
   refine ⟨?_,e3.keep⟩
   rw [htr]
   exact ⟨by omega,rfl,⟨a,c,hb0.ext e3,hv.ext e3⟩⟩
  simp at hc5
 simp at hc3;omega
theorem tU {w:World} {b:Nat} {F:Nat→Prop} {l:List UInt8} {most:Int} {fr:Nat} {cap:Array Value} (hr:Rd ef w b F l) (hF:∀ k,F k→k < b) (hm:0≤most) (hm2:most≤9223372036854775807) (hl:l.length≤1000000000000) (hb:dj Tryz.prog fr=true)
    (ρ:List UInt8→Except Int (dS × List UInt8)) (hρ:∀ l x l2,ρ l=.ok (x,l2)→l2.length < l.length)
    (hone:∀ (w1:World) (c:Nat) (l1:List UInt8),aX w w1→w.heap.size≤c→Rd ef w1 c F l1→l1.length≤l.length→ae Tryz.prog fr (#[.pointer (some ⟨c,0,none⟩)] ++ cap) w1 (fun r w2=>qO w1 w2 c F (ρ l1) r∧ao (fun k=>k=c) w1 w2)) :
    ae Tryz.prog 110 #[.pointer (some ⟨b,0,none⟩),.int .i64 most,.func (.func fr) #[] cap] w (fun r w'=>od (fd) 156 ef w w' b F l (bR (bp ρ) most.toNat l) r∧ao (fun k=>k=b) w w'):=by
 have hblt:b < w.heap.size:=by obtain ⟨_,_,h,_⟩:=hr;exact h.lt
 cases hq:bR (bp ρ) most.toNat l with
 | error er=>
  refine aL 16 Tryz.func110 Z Z (by simp) ?_
  refine V (O zd (ah (aS (show _=(Value.func _ _ _) from Z) ?_)))
  rintro b1 w1 rfl hb1 e1 z1
  have:=e1.size
  refine aa (ad Z) (aa (ad Z) (ac (U (V (V (O zd (aa (ag zk Z (hb1.pv 0 _ Z)) ?_)))))))
  refine aa (eM (ps:=#[73]) (rs:=#[156,31]) (v:=false) zk Z Z) ?_
  refine ac (U (am Z Z (fun hc=>?_) (fun hc=>?_)))
  ·
   cases hc
  refine ar (U (V (O zd (aa (bK Z) (aa (aQ Z) (aa (cC (by simp [ev];rfl) (by simp [ev];rfl)) ?_))))))
  refine ah (gM zk (ci Z) (bB Z) (show _=(Value.func _ _ _) from Z) (ae.mono (sc (cap:=#[.pointer (some ⟨w.heap.size,0,none⟩)]) (hr.ext e1) hF hm hm2 zk (bp ρ) (fun w2 c l1 n e2 hc1 hr1 hl1 hn1=>by simpa using m7 hr1 (fun k hk=>by have:=hF k hk;have:=e2.size;omega) (fun h=>by have:=hF _ h;omega) zo zo hb (hb1.ext e2) zo ρ hρ (fun w3 l3 k3 hr3 hl3=>hone w3 c l3 ((e1.trans e2).step k3 (fun i hi h=>by omega)) zo hr3 zo))) ?_))
  rintro r w2 ⟨h2,k2⟩
  have:=k2.size
  rw [hq] at h2
  obtain ⟨her,rfl,h3⟩:=h2
  refine aa (ai (t:=.slice _ _ _) Z Z) (aa (ai (t:=.int _ _) Z Z) (aa (cF Z) (aa (bO Z) (ac (U (aw (ee Z zq zq ?_)))))))
  exact ⟨⟨her,rfl,h3⟩,(e1.mono fun _ _ h=>h.elim).trans k2⟩
 | ok xl=>
  obtain ⟨x,l2⟩:=xl
  refine aL 16 Tryz.func110 Z Z (by simp) ?_
  refine V (O zd (ah (aS (show _=(Value.func _ _ _) from Z) ?_)))
  rintro b1 w1 rfl hb1 e1 z1
  have:=e1.size
  refine aa (ad Z) (aa (ad Z) (ac (U (V (V (O zd (aa (ag zk Z (hb1.pv 0 _ Z)) ?_)))))))
  refine aa (eM (ps:=#[73]) (rs:=#[156,31]) (v:=false) zk Z Z) ?_
  refine ac (U (am Z Z (fun hc=>?_) (fun hc=>?_)))
  ·
   cases hc
  refine ar (U (V (O zd (aa (bK Z) (aa (aQ Z) (aa (cC (by simp [ev];rfl) (by simp [ev];rfl)) ?_))))))
  refine ah (gM zk (ci Z) (bB Z) (show _=(Value.func _ _ _) from Z) (ae.mono (sc (cap:=#[.pointer (some ⟨w.heap.size,0,none⟩)]) (hr.ext e1) hF hm hm2 zk (bp ρ) (fun w2 c l1 n e2 hc1 hr1 hl1 hn1=>by simpa using m7 hr1 (fun k hk=>by have:=hF k hk;have:=e2.size;omega) (fun h=>by have:=hF _ h;omega) zo zo hb (hb1.ext e2) zo ρ hρ (fun w3 l3 k3 hr3 hl3=>hone w3 c l3 ((e1.trans e2).step k3 (fun i hi h=>by omega)) zo hr3 zo))) ?_))
  rintro r w2 ⟨h2,k2⟩
  have:=k2.size
  rw [hq] at h2
  obtain ⟨a4,c4,rfl,o4,h4⟩:=h2
  refine aa (ai (t:=.slice _ _ _) Z Z) (aa (ai (t:=.int _ _) Z Z) (aa (cF Z) (aa (bO Z) (ac (U (aw (ee Z zq zq ?_)))))))
  exact ⟨⟨a4,c4,rfl,(o4.base zo).mono (fun i _ h=>by omega),h4⟩,(e1.mono fun _ _ h=>h.elim).trans k2⟩
theorem t7 {w:World} {b:Nat} {F:Nat→Prop} {l:List UInt8} (HR:Rd ef w b F l) (hF:∀ k,F k→k < b) (hl:l.length≤1000000):ae Tryz.prog 111 (#[.pointer (some ⟨b,0,none⟩)] ++ #[]) w (fun r w2=>qO w w2 b F (iL l) r∧ao (fun k=>k=b) w w2):=by
 have hblt:b < w.heap.size:=by obtain ⟨_,_,h,_⟩:=HR;exact h.lt
 have hnF:¬ F b:=fun h=>absurd (hF b h) (Nat.lt_irrefl b)
 show ae _ _ #[_] _ _
 refine aL 19 Tryz.func111 Z Z (by simp) ?_
 refine V ?_
 have E:=ao.refl (K:=fun k=>k=b) w
 refine O zd (ah (aD (z:=(.agg #[.slice none 0 0,.int .i64 0,.int .i64 0,.slice none 0 0])) (by unfold aE;kernel_rfl) ?_))
 rintro b2 w2 zb2 HB2 e2 z2
 have:=e2.size
 try simp only [Value.cells] at HB2
 replace HR:=HR.ext e2
 refine aa (ad Z) (ac (U (V (O zd (aa (bK Z) (ah (aW zk (ci Z) (bB Z) (ae.mono (fZ (most:=65636) HR hF zq zq zo) ?_))))))))
 rintro r w3 ⟨hr3,k3⟩
 have:=k3.size
 obtain ⟨a3,c3,er3,fr,l1,rfl,HO3,HR3,hx3⟩:=eL hr3
 have zo_HO3:=fun (b:Nat) h=>HO3.own_lt (b:=b) h
 refine aa (dY Z) (aa (ai (t:=.slice _ _ _) Z Z) (aa (ai (t:=.int _ _) Z Z) (aa (cF Z) (aa (bO Z) (ac (U (V (V (O zd ?_)))))))))
 refine aa (aQ Z) (aa (bD Z Z) ?_)
 replace E:=(E.trans e2.keep).step k3 bi
 replace HB2:=HB2.keep k3 aH
 refine ac (U (am Z Z (fun hc=>?_) (fun hc=>?_)))
 ·
  refine V (O zd (aa (aV (pl:=[(0,1),(1,1),(2,1),(3,1)]) (z:=.agg #[.slice none 0 0,.int .i64 0,.int .i64 0,.slice none 0 0]) (zl:=[.slice none 0 0,.int .i64 0,.int .i64 0,.slice none 0 0]) zk (by unfold aE;kernel_rfl) Z Z (cells:=[_,_,_,_]) Z) ?_))
  refine aa (aQ Z) (ah (aq (n:=4) Z Z (aZ Z) zk Z cT HB2 bV ?_))
  rintro w101 HB2 k101 z101
  have:=k101.size
  try simp only [zS,Nat.zero_add,Nat.reduceAdd,List.drop_nil] at HB2
  refine aa (bO Z) (ac (U (aw (ay (bL (n:=4) Z zq zq Z zk HB2.pv Z (bB Z) ?_)))))
  replace E:=E.step k101 bi
  refine ⟨?_,E⟩
  replace HO3:=HO3.keep k101 (by intro i ho he;have he0:=he;have ho0:=ho;(try dsimp only [aP] at he);(try simp only [Value.ownBlock,Option.some.injEq,reduceCtorEq] at ho);(try simp only [Value.ownBlock,Option.some.injEq,reduceCtorEq] at he);first | exact he.elim | exact ho.elim | omega | (have:=zo_HO3 _ ho0;omega)) (by intro i _ hi _ he;have he0:=he;have hi:=hi;have he:=he;(try dsimp only [aP,bj] at hi he);(try simp only [Value.ownBlock,Option.some.injEq,reduceCtorEq] at he);all_goals first | exact hi.elim | exact hi.1.elim | exact he.elim | omega | (rcases hi with hi | hi <;> omega) | (rcases he with he | he <;> omega))
  replace HR3:=HR3.keep k101 fB (by intro i hi he;have hi0:=hi;have hi:=hi;have he:=he;(try dsimp only [aP] at hi he);first | exact he.elim | omega | (have:=hF i hi0;omega))
  rcases hx3 with ⟨he,hq⟩ | ⟨he,_,_,_,_,hq⟩
  ·
   subst he;cases hc
  have h:iL l=.error er3:=by rw [iL,show br 65636 l=_ from hq]
  rw [h]
  exact ⟨he,_,vT,rfl,aY.rep (cs:=[_,_,_,_]) nU⟩
 have he3:er3=0:=by simpa using hc
 have hq3:br 65636 l=.ok (fr,l1):=hx3.elim (fun h=>h.2) (fun h=>absurd he3 h.1)
 have hfl:=(fh hq3).2.1
 refine ar (U (V (O zd (aa (bP Z) (ah (av zk (bI Z) (ae.mono (uk HO3.view zo) ?_)))))))
 rintro _ w5 ⟨⟨u5,x5,er5,rfl,HG5,hx5⟩,e5⟩
 have:=e5.size
 obtain ⟨b5,d5,b6,d6,rfl,_⟩:=HG5.ik
 replace HB2:=HB2.ext e5
 refine aa (ai (t:=.agg _) Z Z) (aa (ai (t:=.int _ _) Z Z) (ah (aq (n:=4) Z Z (aZ Z) zk Z cT HB2 bV ?_)))
 rintro w102 HB2 k102 z102
 have:=k102.size
 try simp only [zS,Nat.zero_add,Nat.reduceAdd,List.drop_nil] at HB2
 refine aa (bO Z) (ac (U (aw (bL (n:=4) Z zq zq Z zk HB2.pv Z (bB Z) ?_))))
 replace E:=(E.trans e5.keep).step k102 bi
 refine ⟨?_,E⟩
 replace HO3:=(HO3.ext e5).keep k102 (by intro i ho he;have he0:=he;have ho0:=ho;(try dsimp only [aP] at he);(try simp only [Value.ownBlock,Option.some.injEq,reduceCtorEq] at ho);(try simp only [Value.ownBlock,Option.some.injEq,reduceCtorEq] at he);first | exact he.elim | exact ho.elim | omega | (have:=zo_HO3 _ ho0;omega)) (by intro i _ hi _ he;have he0:=he;have hi:=hi;have he:=he;(try dsimp only [aP,bj] at hi he);(try simp only [Value.ownBlock,Option.some.injEq,reduceCtorEq] at he);all_goals first | exact hi.elim | exact hi.1.elim | exact he.elim | omega | (rcases hi with hi | hi <;> omega) | (rcases he with he | he <;> omega))
 replace HR3:=(HR3.ext e5).keep k102 fB (by intro i hi he;have hi0:=hi;have hi:=hi;have he:=he;(try dsimp only [aP] at hi he);first | exact he.elim | omega | (have:=hF i hi0;omega))
 replace HG5:=HG5.keep k102 aC
 rcases hx5 with ⟨rfl,hq5⟩ | ⟨rfl,_,hq5⟩
 ·
  have h:iL l=.ok (x5,l1):=by rw [iL,hq3];simp only [];rw [hq5]
  rw [h]
  exact ⟨_,rfl,aY.rep (cs:=[_,_,_,_]) (HG5.mono fun i _ h=>by omega),HR3⟩
 have h:iL l=.error 4:=by rw [iL,hq3];simp only [];rw [hq5]
 rw [h]
 exact ⟨by decide,_,x5,rfl,aY.rep (cs:=[_,_,_,_]) (HG5.mono fun i _ h=>by omega)⟩
theorem uD {w:World} {F:Nat→Prop} {v:Value} {l:List UInt8} (HS1:Bv w F v l) (hl:l.length≤1000000):ae Tryz.prog 71 #[v] w (fun o w'=>(∃ a c xs e,o=.tuple #[.slice a xs.length c,.int .i64 e]∧bs fd w' (fun i=>w.heap.size≤i) (.slice a xs.length c) xs∧((e=0∧lm l=some xs)∨(e=4∧xs=[]∧lm l=none)))∧aX w w'):=by
 obtain ⟨a0,c0,rfl⟩:=HS1.shape
 refine aL 22 Tryz.func71 Z Z (by simp) ?_
 refine V ?_
 have E:=ao.refl (K:=aP) w
 replace HS1:=HS1.all
 refine O zd (aa (ad Z) (aa (ad Z) (ac (U (V (O zd (aa (bP Z) (ah (av zk (bI Z) (ae.mono (mJ HS1 zo) ?_))))))))))
 rintro _ w11 ⟨b4,rfl,HR4,hb4,e11,zb4⟩
 have:=e11.size
 refine aa (mO Z) (ac (U (V (O zd (aa (bK Z) (ah (gM zk (ci Z) (bB Z) Z (ae.mono (tU (cap:=#[]) HR4 (fun k hk=>hk.2) zq zq zo zk iL pB (fun w1 c l1 e hc r hl=>t7 r (fun k hk=>by have:=hk.2;omega) zo)) ?_))))))))
 rintro r w14 ⟨hr14,k14⟩
 have:=k14.size
 obtain ⟨a5,c5,er,ls,l2,rfl,HO5,HR5,hx5⟩:=eL hr14
 have zo_HO5:=fun (b:Nat) h=>HO5.own_lt (b:=b) h
 refine aa (dY Z) (aa (ai (t:=.slice _ _ _) Z Z) (aa (ai (t:=.int _ _) Z Z) (aa (cF Z) (aa (bO Z) (ac (U (V (V (O zd ?_)))))))))
 refine aa (aQ Z) (aa (bD Z Z) ?_)
 refine aa (bH Z) (aj Z Z (fun hG=>bK Z) (cI Z Z (fun hG=>av zk (gd hG Z) (nA HR5)) ?_))
 rintro w101 e101
 have:=e101.size
 refine aj Z Z (fun hG=>bD (gd hG Z) Z) ?_
 refine aa (bF Z Z) ?_
 replace E:=((E.trans e11.keep).step k14 bi).trans e101.keep
 replace HS1:=((HS1.ext e11).keep k14 aC).ext e101
 replace HO5:=HO5.ext e101
 replace HR5:=HR5.ext e101
 refine ac (U (am Z Z (fun hc=>?_) (fun hc=>?_)))
 ·
  refine V (O zd (aa (ad Z) (aa (ad Z) (ac (U (aw (ay (fu Z zq zq (bI Z) (bB Z) ?_))))))))
  refine ⟨⟨none,0,[],4,rfl,bs.nil _ _ _,.inr ⟨rfl,rfl,?_⟩⟩,E⟩
  rw [lm]
  rcases hx5 with ⟨he,hq⟩ | ⟨_,_,_,_,_,hq⟩
  ·
   rw [show bR (bp iL) 65536 l=_ from hq]
   cases l2 with
   | nil=>subst he;cases hc
   | cons=>rfl
  rw [show bR (bp iL) 65536 l=_ from hq]
 refine ar (U (V (O zd (aa (bP Z) (aa (cF Z) (aa (ad Z) (ac (U (aw ?_)))))))))
 refine fu Z zq zq (bI Z) (bB Z) ?_
 refine ⟨⟨a5,c5,ls,0,rfl,HO5.view.mono (fun i _ h=>h.elim (fun h=>by omega) (fun h=>by omega)),.inl ⟨rfl,?_⟩⟩,E⟩
 rw [lm]
 rcases hx5 with ⟨he,hq⟩ | ⟨he,_⟩
 ·
  rw [show bR (bp iL) 65536 l=_ from hq]
  cases l2 with
  | nil=>rfl
  | cons=>subst he;cases hc
 exfalso;simp [he] at hc
end Go.Proofs.YteehplloacefmaaGreat
namespace Go.Proofs.YteehplloacefmaaGreat
open Go.Vc
theorem dy {m:Int} {l:List UInt8} {n:Nat} {r:List UInt8} (h:eF m l=some (n,r)):l=aT n ++ r∧(n:Int)≤m∧r.length≤l.length:=by
  unfold eF at h
  split at h
  · cases h
  · next n' r' hd=>
    by_cases hle:(n':Int)≤m
    · rw [if_pos hle] at h;cases h
      have:=congrArg List.length (cX hd)
      rw [List.length_append] at this
      exact ⟨cX hd,hle,by omega⟩
    · rw [if_neg hle] at h;cases h
theorem cM {m:Int} {n:Nat} {r:List UInt8} (h:(n:Int)≤m) (hn:n < 18446744073709551616):eF m (aT n ++ r)=some (n,r):=by
  unfold eF
  rw [dr hn];simp only [];rw [if_pos h]
theorem cW {m:Nat} {l x r:List UInt8} (h:dU m l=some (x,r)):l=az x ++ r∧x.length≤m∧r.length≤l.length:=by
  unfold dU at h
  split at h
  · next hq=>
    cases h
    obtain ⟨a,b,c⟩:=fh hq
    exact ⟨c,b,a⟩
  · cases h
theorem ez {m:Nat} {x r:List UInt8} (h:x.length≤m) (hm:m < 18446744073709551616):dU m (az x ++ r)=some (x,r):=by
  unfold dU
  rw [fg h hm]
theorem hQ {l r:List UInt8} {x:Bool} (h:dM l=some (x,r)):l=dk x ++ r∧r.length≤l.length:=by
  unfold dM at h
  split at h
  · cases h
  · next c r'=>
    split at h
    · cases h
    · next hc=>
      cases h
      refine ⟨?_,by simp⟩
      have h2:c.toNat=0∨c.toNat=1:=by omega
      rcases h2 with h2 | h2
      · have:c=0:=UInt8.toNat_inj.1 h2
        subst this;rfl
      · have:c=1:=UInt8.toNat_inj.1 h2
        subst this;rfl
theorem iS {x:Bool} {r:List UInt8}:dM (dk x ++ r)=some (x,r):=by cases x <;> rfl
def gn (l:List UInt8):Option (iJ × List UInt8):=match eF 2147483647 l with
  | none=>none
  | some (n,l1)=>match dU 24 l1 with
    | none=>none
    | some (f,l2)=>match dM l2 with
      | none=>none
      | some (e,l3)=>match dU 24 l3 with
        | none=>none
        | some (t,l4)=>match eF 5 l4 with
          | none=>none
          | some (o,l5)=>match eF 5 l5 with
            | none=>none
            | some (g,l6)=>some (((n:Int),f,t,e,(o:Int),(g:Int)),l6)
def gH (l:List UInt8):Option (mN × List UInt8):=match eF 5 l with
  | none=>none
  | some (k,l1)=>match dU 24 l1 with
    | none=>none
    | some (key,l2)=>match (if (dR k).2.1=true then dU 24 l2 else some ([],l2)) with
      | none=>none
      | some (to,l3)=>match (if (dR k).2.2.1=true then dU 40 l3 else some ([],l3)) with
        | none=>none
        | some (val,l4)=>match (if (dR k).2.2.2.1=true then dU 40 l4 else some ([],l4)) with
          | none=>none
          | some (was,l5)=>match (if (dR k).2.2.2.1=true then dM l5 else some (false,l5)) with
            | none=>none
            | some (no,l6)=>match (if (dR k).2.2.2.2=true then eF 32 l6 else some (0,l6)) with
              | none=>none
              | some (most,l7)=>some (((k:Int),key,to,val,was,no,(most:Int)),l7)
theorem rr (k:Nat):((dR k).2.1=true∧(dR k).2.2.1=false∧(dR k).2.2.2.1=false∧(dR k).2.2.2.2=true)∨((dR k).2.1=false∧(dR k).2.2.2.2=false∧((dR k).2.2.2.1=true→(dR k).2.2.1=true)):=by
  unfold dR
  split
  · exact .inr ⟨rfl,rfl,fun h=>by cases h⟩
  · split
    · exact .inr ⟨rfl,rfl,fun h=>by cases h⟩
    · split
      · exact .inr ⟨rfl,rfl,fun _=>rfl⟩
      · split
        · exact .inl ⟨rfl,rfl,rfl,rfl⟩
        · exact .inr ⟨rfl,rfl,fun h=>by cases h⟩
set_option maxHeartbeats 4000000 in
theorem qL {w:World} {b:Nat} {F:Nat→Prop} {l:List UInt8} (HR:Rd ef w b F l) (hF:∀ k,F k→k < b) (hl:l.length≤1000000) :
    jT Tryz.prog 70 #[.pointer (some ⟨b,0,none⟩)] w (fun o w'=>∃ m r,gn l=some (m,r)∧aY jU w' (fun i=>w.heap.size≤i) o m∧Rd ef w' b F r∧ao (fun k=>k=b) w w') (fun ch w'=>gn l=none∧ch=l8∧ao (fun k=>k=b) w w'):=by
 have hblt:b < w.heap.size:=by obtain ⟨_,_,h,_⟩:=HR;exact h.lt
 have hnF:¬ F b:=fun h=>absurd (hF b h) (Nat.lt_irrefl b)
 refine tf 23 Tryz.func70 Z Z (by simp) ?_
 refine V ?_
 have E:=ao.refl (K:=fun k=>k=b) w
 refine O zd (ah (aD (z:=(.agg #[.int .i64 0,.slice none 0 0,.slice none 0 0,.bool false,.int .i64 0,.int .i64 0])) (by unfold aE;kernel_rfl) ?_))
 rintro b2 w2 zb2 HB2 e2 z2
 have:=e2.size
 try simp only [Value.cells] at HB2
 refine ac (U ?_)
 replace E:=E.trans e2.keep
 replace HR:=HR.ext e2
 by_cases h0:eF 2147483647 l=none
 ·
  refine V (O zd (aa (bK Z) (cj (ei zk (ci Z) (bB Z) (bt.mono (gk (most:=2147483647) HR hnF zq zq h0) ?_)))))
  rintro ch w101 ⟨hch,k101⟩
  have:=k101.size
  refine bC ?_
  refine fK ?_
  replace E:=E.step k101 bi
  exact ⟨by simp only [gn,h0],hch,E⟩
 refine V ?_
 obtain ⟨⟨n,l1⟩,h0⟩:=Option.ne_none_iff_exists'.1 h0
 have bh0:=dy h0
 refine O zd (aa (bK Z) (ah (aW zk (ci Z) (bB Z) (ae.mono (gl (most:=2147483647) HR hnF zq zq h0) ?_))))
 rintro _ w102 ⟨rfl,HR1,k102⟩
 have:=k102.size
 refine aa (aV (pl:=[(0,1),(1,1),(2,1),(3,1),(4,1),(5,1)]) (z:=.agg #[.int .i64 0,.slice none 0 0,.slice none 0 0,.bool false,.int .i64 0,.int .i64 0]) (zl:=[.int .i64 0,.slice none 0 0,.slice none 0 0,.bool false,.int .i64 0,.int .i64 0]) zk (by unfold aE;kernel_rfl) Z Z (cells:=[_,_,_,_,_,_]) Z) ?_
 refine ah (aD (z:=(.agg #[.int .i64 0,.slice none 0 0,.slice none 0 0,.bool false,.int .i64 0,.int .i64 0])) (by unfold aE;kernel_rfl) ?_)
 rintro b3 w3 zb3 HB3 e3 z3
 have:=e3.size
 try simp only [Value.cells] at HB3
 refine ah (aq (n:=6) Z Z (aZ Z) zk Z cT HB3 bV ?_)
 rintro w101 HB3 k101 z101
 have:=k101.size
 try simp only [zS,Nat.zero_add,Nat.reduceAdd,List.drop_nil] at HB3
 refine ac (U ?_)
 replace E:=((E.step k102 bi).trans e3.keep).step k101 bi
 replace HB2:=((HB2.keep k102 aH).ext e3).keep k101 aH
 replace HR1:=(HR1.ext e3).keep k101 fB (by intro i hi he;have hi0:=hi;have hi:=hi;have he:=he;(try dsimp only [aP] at hi he);first | exact he.elim | omega | (have:=hF i hi0;omega))
 by_cases h1:dU 24 l1=none
 ·
  refine V (O zd (aa (bK Z) (cj (ei zk (ci Z) (bB Z) (bt.mono (iT (most:=24) HR1 hF zq zq zo h1) ?_)))))
  rintro ch w103 ⟨hch,k103⟩
  have:=k103.size
  refine bC ?_
  refine fK ?_
  replace E:=E.step k103 bi
  exact ⟨by simp only [gn,h0,h1],hch,E⟩
 refine V ?_
 obtain ⟨⟨f,l2⟩,h1⟩:=Option.ne_none_iff_exists'.1 h1
 have bh1:=cW h1
 refine O zd (aa (bK Z) (ah (aW zk (ci Z) (bB Z) (ae.mono (iU (most:=24) HR1 hF zq zq zo h1) ?_))))
 rintro _ w104 ⟨⟨a104,c104,rfl,HF104⟩,HR2,k104⟩
 have:=k104.size
 replace HB3:=HB3.keep k104 aH
 refine aa (aA 1 28 Z) (ah (aR Z Z (bI Z) Z zk HB3 bV ?_))
 rintro w102 HB3 k102 z102
 have:=k102.size
 try simp only [zS,Nat.zero_add,Nat.reduceAdd,List.drop_nil] at HB3
 refine ac (U ?_)
 replace E:=(E.step k104 bi).step k102 bi
 replace HB2:=(HB2.keep k104 aH).keep k102 aH
 replace HF104:=HF104.keep k102 eU
 replace HR2:=HR2.keep k102 fB (by intro i hi he;have hi0:=hi;have hi:=hi;have he:=he;(try dsimp only [aP] at hi he);first | exact he.elim | omega | (have:=hF i hi0;omega))
 by_cases h2:dM l2=none
 ·
  refine V (O zd (aa (bK Z) (cj (cJ zk (ci Z) (bt.mono (s7 HR2 hnF h2) ?_)))))
  rintro ch w105 ⟨hch,k105⟩
  have:=k105.size
  refine bC ?_
  refine fK ?_
  replace E:=E.step k105 bi
  exact ⟨by simp only [gn,h0,h1,h2],hch,E⟩
 refine V ?_
 obtain ⟨⟨en,l3⟩,h2⟩:=Option.ne_none_iff_exists'.1 h2
 have bh2:=hQ h2
 refine O zd (aa (bK Z) (ah (av zk (ci Z) (ae.mono (s8 HR2 hnF h2) ?_))))
 rintro _ w106 ⟨rfl,HR3,k106⟩
 have:=k106.size
 replace HB3:=HB3.keep k106 aH
 refine aa (aA 3 4 Z) (ah (aR Z Z (cE Z) Z zk HB3 bV ?_))
 rintro w103 HB3 k103 z103
 have:=k103.size
 try simp only [zS,Nat.zero_add,Nat.reduceAdd,List.drop_nil] at HB3
 refine ac (U ?_)
 replace E:=(E.step k106 bi).step k103 bi
 replace HB2:=(HB2.keep k106 aH).keep k103 aH
 replace HF104:=(HF104.keep k106 eU).keep k103 eU
 replace HR3:=HR3.keep k103 fB (by intro i hi he;have hi0:=hi;have hi:=hi;have he:=he;(try dsimp only [aP] at hi he);first | exact he.elim | omega | (have:=hF i hi0;omega))
 by_cases h3:dU 24 l3=none
 ·
  refine V (O zd (aa (bK Z) (cj (ei zk (ci Z) (bB Z) (bt.mono (iT (most:=24) HR3 hF zq zq zo h3) ?_)))))
  rintro ch w107 ⟨hch,k107⟩
  have:=k107.size
  refine bC ?_
  refine fK ?_
  replace E:=E.step k107 bi
  exact ⟨by simp only [gn,h0,h1,h2,h3],hch,E⟩
 refine V ?_
 obtain ⟨⟨t,l4⟩,h3⟩:=Option.ne_none_iff_exists'.1 h3
 have bh3:=cW h3
 refine O zd (aa (bK Z) (ah (aW zk (ci Z) (bB Z) (ae.mono (iU (most:=24) HR3 hF zq zq zo h3) ?_))))
 rintro _ w108 ⟨⟨a108,c108,rfl,HF108⟩,HR4,k108⟩
 have:=k108.size
 replace HB3:=HB3.keep k108 aH
 refine aa (aA 2 28 Z) (ah (aR Z Z (bI Z) Z zk HB3 bV ?_))
 rintro w104 HB3 k104 z104
 have:=k104.size
 try simp only [zS,Nat.zero_add,Nat.reduceAdd,List.drop_nil] at HB3
 refine ac (U ?_)
 replace E:=(E.step k108 bi).step k104 bi
 replace HB2:=(HB2.keep k108 aH).keep k104 aH
 replace HF104:=(HF104.keep k108 eU).keep k104 eU
 replace HF108:=HF108.keep k104 eU
 replace HR4:=HR4.keep k104 fB (by intro i hi he;have hi0:=hi;have hi:=hi;have he:=he;(try dsimp only [aP] at hi he);first | exact he.elim | omega | (have:=hF i hi0;omega))
 by_cases h4:eF 5 l4=none
 ·
  refine V (O zd (aa (bK Z) (cj (ei zk (ci Z) (bB Z) (bt.mono (gk (most:=5) HR4 hnF zq zq h4) ?_)))))
  rintro ch w109 ⟨hch,k109⟩
  have:=k109.size
  refine bC ?_
  refine fK ?_
  replace E:=E.step k109 bi
  exact ⟨by simp only [gn,h0,h1,h2,h3,h4],hch,E⟩
 refine V ?_
 obtain ⟨⟨og,l5⟩,h4⟩:=Option.ne_none_iff_exists'.1 h4
 have bh4:=dy h4
 refine O zd (aa (bK Z) (ah (aW zk (ci Z) (bB Z) (ae.mono (gl (most:=5) HR4 hnF zq zq h4) ?_))))
 rintro _ w110 ⟨rfl,HR5,k110⟩
 have:=k110.size
 replace HB3:=HB3.keep k110 aH
 refine aa (aA 4 3 Z) (ah (aR Z Z (bB Z) Z zk HB3 bV ?_))
 rintro w105 HB3 k105 z105
 have:=k105.size
 try simp only [zS,Nat.zero_add,Nat.reduceAdd,List.drop_nil] at HB3
 refine ac (U ?_)
 replace E:=(E.step k110 bi).step k105 bi
 replace HB2:=(HB2.keep k110 aH).keep k105 aH
 replace HF104:=(HF104.keep k110 eU).keep k105 eU
 replace HF108:=(HF108.keep k110 eU).keep k105 eU
 replace HR5:=HR5.keep k105 fB (by intro i hi he;have hi0:=hi;have hi:=hi;have he:=he;(try dsimp only [aP] at hi he);first | exact he.elim | omega | (have:=hF i hi0;omega))
 by_cases h5:eF 5 l5=none
 ·
  refine V (O zd (aa (bK Z) (cj (ei zk (ci Z) (bB Z) (bt.mono (gk (most:=5) HR5 hnF zq zq h5) ?_)))))
  rintro ch w111 ⟨hch,k111⟩
  have:=k111.size
  refine bC ?_
  refine fK ?_
  replace E:=E.step k111 bi
  exact ⟨by simp only [gn,h0,h1,h2,h3,h4,h5],hch,E⟩
 refine V ?_
 obtain ⟨⟨ng,l6⟩,h5⟩:=Option.ne_none_iff_exists'.1 h5
 have bh5:=dy h5
 refine O zd (aa (bK Z) (ah (aW zk (ci Z) (bB Z) (ae.mono (gl (most:=5) HR5 hnF zq zq h5) ?_))))
 rintro _ w112 ⟨rfl,HR6,k112⟩
 have:=k112.size
 replace HB3:=HB3.keep k112 aH
 refine aa (aA 5 3 Z) (ah (aR Z Z (bB Z) Z zk HB3 bV ?_))
 rintro w106 HB3 k106 z106
 have:=k106.size
 try simp only [zS,Nat.zero_add,Nat.reduceAdd,List.drop_nil] at HB3
 replace HB2:=(HB2.keep k112 aH).keep k106 aH
 refine ac (U (V (O zd (aa (ap zk Z (by first | exact HB3.pv | exact HB2.pv | assumption) Z) ?_))))
 refine ah (aq (n:=6) Z Z (aZ Z) zk Z cT HB2 bV ?_)
 rintro w107 HB2 k107 z107
 have:=k107.size
 try simp only [zS,Nat.zero_add,Nat.reduceAdd,List.drop_nil] at HB2
 refine ac (U (aw (oG ?_)))
 refine jD (n:=6) Z zq Z zk HB2.pv Z ?_
 replace E:=((E.step k112 bi).step k106 bi).step k107 bi
 replace HF104:=((HF104.keep k112 eU).keep k106 eU).keep k107 eU
 replace HF108:=((HF108.keep k112 eU).keep k106 eU).keep k107 eU
 replace HR6:=(HR6.keep k106 fB (by intro i hi he;have hi0:=hi;have hi:=hi;have he:=he;(try dsimp only [aP] at hi he);first | exact he.elim | omega | (have:=hF i hi0;omega))).keep k107 fB (by intro i hi he;have hi0:=hi;have hi:=hi;have he:=he;(try dsimp only [aP] at hi he);first | exact he.elim | omega | (have:=hF i hi0;omega))
 refine ⟨_,l6,by simp only [gn,h0,h1,h2,h3,h4,h5],⟨_,rfl,kJ (HF104.bv.mono fun i _ h=>by omega) (HF108.bv.mono fun i _ h=>by omega) ⟨by omega,by omega⟩ ⟨by omega,by omega⟩ ⟨by omega,by omega⟩⟩,HR6,E⟩
set_option maxHeartbeats 4000000 in
theorem qK {w:World} {b:Nat} {F:Nat→Prop} {l:List UInt8} (HR:Rd ef w b F l) (hF:∀ k,F k→k < b) (hl:l.length≤1000000) :
    jT Tryz.prog 69 #[.pointer (some ⟨b,0,none⟩)] w (fun o w'=>∃ a r,gH l=some (a,r)∧aY nH w' (fun i=>w.heap.size≤i) o a∧Rd ef w' b F r∧ao (fun k=>k=b) w w') (fun ch w'=>gH l=none∧ch=l8∧ao (fun k=>k=b) w w'):=by
 have hblt:b < w.heap.size:=by obtain ⟨_,_,h,_⟩:=HR;exact h.lt
 have hnF:¬ F b:=fun h=>absurd (hF b h) (Nat.lt_irrefl b)
 refine tf 39 Tryz.func69 Z Z (by simp) ?_
 refine V ?_
 have E:=ao.refl (K:=fun k=>k=b) w
 refine O zd (ah (aD (z:=(.agg #[.int .i64 0,.slice none 0 0,.slice none 0 0,.slice none 0 0,.slice none 0 0,.bool false,.int .i64 0])) (by unfold aE;kernel_rfl) ?_))
 rintro b2 w2 zb2 HB2 e2 z2
 have:=e2.size
 try simp only [Value.cells] at HB2
 refine ac (U ?_)
 replace E:=E.trans e2.keep
 replace HR:=HR.ext e2
 by_cases h0:eF 5 l=none
 ·
  refine V (O zd (aa (bK Z) (cj (ei zk (ci Z) (bB Z) (bt.mono (gk (most:=5) HR hnF zq zq h0) ?_)))))
  rintro ch w113 ⟨hch,k113⟩
  have:=k113.size
  refine bC ?_
  refine fK ?_
  replace E:=E.step k113 bi
  exact ⟨by simp only [gH,h0],hch,E⟩
 refine V ?_
 obtain ⟨⟨k,l1⟩,h0⟩:=Option.ne_none_iff_exists'.1 h0
 have bh0:=dy h0
 refine O zd (aa (bK Z) (ah (aW zk (ci Z) (bB Z) (ae.mono (gl (most:=5) HR hnF zq zq h0) ?_))))
 rintro _ w114 ⟨rfl,HR1,k114⟩
 have:=k114.size
 have hk5:(k:Int)≤5:=bh0.2.1
 have hnm:=rr k
 refine aa (aV (pl:=[(0,1),(1,1),(2,1),(3,1),(4,1),(5,1),(6,1)]) (z:=.agg #[.int .i64 0,.slice none 0 0,.slice none 0 0,.slice none 0 0,.slice none 0 0,.bool false,.int .i64 0]) (zl:=[.int .i64 0,.slice none 0 0,.slice none 0 0,.slice none 0 0,.slice none 0 0,.bool false,.int .i64 0]) zk (by unfold aE;kernel_rfl) Z Z (cells:=[_,_,_,_,_,_,_]) Z) ?_
 refine ah (aD (z:=(.agg #[.int .i64 0,.slice none 0 0,.slice none 0 0,.slice none 0 0,.slice none 0 0,.bool false,.int .i64 0])) (by unfold aE;kernel_rfl) ?_)
 rintro b3 w3 zb3 HB3 e3 z3
 have:=e3.size
 try simp only [Value.cells] at HB3
 refine ah (aq (n:=7) Z Z (aZ Z) zk Z cT HB3 bV ?_)
 rintro w101 HB3 k101 z101
 have:=k101.size
 try simp only [zS,Nat.zero_add,Nat.reduceAdd,List.drop_nil] at HB3
 refine ac (U (V (cN zk ?_)))
 have e102:aX w101 { w101 with drawn:=w101.drawn + 1 }:=ao.drawn _ _
 replace E:=((E.step k114 bi).trans e3.keep).step k101 bi
 replace HB2:=((HB2.keep k114 aH).ext e3).keep k101 aH
 replace HR1:=(HR1.ext e3).keep k101 fB (by intro i hi he;have hi0:=hi;have hi:=hi;have he:=he;(try dsimp only [aP] at hi he);first | exact he.elim | omega | (have:=hF i hi0;omega))
 generalize hw102:({ w101 with drawn:=w101.drawn + 1 }:World)=w102 at e102 ⊢
 clear hw102
 have:=e102.size
 refine bT 5 Z zd zd zd ?_
 refine eH (fun k=>w102.heap.size≤k) (iP w102.heap.size [⟨4,none,149,([.bool false,.bool false,.bool false,.bool false,.bool false]:List Value),([.bool false,.bool false,.bool false,.bool false,.bool false]:List Value)⟩]) zd zd (fun ab done hd=>iP.start (Nat.le_refl _) (fun a ha=>hd a.al (mG (n:=5) Z a ha))) ?_
 refine fJ (fun done ab w hR hcl hdk hJ hdn hd=>j0 zk (pW)) (fun done ab w w1 hdk hJ e=>hJ.src e Z) ?_
 refine aI (fun done ab w hR hcl hdk hJ hdn hd=>aA 0 40 Z) (fun _ _ _ _ j=>j.src (ao.refl _) Z) ?_
 replace HB2:=HB2.ext e102
 replace HB3:=HB3.ext e102
 refine aI (fun done ab w hR hcl hdk hJ hdn hd=>ag zk (hd 1 Z) (by first | exact (HB3.keep hR aH).pv 0 _ rfl | exact (HB2.keep hR aH).pv 0 _ rfl | assumption)) (fun _ _ _ _ j=>j.src (ao.refl _) Z) ?_
 refine aI (fun done ab w hR hcl hdk hJ hdn hd=>lG (et:=149) (n:=6) (sz:=5) (k:=k) zk zk (hd 0 Z) (hd 2 Z) zo zo (Value.agg.inj (pG (k:=(k:Int)) zo zo))) (fun _ _ _ _ j=>j.src (ao.refl _) Z) ?_
 refine ea (fun done ab w hR hcl hdk hJ hdn hd=>aD (z:=.agg #[.bool false,.bool false,.bool false,.bool false,.bool false]) (by unfold aE;kernel_rfl) fun b w1 hb hB e hz=>⟨aX.keep e,hJ.al (i:=0) Z Z hdk hcl (fun m a hm he=>ej (i:=0) (m:=m) Z Z hm he) (fun a ha=>eP Z ha (List.mem_of_getElem? (i:=0) Z)) (fun s hs=>by cases hs) hb hB e⟩) ?_
 refine dq (fun ab w103 k103 J103=>?_)
 rintro _ - rfl _ - rfl _ - rfl _ - rfl v4 qv4 -
 have:=k103.size
 obtain ⟨b4,hb4,zb4,HB4⟩:=J103.fin (i:=0) rfl
 try dsimp only at HB4
 have zl4:=HB4.lt
 obtain rfl:=qv4.trans hb4
 refine ct (U (bZ zd Z ?_))
 refine ah (aq (n:=5) Z Z (aZ Z) zk Z cT HB4 bV ?_)
 rintro w104 HB4 k104 z104
 have:=k104.size
 try simp only [zS,Nat.zero_add,Nat.reduceAdd,List.drop_nil] at HB4
 refine ac (U ?_)
 replace E:=((E.trans e102.keep).step k103 bi).step k104 bi
 replace HR1:=((HR1.ext e102).keep k103 fB (by intro i hi he;have hi0:=hi;have hi:=hi;have he:=he;(try dsimp only [aP] at hi he);first | exact he.elim | omega | (have:=hF i hi0;omega))).keep k104 fB (by intro i hi he;have hi0:=hi;have hi:=hi;have he:=he;(try dsimp only [aP] at hi he);first | exact he.elim | omega | (have:=hF i hi0;omega))
 replace HB2:=(HB2.keep k103 aH).keep k104 aH
 replace HB3:=(HB3.keep k103 aH).keep k104 aH
 by_cases h1:dU 24 l1=none
 ·
  refine V (O zd (aa (bK Z) (cj (ei zk (ci Z) (bB Z) (bt.mono (iT (most:=24) HR1 hF zq zq zo h1) ?_)))))
  rintro ch w115 ⟨hch,k115⟩
  have:=k115.size
  refine bC ?_
  refine fK ?_
  replace E:=E.step k115 bi
  exact ⟨by simp only [gH,h0,h1],hch,E⟩
 refine V ?_
 obtain ⟨⟨key,l2⟩,h1⟩:=Option.ne_none_iff_exists'.1 h1
 have bh1:=cW h1
 refine O zd (aa (bK Z) (ah (aW zk (ci Z) (bB Z) (ae.mono (iU (most:=24) HR1 hF zq zq zo h1) ?_))))
 rintro _ w116 ⟨⟨a116,c116,rfl,HF116⟩,HR2,k116⟩
 have:=k116.size
 replace HB3:=HB3.keep k116 aH
 refine aa (aA 1 28 Z) (ah (aR Z Z (bI Z) Z zk HB3 bV ?_))
 rintro w105 HB3 k105 z105
 have:=k105.size
 try simp only [zS,Nat.zero_add,Nat.reduceAdd,List.drop_nil] at HB3
 replace HB2:=(HB2.keep k116 aH).keep k105 aH
 replace HB4:=(HB4.keep k116 aH).keep k105 aH
 refine ac (U (V (V (O zd (aa (aA 1 4 Z) (aa (ag zk Z (by first | exact HB4.pv 1 _ rfl | exact HB3.pv 1 _ rfl | exact HB2.pv 1 _ rfl | assumption)) ?_))))))
 replace E:=(E.step k116 bi).step k105 bi
 replace HF116:=HF116.keep k105 eU
 replace HR2:=HR2.keep k105 fB (by intro i hi he;have hi0:=hi;have hi:=hi;have he:=he;(try dsimp only [aP] at hi he);first | exact he.elim | omega | (have:=hF i hi0;omega))
 refine ac (U (am Z Z (fun ht=>?_) (fun ht=>?_)))
 ·
  by_cases h2:dU 24 l2=none
  ·
   refine O zd (aa (bK Z) (cj (ei zk (ci Z) (bB Z) (bt.mono (iT (most:=24) HR2 hF zq zq zo h2) ?_))))
   rintro ch w117 ⟨hch,k117⟩
   have:=k117.size
   refine bC ?_
   refine fK ?_
   replace E:=E.step k117 bi
   exact ⟨by simp only [gH,h0,h1,ht,if_true,if_false,Bool.false_eq_true,reduceIte,h2],hch,E⟩
  obtain ⟨⟨to,l3⟩,h2⟩:=Option.ne_none_iff_exists'.1 h2
  have bh2:=cW h2
  refine O zd (aa (bK Z) (ah (aW zk (ci Z) (bB Z) (ae.mono (iU (most:=24) HR2 hF zq zq zo h2) ?_))))
  rintro _ w118 ⟨⟨a118,c118,rfl,HF118⟩,HR3,k118⟩
  have:=k118.size
  replace HB3:=HB3.keep k118 aH
  refine aa (aA 2 28 Z) (ah (aR Z Z (bI Z) Z zk HB3 bV ?_))
  rintro w106 HB3 k106 z106
  have:=k106.size
  try simp only [zS,Nat.zero_add,Nat.reduceAdd,List.drop_nil] at HB3
  replace HB2:=(HB2.keep k118 aH).keep k106 aH
  replace HB4:=(HB4.keep k118 aH).keep k106 aH
  refine ac (U (V (V (O zd (aa (aA 2 4 Z) (aa (ag zk Z (by first | exact HB4.pv 2 _ rfl | exact HB3.pv 2 _ rfl | exact HB2.pv 2 _ rfl | assumption)) ?_))))))
  replace E:=(E.step k118 bi).step k106 bi
  replace HF116:=(HF116.keep k118 eU).keep k106 eU
  replace HF118:=HF118.keep k106 eU
  replace HR3:=HR3.keep k106 fB (by intro i hi he;have hi0:=hi;have hi:=hi;have he:=he;(try dsimp only [aP] at hi he);first | exact he.elim | omega | (have:=hF i hi0;omega))
  refine ac (U (am Z Z (fun hv=>?_) (fun hv=>?_)))
  ·
   simp [ht,hv] at hnm
  refine ar (U (V (V (O zd (aa (aA 3 4 Z) (aa (ag zk Z (by first | exact HB4.pv 3 _ rfl | exact HB3.pv 3 _ rfl | exact HB2.pv 3 _ rfl | assumption)) ?_))))))
  refine ac (U (am Z Z (fun hw=>?_) (fun hw=>?_)))
  ·
   simp [ht,hw] at hnm
  refine ar (U (V (V (O zd (aa (aA 4 4 Z) (aa (ag zk Z (by first | exact HB4.pv 4 _ rfl | exact HB3.pv 4 _ rfl | exact HB2.pv 4 _ rfl | assumption)) ?_))))))
  refine ac (U (am Z Z (fun hm=>?_) (fun hm=>?_)))
  ·
   by_cases h3:eF 32 l3=none
   ·
    refine O zd (aa (bK Z) (cj (ei zk (ci Z) (bB Z) (bt.mono (gk (most:=32) HR3 hnF zq zq h3) ?_))))
    rintro ch w119 ⟨hch,k119⟩
    have:=k119.size
    refine bC ?_
    refine fK ?_
    replace E:=E.step k119 bi
    exact ⟨by simp only [gH,h0,h1,ht,if_true,if_false,Bool.false_eq_true,reduceIte,h2,hv,hw,hm,h3],hch,E⟩
   obtain ⟨⟨most,l4⟩,h3⟩:=Option.ne_none_iff_exists'.1 h3
   have bh3:=dy h3
   refine O zd (aa (bK Z) (ah (aW zk (ci Z) (bB Z) (ae.mono (gl (most:=32) HR3 hnF zq zq h3) ?_))))
   rintro _ w120 ⟨rfl,HR4,k120⟩
   have:=k120.size
   replace HB3:=HB3.keep k120 aH
   refine aa (aA 6 3 Z) (ah (aR Z Z (bB Z) Z zk HB3 bV ?_))
   rintro w107 HB3 k107 z107
   have:=k107.size
   try simp only [zS,Nat.zero_add,Nat.reduceAdd,List.drop_nil] at HB3
   replace HB2:=(HB2.keep k120 aH).keep k107 aH
   replace HB4:=(HB4.keep k120 aH).keep k107 aH
   refine ac (U (V (O zd (aa (ap zk Z (by first | exact HB4.pv | exact HB3.pv | exact HB2.pv | assumption) Z) ?_))))
   refine ah (aq (n:=7) Z Z (aZ Z) zk Z cT HB2 bV ?_)
   rintro w108 HB2 k108 z108
   have:=k108.size
   try simp only [zS,Nat.zero_add,Nat.reduceAdd,List.drop_nil] at HB2
   refine ac (U (aw (oG ?_)))
   refine jD (n:=7) Z zq Z zk HB2.pv Z ?_
   replace E:=((E.step k120 bi).step k107 bi).step k108 bi
   replace HF116:=((HF116.keep k120 eU).keep k107 eU).keep k108 eU
   replace HF118:=((HF118.keep k120 eU).keep k107 eU).keep k108 eU
   replace HR4:=(HR4.keep k107 fB (by intro i hi he;have hi0:=hi;have hi:=hi;have he:=he;(try dsimp only [aP] at hi he);first | exact he.elim | omega | (have:=hF i hi0;omega))).keep k108 fB (by intro i hi he;have hi0:=hi;have hi:=hi;have he:=he;(try dsimp only [aP] at hi he);first | exact he.elim | omega | (have:=hF i hi0;omega))
   refine ⟨_,l4,by simp only [gH,h0,h1,ht,if_true,if_false,Bool.false_eq_true,reduceIte,h2,hv,hw,hm,h3,if_true,if_false,Bool.false_eq_true,reduceIte],⟨_,rfl,j8 (HF116.mono fun i _ h=>by omega) (HF118.mono fun i _ h=>by omega) (fO.nil _ _) (fO.nil _ _) ⟨by omega,by omega⟩ ⟨by omega,by omega⟩⟩,HR4,E⟩
  simp [ht,hm] at hnm
 refine ar (U (V (V (O zd (aa (aA 2 4 Z) (aa (ag zk Z (by first | exact HB4.pv 2 _ rfl | exact HB3.pv 2 _ rfl | exact HB2.pv 2 _ rfl | assumption)) ?_))))))
 refine ac (U (am Z Z (fun hv=>?_) (fun hv=>?_)))
 ·
  by_cases h2:dU 40 l2=none
  ·
   refine O zd (aa (bK Z) (cj (ei zk (ci Z) (bB Z) (bt.mono (iT (most:=40) HR2 hF zq zq zo h2) ?_))))
   rintro ch w121 ⟨hch,k121⟩
   have:=k121.size
   refine bC ?_
   refine fK ?_
   replace E:=E.step k121 bi
   exact ⟨by simp only [gH,h0,h1,ht,if_true,if_false,Bool.false_eq_true,reduceIte,hv,h2],hch,E⟩
  obtain ⟨⟨val,l3⟩,h2⟩:=Option.ne_none_iff_exists'.1 h2
  have bh2:=cW h2
  refine O zd (aa (bK Z) (ah (aW zk (ci Z) (bB Z) (ae.mono (iU (most:=40) HR2 hF zq zq zo h2) ?_))))
  rintro _ w122 ⟨⟨a122,c122,rfl,HF122⟩,HR3,k122⟩
  have:=k122.size
  replace HB3:=HB3.keep k122 aH
  refine aa (aA 3 28 Z) (ah (aR Z Z (bI Z) Z zk HB3 bV ?_))
  rintro w109 HB3 k109 z109
  have:=k109.size
  try simp only [zS,Nat.zero_add,Nat.reduceAdd,List.drop_nil] at HB3
  replace HB2:=(HB2.keep k122 aH).keep k109 aH
  replace HB4:=(HB4.keep k122 aH).keep k109 aH
  refine ac (U (V (V (O zd (aa (aA 3 4 Z) (aa (ag zk Z (by first | exact HB4.pv 3 _ rfl | exact HB3.pv 3 _ rfl | exact HB2.pv 3 _ rfl | assumption)) ?_))))))
  replace E:=(E.step k122 bi).step k109 bi
  replace HF116:=(HF116.keep k122 eU).keep k109 eU
  replace HF122:=HF122.keep k109 eU
  replace HR3:=HR3.keep k109 fB (by intro i hi he;have hi0:=hi;have hi:=hi;have he:=he;(try dsimp only [aP] at hi he);first | exact he.elim | omega | (have:=hF i hi0;omega))
  refine ac (U (am Z Z (fun hw=>?_) (fun hw=>?_)))
  ·
   by_cases h3:dU 40 l3=none
   ·
    refine V (O zd (aa (bK Z) (cj (ei zk (ci Z) (bB Z) (bt.mono (iT (most:=40) HR3 hF zq zq zo h3) ?_)))))
    rintro ch w123 ⟨hch,k123⟩
    have:=k123.size
    refine bC ?_
    refine bC ?_
    refine fK ?_
    replace E:=E.step k123 bi
    exact ⟨by simp only [gH,h0,h1,ht,if_true,if_false,Bool.false_eq_true,reduceIte,hv,h2,hw,h3],hch,E⟩
   refine V ?_
   obtain ⟨⟨was,l4⟩,h3⟩:=Option.ne_none_iff_exists'.1 h3
   have bh3:=cW h3
   refine O zd (aa (bK Z) (ah (aW zk (ci Z) (bB Z) (ae.mono (iU (most:=40) HR3 hF zq zq zo h3) ?_))))
   rintro _ w124 ⟨⟨a124,c124,rfl,HF124⟩,HR4,k124⟩
   have:=k124.size
   replace HB3:=HB3.keep k124 aH
   refine aa (aA 4 28 Z) (ah (aR Z Z (bI Z) Z zk HB3 bV ?_))
   rintro w110 HB3 k110 z110
   have:=k110.size
   try simp only [zS,Nat.zero_add,Nat.reduceAdd,List.drop_nil] at HB3
   refine ac (U ?_)
   replace E:=(E.step k124 bi).step k110 bi
   replace HB2:=(HB2.keep k124 aH).keep k110 aH
   replace HB4:=(HB4.keep k124 aH).keep k110 aH
   replace HF116:=(HF116.keep k124 eU).keep k110 eU
   replace HF122:=(HF122.keep k124 eU).keep k110 eU
   replace HF124:=HF124.keep k110 eU
   replace HR4:=HR4.keep k110 fB (by intro i hi he;have hi0:=hi;have hi:=hi;have he:=he;(try dsimp only [aP] at hi he);first | exact he.elim | omega | (have:=hF i hi0;omega))
   by_cases h4:dM l4=none
   ·
    refine O zd (aa (bK Z) (cj (cJ zk (ci Z) (bt.mono (s7 HR4 hnF h4) ?_))))
    rintro ch w125 ⟨hch,k125⟩
    have:=k125.size
    refine bC ?_
    refine fK ?_
    replace E:=E.step k125 bi
    exact ⟨by simp only [gH,h0,h1,ht,if_true,if_false,Bool.false_eq_true,reduceIte,hv,h2,hw,h3,h4],hch,E⟩
   obtain ⟨⟨no,l5⟩,h4⟩:=Option.ne_none_iff_exists'.1 h4
   have bh4:=hQ h4
   refine O zd (aa (bK Z) (ah (av zk (ci Z) (ae.mono (s8 HR4 hnF h4) ?_))))
   rintro _ w126 ⟨rfl,HR5,k126⟩
   have:=k126.size
   replace HB3:=HB3.keep k126 aH
   refine aa (aA 5 4 Z) (ah (aR Z Z (cE Z) Z zk HB3 bV ?_))
   rintro w111 HB3 k111 z111
   have:=k111.size
   try simp only [zS,Nat.zero_add,Nat.reduceAdd,List.drop_nil] at HB3
   replace HB2:=(HB2.keep k126 aH).keep k111 aH
   replace HB4:=(HB4.keep k126 aH).keep k111 aH
   refine ac (U (V (V (O zd (aa (aA 4 4 Z) (aa (ag zk Z (by first | exact HB4.pv 4 _ rfl | exact HB3.pv 4 _ rfl | exact HB2.pv 4 _ rfl | assumption)) ?_))))))
   replace E:=(E.step k126 bi).step k111 bi
   replace HF116:=(HF116.keep k126 eU).keep k111 eU
   replace HF122:=(HF122.keep k126 eU).keep k111 eU
   replace HF124:=(HF124.keep k126 eU).keep k111 eU
   replace HR5:=HR5.keep k111 fB (by intro i hi he;have hi0:=hi;have hi:=hi;have he:=he;(try dsimp only [aP] at hi he);first | exact he.elim | omega | (have:=hF i hi0;omega))
   refine ac (U (am Z Z (fun hm=>?_) (fun hm=>?_)))
   ·
    simp [ht,hm] at hnm
   refine ar (U (V (O zd (aa (ap zk Z (by first | exact HB4.pv | exact HB3.pv | exact HB2.pv | assumption) Z) ?_))))
   refine ah (aq (n:=7) Z Z (aZ Z) zk Z cT HB2 bV ?_)
   rintro w112 HB2 k112 z112
   have:=k112.size
   try simp only [zS,Nat.zero_add,Nat.reduceAdd,List.drop_nil] at HB2
   refine ac (U (aw (oG ?_)))
   refine jD (n:=7) Z zq Z zk HB2.pv Z ?_
   replace E:=E.step k112 bi
   replace HF116:=HF116.keep k112 eU
   replace HF122:=HF122.keep k112 eU
   replace HF124:=HF124.keep k112 eU
   replace HR5:=HR5.keep k112 fB (by intro i hi he;have hi0:=hi;have hi:=hi;have he:=he;(try dsimp only [aP] at hi he);first | exact he.elim | omega | (have:=hF i hi0;omega))
   refine ⟨_,l5,by simp only [gH,h0,h1,ht,if_true,if_false,Bool.false_eq_true,reduceIte,hv,h2,hw,h3,h4,hm,if_true,if_false,Bool.false_eq_true,reduceIte];rfl,⟨_,rfl,j8 (HF116.mono fun i _ h=>by omega) (fO.nil _ _) (HF122.mono fun i _ h=>by omega) (HF124.mono fun i _ h=>by omega) ⟨by omega,by omega⟩ ⟨by omega,by omega⟩⟩,HR5,E⟩
  refine ar (U (V (V (O zd (aa (aA 4 4 Z) (aa (ag zk Z (by first | exact HB4.pv 4 _ rfl | exact HB3.pv 4 _ rfl | exact HB2.pv 4 _ rfl | assumption)) ?_))))))
  refine ac (U (am Z Z (fun hm=>?_) (fun hm=>?_)))
  ·
   simp [ht,hm] at hnm
  refine ar (U (V (O zd (aa (ap zk Z (by first | exact HB4.pv | exact HB3.pv | exact HB2.pv | assumption) Z) ?_))))
  refine ah (aq (n:=7) Z Z (aZ Z) zk Z cT HB2 bV ?_)
  rintro w113 HB2 k113 z113
  have:=k113.size
  try simp only [zS,Nat.zero_add,Nat.reduceAdd,List.drop_nil] at HB2
  refine ac (U (aw (oG ?_)))
  refine jD (n:=7) Z zq Z zk HB2.pv Z ?_
  replace E:=E.step k113 bi
  replace HF116:=HF116.keep k113 eU
  replace HF122:=HF122.keep k113 eU
  replace HR3:=HR3.keep k113 fB (by intro i hi he;have hi0:=hi;have hi:=hi;have he:=he;(try dsimp only [aP] at hi he);first | exact he.elim | omega | (have:=hF i hi0;omega))
  refine ⟨_,l3,by simp only [gH,h0,h1,ht,if_true,if_false,Bool.false_eq_true,reduceIte,hv,h2,hw,hm,if_true,if_false,Bool.false_eq_true,reduceIte];rfl,⟨_,rfl,j8 (HF116.mono fun i _ h=>by omega) (fO.nil _ _) (HF122.mono fun i _ h=>by omega) (fO.nil _ _) ⟨by omega,by omega⟩ ⟨by omega,by omega⟩⟩,HR3,E⟩
 refine ar (U (V (V (O zd (aa (aA 3 4 Z) (aa (ag zk Z (by first | exact HB4.pv 3 _ rfl | exact HB3.pv 3 _ rfl | exact HB2.pv 3 _ rfl | assumption)) ?_))))))
 refine ac (U (am Z Z (fun hw=>?_) (fun hw=>?_)))
 ·
  simp [ht,hv,hw] at hnm
 refine ar (U (V (V (O zd (aa (aA 4 4 Z) (aa (ag zk Z (by first | exact HB4.pv 4 _ rfl | exact HB3.pv 4 _ rfl | exact HB2.pv 4 _ rfl | assumption)) ?_))))))
 refine ac (U (am Z Z (fun hm=>?_) (fun hm=>?_)))
 ·
  simp [ht,hm] at hnm
 refine ar (U (V (O zd (aa (ap zk Z (by first | exact HB4.pv | exact HB3.pv | exact HB2.pv | assumption) Z) ?_))))
 refine ah (aq (n:=7) Z Z (aZ Z) zk Z cT HB2 bV ?_)
 rintro w114 HB2 k114 z114
 have:=k114.size
 try simp only [zS,Nat.zero_add,Nat.reduceAdd,List.drop_nil] at HB2
 refine ac (U (aw (oG ?_)))
 refine jD (n:=7) Z zq Z zk HB2.pv Z ?_
 replace E:=E.step k114 bi
 replace HF116:=HF116.keep k114 eU
 replace HR2:=HR2.keep k114 fB (by intro i hi he;have hi0:=hi;have hi:=hi;have he:=he;(try dsimp only [aP] at hi he);first | exact he.elim | omega | (have:=hF i hi0;omega))
 refine ⟨_,l2,by simp only [gH,h0,h1,ht,hv,if_true,if_false,Bool.false_eq_true,reduceIte,hw,hm,if_true,if_false,Bool.false_eq_true,reduceIte];rfl,⟨_,rfl,j8 (HF116.mono fun i _ h=>by omega) (fO.nil _ _) (fO.nil _ _) (fO.nil _ _) ⟨by omega,by omega⟩ ⟨by omega,by omega⟩⟩,HR2,E⟩
end Go.Proofs.YteehplloacefmaaGreat

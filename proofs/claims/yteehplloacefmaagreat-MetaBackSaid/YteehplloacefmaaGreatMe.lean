/- Steps and lemmas for the walks. -/
import Derived.Test.YteehplloacefmaaGreatCz
import Derived.Test.YteehplloacefmaaGreatGe
import Derived.Test.YteehplloacefmaaGreatRw
import Derived.Test.YteehplloacefmaaGreatC8
import Derived.Test.YteehplloacefmaaGreatGc
set_option linter.unusedVariables false
set_option linter.unusedSimpArgs false
set_option maxRecDepth 100000
namespace Go.Vc
abbrev fy:=iJ × Bool
abbrev eQ:Ty fy:=bM jU j7
abbrev it:=lz × Int × List fy
abbrev iK:Ty it:=bM li (bM (dL .i64) (dB eQ))
instance decMa:DecidableEq fy:=@instDecidableEqProd _ _ decMv inferInstance
abbrev RgV2:=List UInt8 × Bool × Int
instance decRg2:DecidableEq RgV2:=inferInstance
instance decRg:DecidableEq cO:=@instDecidableEqProd _ _ inferInstance decRg2
instance decMp:DecidableEq lz:=@instDecidableEqProd _ _ inferInstance (@instDecidableEqList _ decRg)
instance decMt2:DecidableEq (Int × List fy):=@instDecidableEqProd _ _ inferInstance (@instDecidableEqList _ decMa)
instance decMt:DecidableEq it:=@instDecidableEqProd _ _ decMp decMt2
section
variable {w:World} {F:Nat→Prop} {cs:List Value} {v:Value}
theorem cR {a:fy} (h:eQ.rep w F cs a):∃ a1 c1 a2 c2,cs=[.int .i64 a.1.1,.slice a1 a.1.2.1.length c1,.slice a2 a.1.2.2.1.length c2,.bool a.1.2.2.2.1,.int .i64 a.1.2.2.2.2.1,.int .i64 a.1.2.2.2.2.2,.bool a.2]
    ∧ Bv w F (.slice a1 a.1.2.1.length c1) a.1.2.1∧Bv w F (.slice a2 a.1.2.2.1.length c2) a.1.2.2.1∧cH a.1.1∧cH a.1.2.2.2.2.1∧cH a.1.2.2.2.2.2:=by
  obtain ⟨c1,c2,rfl,h1,h2⟩:=h
  obtain ⟨a1,d1,a2,d2,rfl,h⟩:=kK h1
  obtain rfl:c2=[.bool a.2]:=h2
  exact ⟨a1,d1,a2,d2,rfl,h⟩
theorem lN {v1 v2:Value} {n o g:Int} {x y:List UInt8} {b c:Bool} (h1:Bv w F v1 x) (h2:Bv w F v2 y) (i1:cH n) (i2:cH o) (i3:cH g):eQ.rep w F [.int .i64 n,v1,v2,.bool b,.int .i64 o,.int .i64 g,.bool c] ((n,x,y,b,o,g),c):=
  ⟨[_,_,_,_,_,_],[_],rfl,kJ h1 h2 i1 i2 i3,rfl⟩
theorem aY.ma {a:fy} (h:aY eQ w F v a):∃ a1 c1 a2 c2,v=.agg #[.int .i64 a.1.1,.slice a1 a.1.2.1.length c1,.slice a2 a.1.2.2.1.length c2,.bool a.1.2.2.2.1,.int .i64 a.1.2.2.2.2.1,.int .i64 a.1.2.2.2.2.2,.bool a.2]
    ∧ Bv w F (.slice a1 a.1.2.1.length c1) a.1.2.1∧Bv w F (.slice a2 a.1.2.2.1.length c2) a.1.2.2.1∧cH a.1.1∧cH a.1.2.2.2.2.1∧cH a.1.2.2.2.2.2:=by
  obtain ⟨cs,rfl,hr⟩:=h
  obtain ⟨a1,c1,a2,c2,rfl,h⟩:=cR hr
  exact ⟨a1,c1,a2,c2,rfl,h⟩
theorem aY.mt {s:it} (h:aY iK w F v s):∃ a c a2 c2,v=.agg #[.int .i64 s.1.1,.slice a s.1.2.length c,.int .i64 s.2.1,.slice a2 s.2.2.length c2]∧bs dv w F (.slice a s.1.2.length c) s.1.2∧bs eQ w F (.slice a2 s.2.2.length c2) s.2.2∧cH s.1.1∧cH s.2.1:=by
  obtain ⟨cs,rfl,k1,k2,rfl,⟨_,_,rfl,⟨rfl,i1⟩,v1,rfl,h1⟩,_,_,rfl,⟨rfl,i2⟩,v2,rfl,h2⟩:=h
  obtain ⟨a,c,rfl⟩:=h1.shape
  obtain ⟨a2,c2,rfl⟩:=h2.shape
  exact ⟨a,c,a2,c2,rfl,h1,h2,cB i1,cB i2⟩
theorem aY.mkMt {v1 v2:Value} {e n:Int} {rs:List cO} {ms:List fy} (h1:bs dv w F v1 rs) (h2:bs eQ w F v2 ms) (i1:cH e) (i2:cH n):aY iK w F (.agg #[.int .i64 e,v1,.int .i64 n,v2]) ((e,rs),n,ms):=
  ⟨_,rfl,[_,v1],[_,v2],rfl,⟨[_],[v1],rfl,⟨rfl,co i1⟩,v1,rfl,h1⟩,[_],[v2],rfl,⟨rfl,co i2⟩,v2,rfl,h2⟩
theorem aY.mpOf {v1:Value} {e:Int} {rs:List cO} (h1:bs dv w F v1 rs) (i1:cH e):aY li w F (.agg #[.int .i64 e,v1]) (e,rs):=aY.mkMp h1 i1
theorem aY.maMv {x0 x1 x2 x3 x4 x5 x6:Value} {a:fy} (h:aY eQ w F (.agg #[x0,x1,x2,x3,x4,x5,x6]) a):aY jU w F (.agg #[x0,x1,x2,x3,x4,x5]) a.1:=by
  obtain ⟨a1,c1,a2,c2,he,g1,g2,i1,i2,i3⟩:=h.ma
  simp only [Value.agg.injEq,Array.mk.injEq,List.cons.injEq,and_true] at he
  obtain ⟨rfl,rfl,rfl,rfl,rfl,rfl,rfl⟩:=he
  exact ⟨_,rfl,kJ g1 g2 i1 i2 i3⟩
end
def f0:it:=(oN,0,[])
theorem jR {w:World} {F:Nat→Prop}:aY iK w F (.agg #[.int .i64 0,.slice none 0 0,.int .i64 0,.slice none 0 0]) f0:=aY.mkMt (bs.nil _ _ _) (bs.nil _ _ _) ⟨by decide,by decide⟩ ⟨by decide,by decide⟩
def dH (rs:List cO) (k:List UInt8):Option Nat:=rs.findIdx? (ge k)
def kz (rs:List cO) (x:fy):Bool:=match dH rs x.1.2.1 with
  | none=>false
  | some i=>decide ((rs.getD i fV).2.2.1=x.1.2.2.2.1) && decide ((rs.getD i fV).2.1=x.1.2.2.1) && decide ((rs.getD i fV).2.2.2=if x.2 then x.1.2.2.2.2.2 else x.1.2.2.2.2.1)
def pF (rs:List cO) (n:Int) (l:List fy) (i:Nat):Bool:=match l[i]? with
  | none=>true
  | some x=>di x.1 && decide (x.1.1 < n) && (match i with | 0=>true | j + 1=>match l[j]? with | none=>true | some y=>decide (y.1.1 < x.1.1)) && kz rs x && (l.take i).all (fun y=>!decide (y.1.2.1=x.1.2.1))
def jG (rs:List cO) (n:Int) (l:List fy):Bool:=(List.range l.length).all (pF rs n l)
def dA (s:it):Bool:=cY s.1 && decide (1≤s.2.1) && decide (s.2.1≤2147483647) && jG s.1.2 s.2.1 s.2.2
theorem iY {rs:List cO} {n:Int} {l:List fy} {i:Nat} (hi:i < l.length) (h:pF rs n l i=false):jG rs n l=false:=by
  rw [jG,Bool.eq_false_iff];intro h2
  rw [List.all_eq_true] at h2
  rw [h2 i (List.mem_range.2 hi)] at h;cases h
theorem nk {rs:List cO} {n:Int} {l:List fy} (h:∀ i,i < l.length→pF rs n l i=true):jG rs n l=true:=by
  rw [jG,List.all_eq_true];exact fun i hi=>h i (List.mem_range.1 hi)
theorem sM {rs:List cO} {n:Int} {l:List fy} (h:jG rs n l=true) {i:Nat} (hi:i < l.length):pF rs n l i=true:=by
  rw [jG,List.all_eq_true] at h;exact h i (List.mem_range.2 hi)
def ki (l:List fy) (k:List UInt8):Bool:=l.any fun x=>decide (x.1.2.1=k)
def p9 (k:Bool) (m:iJ) (x:fy):Bool:=decide (x.1=m) && !decide (x.2=k)
def il (s:it) (key:List UInt8) (g:Int):it × Int:=match dH s.1.2 key with
  | none=>(s,6)
  | some i=>if ki s.2.2 key || decide ((s.1.2.getD i fV).2.2.2=g) then (s,9) else if 2147483647≤s.2.1 then (s,5) else
    ((s.1,s.2.1 + 1,s.2.2 ++ [((s.2.1,(s.1.2.getD i fV).1,(s.1.2.getD i fV).2.1,(s.1.2.getD i fV).2.2.1,(s.1.2.getD i fV).2.2.2,g),false)]),0)
def iZ (s:it) (cut:Bool) (m:iJ):it × Int:=match s.2.2.findIdx? (p9 cut m) with
  | none=>(s,9)
  | some i=>if cut then (if (fx s.1 m.2.1 m.2.2.2.2.2).2=0 then (((fx s.1 m.2.1 m.2.2.2.2.2).1,s.2.1,s.2.2.set i (((s.2.2.getD i (jF,false)).1,true))),0) else (s,(fx s.1 m.2.1 m.2.2.2.2.2).2)) else ((s.1,s.2.1,s.2.2.eraseIdx i),0)
def fz (s:it) (c:iq):it × Int:=
  if c.1=6 then (if ki s.2.2 (kb s.1.2 (dZ s.1 (mq c.2.2.2.2.2.1))).1 then (s,9) else (((gv s.1 c.2.2.2.2.2.1).1,s.2),(gv s.1 c.2.2.2.2.2.1).2))
  else if c.1=7 then (match dH s.1.2 c.2.2.2.2.2.1 with
    | some (i + 1)=>if ki s.2.2 c.2.2.2.2.2.1 || ki s.2.2 (s.1.2.getD i fV).1 then (s,9) else (((fI s.1 c.2.2.2.2.2.1).1,s.2),(fI s.1 c.2.2.2.2.2.1).2)
    | _=>(((fI s.1 c.2.2.2.2.2.1).1,s.2),(fI s.1 c.2.2.2.2.2.1).2))
  else if c.1=8 then il s c.2.2.2.2.2.1 c.2.2.2.2.2.2
  else if c.1=9∨c.1=10 then iZ s (decide (c.1=9)) c.2.2.1
  else (s,2)
def ic (s:it) (c:iq):it × Int:=if (dA s && eh c)=false then (f0,2) else if (fz s c).2=0 then fz s c else (f0,(fz s c).2)
end Go.Vc
namespace Go.Vc
theorem qq:∀ (l:List cO),fl l=true→l.Pairwise (fun r s=>r.1 < s.1)
  | [],_=>List.Pairwise.nil
  | [r],_=>List.pairwise_singleton _ _
  | r :: s :: l,h=>by
    rw [mh,Bool.and_eq_true] at h
    obtain ⟨h1,h2⟩:=h
    simp only [qn,Bool.and_eq_true,decide_eq_true_eq] at h1
    have hrs:r.1 < s.1:=by rw [← h1.2];exact h1.1.2
    have ih:=qq (s :: l) h2
    refine List.pairwise_cons.2 ⟨fun x hx=>?_,ih⟩
    rcases List.mem_cons.1 hx with rfl | hx
    · exact hrs
    · exact oS hrs ((List.pairwise_cons.1 ih).1 x hx)
theorem sZ {l:List cO} (h:fl l=true) {r s:cO} (hr:r ∈ l) (hs:s ∈ l) (he:r.1=s.1):r=s:=by
  have hp:=qq l h
  obtain ⟨i,hi,rfl⟩:=List.getElem_of_mem hr
  obtain ⟨j,hj,rfl⟩:=List.getElem_of_mem hs
  rw [List.pairwise_iff_getElem] at hp
  rcases Nat.lt_trichotomy i j with h1 | h1 | h1
  · have:=hp i j hi hj h1;rw [he] at this;exact absurd this (List.lt_irrefl _)
  · subst h1;rfl
  · have:=hp j i hj hi h1;rw [he] at this;exact absurd this (List.lt_irrefl _)
theorem fj {l:List cO} {k:List UInt8} {i:Nat} (h:dH l k=some i):i < l.length∧(l.getD i fV).1=k:=by
  rw [dH,List.findIdx?_eq_some_iff_getElem] at h
  obtain ⟨h1,h2,_⟩:=h
  refine ⟨h1,?_⟩
  have e1:l.getD i fV=l[i]:=by simp [h1]
  rw [e1];simpa [ge] using h2
theorem tx {l:List cO} {k:List UInt8} {r:cO} (hr:r ∈ l) (hk:r.1=k):∃ i,dH l k=some i:=by
  rcases hi:dH l k with _ | i
  · rw [dH,List.findIdx?_eq_none_iff] at hi
    have:=hi r hr
    simp [ge,hk] at this
  · exact ⟨i,rfl⟩
def OnR (rs:List cO) (x:fy):Prop:=∃ r ∈ rs,r.1=x.1.2.1∧r.2.2.1=x.1.2.2.2.1∧r.2.1=x.1.2.2.1∧r.2.2.2=(if x.2 then x.1.2.2.2.2.2 else x.1.2.2.2.2.1)
theorem o7 {rs:List cO} (hm:fl rs=true) {x:fy}:kz rs x=true↔OnR rs x:=by
  unfold kz OnR
  constructor
  · intro h
    rcases hi:dH rs x.1.2.1 with _ | i
    · rw [hi] at h;cases h
    · rw [hi] at h
      simp only [Bool.and_eq_true,decide_eq_true_eq] at h
      obtain ⟨h1,h2⟩:=fj hi
      exact ⟨_,fX h1,h2,h.1.1,h.1.2,h.2⟩
  · rintro ⟨r,hr,h1,h2,h3,h4⟩
    obtain ⟨i,hi⟩:=tx hr h1
    obtain ⟨hlt,hf⟩:=fj hi
    have:rs.getD i fV=r:=sZ hm (fX hlt) hr (hf.trans h1.symm)
    rw [hi];simp only [this,h2,h3,h4,decide_true,Bool.and_self]
def lh (rs:List cO) (n:Int) (l:List fy):Prop:=(∀ x ∈ l,di x.1=true∧x.1.1 < n∧kz rs x=true)∧l.Pairwise (fun y x=>y.1.1 < x.1.1∧y.1.2.1≠x.1.2.1)
theorem go {rs:List cO} {n:Int} {l:List fy} {i:Nat} {x:fy} (hx:l[i]? = some x):pF rs n l i=true↔(di x.1=true∧x.1.1 < n∧kz rs x=true)∧(∀ (j:Nat) (y:fy),i=j + 1→l[j]? = some y→y.1.1 < x.1.1)∧∀ y ∈ l.take i,y.1.2.1≠x.1.2.1:=by
  have hi:=(List.getElem?_eq_some_iff.1 hx).1
  unfold pF
  rw [hx]
  simp only [Bool.and_eq_true,decide_eq_true_eq,List.all_eq_true,Bool.not_eq_true',decide_eq_false_iff_not]
  constructor
  · rintro ⟨⟨⟨⟨h1,h2⟩,h3⟩,h4⟩,h5⟩
    refine ⟨⟨h1,h2,h4⟩,fun j y hj hy=>?_,h5⟩
    subst hj;simp only at h3;rw [hy] at h3;simpa using h3
  · rintro ⟨⟨h1,h2,h4⟩,h3,h5⟩
    refine ⟨⟨⟨⟨h1,h2⟩,?_⟩,h4⟩,h5⟩
    cases i with
    | zero=>rfl
    | succ j=>
      simp only
      have hj:l[j]? = some l[j]:=by rw [List.getElem?_eq_getElem zo]
      rw [hj];simpa using h3 j _ rfl hj
theorem fM {rs:List cO} {n:Int} {l:List fy}:jG rs n l=true↔lh rs n l:=by
  constructor
  · intro h
    have hall:∀ i (hi:i < l.length),(di l[i].1=true∧l[i].1.1 < n∧kz rs l[i]=true)∧(∀ (j:Nat) (y:fy),i=j + 1→l[j]? = some y→y.1.1 < l[i].1.1)∧∀ y ∈ l.take i,y.1.2.1≠l[i].1.2.1:=
      fun i hi=>(go (List.getElem?_eq_getElem hi)).1 (sM h hi)
    refine ⟨fun x hx=>?_,?_⟩
    · obtain ⟨i,hi,rfl⟩:=List.getElem_of_mem hx
      exact (hall i hi).1
    · rw [List.pairwise_iff_getElem]
      have hnum:∀ (j:Nat) (hj:j < l.length) (i:Nat) (hij:i < j),(l[i]'zo).1.1 < l[j].1.1:=by
        intro j
        induction j with
        | zero=>intro hj i hij;omega
        | succ k ih=>
          intro hj i hij
          have h1:=(hall (k + 1) hj).2.1 k _ rfl (List.getElem?_eq_getElem zo)
          rcases Nat.lt_or_ge i k with h2 | h2
          · have:=ih zo i h2;omega
          · obtain rfl:i=k:=by omega
            exact h1
      intro i j hi hj hij
      refine ⟨hnum j hj i hij,(hall j hj).2.2 _ ?_⟩
      rw [List.mem_take_iff_getElem]
      exact ⟨i,by omega,rfl⟩
  · rintro ⟨h1,h2⟩
    rw [List.pairwise_iff_getElem] at h2
    refine nk fun i hi=>(go (List.getElem?_eq_getElem hi)).2 ⟨h1 _ (List.getElem_mem hi),fun j y hj hy=>?_,fun y hy=>?_⟩
    · subst hj
      obtain ⟨hjl,rfl⟩:=List.getElem?_eq_some_iff.1 hy
      exact (h2 j (j + 1) hjl hi zo).1
    · rw [List.mem_take_iff_getElem] at hy
      obtain ⟨j,hj,rfl⟩:=hy
      exact (h2 j i zo hi zo).2
theorem eg {s:it}:dA s=true↔cY s.1=true∧1≤s.2.1∧s.2.1≤2147483647∧lh s.1.2 s.2.1 s.2.2:=by
  simp only [dA,Bool.and_eq_true,decide_eq_true_eq,fM]
  constructor
  · rintro ⟨⟨⟨h1,h2⟩,h3⟩,h4⟩;exact ⟨h1,h2,h3,h4⟩
  · rintro ⟨h1,h2,h3,h4⟩;exact ⟨⟨⟨h1,h2⟩,h3⟩,h4⟩
theorem lh.mv {rs rs':List cO} {n:Int} {l:List fy} (h:lh rs n l) (hm:fl rs=true) (hm':fl rs'=true) (hr:∀ r ∈ rs,(∃ x ∈ l,x.1.2.1=r.1)→r ∈ rs'):lh rs' n l:=by
  refine ⟨fun x hx=>?_,h.2⟩
  obtain ⟨h1,h2,h3⟩:=h.1 x hx
  refine ⟨h1,h2,(o7 hm').2 ?_⟩
  obtain ⟨r,hr1,hr2⟩:=(o7 hm).1 h3
  exact ⟨r,hr r hr1 ⟨x,hx,hr2.1.symm⟩,hr2⟩
end Go.Vc
namespace Go.Vc
def vN (r:cO):Option cO→Prop
  | none=>dJ r.2.2.2=true∧r.2.2.1=false∧r.2.1=[]
  | some s=>dJ r.2.2.2=true∧r.2.2.1=true∧r.2.1.length≤24∧r.1 < r.2.1∧r.2.1=s.1
theorem mi:∀ (l:List cO),fl l=true↔∀ i r,l[i]? = some r→vN r l[i + 1]?
  | []=>by simp [fl]
  | [r]=>by
    simp only [fl,Bool.and_eq_true,Bool.not_eq_true',List.isEmpty_iff]
    constructor
    · rintro ⟨⟨h1,h2⟩,h3⟩ i x hx
      rcases i with _ | i
      · obtain rfl:r=x:=by simpa using hx
        exact ⟨h1,h2,h3⟩
      · simp at hx
    · intro h
      have:=h 0 r rfl
      exact ⟨⟨this.1,this.2.1⟩,this.2.2⟩
  | r :: s :: l=>by
    rw [mh,Bool.and_eq_true,mi (s :: l)]
    simp only [qn,Bool.and_eq_true,decide_eq_true_eq]
    constructor
    · rintro ⟨⟨⟨⟨⟨h1,h2⟩,h3⟩,h4⟩,h5⟩,h6⟩ i x hx
      rcases i with _ | i
      · obtain rfl:r=x:=by simpa using hx
        exact ⟨h1,h2,h3,h4,h5⟩
      · exact h6 i x (by simpa using hx)
    · intro h
      obtain ⟨h1,h2,h3,h4,h5⟩:=h 0 r rfl
      exact ⟨⟨⟨⟨⟨h1,h2⟩,h3⟩,h4⟩,h5⟩,fun i x hx=>h (i + 1) x (by simpa using hx)⟩
structure wD (n i:Nat) (r:cO) (nx:Option cO):Prop where
  g:dJ r.2.2.2=true
  f:r.1=[]↔i=0
  l:r.1.length≤24
  e:r.2.2.1=decide (i + 1 < n)
  t:r.2.2.1=true→r.1 < r.2.1∧∀ s,nx=some s→r.2.1=s.1
  z:r.2.2.1=false→r.2.1=[]
theorem ko {e:Int} {rs:List cO}:cY (e,rs)=true↔1≤e∧e≤2147483647∧1≤rs.length∧rs.length≤16∧∀ i r,rs[i]? = some r→wD rs.length i r rs[i + 1]?:=by
  constructor
  · intro h
    obtain ⟨h1,h2,h3,h4,h5,h6⟩:=cP h
    simp only at h1 h2 h3 h4 h5 h6
    have hl:=eA h
    simp only at hl
    refine ⟨h1,h2,h3,h4,fun i r hr=>?_⟩
    have hk:=(mi rs).1 h6
    have hi:=(List.getElem?_eq_some_iff.1 hr).1
    have hlk:=hk i r hr
    have hmem:=List.mem_of_getElem? hr
    have hF:r.1=[]↔i=0:=by
      rcases i with _ | i
      · cases rs with
        | nil=>simp at hr
        | cons a b=>
                      obtain rfl:a=r:=by simpa using hr
                      simpa using h5
      · constructor
        · intro he
          obtain ⟨p,hp,_⟩:=eC (l:=rs) (i:=i) zo
          have:=hk i p hp
          rw [hr] at this
          obtain ⟨_,_,_,q4,q5⟩:=this
          rw [q5,he] at q4
          exact absurd q4 (pL _)
        · intro h;omega
    rcases hn:rs[i + 1]? with _ | s
    · rw [hn] at hlk
      obtain ⟨q1,q2,q3⟩:=hlk
      have:rs.length≤i + 1:=by simpa using hn
      exact ⟨q1,hF,(hl r hmem).1,by rw [q2];symm;rw [decide_eq_false_iff_not];omega,fun h=>(by rw [q2] at h;cases h),fun _=>q3⟩
    · rw [hn] at hlk
      obtain ⟨q1,q2,q3,q4,q5⟩:=hlk
      have:=(List.getElem?_eq_some_iff.1 hn).1
      exact ⟨q1,hF,(hl r hmem).1,by rw [q2];symm;rw [decide_eq_true_eq];omega,fun _=>⟨q4,fun x hx=>by cases hx;exact q5⟩,fun h=>(by rw [q2] at h;cases h)⟩
  · rintro ⟨h1,h2,h3,h4,h5⟩
    have h6:fl rs=true:=by
      rw [mi]
      intro i r hr
      have hk:=h5 i r hr
      have hi:=(List.getElem?_eq_some_iff.1 hr).1
      rcases hn:rs[i + 1]? with _ | s
      · have hle:rs.length≤i + 1:=by simpa using hn
        have he:r.2.2.1=false:=by rw [hk.e,decide_eq_false_iff_not];omega
        exact ⟨hk.g,he,hk.z he⟩
      · have hlt:=(List.getElem?_eq_some_iff.1 hn).1
        have he:r.2.2.1=true:=by rw [hk.e,decide_eq_true_eq];omega
        have ht:=hk.t he
        have hts:=ht.2 s hn
        exact ⟨hk.g,he,by rw [hts];exact (h5 (i + 1) s hn).l,ht.1,hts⟩
    obtain ⟨r0,hr0,_⟩:=eC (l:=rs) (i:=0) zo
    have hf:=(h5 0 r0 hr0).f.2 rfl
    have hd:(rs.headD ([],[],false,0)).1.isEmpty=true:=by
      cases rs with
      | nil=>rfl
      | cons a b=>
                    obtain rfl:a=r0:=by simpa using hr0
                    simp [hf]
    simp only [cY,h6,hd,decide_eq_true h1,decide_eq_true h2,decide_eq_true h3,decide_eq_true h4,Bool.and_self]
end Go.Vc
namespace Go.Proofs.YteehplloacefmaaGreat
open Go.Vc
def gJ {α:Type} (p:α→Bool):List α→Nat→Int
  | [],_=>-1
  | r :: l,i=>if p r=true then (i:Int) else gJ p l (i + 1)
theorem mm {α:Type} (p:α→Bool):∀ (l:List α) (i:Nat),gJ p l i=(match l.findIdx? p with | some j=>((i + j:Nat):Int) | none=>-1)
  | [],i=>rfl
  | r :: l,i=>by
    rw [gJ,List.findIdx?_cons]
    cases hp:p r with
    | true=>simp
    | false=>
      simp only [Bool.false_eq_true,if_false]
      rw [mm p l (i + 1)]
      cases l.findIdx? p with
      | none=>rfl
      | some j=>show (((i + 1) + j:Nat):Int)=((i + (j + 1):Nat):Int);omega
theorem ia {rs:List cO} {k:List UInt8}:gJ (ge k) rs 0=dP (dH rs k):=by
  rw [mm,dH];cases rs.findIdx? (ge k) <;> simp [dP]
theorem iC {w:World} {F:Nat→Prop} {v:Value} {xs:List cO} {fn:Nat} {cap:Array Value} {p:cO→Bool} (HSx:bs dv w F v xs) (hb:dj Tryz.prog fn=true)
    (his:∀ W u r,aX w W→aY dv W F u r→ae Tryz.prog fn (#[u] ++ cap) W (fun o W'=>o=.bool (p r)∧aX W W')) :
    ae Tryz.prog 89 #[v,.func (.func fn) #[] cap] w (fun o w'=>o=.int .i64 (gJ p xs 0)∧aX w w'):=by
 obtain ⟨a,c,rfl⟩:=HSx.shape
 have hmx:=HSx.len_max
 refine aL 19 Tryz.func89 Z Z (by simp) ?_
 refine V ?_
 have E:=ao.refl (K:=aP) w
 refine O zd (aa (ad Z) (ac (U (V (V (O zd (aa (bP Z) (aa (ba (et:=53) zk Z) ?_))))))))
 refine aa (be Z) (ac (U (aO (cy (τ:=Nat) [4,5,8,9,10,11,12,13,14,15,16,17,18] (fun i=>[(8,.int .i64 i)]) (fun i W=>aX w W∧ao (aP) w W∧i≤xs.length∧gJ p xs 0=gJ p (xs.drop i) i) (fun i=>xs.length - i) 0 (by exact ⟨rfl,trivial⟩) (by exact ⟨E,ao.refl _,Nat.zero_le _,rfl⟩) ?_))))
 rintro i w101 j ⟨E,EL1,h1,h2⟩
 have:=EL1.size
 refine V (O zd (aa (bw Z Z) ?_))
 replace HSx:=HSx.ext EL1
 refine ac (U (V (am Z Z (fun hlt=>?_) (fun hlt=>?_))))
 ·
  have hlt:=bl hlt
  obtain ⟨r,hx,hdr⟩:=eC (l:=xs) (i:=i) zo
  obtain ⟨q,cs,hq,hF,_,HPq,hr⟩:=HSx.el hx
  subst hq
  have HGq:aY dv _ F _ r:=⟨cs,rfl,hr⟩
  obtain ⟨a1,c1,a2,c2,rfl,_⟩:=bN hr
  refine ar (U (V (aO (V (O zd (aa (aQ Z) (aa (bO Z) (ac (U ?_)))))))))
  refine V (O zd (aa (jA Z) (aa (bP Z) (aa (aQ Z) (aa (aF (et:=53) (sz:=4) (k:=i) zk zk Z Z (by first | rfl | omega) zo) ?_)))))
  refine aa (ap zk Z (by first | exact HPq | assumption) Z) ?_
  refine ah (eV hb Z (aZ Z) (ae.mono (his _ _ _ E HGq) ?_))
  rintro _ w9 ⟨rfl,e9⟩
  have:=e9.size
  replace E:=E.trans e9.keep
  replace HSx:=HSx.ext e9
  replace EL1:=EL1.trans e9.keep
  replace HPq:=HPq.ext e9
  replace HGq:=HGq.ext e9
  refine ac (U (am Z Z (fun hc=>?_) (fun hc=>?_)))
  ·
   refine V (O zd (aa (aQ Z) (aa (bO Z) (ac (U (aw (bz (ay (ay ?_)))))))))
   refine bz (ay (aU Z zq (bB Z) ?_))
   refine ⟨?_,E⟩
   rw [h2,hdr,gJ,if_pos hc]
  refine ar (bE (U (O zd (aa (cn Z Z (by first | exact bn zo zo | rfl)) ?_))))
  refine aa (aQ Z) (ac (U (⟨i + 1,_,rfl,by (repeat (first | exact cD.of_over _ _ _ | refine cD.upd ?_ zq _ | refine cD.overs ?_ zq _)),⟨by first | rfl | exact congrArg (Value.int _) zo | (simp;done),trivial⟩,⟨E,EL1,?_⟩,?_⟩)))
  ·
   refine ⟨by omega,?_⟩
   rw [h2,hdr,gJ,if_neg (by simp [hc])]
  (dsimp only;omega)
 refine cl (bm (bm (cV (U (V (O zd (aa (ad Z) (ac (U ?_)))))))))
 refine aw (aU Z zq (bB Z) ?_)
 refine ⟨?_,E⟩
 rw [h2,List.drop_eq_nil_of_le (by have:=bf hlt;omega)];rfl
theorem mu {w:World} {F:Nat→Prop} {v:Value} {xs:List fy} {fn:Nat} {cap:Array Value} {p:fy→Bool} (HSx:bs eQ w F v xs) (hb:dj Tryz.prog fn=true)
    (his:∀ W u r,aX w W→aY eQ W (fun b=>b < w.heap.size) u r→ae Tryz.prog fn (#[u] ++ cap) W (fun o W'=>o=.bool (p r)∧aX W W')) :
    ae Tryz.prog 83 #[v,.func (.func fn) #[] cap] w (fun o w'=>o=.int .i64 (gJ p xs 0)∧aX w w'):=by
 obtain ⟨a,c,rfl⟩:=HSx.shape
 have hmx:=HSx.len_max
 refine aL 19 Tryz.func83 Z Z (by simp) ?_
 refine V ?_
 have E:=ao.refl (K:=aP) w
 replace HSx:=HSx.all
 refine O zd (aa (ad Z) (ac (U (V (V (O zd (aa (bP Z) (aa (ba (et:=55) zk Z) ?_))))))))
 refine aa (be Z) (ac (U (aO (cy (τ:=Nat) [4,5,6,9,10,11,12,13,14,15,16,17,18] (fun i=>[(9,.int .i64 i)]) (fun i W=>aX w W∧ao (aP) w W∧i≤xs.length∧gJ p xs 0=gJ p (xs.drop i) i) (fun i=>xs.length - i) 0 (by exact ⟨rfl,trivial⟩) (by exact ⟨E,ao.refl _,Nat.zero_le _,rfl⟩) ?_))))
 rintro i w101 j ⟨E,EL1,h1,h2⟩
 have:=EL1.size
 refine V (O zd (aa (bw Z Z) ?_))
 replace HSx:=HSx.ext EL1
 refine ac (U (V (am Z Z (fun hlt=>?_) (fun hlt=>?_))))
 ·
  have hlt:=bl hlt
  obtain ⟨r,hx,hdr⟩:=eC (l:=xs) (i:=i) zo
  obtain ⟨q,cs,hq,hF,_,HPq,hr⟩:=HSx.el hx
  subst hq
  have HGq:aY eQ _ (fun b=>b < w.heap.size) _ r:=⟨cs,rfl,hr⟩
  obtain ⟨a1,c1,a2,c2,rfl,_⟩:=cR hr
  refine ar (U (V (aO (V (O zd (aa (aQ Z) (aa (aF (et:=55) (sz:=7) (k:=i) zk zk Z Z (by first | rfl | omega) zo) ?_)))))))
  refine aa (ap zk Z (by first | exact HPq | assumption) Z) ?_
  refine ah (aD (z:=(.agg #[.int .i64 0,.slice none 0 0,.slice none 0 0,.bool false,.int .i64 0,.int .i64 0,.bool false])) (by unfold aE;kernel_rfl) ?_)
  rintro b6 w6 zb6 HB6 e6 z6
  have:=e6.size
  try simp only [Value.cells] at HB6
  refine aa (bO Z) (ah (aq (n:=7) Z Z (aZ Z) zk Z (by first | (simp [cL];done) | (simp only [List.forall_mem_cons,List.cons_append,List.nil_append];repeat' (first | exact rfl | apply And.intro | (intro u hu;cases hu;done)))) HB6 bV ?_))
  rintro w7 HB6 k7 z7
  have:=k7.size
  try simp only [zS,Nat.zero_add,Nat.reduceAdd,List.drop_nil] at HB6
  replace HPq:=(HPq.ext e6).keep k7 (by intro h;(try dsimp only at h);(try simp only [au] at h);first | omega)
  refine ac (U (V (O zd (aa (jA Z) (aa (ap zk Z (by first | exact HB6.pv | exact HPq | assumption) Z) ?_)))))
  replace E:=(E.trans e6.keep).step k7 bi
  replace HGq:=(HGq.ext e6).keep k7 aC
  refine ah (eV hb Z (aZ Z) (ae.mono (his _ _ _ E HGq) ?_))
  replace HSx:=(HSx.ext e6).keep k7 aC
  rintro _ w9 ⟨rfl,e9⟩
  have:=e9.size
  replace EL1:=((EL1.trans e6.keep).step k7 bi).trans e9.keep
  replace E:=E.trans e9.keep
  replace HSx:=HSx.ext e9
  replace HPq:=HPq.ext e9
  replace HGq:=HGq.ext e9
  replace HB6:=HB6.ext e9
  refine ac (U (am Z Z (fun hc=>?_) (fun hc=>?_)))
  ·
   refine V (O zd (aa (aQ Z) (aa (bO Z) (ac (U (aw (bz (ay (ay ?_)))))))))
   refine bz (ay (aU Z zq (bB Z) ?_))
   refine ⟨?_,E⟩
   rw [h2,hdr,gJ,if_pos hc]
  refine ar (bE (U (O zd (aa (cn Z Z (by first | exact bn zo zo | rfl)) ?_))))
  refine aa (aQ Z) (ac (U (⟨i + 1,_,rfl,by (repeat (first | exact cD.of_over _ _ _ | refine cD.upd ?_ zq _ | refine cD.overs ?_ zq _)),⟨by first | rfl | exact congrArg (Value.int _) zo | (simp;done),trivial⟩,⟨E,EL1,?_⟩,?_⟩)))
  ·
   refine ⟨by omega,?_⟩
   rw [h2,hdr,gJ,if_neg (by simp [hc])]
  (dsimp only;omega)
 refine cl (bm (bm (cV (U (V (O zd (aa (ad Z) (ac (U ?_)))))))))
 refine aw (aU Z zq (bB Z) ?_)
 refine ⟨?_,E⟩
 rw [h2,List.drop_eq_nil_of_le (by have:=bf hlt;omega)];rfl
theorem tB {w:World} {F G:Nat→Prop} {u kv:Value} {r:cO} {k:List UInt8} {b:Nat} {T:TypeId} (HG1:aY dv w F u r) (hb:dh w b [kv] T) (HS2:Bv w G kv k):ae Tryz.prog 90 #[u,.pointer (some ⟨b,0,none⟩)] w (fun o w'=>o=.bool (ge k r)∧aX w w'):=by
  obtain ⟨a1,c1,a2,c2,rfl,HSf,HSt,hg⟩:=HG1.rg
  obtain ⟨a3,c3,rfl⟩:=HS2.shape
  have HBk:=hb
  refine aL 8 Tryz.func90 Z Z (by simp) ?_
  refine V ?_
  have E:=ao.refl (K:=aP) w
  replace HSf:=HSf.all
  replace HS2:=HS2.all
  refine O zd (ah (aS (aZ Z) ?_))
  rintro b101 w101 zb101 HB101 e101 z101
  have:=e101.size
  try simp only [Value.cells] at HB101
  replace HBk:=HBk.ext e101
  refine aa (ad Z) (ac (U (V (O zd (aa (aA 0 28 Z) (aa (ag zk Z (by first | exact HB101.pv 0 _ rfl | exact HBk.pv 0 _ rfl | assumption)) ?_))))))
  refine aa (ag zk Z (by first | exact HB101.cell rfl | exact HBk.cell rfl | assumption)) ?_
  replace HSf:=HSf.ext e101
  replace HS2:=HS2.ext e101
  refine ah (aW zk (bI Z) (bI Z) (ae.mono (dI HSf HS2) ?_))
  rintro _ w102 ⟨rfl,e102⟩
  have:=e102.size
  refine aa (dl Z) (ac (U (aw (aU Z zq (cE Z) ?_))))
  replace E:=(E.trans e101.keep).trans e102.keep
  exact ⟨rfl,E⟩
theorem wz {w:World} {F G:Nat→Prop} {v kv:Value} {e:Int} {rs:List cO} {k:List UInt8} (HG1:aY li w F v (e,rs)) (HS2:Bv w G kv k):ae Tryz.prog 42 #[v,kv] w (fun o w'=>(∃ x,o=.tuple #[x,.int .i64 (dP (dH rs k))]∧aY dv w' (fun b=>b < w.heap.size) x (kb rs (dH rs k)))∧aX w w'):=by
 obtain ⟨a,c,rfl,HSr,he⟩:=HG1.mp
 obtain ⟨a3,c3,rfl⟩:=HS2.shape
 simp only at HSr he
 refine aL 20 Tryz.func42 Z Z (by simp) ?_
 refine V ?_
 have E:=ao.refl (K:=aP) w
 replace HS2:=HS2.all
 replace HSr:=HSr.all
 refine O zd (ah (aS (aZ Z) ?_))
 rintro b2 w2 zb2 HB2 e2 z2
 have:=e2.size
 try simp only [Value.cells] at HB2
 refine ah (aS (bI Z) ?_)
 rintro b3 w3 zb3 HB3 e3 z3
 have:=e3.size
 try simp only [Value.cells] at HB3
 refine ah (aD (z:=(.agg #[.slice none 0 0,.slice none 0 0,.bool false,.int .i64 0])) (by unfold aE;kernel_rfl) ?_)
 rintro b4 w4 zb4 HB4 e4 z4
 have:=e4.size
 try simp only [Value.cells] at HB4
 replace HB2:=(HB2.ext e3).ext e4
 replace HB3:=HB3.ext e4
 refine aa (ad Z) (ac (U (V (O zd (aa (aA 1 22 Z) (aa (ag zk Z (by first | exact HB4.pv 1 _ rfl | exact HB3.pv 1 _ rfl | exact HB2.pv 1 _ rfl | assumption)) ?_))))))
 refine aa (cC (by simp [ev];rfl) (by simp [ev];rfl)) ?_
 replace HS2:=((HS2.ext e2).ext e3).ext e4
 replace HSr:=((HSr.ext e2).ext e3).ext e4
 refine ah (aW zk (bI Z) (show _=(Value.func _ _ _) from Z) (ae.mono (iC (cap:=#[.pointer (some ⟨b3,0,none⟩)]) HSr zk (fun W u r e h=>tB h (HB3.ext e) (HS2.ext e))) ?_))
 rintro _ w101 ⟨rfl,e101⟩
 have:=e101.size
 rw [ia]
 refine aa (bO Z) (ac (U (V (V (O zd (aa (aQ Z) (aa (bw Z Z) ?_)))))))
 replace E:=(((E.trans e2.keep).trans e3.keep).trans e4.keep).trans e101.keep
 replace HS2:=HS2.ext e101
 replace HSr:=HSr.ext e101
 replace HB2:=HB2.ext e101
 replace HB3:=HB3.ext e101
 replace HB4:=HB4.ext e101
 refine ac (U (am Z Z (fun hc=>?_) (fun hc=>?_)))
 ·
  refine V (O zd (aa (aV (pl:=[(0,1),(1,1),(2,1),(3,1)]) (z:=.agg #[.slice none 0 0,.slice none 0 0,.bool false,.int .i64 0]) (zl:=[.slice none 0 0,.slice none 0 0,.bool false,.int .i64 0]) zk (by unfold aE;kernel_rfl) Z Z (cells:=[_,_,_,_]) Z) ?_))
  refine ah (aq (n:=4) Z Z (aZ Z) zk Z (by first | (simp [cL];done) | (simp only [List.forall_mem_cons,List.cons_append,List.nil_append];repeat' (first | exact rfl | apply And.intro | (intro u hu;cases hu;done)))) HB4 bV ?_)
  rintro w41 HB4 k41 z41
  have:=k41.size
  try simp only [zS,Nat.zero_add,Nat.reduceAdd,List.drop_nil] at HB4
  refine aa (ad Z) (ac (U (aw (ay (bL (n:=4) Z zq zq Z zk HB4.pv Z (bB Z) ?_)))))
  have h:=iW.1 (bl hc)
  rw [h]
  replace E:=E.step k41 bi
  exact ⟨⟨_,rfl,aY.mkRg (bs.nil _ _ _) (bs.nil _ _ _) zo⟩,E⟩
 obtain ⟨i,hi⟩:∃ i,dH rs k=some i:=by
  cases h:dH rs k with
  | none=>rw [h] at hc;simp [dP] at hc
  | some i=>exact ⟨i,rfl⟩
 obtain ⟨hlt,_⟩:=fj hi
 rw [hi]
 obtain ⟨q,cs,hq,hF,_,HPq,hr⟩:=HSr.el (fR hlt)
 subst hq
 obtain ⟨b5,d5,b6,d6,rfl,_,_,hg⟩:=bN hr
 have HGr:aY dv _ _ _ (rs.getD i fV):=⟨_,rfl,hr⟩
 refine ar (U (V (O zd (aa (aA 1 22 Z) (aa (ag zk Z (by first | exact HPq 1 _ rfl | exact aK HPq | exact HB4.pv 1 _ rfl | exact HB3.pv 1 _ rfl | exact HB2.pv 1 _ rfl | assumption)) ?_)))))
 refine aa (aQ Z) (aa (aF (et:=53) (sz:=4) (k:=i) zk zk Z Z (rfl) (hlt)) ?_)
 refine aa (ap zk Z (by first | exact HPq | exact HB4.pv | exact HB3.pv | exact HB2.pv | assumption) Z) ?_
 refine aa (aQ Z) (ah (aq (n:=4) Z Z (aZ Z) zk Z (by first | (simp [cL];done) | (simp only [List.forall_mem_cons,List.cons_append,List.nil_append];repeat' (first | exact rfl | apply And.intro | (intro u hu;cases hu;done)))) HB4 bV ?_))
 rintro w42 HB4 k42 z42
 have:=k42.size
 try simp only [zS,Nat.zero_add,Nat.reduceAdd,List.drop_nil] at HB4
 refine aa (bO Z) (ac (U (aw (bL (n:=4) Z zq zq Z zk HB4.pv Z (bB Z) ?_))))
 replace E:=E.step k42 bi
 replace HGr:=HGr.keep k42 aC
 exact ⟨⟨_,rfl,HGr⟩,E⟩
theorem ru {w:World} {F G:Nat→Prop} {u kv:Value} {r:fy} {k:List UInt8} {b:Nat} {T:TypeId} (HG1:aY eQ w F u r) (hb:dh w b [kv] T) (HS2:Bv w G kv k):ae Tryz.prog 84 #[u,.pointer (some ⟨b,0,none⟩)] w (fun o w'=>o=.bool (decide (r.1.2.1=k))∧aX w w'):=by
  obtain ⟨a1,c1,a2,c2,rfl,HSf,HSt,hi1,hi2,hi3⟩:=HG1.ma
  obtain ⟨a3,c3,rfl⟩:=HS2.shape
  have HBk:=hb
  refine aL 9 Tryz.func84 Z Z (by simp) ?_
  refine V ?_
  have E:=ao.refl (K:=aP) w
  replace HSf:=HSf.all
  replace HS2:=HS2.all
  refine O zd (ah (aS (aZ Z) ?_))
  rintro b101 w101 zb101 HB101 e101 z101
  have:=e101.size
  try simp only [Value.cells] at HB101
  replace HBk:=HBk.ext e101
  refine aa (ad Z) (ac (U (V (O zd (aa (aA 0 46 Z) (aa (aA 1 28 Z) (aa (ag zk Z (by first | exact HB101.pv 1 _ rfl | exact HBk.pv 1 _ rfl | assumption)) ?_)))))))
  refine aa (ag zk Z (by first | exact HB101.cell rfl | exact HBk.cell rfl | assumption)) ?_
  replace HSf:=HSf.ext e101
  replace HS2:=HS2.ext e101
  refine ah (aW zk (bI Z) (bI Z) (ae.mono (dI HSf HS2) ?_))
  rintro _ w102 ⟨rfl,e102⟩
  have:=e102.size
  refine aa (dl Z) (ac (U (aw (aU Z zq (cE Z) ?_))))
  replace E:=(E.trans e101.keep).trans e102.keep
  exact ⟨rfl,E⟩
theorem oV {α:Type} (p:α→Bool):∀ (l:List α) (i:Nat),decide (0≤gJ p l i)=l.any p
  | [],i=>by simp [gJ]
  | r :: l,i=>by
    rw [gJ,List.any_cons]
    cases hp:p r with
    | true=>simp
    | false=>simp only [Bool.false_eq_true,if_false,Bool.false_or];exact oV p l (i + 1)
theorem kj {w:World} {F G:Nat→Prop} {v kv:Value} {s:it} {k:List UInt8} (HG1:aY iK w F v s) (HS2:Bv w G kv k):ae Tryz.prog 40 #[v,kv] w (fun o w'=>o=.bool (ki s.2.2 k)∧aX w w'):=by
  obtain ⟨a,c,a2,c2,rfl,HSr,HSm,he,hn⟩:=HG1.mt
  obtain ⟨a3,c3,rfl⟩:=HS2.shape
  refine aL 10 Tryz.func40 Z Z (by simp) ?_
  refine V ?_
  have E:=ao.refl (K:=aP) w
  replace HS2:=HS2.all
  replace HSm:=HSm.all
  refine O zd (ah (aS (aZ Z) ?_))
  rintro b2 w2 zb2 HB2 e2 z2
  have:=e2.size
  try simp only [Value.cells] at HB2
  refine ah (aS (bI Z) ?_)
  rintro b3 w3 zb3 HB3 e3 z3
  have:=e3.size
  try simp only [Value.cells] at HB3
  replace HB2:=HB2.ext e3
  refine aa (ad Z) (ac (U (V (O zd (aa (aA 3 25 Z) (aa (ag zk Z (by first | exact HB3.pv 3 _ rfl | exact HB2.pv 3 _ rfl | assumption)) ?_))))))
  refine aa (cC (by simp [ev];rfl) (by simp [ev];rfl)) ?_
  replace HS2:=(HS2.ext e2).ext e3
  replace HSm:=(HSm.ext e2).ext e3
  refine ah (aW zk (bI Z) (show _=(Value.func _ _ _) from Z) (ae.mono (mu (cap:=#[.pointer (some ⟨b3,0,none⟩)]) HSm zk (fun W u r e h=>ru h (HB3.ext e) (HS2.ext e))) ?_))
  rintro _ w101 ⟨rfl,e101⟩
  have:=e101.size
  refine aa (fc Z Z) ?_
  refine aa (dl Z) (ac (U (aw (aU Z zq (cE Z) ?_))))
  replace E:=((E.trans e2.keep).trans e3.keep).trans e101.keep
  refine ⟨?_,E⟩
  rw [oV];rfl
end Go.Proofs.YteehplloacefmaaGreat

/- Steps and lemmas for the walks. -/
import Derived.Test.YteehplloacefmaaGreatGe
import Derived.Test.YteehplloacefmaaGreatGz
import Derived.Test.YteehplloacefmaaGreatCy
import Derived.Test.YteehplloacefmaaGreatGy
import Derived.Test.YteehplloacefmaaGreatGc
import Derived.Test.YteehplloacefmaaGreatGn
set_option linter.unusedVariables false
set_option linter.unusedSimpArgs false
namespace Go.Vc
abbrev mN:=Int × List UInt8 × List UInt8 × List UInt8 × List UInt8 × Bool × Int
abbrev qY:Ty mN:=bM (dL .i64) (bM nG (bM nG (bM nG (bM nG (bM j7 (dL .i64))))))
abbrev ov:=Int × Int × mN
abbrev si:Ty ov:=bM (dL .i64) (bM (dL .i64) qY)
abbrev nH:Ty mN:=bM (dL .i64) (bM jy (bM jy (bM jy (bM jy (bM j7 (dL .i64))))))
abbrev sh:Ty ov:=bM (dL .i64) (bM (dL .i64) nH)
abbrev iJ:=Int × List UInt8 × List UInt8 × Bool × Int × Int
abbrev jU:Ty iJ:=bM (dL .i64) (bM nG (bM nG (bM j7 (bM (dL .i64) (dL .i64)))))
abbrev dS:=List UInt8 × Int × Int × List UInt8
abbrev fd:Ty dS:=bM nG (bM (dL .i64) (bM (dL .i64) nG))
abbrev iq:=Int × ov × iJ × List dS × List UInt8 × List UInt8 × Int
abbrev pe:Ty iq:=bM (dL .i64) (bM si (bM jU (bM (dB fd) (bM nG (bM nG (dL .i64))))))
abbrev AkV3:=List UInt8 × List UInt8 × Bool × Int
instance decAk3:DecidableEq AkV3:=inferInstance
instance decAk:DecidableEq mN:=@instDecidableEqProd _ _ inferInstance (@instDecidableEqProd _ _ inferInstance (@instDecidableEqProd _ _ inferInstance decAk3))
instance decRq:DecidableEq ov:=@instDecidableEqProd _ _ inferInstance (@instDecidableEqProd _ _ inferInstance decAk)
abbrev MvV3:=List UInt8 × Bool × Int × Int
instance decMv3:DecidableEq MvV3:=inferInstance
instance decMv:DecidableEq iJ:=@instDecidableEqProd _ _ inferInstance (@instDecidableEqProd _ _ inferInstance decMv3)
instance decIk:DecidableEq dS:=inferInstance
abbrev wJ:=List UInt8 × List UInt8 × Int
instance decCm3:DecidableEq wJ:=inferInstance
instance decCm4:DecidableEq (List dS × wJ):=@instDecidableEqProd _ _ (@instDecidableEqList _ decIk) decCm3
instance decCm:DecidableEq iq:=@instDecidableEqProd _ _ inferInstance (@instDecidableEqProd _ _ decRq (@instDecidableEqProd _ _ decMv decCm4))
abbrev cH (n:Int):Prop:=-9223372036854775808≤n∧n≤9223372036854775807
section
variable {w:World} {F:Nat→Prop} {cs:List Value} {v:Value}
theorem m9 {a:mN} (h:qY.rep w F cs a):∃ a1 c1 a2 c2 a3 c3 a4 c4,cs=[.int .i64 a.1,.slice a1 a.2.1.length c1,.slice a2 a.2.2.1.length c2,.slice a3 a.2.2.2.1.length c3,.slice a4 a.2.2.2.2.1.length c4,.bool a.2.2.2.2.2.1,.int .i64 a.2.2.2.2.2.2]
    ∧ Bv w F (.slice a1 a.2.1.length c1) a.2.1∧Bv w F (.slice a2 a.2.2.1.length c2) a.2.2.1∧Bv w F (.slice a3 a.2.2.2.1.length c3) a.2.2.2.1∧Bv w F (.slice a4 a.2.2.2.2.1.length c4) a.2.2.2.2.1∧cH a.1∧cH a.2.2.2.2.2.2:=by
  obtain ⟨_,_,rfl,⟨rfl,i1⟩,_,_,rfl,h1,_,_,rfl,h2,_,_,rfl,h3,_,_,rfl,h4,k5,_,rfl,h5,rfl,i2⟩:=h
  obtain ⟨a1,c1,rfl,g1⟩:=dO h1
  obtain ⟨a2,c2,rfl,g2⟩:=dO h2
  obtain ⟨a3,c3,rfl,g3⟩:=dO h3
  obtain ⟨a4,c4,rfl,g4⟩:=dO h4
  obtain rfl:k5=[.bool a.2.2.2.2.2.1]:=h5
  exact ⟨a1,c1,a2,c2,a3,c3,a4,c4,rfl,g1,g2,g3,g4,cB i1,cB i2⟩
theorem u4 {v1 v2 v3 v4:Value} {k m:Int} {x y z u:List UInt8} {b:Bool} (h1:Bv w F v1 x) (h2:Bv w F v2 y) (h3:Bv w F v3 z) (h4:Bv w F v4 u) (i1:cH k) (i2:cH m):qY.rep w F [.int .i64 k,v1,v2,v3,v4,.bool b,.int .i64 m] (k,x,y,z,u,b,m):=
  ⟨[_],_,rfl,⟨rfl,co i1⟩,[v1],_,rfl,⟨v1,rfl,h1⟩,[v2],_,rfl,⟨v2,rfl,h2⟩,[v3],_,rfl,⟨v3,rfl,h3⟩,[v4],_,rfl,⟨v4,rfl,h4⟩,[.bool b],[.int .i64 m],rfl,rfl,rfl,co i2⟩
theorem kK {a:iJ} (h:jU.rep w F cs a):∃ a1 c1 a2 c2,cs=[.int .i64 a.1,.slice a1 a.2.1.length c1,.slice a2 a.2.2.1.length c2,.bool a.2.2.2.1,.int .i64 a.2.2.2.2.1,.int .i64 a.2.2.2.2.2]
    ∧ Bv w F (.slice a1 a.2.1.length c1) a.2.1∧Bv w F (.slice a2 a.2.2.1.length c2) a.2.2.1∧cH a.1∧cH a.2.2.2.2.1∧cH a.2.2.2.2.2:=by
  obtain ⟨_,_,rfl,⟨rfl,i1⟩,_,_,rfl,h1,_,_,rfl,h2,k5,_,rfl,h5,_,_,rfl,⟨rfl,i2⟩,rfl,i3⟩:=h
  obtain ⟨a1,c1,rfl,g1⟩:=dO h1
  obtain ⟨a2,c2,rfl,g2⟩:=dO h2
  obtain rfl:k5=[.bool a.2.2.2.1]:=h5
  exact ⟨a1,c1,a2,c2,rfl,g1,g2,cB i1,cB i2,cB i3⟩
theorem kJ {v1 v2:Value} {n o g:Int} {x y:List UInt8} {b:Bool} (h1:Bv w F v1 x) (h2:Bv w F v2 y) (i1:cH n) (i2:cH o) (i3:cH g):jU.rep w F [.int .i64 n,v1,v2,.bool b,.int .i64 o,.int .i64 g] (n,x,y,b,o,g):=
  ⟨[_],_,rfl,⟨rfl,co i1⟩,[v1],_,rfl,⟨v1,rfl,h1⟩,[v2],_,rfl,⟨v2,rfl,h2⟩,[.bool b],_,rfl,rfl,[_],[_],rfl,⟨rfl,co i2⟩,rfl,co i3⟩
theorem eN {a:dS} (h:fd.rep w F cs a):∃ a1 c1 a2 c2,cs=[.slice a1 a.1.length c1,.int .i64 a.2.1,.int .i64 a.2.2.1,.slice a2 a.2.2.2.length c2]
    ∧ Bv w F (.slice a1 a.1.length c1) a.1∧Bv w F (.slice a2 a.2.2.2.length c2) a.2.2.2∧cH a.2.1∧cH a.2.2.1:=by
  obtain ⟨_,_,rfl,h1,_,_,rfl,⟨rfl,i1⟩,_,_,rfl,⟨rfl,i2⟩,h2⟩:=h
  obtain ⟨a1,c1,rfl,g1⟩:=dO h1
  obtain ⟨a2,c2,rfl,g2⟩:=dO h2
  exact ⟨a1,c1,a2,c2,rfl,g1,g2,cB i1,cB i2⟩
theorem pr {v1 v2:Value} {n k:Int} {x y:List UInt8} (h1:Bv w F v1 x) (h2:Bv w F v2 y) (i1:cH n) (i2:cH k):fd.rep w F [v1,.int .i64 n,.int .i64 k,v2] (x,n,k,y):=
  ⟨[v1],_,rfl,⟨v1,rfl,h1⟩,[_],_,rfl,⟨rfl,co i1⟩,[_],_,rfl,⟨rfl,co i2⟩,v2,rfl,h2⟩
theorem pt {a:mN} (h:nH.rep w F cs a):∃ a1 c1 a2 c2 a3 c3 a4 c4,cs=[.int .i64 a.1,.slice a1 a.2.1.length c1,.slice a2 a.2.2.1.length c2,.slice a3 a.2.2.2.1.length c3,.slice a4 a.2.2.2.2.1.length c4,.bool a.2.2.2.2.2.1,.int .i64 a.2.2.2.2.2.2]
    ∧ fO w F (.slice a1 a.2.1.length c1) a.2.1∧fO w F (.slice a2 a.2.2.1.length c2) a.2.2.1∧fO w F (.slice a3 a.2.2.2.1.length c3) a.2.2.2.1∧fO w F (.slice a4 a.2.2.2.2.1.length c4) a.2.2.2.2.1∧cH a.1∧cH a.2.2.2.2.2.2:=by
  obtain ⟨_,_,rfl,⟨rfl,i1⟩,_,_,rfl,h1,_,_,rfl,h2,_,_,rfl,h3,_,_,rfl,h4,k5,_,rfl,h5,rfl,i2⟩:=h
  obtain ⟨a1,c1,rfl,_⟩:=ij h1
  obtain ⟨a2,c2,rfl,_⟩:=ij h2
  obtain ⟨a3,c3,rfl,_⟩:=ij h3
  obtain ⟨a4,c4,rfl,_⟩:=ij h4
  obtain rfl:k5=[.bool a.2.2.2.2.2.1]:=h5
  exact ⟨a1,c1,a2,c2,a3,c3,a4,c4,rfl,h1,h2,h3,h4,cB i1,cB i2⟩
theorem j8 {v1 v2 v3 v4:Value} {k m:Int} {x y z u:List UInt8} {b:Bool} (h1:fO w F v1 x) (h2:fO w F v2 y) (h3:fO w F v3 z) (h4:fO w F v4 u) (i1:cH k) (i2:cH m):nH.rep w F [.int .i64 k,v1,v2,v3,v4,.bool b,.int .i64 m] (k,x,y,z,u,b,m):=
  ⟨[_],_,rfl,⟨rfl,co i1⟩,[v1],_,rfl,h1,[v2],_,rfl,h2,[v3],_,rfl,h3,[v4],_,rfl,h4,[.bool b],[.int .i64 m],rfl,rfl,rfl,co i2⟩
theorem vC:io nH qY:=io.pair (io.rfl _) (io.pair io.by (io.pair io.by (io.pair io.by (io.pair io.by (io.rfl _)))))
theorem vB:io sh si:=io.pair (io.rfl _) (io.pair (io.rfl _) vC)
theorem m8 {a:ov} (h:si.rep w F cs a):∃ a1 c1 a2 c2 a3 c3 a4 c4,cs=[.int .i64 a.1,.int .i64 a.2.1,.int .i64 a.2.2.1,.slice a1 a.2.2.2.1.length c1,.slice a2 a.2.2.2.2.1.length c2,.slice a3 a.2.2.2.2.2.1.length c3,.slice a4 a.2.2.2.2.2.2.1.length c4,.bool a.2.2.2.2.2.2.2.1,.int .i64 a.2.2.2.2.2.2.2.2]
    ∧ aY qY w F (.agg #[.int .i64 a.2.2.1,.slice a1 a.2.2.2.1.length c1,.slice a2 a.2.2.2.2.1.length c2,.slice a3 a.2.2.2.2.2.1.length c3,.slice a4 a.2.2.2.2.2.2.1.length c4,.bool a.2.2.2.2.2.2.2.1,.int .i64 a.2.2.2.2.2.2.2.2]) a.2.2∧cH a.1∧cH a.2.1:=by
  obtain ⟨_,_,rfl,⟨rfl,i1⟩,_,k1,rfl,⟨rfl,i2⟩,hr⟩:=h
  obtain ⟨a1,c1,a2,c2,a3,c3,a4,c4,rfl,_⟩:=m9 hr
  exact ⟨a1,c1,a2,c2,a3,c3,a4,c4,rfl,⟨_,rfl,hr⟩,cB i1,cB i2⟩
theorem aY.ak {a:mN} (h:aY qY w F v a):∃ a1 c1 a2 c2 a3 c3 a4 c4,v=.agg #[.int .i64 a.1,.slice a1 a.2.1.length c1,.slice a2 a.2.2.1.length c2,.slice a3 a.2.2.2.1.length c3,.slice a4 a.2.2.2.2.1.length c4,.bool a.2.2.2.2.2.1,.int .i64 a.2.2.2.2.2.2]
    ∧ Bv w F (.slice a1 a.2.1.length c1) a.2.1∧Bv w F (.slice a2 a.2.2.1.length c2) a.2.2.1∧Bv w F (.slice a3 a.2.2.2.1.length c3) a.2.2.2.1∧Bv w F (.slice a4 a.2.2.2.2.1.length c4) a.2.2.2.2.1∧cH a.1∧cH a.2.2.2.2.2.2:=by
  obtain ⟨cs,rfl,hr⟩:=h
  obtain ⟨a1,c1,a2,c2,a3,c3,a4,c4,rfl,h⟩:=m9 hr
  exact ⟨a1,c1,a2,c2,a3,c3,a4,c4,rfl,h⟩
theorem aY.rq {a:ov} (h:aY si w F v a):∃ a1 c1 a2 c2 a3 c3 a4 c4,v=.agg #[.int .i64 a.1,.int .i64 a.2.1,.int .i64 a.2.2.1,.slice a1 a.2.2.2.1.length c1,.slice a2 a.2.2.2.2.1.length c2,.slice a3 a.2.2.2.2.2.1.length c3,.slice a4 a.2.2.2.2.2.2.1.length c4,.bool a.2.2.2.2.2.2.2.1,.int .i64 a.2.2.2.2.2.2.2.2]
    ∧ aY qY w F (.agg #[.int .i64 a.2.2.1,.slice a1 a.2.2.2.1.length c1,.slice a2 a.2.2.2.2.1.length c2,.slice a3 a.2.2.2.2.2.1.length c3,.slice a4 a.2.2.2.2.2.2.1.length c4,.bool a.2.2.2.2.2.2.2.1,.int .i64 a.2.2.2.2.2.2.2.2]) a.2.2∧cH a.1∧cH a.2.1:=by
  obtain ⟨cs,rfl,hr⟩:=h
  obtain ⟨a1,c1,a2,c2,a3,c3,a4,c4,rfl,h⟩:=m8 hr
  exact ⟨a1,c1,a2,c2,a3,c3,a4,c4,rfl,h⟩
theorem aY.mkRq {k1:List Value} {n c:Int} {x:mN} (h:qY.rep w F k1 x) (i1:cH c) (i2:cH n):aY si w F (.agg (Value.int .i64 c :: .int .i64 n :: k1).toArray) (c,n,x):=
  ⟨_,rfl,[_],_,rfl,⟨rfl,co i1⟩,[_],_,rfl,⟨rfl,co i2⟩,h⟩
theorem aY.mv {a:iJ} (h:aY jU w F v a):∃ a1 c1 a2 c2,v=.agg #[.int .i64 a.1,.slice a1 a.2.1.length c1,.slice a2 a.2.2.1.length c2,.bool a.2.2.2.1,.int .i64 a.2.2.2.2.1,.int .i64 a.2.2.2.2.2]
    ∧ Bv w F (.slice a1 a.2.1.length c1) a.2.1∧Bv w F (.slice a2 a.2.2.1.length c2) a.2.2.1∧cH a.1∧cH a.2.2.2.2.1∧cH a.2.2.2.2.2:=by
  obtain ⟨cs,rfl,hr⟩:=h
  obtain ⟨a1,c1,a2,c2,rfl,h⟩:=kK hr
  exact ⟨a1,c1,a2,c2,rfl,h⟩
theorem aY.ik {a:dS} (h:aY fd w F v a):∃ a1 c1 a2 c2,v=.agg #[.slice a1 a.1.length c1,.int .i64 a.2.1,.int .i64 a.2.2.1,.slice a2 a.2.2.2.length c2]
    ∧ Bv w F (.slice a1 a.1.length c1) a.1∧Bv w F (.slice a2 a.2.2.2.length c2) a.2.2.2∧cH a.2.1∧cH a.2.2.1:=by
  obtain ⟨cs,rfl,hr⟩:=h
  obtain ⟨a1,c1,a2,c2,rfl,h⟩:=eN hr
  exact ⟨a1,c1,a2,c2,rfl,h⟩
end
def t8 (n:Int):Bool:=decide (1≤n) && decide (n≤2147483647)
def dR (k:Int):Bool × Bool × Bool × Bool × Bool:=
  if k=1∨k=3 then (true,false,false,false,false) else if k=2 then (true,false,true,false,false) else if k=4 then (true,false,true,true,false) else if k=5 then (false,true,false,false,true) else (false,false,false,false,false)
def fD:mN→Bool
  | (k,key,to,val,was,no,most)=>
    if k=1∨k=3 then ep key && to.isEmpty && was.isEmpty && !no && decide (most=0) && val.isEmpty
    else if k=2 then ep key && to.isEmpty && was.isEmpty && !no && decide (most=0) && decide (val.length≤40)
    else if k=4 then ep key && decide (val.length≤40) && decide (was.length≤40) && !(no && !was.isEmpty) && to.isEmpty && decide (most=0)
    else if k=5 then decide (key.length≤24) && decide (to.length≤24) && decide (1≤most) && decide (most≤32) && val.isEmpty && was.isEmpty && !no
    else false
def oO (r:ov):Bool:=decide (1≤r.1) && decide (r.1≤4) && t8 r.2.1 && fD r.2.2
def di:iJ→Bool
  | (n,f,t,e,o,g)=>t8 n && decide (f.length≤24) && dJ o && dJ g && !decide (o=g) && (if e then ep t && decide (f < t) else t.isEmpty)
def cS:dS→Bool
  | (key,seq,kind,val)=>decide (1≤key.length) && decide (key.length≤32) && decide (1≤seq) && decide (seq≤2147483647) && decide (val.length≤65536) && (decide (kind=1) || decide (kind=2) && val.isEmpty)
def pJ (a b:dS):Bool:=decide (a.1 < b.1) || decide (a.1=b.1) && decide (b.2.1 < a.2.1)
def ll:List dS→Bool
  | []=>true
  | [a]=>cS a
  | a :: b :: l=>cS a && pJ a b && ll (b :: l)
def ak0:mN:=(0,[],[],[],[],false,0)
def gm:ov:=(0,0,ak0)
def jF:iJ:=(0,[],[],false,0,0)
def gI:iq→iq × Bool
  | (k,rq,mv,en,an,key,g)=>
    if k=1 then ((k,gm,jF,[],[],[],0),true)
    else if k=2 then ((k,rq,jF,[],[],[],0),oO rq)
    else if k=3∨k=5∨k=9∨k=10 then ((k,gm,mv,[],[],[],0),di mv)
    else if k=4 then ((k,gm,mv,en,an,[],0),di mv && ll en && decide (en.length≤65536) && decide (an.length≤524288))
    else if k=6∨k=7 then ((k,gm,jF,[],[],key,0),ep key)
    else if k=8 then ((k,gm,jF,[],[],key,g),decide (key.length≤24) && dJ g)
    else ((k,gm,jF,[],[],[],0),false)
def eh (c:iq):Bool:=(gI c).2 && decide ((gI c).1=c)
def lg (a b:dS):Int:=if fm a.1 b.1=0 then (if b.2.1 < a.2.1 then -1 else if a.2.1 < b.2.1 then 1 else 0) else fm a.1 b.1
theorem tr {x y:List UInt8}:fm x y=0↔x=y:=by
  unfold fm
  split
  · rename_i h;constructor
    · intro h2;omega
    · rintro rfl;exact (nm _ h).elim
  · split
    · simp [*]
    · simp [*]
theorem oX {a b:dS}:lg a b < 0↔pJ a b=true:=by
  unfold lg pJ
  by_cases h:a.1=b.1
  · rw [if_pos (tr.2 h),decide_eq_true h,h]
    simp only [nm,decide_false,Bool.false_or,Bool.true_and,decide_eq_true_eq]
    split
    · omega
    · split <;> omega
  · rw [if_neg (fun h2=>h (tr.1 h2)),decide_eq_false h,ky]
    simp
theorem tq {a b:dS}:0≤lg a b↔pJ a b=false:=by
  have:=@oX a b
  constructor
  · intro h;rw [Bool.eq_false_iff];intro h2;have:=this.2 h2;omega
  · intro h;rcases Int.lt_or_le (lg a b) 0 with h2 | h2
    · rw [this.1 h2] at h;cases h
    · exact h2
def iO (l:List dS) (i:Nat):Bool:=match l[i]? with
  | none=>false
  | some e=>cS e && (match i with | 0=>true | j + 1=>match l[j]? with | none=>true | some d=>pJ d e)
def oZ (l:List dS) (e:dS):Bool:=cS e && (match l.getLast? with | none=>true | some d=>pJ d e)
theorem ur {l:List dS} {i:Nat} {e:dS} (h:l[i]? = some e):oZ (l.take i) e=iO l i:=by
  have hlt:=(List.getElem?_eq_some_iff.1 h).1
  unfold oZ iO
  rw [h]
  cases i with
  | zero=>simp
  | succ j=>
    have:(l.take (j + 1)).getLast? = l[j]?:=by
      rw [List.getLast?_eq_getElem?,List.length_take,Nat.min_eq_left zo,List.getElem?_take];simp
    rw [this]
theorem q7 {a b:dS} {l:List dS}:ll (a :: b :: l)=(cS a && pJ a b && ll (b :: l)):=rfl
theorem lR:∀ (l:List dS),ll l=true↔∀ i,i < l.length→iO l i=true
  | []=>by simp [ll]
  | [a]=>by
    simp only [ll,List.length_cons,List.length_nil]
    constructor
    · intro h i hi
      obtain rfl:i=0:=by omega
      simp [iO,h]
    · intro h
      have:=h 0 zo
      simpa [iO] using this
  | a :: b :: l=>by
    rw [q7,Bool.and_eq_true,Bool.and_eq_true,lR (b :: l)]
    constructor
    · rintro ⟨⟨h1,h2⟩,h3⟩ i hi
      match i,hi with
      | 0,_=>simp [iO,h1]
      | 1,_=>
        have:=h3 0 (by simp)
        simp only [iO,List.getElem?_cons_zero,Bool.and_true] at this
        simp [iO,this,h2]
      | i + 2,hi=>
        have:=h3 (i + 1) (by simp only [List.length_cons] at hi ⊢;omega)
        simpa only [iO,List.getElem?_cons_succ] using this
    · intro h
      have h0:=h 0 (by simp)
      have h1:=h 1 (by simp)
      simp only [iO,List.getElem?_cons_zero,List.getElem?_cons_succ,Bool.and_true] at h0 h1
      rw [Bool.and_eq_true] at h1
      refine ⟨⟨h0,h1.2⟩,fun i hi=>?_⟩
      match i,hi with
      | 0,_=>simp [iO,h1.1]
      | i + 1,hi=>
        have:=h (i + 2) (by simp only [List.length_cons] at hi ⊢;omega)
        simpa only [iO,List.getElem?_cons_succ] using this
def lk (l:List dS):Nat→Nat→Nat
  | _,0=>0
  | i,n + 1=>if iO l i then lk l (i + 1) n + 1 else 0
theorem qf (l:List dS):∀ n i,lk l i n≤n
  | 0,_=>Nat.le_refl _
  | n + 1,i=>by rw [lk];split;(have:=qf l n (i + 1);omega);omega
theorem qe (l:List dS):∀ n i k,k < lk l i n→iO l (i + k)=true
  | 0,_,k,h=>by simp [lk] at h
  | n + 1,i,k,h=>by
    rw [lk] at h
    split at h
    · next hb=>
      cases k with
      | zero=>exact hb
      | succ k=>have:=qe l n (i + 1) k zo;rwa [show i + 1 + k=i + (k + 1) by omega] at this
    · omega
theorem qg (l:List dS):∀ n i,lk l i n < n→iO l (i + lk l i n)=false
  | 0,_,h=>by omega
  | n + 1,i,h=>by
    rw [lk] at h ⊢
    split
    · next hb=>
      rw [if_pos hb] at h
      have:=qg l n (i + 1) zo
      rwa [show i + 1 + lk l (i + 1) n=i + (lk l (i + 1) n + 1) by omega] at this
    · next hb=>simpa using hb
def gW (l:List dS):Nat:=lk l 0 l.length
theorem nK (l:List dS):gW l≤l.length:=qf _ _ _
theorem qh {l:List dS} {i:Nat} (h:i < gW l):iO l i=true:=by have:=qe l _ 0 i h;rwa [Nat.zero_add] at this
theorem qi {l:List dS} (h:gW l < l.length):iO l (gW l)=false:=by have:=qg l _ 0 h;rwa [Nat.zero_add] at this
theorem sx {l:List dS}:decide (gW l=l.length)=ll l:=by
  rw [Bool.eq_iff_iff,lR,decide_eq_true_eq]
  constructor
  · intro h i hi;exact qh zo
  · intro h
    have h1:=nK l
    rcases Nat.lt_or_ge (gW l) l.length with h2 | h2
    · have:=h _ h2;rw [qi h2] at this;cases this
    · omega
end Go.Vc
namespace Go.Vc
theorem aY.rep {α:Type} {t:Ty α} {w:World} {F:Nat→Prop} {cs:List Value} {x:α} (h:aY t w F (.agg cs.toArray) x):t.rep w F cs x:=by
  obtain ⟨cs',hc,hr⟩:=h
  have h1:cs.toArray=cs'.toArray:=Value.agg.inj hc
  have h2:cs=cs':=by simpa using congrArg Array.toList h1
  rw [h2];exact hr
section
variable {w:World} {F:Nat→Prop}
theorem sj {k g:Int} {rq:ov} {mv:iJ} {en:List dS} {an key:List UInt8} {r0 r1 r2 r3 r4 r5 r6 r7 r8 m0 m1 m2 m3 m4 m5 v3 v4 v5:Value} (i0:cH k) (h1:si.rep w F [r0,r1,r2,r3,r4,r5,r6,r7,r8] rq) (h2:jU.rep w F [m0,m1,m2,m3,m4,m5] mv)
    (h3:bs fd w F v3 en) (h4:Bv w F v4 an) (h5:Bv w F v5 key) (i1:cH g) :
    pe.rep w F [.int .i64 k,r0,r1,r2,r3,r4,r5,r6,r7,r8,m0,m1,m2,m3,m4,m5,v3,v4,v5,.int .i64 g] (k,rq,mv,en,an,key,g):=
  ⟨[_],_,rfl,⟨rfl,co i0⟩,[r0,r1,r2,r3,r4,r5,r6,r7,r8],_,rfl,h1,[m0,m1,m2,m3,m4,m5],_,rfl,h2,[v3],_,rfl,⟨v3,rfl,h3⟩,[v4],_,rfl,⟨v4,rfl,h4⟩,[v5],_,rfl,⟨v5,rfl,h5⟩,rfl,co i1⟩
theorem aY.mkCm {k g:Int} {rq:ov} {mv:iJ} {en:List dS} {an key:List UInt8} {r0 r1 r2 r3 r4 r5 r6 r7 r8 m0 m1 m2 m3 m4 m5 v3 v4 v5:Value} (i0:cH k) (h1:aY si w F (.agg #[r0,r1,r2,r3,r4,r5,r6,r7,r8]) rq) (h2:aY jU w F (.agg #[m0,m1,m2,m3,m4,m5]) mv)
    (h3:bs fd w F v3 en) (h4:Bv w F v4 an) (h5:Bv w F v5 key) (i1:cH g) :
    aY pe w F (.agg #[.int .i64 k,r0,r1,r2,r3,r4,r5,r6,r7,r8,m0,m1,m2,m3,m4,m5,v3,v4,v5,.int .i64 g]) (k,rq,mv,en,an,key,g):=
  ⟨_,rfl,sj i0 h1.rep h2.rep h3 h4 h5 i1⟩
theorem eI:aY si w F (.agg #[.int .i64 0,.int .i64 0,.int .i64 0,.slice none 0 0,.slice none 0 0,.slice none 0 0,.slice none 0 0,.bool false,.int .i64 0]) gm:=
  aY.mkRq (u4 (bs.nil _ _ _) (bs.nil _ _ _) (bs.nil _ _ _) (bs.nil _ _ _) ⟨by decide,by decide⟩ ⟨by decide,by decide⟩) ⟨by decide,by decide⟩ ⟨by decide,by decide⟩
theorem fL:aY jU w F (.agg #[.int .i64 0,.slice none 0 0,.slice none 0 0,.bool false,.int .i64 0,.int .i64 0]) jF:=
  ⟨_,rfl,kJ (bs.nil _ _ _) (bs.nil _ _ _) ⟨by decide,by decide⟩ ⟨by decide,by decide⟩ ⟨by decide,by decide⟩⟩
theorem aY.cm {v:Value} {k g:Int} {rq:ov} {mv:iJ} {en:List dS} {an key:List UInt8} (h:aY pe w F v (k,rq,mv,en,an,key,g)) :
    ∃ a1 c1 a2 c2 a3 c3 a4 c4 a5 c5 a6 c6 a7 c7 a8 c8 a9 c9,v=.agg #[.int .i64 k,.int .i64 rq.1,.int .i64 rq.2.1,.int .i64 rq.2.2.1,.slice a1 rq.2.2.2.1.length c1,.slice a2 rq.2.2.2.2.1.length c2,.slice a3 rq.2.2.2.2.2.1.length c3,.slice a4 rq.2.2.2.2.2.2.1.length c4,.bool rq.2.2.2.2.2.2.2.1,.int .i64 rq.2.2.2.2.2.2.2.2,
      .int .i64 mv.1,.slice a5 mv.2.1.length c5,.slice a6 mv.2.2.1.length c6,.bool mv.2.2.2.1,.int .i64 mv.2.2.2.2.1,.int .i64 mv.2.2.2.2.2,.slice a7 en.length c7,.slice a8 an.length c8,.slice a9 key.length c9,.int .i64 g] ∧
      aY si w F (.agg #[.int .i64 rq.1,.int .i64 rq.2.1,.int .i64 rq.2.2.1,.slice a1 rq.2.2.2.1.length c1,.slice a2 rq.2.2.2.2.1.length c2,.slice a3 rq.2.2.2.2.2.1.length c3,.slice a4 rq.2.2.2.2.2.2.1.length c4,.bool rq.2.2.2.2.2.2.2.1,.int .i64 rq.2.2.2.2.2.2.2.2]) rq ∧
      aY jU w F (.agg #[.int .i64 mv.1,.slice a5 mv.2.1.length c5,.slice a6 mv.2.2.1.length c6,.bool mv.2.2.2.1,.int .i64 mv.2.2.2.2.1,.int .i64 mv.2.2.2.2.2]) mv ∧
      bs fd w F (.slice a7 en.length c7) en∧Bv w F (.slice a8 an.length c8) an∧Bv w F (.slice a9 key.length c9) key∧cH k∧cH g:=by
  obtain ⟨cs,rfl,hr⟩:=h
  obtain ⟨_,_,rfl,⟨rfl,i1⟩,_,_,rfl,h1,_,_,rfl,h2,_,_,rfl,⟨v3,rfl,h3⟩,_,_,rfl,⟨v4,rfl,h4⟩,_,_,rfl,⟨v5,rfl,h5⟩,rfl,i2⟩:=hr
  obtain ⟨a1,c1,a2,c2,a3,c3,a4,c4,rfl,_⟩:=m8 h1
  obtain ⟨a5,c5,a6,c6,rfl,_⟩:=kK h2
  obtain ⟨a7,c7,rfl⟩:=h3.shape
  obtain ⟨a8,c8,rfl⟩:=h4.shape
  obtain ⟨a9,c9,rfl⟩:=h5.shape
  exact ⟨a1,c1,a2,c2,a3,c3,a4,c4,a5,c5,a6,c6,a7,c7,a8,c8,a9,c9,rfl,⟨_,rfl,h1⟩,⟨_,rfl,h2⟩,h3,h4,h5,cB i1,cB i2⟩
theorem aY.rqAk {rq:ov} {x0 x1 x2 x3 x4 x5 x6 x7 x8:Value} (h:aY si w F (.agg #[x0,x1,x2,x3,x4,x5,x6,x7,x8]) rq):aY qY w F (.agg #[x2,x3,x4,x5,x6,x7,x8]) rq.2.2:=by
  obtain ⟨_,_,h0,⟨rfl,_⟩,_,_,rfl,⟨rfl,_⟩,hr⟩:=h.rep
  simp only [List.cons_append,List.nil_append,List.cons.injEq] at h0
  obtain ⟨_,_,rfl⟩:=h0
  exact ⟨_,rfl,hr⟩
end
end Go.Vc
namespace Go.Vc
theorem lK {P:Program} {d:Option Tmp} {ty:TypeId} {p:String} {af:Array Edge} {g:Option (Nat × Bool)} {e:Nat→Value} {w:World} {K:Value→World→Prop} {T et bytes:Nat} {x0 x1:Operand} {v0 v1 z:Value} {F:Nat→Prop} {y0 y1:List UInt8} (hk:gj P T et (dB cw).sz bytes=true) (hz:cQ P et 2 [z,z])
    (h0:ev e x0=v0) (h1:ev e x1=v1) (r0:Bv w F v0 y0) (r1:Bv w F v1 y1)
    (k:∀ b w',b=w.heap.size→ck (dB cw) et w' b (fun b=>F b∧b < w.heap.size) (.slice (some ⟨b,0,none⟩) 2 2) [y0,y1]→aX w w'→w'.heap.size=b + 1→K (.slice (some ⟨b,0,none⟩) 2 2) w') :
    bx P ⟨d,.buildSlice T 2 #[(0,x0),(1,x1)],ty,p,af,g⟩ e w K:=by
  refine cz (t:=dB cw) (xs:=[y0,y1]) (cells:=[v0,v1]) (ps:=[(0,v0),(1,v1)]) hk zq zq hz (by simp [h0,h1]) ?_ rfl rfl ?_ k
  · have hsz:(dB cw).sz=1:=rfl
    simp [iG,cG r0.one,cG r1.one,fU,hsz]
  · intro i x hx
    match i,hx with
    | 0,hx=>cases hx;exact ⟨_,rfl,r0⟩
    | 1,hx=>cases hx;exact ⟨_,rfl,r1⟩
theorem jK {w:World} {F:Nat→Prop} {v0 v1:Value} {y0 y1:List UInt8} (r0:Bv w F v0 y0) (r1:Bv w F v1 y1):∀ i x,[y0,y1][i]? = some x→(dB cw).rep w F ((([v0,v1]:List Value).drop (i * (dB cw).sz)).take (dB cw).sz) x:=by
  have hsz:(dB cw).sz=1:=rfl
  rw [hsz]
  intro i x hx
  match i,hx with
  | 0,hx=>cases hx;exact ⟨_,rfl,r0⟩
  | 1,hx=>cases hx;exact ⟨_,rfl,r1⟩
theorem po {P:Program} {d:Option Tmp} {ty:TypeId} {p:String} {af:Array Edge} {g:Option (Nat × Bool)} {e:Nat→Value} {w:World} {K:Value→World→Prop} {T et bytes:Nat} {x0 x1 x2:Operand} {v0 v1 v2 z:Value} {F:Nat→Prop} {y0 y1 y2:List UInt8} (hk:gj P T et (dB cw).sz bytes=true) (hz:cQ P et 3 [z,z,z])
    (h0:ev e x0=v0) (h1:ev e x1=v1) (h2:ev e x2=v2) (r0:Bv w F v0 y0) (r1:Bv w F v1 y1) (r2:Bv w F v2 y2)
    (k:∀ b w',b=w.heap.size→ck (dB cw) et w' b (fun b=>F b∧b < w.heap.size) (.slice (some ⟨b,0,none⟩) 3 3) [y0,y1,y2]→aX w w'→w'.heap.size=b + 1→K (.slice (some ⟨b,0,none⟩) 3 3) w') :
    bx P ⟨d,.buildSlice T 3 #[(0,x0),(1,x1),(2,x2)],ty,p,af,g⟩ e w K:=by
  refine cz (t:=dB cw) (xs:=[y0,y1,y2]) (cells:=[v0,v1,v2]) (ps:=[(0,v0),(1,v1),(2,v2)]) hk zq zq hz (by simp [h0,h1,h2]) ?_ rfl rfl ?_ k
  · have hsz:(dB cw).sz=1:=rfl
    simp [iG,cG r0.one,cG r1.one,cG r2.one,fU,hsz]
  · intro i x hx
    match i,hx with
    | 0,hx=>cases hx;exact ⟨_,rfl,r0⟩
    | 1,hx=>cases hx;exact ⟨_,rfl,r1⟩
    | 2,hx=>cases hx;exact ⟨_,rfl,r2⟩
theorem vd {w:World} {F:Nat→Prop} {v0 v1 v2:Value} {y0 y1 y2:List UInt8} (r0:Bv w F v0 y0) (r1:Bv w F v1 y1) (r2:Bv w F v2 y2):∀ i x,[y0,y1,y2][i]? = some x→(dB cw).rep w F ((([v0,v1,v2]:List Value).drop (i * (dB cw).sz)).take (dB cw).sz) x:=by
  have hsz:(dB cw).sz=1:=rfl
  rw [hsz]
  intro i x hx
  match i,hx with
  | 0,hx=>cases hx;exact ⟨_,rfl,r0⟩
  | 1,hx=>cases hx;exact ⟨_,rfl,r1⟩
  | 2,hx=>cases hx;exact ⟨_,rfl,r2⟩
theorem lJ {P:Program} {d:Option Tmp} {ty:TypeId} {p:String} {af:Array Edge} {g:Option (Nat × Bool)} {e:Nat→Value} {w:World} {K:Value→World→Prop} {T et bytes:Nat} {x0 x1 x2 x3:Operand} {v0 v1 v2 v3 z:Value} {F:Nat→Prop} {y0 y1 y2 y3:List UInt8} (hk:gj P T et (dB cw).sz bytes=true) (hz:cQ P et 4 [z,z,z,z])
    (h0:ev e x0=v0) (h1:ev e x1=v1) (h2:ev e x2=v2) (h3:ev e x3=v3) (r0:Bv w F v0 y0) (r1:Bv w F v1 y1) (r2:Bv w F v2 y2) (r3:Bv w F v3 y3)
    (k:∀ b w',b=w.heap.size→ck (dB cw) et w' b (fun b=>F b∧b < w.heap.size) (.slice (some ⟨b,0,none⟩) 4 4) [y0,y1,y2,y3]→aX w w'→w'.heap.size=b + 1→K (.slice (some ⟨b,0,none⟩) 4 4) w') :
    bx P ⟨d,.buildSlice T 4 #[(0,x0),(1,x1),(2,x2),(3,x3)],ty,p,af,g⟩ e w K:=by
  refine cz (t:=dB cw) (xs:=[y0,y1,y2,y3]) (cells:=[v0,v1,v2,v3]) (ps:=[(0,v0),(1,v1),(2,v2),(3,v3)]) hk zq zq hz (by simp [h0,h1,h2,h3]) ?_ rfl rfl ?_ k
  · have hsz:(dB cw).sz=1:=rfl
    simp [iG,cG r0.one,cG r1.one,cG r2.one,cG r3.one,fU,hsz]
  · intro i x hx
    match i,hx with
    | 0,hx=>cases hx;exact ⟨_,rfl,r0⟩
    | 1,hx=>cases hx;exact ⟨_,rfl,r1⟩
    | 2,hx=>cases hx;exact ⟨_,rfl,r2⟩
    | 3,hx=>cases hx;exact ⟨_,rfl,r3⟩
theorem pn {P:Program} {d:Option Tmp} {ty:TypeId} {p:String} {af:Array Edge} {g:Option (Nat × Bool)} {e:Nat→Value} {w:World} {K:Value→World→Prop} {T et bytes:Nat} {x0 x1 x2 x3 x4 x5:Operand} {v0 v1 v2 v3 v4 v5 z:Value} {F:Nat→Prop} {y0 y1 y2 y3 y4 y5:List UInt8} (hk:gj P T et (dB cw).sz bytes=true) (hz:cQ P et 6 [z,z,z,z,z,z])
    (h0:ev e x0=v0) (h1:ev e x1=v1) (h2:ev e x2=v2) (h3:ev e x3=v3) (h4:ev e x4=v4) (h5:ev e x5=v5) (r0:Bv w F v0 y0) (r1:Bv w F v1 y1) (r2:Bv w F v2 y2) (r3:Bv w F v3 y3) (r4:Bv w F v4 y4) (r5:Bv w F v5 y5)
    (k:∀ b w',b=w.heap.size→ck (dB cw) et w' b (fun b=>F b∧b < w.heap.size) (.slice (some ⟨b,0,none⟩) 6 6) [y0,y1,y2,y3,y4,y5]→aX w w'→w'.heap.size=b + 1→K (.slice (some ⟨b,0,none⟩) 6 6) w') :
    bx P ⟨d,.buildSlice T 6 #[(0,x0),(1,x1),(2,x2),(3,x3),(4,x4),(5,x5)],ty,p,af,g⟩ e w K:=by
  refine cz (t:=dB cw) (xs:=[y0,y1,y2,y3,y4,y5]) (cells:=[v0,v1,v2,v3,v4,v5]) (ps:=[(0,v0),(1,v1),(2,v2),(3,v3),(4,v4),(5,v5)]) hk zq zq hz (by simp [h0,h1,h2,h3,h4,h5]) ?_ rfl rfl ?_ k
  · have hsz:(dB cw).sz=1:=rfl
    simp [iG,cG r0.one,cG r1.one,cG r2.one,cG r3.one,cG r4.one,cG r5.one,fU,hsz]
  · intro i x hx
    match i,hx with
    | 0,hx=>cases hx;exact ⟨_,rfl,r0⟩
    | 1,hx=>cases hx;exact ⟨_,rfl,r1⟩
    | 2,hx=>cases hx;exact ⟨_,rfl,r2⟩
    | 3,hx=>cases hx;exact ⟨_,rfl,r3⟩
    | 4,hx=>cases hx;exact ⟨_,rfl,r4⟩
    | 5,hx=>cases hx;exact ⟨_,rfl,r5⟩
def mS:mN→List UInt8
  | (k,key,to,val,was,no,most)=>aT k.toNat ++ az key ++ de (dR k).2.1 (az to) ++ de (dR k).2.2.1 (az val) ++ de (dR k).2.2.2.1 (az was ++ dk no) ++ de (dR k).2.2.2.2 (aT most.toNat)
def hU:iJ→List UInt8
  | (n,f,t,e,o,g)=>aT n.toNat ++ az f ++ dk e ++ az t ++ aT o.toNat ++ aT g.toNat
def ou:dS→List UInt8
  | (key,seq,kind,val)=>az key ++ aT seq.toNat ++ aT kind.toNat ++ (if kind=1 then az val else [])
def jV (e:dS):List UInt8:=az (ou e)
theorem ec {l:List UInt8} (h:l.length < 18446744073709551616):(az l).length≤l.length + 10:=by
  have:=bA h;rw [az,List.length_append];omega
theorem pj (b:Bool):(dk b).length≤1:=by cases b <;> decide
theorem gO {b:Bool} {l:List UInt8}:(de b l).length≤l.length:=by unfold de;split <;> simp
theorem pN {e:dS} (h:cS e=true):(ou e).length≤65700:=by
  obtain ⟨key,seq,kind,val⟩:=e
  simp only [cS,Bool.and_eq_true,decide_eq_true_eq,Bool.or_eq_true] at h
  obtain ⟨⟨⟨⟨⟨h1,h2⟩,h3⟩,h4⟩,h5⟩,h6⟩:=h
  have b1:=ec (l:=key) zo
  have b2:=ec (l:=val) zo
  have b3:=bA (n:=seq.toNat) zo
  have hk:kind.toNat≤2:=by rcases h6 with h6 | ⟨h6,_⟩ <;> omega
  have b4:=bA (n:=kind.toNat) zo
  simp only [ou,List.length_append]
  split
  · omega
  · simp only [List.length_nil];omega
theorem vJ {a:mN} (h:fD a=true):(mS a).length≤300:=by
  obtain ⟨k,key,to,val,was,no,most⟩:=a
  have hk:1≤k∧k≤5:=by
    simp only [fD] at h
    split at h
    · omega
    · split at h
      · omega
      · split at h
        · omega
        · split at h
          · omega
          · cases h
  have hb:key.length≤24∧to.length≤24∧val.length≤40∧was.length≤40∧0≤most∧most≤32:=by
    have le:∀ (l:List UInt8),l.isEmpty=decide (l.length=0):=fun l=>by cases l <;> simp
    simp only [fD,ep,le] at h
    split at h
    · simp only [Bool.and_eq_true,decide_eq_true_eq] at h;omega
    · split at h
      · simp only [Bool.and_eq_true,decide_eq_true_eq] at h;omega
      · split at h
        · simp only [Bool.and_eq_true,decide_eq_true_eq] at h;omega
        · split at h
          · simp only [Bool.and_eq_true,decide_eq_true_eq] at h;omega
          · cases h
  obtain ⟨g1,g2,g3,g4,g5,g6⟩:=hb
  have b0:=bA (n:=k.toNat) zo
  have b1:=ec (l:=key) zo
  have b2:=ec (l:=to) zo
  have b3:=ec (l:=val) zo
  have b4:=ec (l:=was) zo
  have b5:=pj no
  have b6:=bA (n:=most.toNat) zo
  have o1:=gO (b:=(dR k).2.1) (l:=az to)
  have o2:=gO (b:=(dR k).2.2.1) (l:=az val)
  have o3:=gO (b:=(dR k).2.2.2.1) (l:=az was ++ dk no)
  have o4:=gO (b:=(dR k).2.2.2.2) (l:=aT most.toNat)
  simp only [mS,List.length_append] at o3 ⊢
  omega
theorem qs {k:Int} {key to val was:List UInt8} {no:Bool} {most:Int} (h:fD (k,key,to,val,was,no,most)=true):1≤k∧k≤5∧key.length≤24∧to.length≤24∧val.length≤40∧was.length≤40∧0≤most∧most≤32:=by
  have le:∀ (l:List UInt8),l.isEmpty=decide (l.length=0):=fun l=>by cases l <;> simp
  simp only [fD,ep,le] at h
  split at h
  · simp only [Bool.and_eq_true,decide_eq_true_eq] at h;omega
  · split at h
    · simp only [Bool.and_eq_true,decide_eq_true_eq] at h;omega
    · split at h
      · simp only [Bool.and_eq_true,decide_eq_true_eq] at h;omega
      · split at h
        · simp only [Bool.and_eq_true,decide_eq_true_eq] at h;omega
        · cases h
theorem km {n o g:Int} {f t:List UInt8} {e:Bool} (h:di (n,f,t,e,o,g)=true):1≤n∧n≤2147483647∧f.length≤24∧t.length≤24∧1≤o∧o≤4∧1≤g∧g≤4:=by
  have le:∀ (l:List UInt8),l.isEmpty=decide (l.length=0):=fun l=>by cases l <;> simp
  simp only [di,t8,dJ,ep,le,Bool.and_eq_true,decide_eq_true_eq,Bool.not_eq_true',decide_eq_false_iff_not] at h
  obtain ⟨⟨⟨⟨⟨h1,h2⟩,h3⟩,h4⟩,h5⟩,h6⟩:=h
  split at h6
  · simp only [Bool.and_eq_true,decide_eq_true_eq] at h6;omega
  · simp only [decide_eq_true_eq] at h6;omega
theorem jQ {a:iJ} (h:di a=true):(hU a).length≤200:=by
  obtain ⟨n,f,t,e,o,g⟩:=a
  obtain ⟨g1,g2,g3,g4,g5,g6,g7,g8⟩:=km h
  have b0:=bA (n:=n.toNat) zo
  have b1:=ec (l:=f) zo
  have b2:=ec (l:=t) zo
  have b5:=pj e
  have b6:=bA (n:=o.toNat) zo
  have b7:=bA (n:=g.toNat) zo
  simp only [hU,List.length_append]
  omega
theorem qr {k g:Int} {rq:ov} {mv:iJ} {en:List dS} {an key:List UInt8} (h:eh (k,rq,mv,en,an,key,g)=true):1≤k∧k≤10∧(k=2→oO rq=true)∧(k=3∨k=5∨k=9∨k=10→di mv=true) ∧
    (k=4→di mv=true∧ll en=true∧en.length≤65536∧an.length≤524288)∧(k=6∨k=7→1≤key.length∧key.length≤24)∧(k=8→key.length≤24∧1≤g∧g≤4):=by
  have h:=(Bool.and_eq_true _ _ ▸ h:(gI (k,rq,mv,en,an,key,g)).2=true∧_).1
  simp only [gI] at h
  split at h
  · refine ⟨by omega,by omega,?_,?_,?_,?_,?_⟩ <;> intro h2 <;> omega
  · split at h
    · refine ⟨by omega,by omega,fun _=>h,?_,?_,?_,?_⟩ <;> intro h2 <;> omega
    · split at h
      · refine ⟨by omega,by omega,?_,fun _=>h,?_,?_,?_⟩ <;> intro h2 <;> omega
      · split at h
        · simp only [Bool.and_eq_true,decide_eq_true_eq] at h
          refine ⟨by omega,by omega,?_,?_,fun _=>⟨h.1.1.1,h.1.1.2,h.1.2,h.2⟩,?_,?_⟩ <;> intro h2 <;> omega
        · split at h
          · simp only [ep,Bool.and_eq_true,decide_eq_true_eq] at h
            refine ⟨by omega,by omega,?_,?_,?_,fun _=>h,?_⟩ <;> intro h2 <;> omega
          · split at h
            · simp only [dJ,Bool.and_eq_true,decide_eq_true_eq] at h
              refine ⟨by omega,by omega,?_,?_,?_,?_,fun _=>⟨h.1,h.2.1,by omega⟩⟩ <;> intro h2 <;> omega
            · cases h
theorem oF {l:List dS} (h:ll l=true):∀ e ∈ l,cS e=true:=by
  intro e he
  obtain ⟨i,hi⟩:=List.mem_iff_getElem?.1 he
  have:=(lR l).1 h i (List.getElem?_eq_some_iff.1 hi).1
  unfold iO at this
  rw [hi] at this
  simp only [Bool.and_eq_true] at this
  exact this.1
end Go.Vc
namespace Go.Vc
abbrev ga:Ty iq:=bM (dL .i64) (bM sh (bM jU (bM (dB fd) (bM jy (bM jy (dL .i64))))))
theorem gE:io ga pe:=io.pair (io.rfl _) (io.pair vB (io.pair (io.rfl _) (io.pair (io.rfl _) (io.pair io.by (io.pair io.by (io.rfl _))))))
section
variable {w:World} {F:Nat→Prop}
theorem aY.akF {v:Value} {a:mN} (h:aY nH w F v a):∃ a1 c1 a2 c2 a3 c3 a4 c4,v=.agg #[.int .i64 a.1,.slice a1 a.2.1.length c1,.slice a2 a.2.2.1.length c2,.slice a3 a.2.2.2.1.length c3,.slice a4 a.2.2.2.2.1.length c4,.bool a.2.2.2.2.2.1,.int .i64 a.2.2.2.2.2.2]:=by
  obtain ⟨cs,rfl,hr⟩:=h
  obtain ⟨a1,c1,a2,c2,a3,c3,a4,c4,rfl,h⟩:=pt hr
  exact ⟨a1,c1,a2,c2,a3,c3,a4,c4,rfl⟩
theorem aY.mkRqF {x0 x1 x2 x3 x4 x5 x6:Value} {c n:Int} {a:mN} (h:aY nH w F (.agg #[x0,x1,x2,x3,x4,x5,x6]) a) (i1:cH c) (i2:cH n):aY sh w F (.agg #[.int .i64 c,.int .i64 n,x0,x1,x2,x3,x4,x5,x6]) (c,n,a):=
  ⟨[_,_,x0,x1,x2,x3,x4,x5,x6],rfl,[_],_,rfl,⟨rfl,co i1⟩,[_],_,rfl,⟨rfl,co i2⟩,aY.rep (cs:=[x0,x1,x2,x3,x4,x5,x6]) h⟩
theorem aY.mkCmF {k g:Int} {rq:ov} {mv:iJ} {en:List dS} {an key:List UInt8} {r0 r1 r2 r3 r4 r5 r6 r7 r8 m0 m1 m2 m3 m4 m5 v3 v4 v5:Value} (i0:cH k) (h1:aY sh w F (.agg #[r0,r1,r2,r3,r4,r5,r6,r7,r8]) rq) (h2:aY jU w F (.agg #[m0,m1,m2,m3,m4,m5]) mv)
    (h3:bs fd w F v3 en) (h4:fO w F v4 an) (h5:fO w F v5 key) (i1:cH g) :
    aY ga w F (.agg #[.int .i64 k,r0,r1,r2,r3,r4,r5,r6,r7,r8,m0,m1,m2,m3,m4,m5,v3,v4,v5,.int .i64 g]) (k,rq,mv,en,an,key,g):=
  ⟨[.int .i64 k,r0,r1,r2,r3,r4,r5,r6,r7,r8,m0,m1,m2,m3,m4,m5,v3,v4,v5,.int .i64 g],rfl,[_],_,rfl,⟨rfl,co i0⟩,[r0,r1,r2,r3,r4,r5,r6,r7,r8],_,rfl,aY.rep (cs:=[r0,r1,r2,r3,r4,r5,r6,r7,r8]) h1,[m0,m1,m2,m3,m4,m5],_,rfl,aY.rep (cs:=[m0,m1,m2,m3,m4,m5]) h2,[v3],_,rfl,⟨v3,rfl,h3⟩,[v4],_,rfl,h4,[v5],_,rfl,h5,rfl,co i1⟩
theorem ux:aY nH w F (.agg #[.int .i64 0,.slice none 0 0,.slice none 0 0,.slice none 0 0,.slice none 0 0,.bool false,.int .i64 0]) ak0:=
  ⟨_,rfl,j8 (fO.nil _ _) (fO.nil _ _) (fO.nil _ _) (fO.nil _ _) ⟨by decide,by decide⟩ ⟨by decide,by decide⟩⟩
theorem fP:aY sh w F (.agg #[.int .i64 0,.int .i64 0,.int .i64 0,.slice none 0 0,.slice none 0 0,.slice none 0 0,.slice none 0 0,.bool false,.int .i64 0]) gm:=aY.mkRqF ux ⟨by decide,by decide⟩ ⟨by decide,by decide⟩
def cmZ:iq:=(0,gm,jF,[],[],[],0)
theorem up:aY ga w F (.agg #[.int .i64 0,.int .i64 0,.int .i64 0,.int .i64 0,.slice none 0 0,.slice none 0 0,.slice none 0 0,.slice none 0 0,.bool false,.int .i64 0,.int .i64 0,.slice none 0 0,.slice none 0 0,.bool false,.int .i64 0,.int .i64 0,.slice none 0 0,.slice none 0 0,.slice none 0 0,.int .i64 0]) cmZ:=
  aY.mkCmF ⟨by decide,by decide⟩ fP fL (bs.nil _ _ _) (fO.nil _ _) (fO.nil _ _) ⟨by decide,by decide⟩
end
end Go.Vc

/- Steps and lemmas for the walks. -/
import Derived.Test.YteehplloacefmaaGreatGd
import Derived.Test.YteehplloacefmaaGreatVc36
import Derived.Test.YteehplloacefmaaGreatGx
set_option linter.unusedVariables false
set_option linter.unusedSimpArgs false
namespace Go.Vc
end Go.Vc
namespace Go.Vc
set_option linter.unusedSectionVars false
structure tH (κ:Type) where
  kk:TypeDesc
  enc:κ→Value
  same:∀ a b,Instr.sameNow kk (enc a) (enc b)=some true↔a=b
  some_:∀ a b,∃ c,Instr.sameNow kk (enc a) (enc b)=some c
  bits:∀ a,Instr.sameBits 10000 (enc a) (enc a)=true
  key:∀ (P:Program) (w:World) (t:TypeId) (e:Bool) (a:κ),P.underlying t=some kk→(Instr.checkKey e 10000 t (enc a)).run P w=.ok () w
section
variable {κ:Type} [DecidableEq κ]
def tF (kt:tH κ) (w:World) (b:Nat) (l:List (κ × Value)):Prop:=∃ es clock,w.heap[b]? = some (Obj.map es clock)∧es.toList.map (fun e=>(e.key,e.val))=l.map (fun p=>(kt.enc p.1,p.2))
theorem tF.lt {kt:tH κ} {w:World} {b:Nat} {l:List (κ × Value)} (h:tF kt w b l):b < w.heap.size:=by
  obtain ⟨es,c,h,_⟩:=h
  exact (Array.getElem?_eq_some_iff.1 h).1
theorem tF.keep {kt:tH κ} {w w':World} {K:Nat→Prop} {b:Nat} {l:List (κ × Value)} (h:tF kt w b l) (k:ao K w w') (hk:¬ K b):tF kt w' b l:=by
  have hlt:=h.lt
  obtain ⟨es,c,h,h2⟩:=h
  exact ⟨es,c,by rw [k.block b hlt hk];exact h,h2⟩
theorem tF.ext {kt:tH κ} {w w':World} {b:Nat} {l:List (κ × Value)} (h:tF kt w b l) (k:aX w w'):tF kt w' b l:=h.keep k (fun x=>x)
theorem tF.turn {kt:tH κ} {B:Nat} {w w':World} {b:Nat} {l:List (κ × Value)} (h:tF kt w b l) (t:fY B w w') (hb:b < B):tF kt w' b l:=by
  obtain ⟨K,k,hK⟩:=t
  exact h.keep k (fun hk=>by have:=(hK b h.lt hk).1;omega)
section
variable {P:Program} {d:Option Tmp} {ty:TypeId} {p:String} {af:Array Edge} {g:Option (Nat × Bool)} {e:Nat→Value} {w:World} {x y c:Operand} {K:Value→World→Prop}
end
end
end Go.Vc
namespace Go.Vc
section
variable {P:Program} {N:Nat} {fn:Func} {e:Nat→Value} {w:World} {R:Value→World→Prop} {v2 v3:Value}
end
end Go.Vc
namespace Go.Vc
end Go.Vc

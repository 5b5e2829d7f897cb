/- Steps and lemmas for the walks. -/
import Derived.Test.YteehplloacefmaaGreatNFr
import Derived.Test.YteehplloacefmaaGreatGy
import Derived.Test.YteehplloacefmaaGreatGc
set_option linter.unusedVariables false
set_option linter.unusedSimpArgs false
namespace Go.Vc
abbrev PrV:=List UInt8 × List UInt8
abbrev tPr:Ty PrV:=bM nG nG
abbrev AnV:=Int × List PrV × List UInt8
abbrev tAn:Ty AnV:=bM (dL .i64) (bM (dB tPr) nG)
theorem qX {w:World} {F:Nat→Prop} {cs:List Value} {a:AnV} (h:tAn.rep w F cs a):∃ a1 c1 a2 c2,cs=[.int .i64 a.1,.slice a1 a.2.1.length c1,.slice a2 a.2.2.length c2]∧bs tPr w F (.slice a1 a.2.1.length c1) a.2.1∧Bv w F (.slice a2 a.2.2.length c2) a.2.2∧rV a.1:=by
  obtain ⟨_,_,rfl,⟨rfl,h0⟩,_,_,rfl,⟨v1,rfl,h1⟩,v2,rfl,h2⟩:=h
  obtain ⟨a1,c1,rfl⟩:=h1.shape
  obtain ⟨a2,c2,rfl⟩:=h2.shape
  exact ⟨a1,c1,a2,c2,rfl,h1,h2,cB h0⟩
theorem aY.an {w:World} {F:Nat→Prop} {v:Value} {a:AnV} (h:aY tAn w F v a):∃ a1 c1 a2 c2,v=.agg #[.int .i64 a.1,.slice a1 a.2.1.length c1,.slice a2 a.2.2.length c2]∧bs tPr w F (.slice a1 a.2.1.length c1) a.2.1∧Bv w F (.slice a2 a.2.2.length c2) a.2.2∧rV a.1:=by
  obtain ⟨cs,rfl,hr⟩:=h
  obtain ⟨a1,c1,a2,c2,rfl,h⟩:=qX hr
  exact ⟨a1,c1,a2,c2,rfl,h⟩
theorem aY.imp {α:Type} {s t:Ty α} (h:io s t) {w:World} {F:Nat→Prop} {v:Value} {x:α} (hv:aY s w F v x):aY t w F v x:=by
  obtain ⟨cs,hcs,hr⟩:=hv;exact ⟨cs,hcs,h.2 _ _ _ _ hr⟩
end Go.Vc

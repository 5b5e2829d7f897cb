/- Steps and lemmas for the walks. -/
import Derived.Test.YteehplloacefmaaGreatGe
import Derived.Test.YteehplloacefmaaGreatGx
import Derived.Test.YteehplloacefmaaGreatGc
import Derived.Test.YteehplloacefmaaGreatGd
import Derived.Test.YteehplloacefmaaGreatVc24
import Derived.Test.YteehplloacefmaaGreatVcR
set_option linter.unusedVariables false
set_option linter.unusedSimpArgs false
set_option maxRecDepth 100000
namespace Go.Vc
abbrev tR:=Int × List UInt8
abbrev wd:Ty tR:=bM (dL .i64) nG
structure Ms where
  kind:Int
  fr:Int
  to:Int
  grp:Int
  term:Int
  idx:Int
  lt:Int
  com:Int
  ents:List tR
  ok:Bool
  snap:List UInt8
abbrev wP:=Int × Int × Int × Int × Int × Int × Int × Int × List tR × Bool × List UInt8
abbrev tMsT:Ty wP:=bM (dL .i64) (bM (dL .i64) (bM (dL .i64) (bM (dL .i64) (bM (dL .i64) (bM (dL .i64) (bM (dL .i64) (bM (dL .i64) (bM (dB wd) (bM j7 nG)))))))))
def Ms.tup (m:Ms):wP:=(m.kind,m.fr,m.to,m.grp,m.term,m.idx,m.lt,m.com,m.ents,m.ok,m.snap)
def msOf (x:wP):Ms:=⟨x.1,x.2.1,x.2.2.1,x.2.2.2.1,x.2.2.2.2.1,x.2.2.2.2.2.1,x.2.2.2.2.2.2.1,x.2.2.2.2.2.2.2.1,x.2.2.2.2.2.2.2.2.1,x.2.2.2.2.2.2.2.2.2.1,x.2.2.2.2.2.2.2.2.2.2⟩
abbrev tMs:Ty Ms:=wb tMsT Ms.tup
abbrev rV (n:Int):Prop:=-9223372036854775808≤n∧n≤9223372036854775807
structure Ms.Wf (m:Ms):Prop where
  kind:rV m.kind
  fr:rV m.fr
  to:rV m.to
  grp:rV m.grp
  term:rV m.term
  idx:rV m.idx
  lt:rV m.lt
  com:rV m.com
theorem qV {w:World} {F:Nat→Prop} {cs:List Value} {m:Ms} (h:tMs.rep w F cs m):∃ a1 c1 a2 c2,cs=[.int .i64 m.kind,.int .i64 m.fr,.int .i64 m.to,.int .i64 m.grp,.int .i64 m.term,.int .i64 m.idx,.int .i64 m.lt,.int .i64 m.com,.slice a1 m.ents.length c1,.bool m.ok,.slice a2 m.snap.length c2]∧bs wd w F (.slice a1 m.ents.length c1) m.ents∧Bv w F (.slice a2 m.snap.length c2) m.snap∧m.Wf:=by
  obtain ⟨_,_,rfl,⟨rfl,h1⟩,_,_,rfl,⟨rfl,h2⟩,_,_,rfl,⟨rfl,h3⟩,_,_,rfl,⟨rfl,h4⟩,_,_,rfl,⟨rfl,h5⟩,_,_,rfl,⟨rfl,h6⟩,_,_,rfl,⟨rfl,h7⟩,_,_,rfl,⟨rfl,h8⟩,_,_,rfl,⟨v1,rfl,g1⟩,k5,k6,rfl,h9,h10⟩:=h
  obtain ⟨a1,c1,rfl⟩:=g1.shape
  obtain ⟨a2,c2,rfl,g2⟩:=dO h10
  obtain rfl:k5=[.bool m.ok]:=h9
  exact ⟨a1,c1,a2,c2,rfl,g1,g2,cB h1,cB h2,cB h3,cB h4,cB h5,cB h6,cB h7,cB h8⟩
theorem aY.ms {w:World} {F:Nat→Prop} {v:Value} {m:Ms} (h:aY tMs w F v m):∃ a1 c1 a2 c2,v=.agg #[.int .i64 m.kind,.int .i64 m.fr,.int .i64 m.to,.int .i64 m.grp,.int .i64 m.term,.int .i64 m.idx,.int .i64 m.lt,.int .i64 m.com,.slice a1 m.ents.length c1,.bool m.ok,.slice a2 m.snap.length c2]∧bs wd w F (.slice a1 m.ents.length c1) m.ents∧Bv w F (.slice a2 m.snap.length c2) m.snap∧m.Wf:=by
  obtain ⟨cs,rfl,hr⟩:=h
  obtain ⟨a1,c1,a2,c2,rfl,h⟩:=qV hr
  exact ⟨a1,c1,a2,c2,rfl,h⟩
theorem qW {w:World} {F:Nat→Prop} {cs:List Value} {r:tR} (h:wd.rep w F cs r):∃ a c,cs=[.int .i64 r.1,.slice a r.2.length c]∧Bv w F (.slice a r.2.length c) r.2∧rV r.1:=by
  obtain ⟨_,_,rfl,⟨rfl,h1⟩,h2⟩:=h
  obtain ⟨a,c,rfl,g⟩:=dO h2
  exact ⟨a,c,rfl,g,cB h1⟩
theorem aY.en {w:World} {F:Nat→Prop} {v:Value} {r:tR} (h:aY wd w F v r):∃ a c,v=.agg #[.int .i64 r.1,.slice a r.2.length c]∧Bv w F (.slice a r.2.length c) r.2∧rV r.1:=by
  obtain ⟨cs,rfl,hr⟩:=h
  obtain ⟨a,c,rfl,h⟩:=qW hr
  exact ⟨a,c,rfl,h⟩
end Go.Vc
namespace Go.Vc
deriving instance DecidableEq for Ms
end Go.Vc
namespace Go.Vc
end Go.Vc
namespace Go.Vc
end Go.Vc
namespace Go.Vc
def oU {α:Type} (p:α→Bool):List α→Nat→Int
  | [],_=>-1
  | x :: l,i=>if p x=true then (i:Int) else oU p l (i + 1)
theorem oT {α:Type} (p:α→Bool):∀ (l:List α) (i:Nat),decide (0≤oU p l i)=l.any p
  | [],i=>rfl
  | x :: l,i=>by
    rw [oU,List.any_cons]
    cases h:p x
    · rw [if_neg (by simp),oT p l];rfl
    · rw [if_pos rfl];simp
end Go.Vc
namespace Go.Vc
end Go.Vc
namespace Go.Vc
end Go.Vc
namespace Go.Vc
end Go.Vc
namespace Go.Vc
end Go.Vc
namespace Go.Vc
end Go.Vc
namespace Go.Vc
end Go.Vc
namespace Go.Vc
theorem bs.cap {α:Type} {t:Ty α} {w:World} {F:Nat→Prop} {a:Option Addr} {n c:Nat} {xs:List α} (h:bs t w F (.slice a n c) xs):n≤c∧c≤9223372036854775807:=by
  obtain ⟨a',c',hv,h1,h2,h3,h4⟩:=h
  cases hv
  exact ⟨h1,by simpa [maxLen] using h2⟩
end Go.Vc
namespace Go.Vc
theorem ck.ne_blk {α:Type} {t:Ty α} {e T:TypeId} {w:World} {B n c b:Nat} {F:Nat→Prop} {q:Addr} {xs:List α} {cs:List Value} (h:ck t e w B F (.slice (some q) n c) xs) (hb:dh w b cs T) (hne:e≠T):q.block≠b:=by
  obtain ⟨cells,⟨_,h1⟩,_⟩:=h
  rcases h1 with ⟨h0,_⟩ | ⟨g,cap,cur,hv,_,hg,_⟩
  · cases h0
  · simp only [Value.slice.injEq,Option.some.injEq] at hv
    obtain ⟨rfl,_,rfl⟩:=hv
    intro he
    dsimp only at he
    subst he
    have hb':dh w g cur.toList e:=by unfold dh;simpa using hg
    rw [dh] at hb hb'
    rw [hb] at hb'
    simp only [Option.some.injEq,Obj.cells.injEq] at hb'
    exact hne hb'.2.1.symm
theorem bs.just {w:World} {F:Nat→Prop} {q:Addr} {n c:Nat} {xs:List UInt8} (h:bs cw w F (.slice (some q) n c) xs):bs cw w (fun i=>i=q.block) (.slice (some q) n c) xs:=by
  obtain ⟨a',c',hv,h1,h2,h3,h4⟩:=h
  cases hv
  refine ⟨_,_,rfl,h1,h2,h3,fun i x hx=>?_⟩
  obtain ⟨q',cs,hq,hF,hp,hr⟩:=h4 i x hx
  cases hq
  exact ⟨q,cs,rfl,rfl,hp,hr⟩
def de (b:Bool) (x:List UInt8):List UInt8:=if b=true then x else []
end Go.Vc
namespace Go.Vc
theorem nM {w:World} {F:Nat→Prop} {v:Value} {y:List UInt8} (h:Bv w F v y):(dB cw).rep w F v.cells.toList y:=by
  rw [cG h.one];exact ⟨_,rfl,h⟩
end Go.Vc
namespace Go.Vc
end Go.Vc
namespace Go.Vc
open Go.ChangeShapes Go.WideShapes Go.ChangeAt Go.RowKit
end Go.Vc
namespace Go.Vc
end Go.Vc
namespace Go.Vc
open Go.ChangeShapes Go.WideShapes Go.ChangeAt Go.RowKit
end Go.Vc
namespace Go.Vc
theorem ug {m m2:List Nat} (h:m2.all (sU m)=true) {i:Nat} (hi:sU m2 i=true):sU m i=true:=by
  unfold sU at hi
  rw [List.any_eq_true] at hi
  obtain ⟨x,hx,he⟩:=hi
  have:=List.all_eq_true.1 h x hx
  have hxi:i=x:=Nat.eq_of_beq_eq_true he
  rw [hxi];exact this
theorem cD.overs {m m2:List Nat} {e e':Nat→Value} (h:cD m e e') (hs:m2.all (sU m)=true) (j:Nat→Value):cD m e (Vc.over e' m2 j):=fun i hi=>by
  cases h2:sU m2 i with
  | true=>rw [ug hs h2] at hi;cases hi
  | false=>simp only [Vc.over,h2,cond_false];exact h i hi
end Go.Vc

/- Steps and lemmas for the walks. -/
import Derived.Test.YteehplloacefmaaGreatGx
set_option linter.unusedVariables false
set_option linter.unusedSimpArgs false
namespace Go.Vc
def tS (a b c:Nat) (R:Nat→World→Prop) (done:Nat→Bool) (ab:Nat→Value) (w:World):Prop:=R (if done c=true then 3 else if done b=true then 2 else if done a=true then 1 else 0) w
section
variable {a b c:Nat} {R:Nat→World→Prop} {done:Nat→Bool} {ab:Nat→Value} {w:World} {ops:Array Oper}
theorem tS.start (h:R 0 w) (ha:done a=false) (hb:done b=false) (hc:done c=false):tS a b c R done ab w:=by
  unfold tS;rw [if_neg (by simp [hc]),if_neg (by simp [hb]),if_neg (by simp [ha])];exact h
theorem nX {k i:Nat} (h:i≠k):eT done k i=done i:=by simp [eT,h]
theorem vE {k:Nat}:eT done k k=true:=by simp [eT]
theorem tS.src {k:Nat} {v:Value} (j:tS a b c R done ab w) (ha:a≠k) (hb:b≠k) (hc:c≠k):tS a b c R (eT done k) (cA ab k v) w:=by
  unfold tS at *;rw [nX ha,nX hb,nX hc];exact j
theorem tS.no {a b:Nat} (hcl:gg ops done) (hab:∃ o,ops[b]? = some o∧bq o a=true) (ha:done a=false):done b=false:=by
  obtain ⟨o,ho,he⟩:=hab
  cases h:done b with
  | false=>rfl
  | true=>have:=hcl b o h ho a he;rw [ha] at this;cases this
theorem tS.fin (j:tS a b c R (fun _=>true) ab w):R 3 w:=j
end
end Go.Vc
namespace Go.Vc
def ir (a:Nat) (R0:World→Prop) (R1:Value→World→Prop) (done:Nat→Bool) (ab:Nat→Value) (w:World):Prop:=if done a=true then R1 (ab a) w else R0 w
section
variable {a:Nat} {R0:World→Prop} {R1:Value→World→Prop} {done:Nat→Bool} {ab:Nat→Value} {w:World}
theorem ir.start (h:R0 w) (ha:done a=false):ir a R0 R1 done ab w:=by
  unfold ir;rw [if_neg (by simp [ha])];exact h
theorem ir.src {k:Nat} {v:Value} (j:ir a R0 R1 done ab w) (ha:a≠k):ir a R0 R1 (eT done k) (cA ab k v) w:=by
  unfold ir at *;rw [nX ha,show cA ab k v a=ab a from by simp [cA,ha]];exact j
theorem ir.st (j:ir a R0 R1 done ab w) (hd:done a=false):R0 w∧∀ v w',R1 v w'→ir a R0 R1 (eT done a) (cA ab a v) w':=by
  unfold ir at *
  rw [if_neg (by simp [hd])] at j
  refine ⟨j,fun v w' h=>?_⟩
  rw [vE,if_pos rfl,show cA ab a v a=v from by simp [cA]];exact h
theorem ir.fin (j:ir a R0 R1 (fun _=>true) ab w):R1 (ab a) w:=j
end
end Go.Vc

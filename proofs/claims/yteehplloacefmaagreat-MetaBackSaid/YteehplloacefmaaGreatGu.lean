/- Steps and lemmas for the walks. -/
import Derived.Test.YteehplloacefmaaGreatGw
import Derived.Test.YteehplloacefmaaGreatGd
import Derived.Test.YteehplloacefmaaGreatGc
set_option linter.unusedVariables false
set_option linter.unusedSimpArgs false
set_option maxRecDepth 100000
namespace Go.Proofs.YteehplloacefmaaGreat
open Go.Vc
abbrev nSl:Nat:=28
theorem jw {α β:Type} {t:Ty α} {t':Ty β} {e:TypeId} {w0 w:World} {B:Nat} {F G:Nat→Prop} {v:Value} {ys:List α} (o:ck t e w0 B F v ys) (hm:∀ b,G b→w0.heap.size≤b) (hB:B≤w0.heap.size) :
    ∀ cs x,t'.rep w G cs x→t'.rep w (fun b=>B≤b∧v.ownBlock≠some b) cs x:=fun cs x h=>
  t'.mono h fun b _ hb=>⟨Nat.le_trans hB (hm b hb),fun he=>by have:=(o.own_lt he).2;have:=hm b hb;omega⟩
def bQ {α:Type} (sp:α→List UInt8) (xs:List α):List UInt8:=aT xs.length ++ (xs.map sp).flatten
def bp {α:Type} (ρ:List UInt8→Except Int (α × List UInt8)):Nat→List UInt8→Except Int (List α × List UInt8)
  | 0,l=>.ok ([],l)
  | n + 1,l=>match ρ l with
    | .error e=>.error e
    | .ok (x,l2)=>match bp ρ n l2 with
      | .error e=>.error e
      | .ok (xs,l3)=>.ok (x :: xs,l3)
def je {α:Type} (xs:List α):Except Int (List α × List UInt8)→Except Int (List α × List UInt8)
  | .error e=>.error e
  | .ok (ys,l)=>.ok (xs ++ ys,l)
theorem kR {α:Type} (r:Except Int (List α × List UInt8)):je [] r=r:=by cases r <;> rfl
theorem kM {α:Type} {ρ:List UInt8→Except Int (α × List UInt8)} {n:Nat} {l l2:List UInt8} {x:α} {xs:List α} (h:ρ l=.ok (x,l2)):je xs (bp ρ (n + 1) l)=je (xs ++ [x]) (bp ρ n l2):=by
  rw [bp,h]
  simp only []
  cases bp ρ n l2 with
  | error e=>rfl
  | ok q=>simp [je]
theorem jN {α:Type} {ρ:List UInt8→Except Int (α × List UInt8)} {n:Nat} {l:List UInt8} {e:Int} {xs:List α} (h:ρ l=.error e):je xs (bp ρ (n + 1) l)=.error e:=by
  rw [bp,h];rfl
theorem eL {α:Type} {t:Ty α} {et eR:TypeId} {w w':World} {b:Nat} {F:Nat→Prop} {l:List UInt8} {q:Except Int (List α × List UInt8)} {r:Value} (h:od t et eR w w' b F l q r) :
    ∃ (a:Option Addr) (c:Nat) (e:Int) (xs:List α) (l2:List UInt8),r=.tuple #[.slice a xs.length c,.int .i64 e]∧ck t et w' w.heap.size (fun k=>w.heap.size≤k) (.slice a xs.length c) xs∧Rd eR w' b F l2∧((e=0∧q=.ok (xs,l2))∨(e≠0∧xs=[]∧l2=l∧a=none∧c=0∧q=.error e)):=by
  match q,h with
  | .ok (x,l2),⟨a,c,hr,h1,h2⟩=>exact ⟨a,c,0,x,l2,hr,h1,h2,.inl ⟨rfl,rfl⟩⟩
  | .error e,⟨he,hr,h2⟩=>exact ⟨none,0,e,[],l,hr,ck.nil _ _ _ _ _,h2,.inr ⟨he,rfl,rfl,rfl,rfl,rfl⟩⟩
theorem k0 {α:Type} {ρ:List UInt8→Except Int (α × List UInt8)} {sp:α→List UInt8} (h:∀ l x r,ρ l=.ok (x,r)→l=sp x ++ r):∀ (n:Nat) (l:List UInt8) (xs:List α) (r:List UInt8),bp ρ n l=.ok (xs,r)→xs.length=n∧l=(xs.map sp).flatten ++ r
  | 0,l,xs,r,h1=>by cases h1;simp
  | n + 1,l,xs,r,h1=>by
    rw [bp] at h1
    cases hq:ρ l with
    | error e=>rw [hq] at h1;cases h1
    | ok q=>
      obtain ⟨x,l2⟩:=q
      rw [hq] at h1;simp only [] at h1
      cases hq2:bp ρ n l2 with
      | error e=>rw [hq2] at h1;cases h1
      | ok q2=>
        obtain ⟨ys,l3⟩:=q2
        rw [hq2] at h1;simp only [] at h1
        cases h1
        obtain ⟨h2,h3⟩:=k0 h n l2 ys _ hq2
        exact ⟨by simp [h2],by rw [h _ _ _ hq,h3];simp⟩
end Go.Proofs.YteehplloacefmaaGreat

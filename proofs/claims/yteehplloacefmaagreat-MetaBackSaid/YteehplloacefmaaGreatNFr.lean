/- Steps and lemmas for the walks. -/
import Derived.Test.YteehplloacefmaaGreatGn
import Derived.Test.YteehplloacefmaaGreatVc36
set_option linter.unusedVariables false
set_option linter.unusedSimpArgs false
namespace Go.Vc
abbrev uN (tE:Ty tR):Ty wP:=bM (dL .i64) (bM (dL .i64) (bM (dL .i64) (bM (dL .i64) (bM (dL .i64) (bM (dL .i64) (bM (dL .i64) (bM (dL .i64) (bM (dB tE) (bM j7 jy)))))))))
abbrev pq (tE:Ty tR):Ty Ms:=wb (uN tE) Ms.tup
theorem iV:Pk (dL .i64):=vi zq
theorem t5 {tE:Ty tR} (h:Pk tE):Pk (pq tE):=by
  intro w w' F cs x cs' hr p hc
  have h1:Pk (uN tE):=fQ iV (fQ iV (fQ iV (fQ iV (fQ iV (fQ iV (fQ iV (fQ iV (fQ (wp h) (fQ t6 wq)))))))))
  obtain ⟨x',hx⟩:=h1 w w' F cs _ cs' hr p hc
  exact ⟨msOf x',hx⟩
theorem lM {tE:Ty tR} {w:World} {F:Nat→Prop} {cs:List Value} {m:Ms} (h:(pq tE).rep w F cs m):∃ a1 c1 a2 c2,cs=[.int .i64 m.kind,.int .i64 m.fr,.int .i64 m.to,.int .i64 m.grp,.int .i64 m.term,.int .i64 m.idx,.int .i64 m.lt,.int .i64 m.com,.slice a1 m.ents.length c1,.bool m.ok,.slice a2 m.snap.length c2]∧bs tE w F (.slice a1 m.ents.length c1) m.ents∧jy.rep w F [.slice a2 m.snap.length c2] m.snap∧m.Wf:=by
  obtain ⟨_,_,rfl,⟨rfl,h1⟩,_,_,rfl,⟨rfl,h2⟩,_,_,rfl,⟨rfl,h3⟩,_,_,rfl,⟨rfl,h4⟩,_,_,rfl,⟨rfl,h5⟩,_,_,rfl,⟨rfl,h6⟩,_,_,rfl,⟨rfl,h7⟩,_,_,rfl,⟨rfl,h8⟩,_,_,rfl,⟨v1,rfl,g1⟩,k5,k6,rfl,h9,h10⟩:=h
  obtain ⟨a1,c1,rfl⟩:=g1.shape
  obtain ⟨a2,c2,rfl,g2⟩:=ij h10
  obtain rfl:k5=[.bool m.ok]:=h9
  exact ⟨a1,c1,a2,c2,rfl,g1,h10,cB h1,cB h2,cB h3,cB h4,cB h5,cB h6,cB h7,cB h8⟩
theorem ck.byF {e:TypeId} {w:World} {B:Nat} {F:Nat→Prop} {v:Value} {xs:List UInt8} (h:ck cw e w B F v xs):jy.rep w (fun b=>B≤b∨F b) [v] xs:=by
  refine ⟨v,rfl,h.view,fun hne a n c hv=>?_⟩
  obtain ⟨cells,h1,h2⟩:=h
  rcases h1.2 with ⟨h0,_⟩ | ⟨g,cap,cur,h0,hB,hg,h3⟩
  · rw [h0] at hv;cases hv
  · rw [h0] at hv;cases hv;exact ⟨_,_,hg⟩
theorem ck.poke {tE:Ty tR} (hE:Pk tE) {e:TypeId} {w w':World} {B:Nat} {F K:Nat→Prop} {v:Value} {ms:List Ms} (h:ck (pq tE) e w B F v ms) (p:uC w w') (k:ao K w w') (ho:∀ b,v.ownBlock=some b→¬ K b) :
    ∃ ms':List Ms,ms'.length=ms.length∧(∀ (i:Nat) (m m':Ms),ms[i]? = some m→ms'[i]? = some m'→m'.snap.length=m.snap.length)∧ck (pq tE) e w' B F v ms':=by
  obtain ⟨cells,h1,h2⟩:=h
  obtain ⟨ms',hl,hx⟩:=jb (P:=fun i m'=>(pq tE).rep w' (fun b=>F b∧v.ownBlock≠some b) ((cells.drop (i * (pq tE).sz)).take (pq tE).sz) m') ms.length (fun i hi=>t5 hE w w' _ _ _ _ (h2 i _ (List.getElem?_eq_getElem hi)) p (jJ.refl _))
  refine ⟨ms',hl,fun i m m' hm hm'=>?_,cells,⟨by rw [hl];exact h1.1,?_⟩,hx⟩
  · obtain ⟨a1,c1,a2,c2,e1,_⟩:=lM (h2 i m hm)
    obtain ⟨b1,d1,b2,d2,e2,_⟩:=lM (hx i m' hm')
    rw [e1] at e2
    simp only [List.cons.injEq,Value.slice.injEq] at e2
    exact e2.2.2.2.2.2.2.2.2.2.2.1.2.1.symm
  · rw [hl]
    rcases h1.2 with h0 | ⟨g,cap,cur,rfl,hB,hg,h3⟩
    · exact .inl h0
    · refine .inr ⟨g,cap,cur,rfl,hB,?_,h3⟩
      rw [k.block g (Array.getElem?_eq_some_iff.1 hg).1 (ho g rfl)];exact hg
end Go.Vc

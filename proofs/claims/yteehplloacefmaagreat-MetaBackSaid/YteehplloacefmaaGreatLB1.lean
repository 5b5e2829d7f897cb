/- MetaBack: States come back from their bytes, and what is read is written so again; other bytes are refused; for any of at most 40 ranges and moves, at most 4000 bytes. -/
import Derived.Test.YteehplloacefmaaGreatBy
import Derived.Test.YteehplloacefmaaGreatGb
import Derived.Test.YteehplloacefmaaGreatRows
set_option linter.unusedVariables false
set_option linter.unusedSimpArgs false
namespace Go.Proofs.YteehplloacefmaaGreat.metaBack
open Go.ChangeShapes Go.WideShapes Go.ChangeAt Go.RowKit Go.Vc
theorem own:ownKnob Tryz.prog.godebug=none:=by kernel_rfl
theorem laidOut:laidOutB Tryz.prog=true:=by kernel_rfl
set_option maxRecDepth 100000 in
theorem lifted (os:Os) (started:os.Started) (H:Type) (enc:TypeId × Value→H) :
    ReturnsInHanded {} Tryz.checked os 3 .any (Rows.metaBackSpec.pre6 enc Tryz.prog Tryz.f3 Rows.metaBackRow.domain false) (Rows.metaBackSpec.post enc Tryz.prog Tryz.f3 false true false false):=by
  refine returnsInHanded_of_change (C:=Tryz.checked) own started zk Tryz.func3
    (ChangeSpec.witness6 (enc:=enc) (C:=Tryz.checked) false ⟨#[],#[.agg #[.int .i64 0,.slice none 0 0,.int .i64 0,.slice none 0 0],.slice none 0 0],[]⟩ 8 zk zk zk zk) ?_
  intro W base args ds gs before hval0 hW hcnd _
  have hval:∀ (j:Nat) t v,Tryz.f3.params[j]? = some t→args[j]? = some v→Value.okWide Tryz.prog W .any base t v:=hval0
  have hW':=hW
  obtain ⟨p,q,hA0,hV,rfl,hfz,hnd⟩:=hW
  have hA:DataW.TrodAll enc Tryz.prog W 0 (fun _=>true) true Tryz.f3.params.toList args.toList ds p:=hA0
  rw [Tryz.params3] at hA hval
  obtain ⟨v0,vs0,d0,ds0,p0,q0,hargs,rfl,rfl,h0,r0⟩:=trodAll_cons hA
  obtain ⟨v1,vs1,d1,ds1,p1,q1,rfl,rfl,rfl,h1,r1⟩:=trodAll_cons r0
  obtain ⟨rfl,rfl,rfl⟩:=trodAll_nil r1
  obtain rfl:args=#[v0,v1]:=by cases args;simp_all
  obtain ⟨rfl,rfl⟩:=trodVars_none hV
  have lt0:=oA h0
  have g0:=h0
  obtain ⟨cs0,rfl,_⟩:=okWide_struct Tryz.underlying27 (hval 0 27 v0 rfl rfl)
  obtain ⟨x0,s0⟩:=nf (fw (P:=Tryz.prog) (t:=iK) (l:=[(24,0),(2,2),(25,3)]) Tryz.underlying27 zk zk (du zk (fw (P:=Tryz.prog) (t:=li) (l:=[(2,0),(22,1)]) Tryz.underlying24 zk zk (du zk (gp Tryz.underlying2) (gA zk (eK (t:=dv) Tryz.underlying22 zk (fw (P:=Tryz.prog) (t:=dv) (l:=[(28,0),(28,1),(4,2),(3,3)]) Tryz.underlying53 zk zk (du zk (eK Tryz.underlying28 zk (iX Tryz.underlying5)) (du zk (eK Tryz.underlying28 zk (iX Tryz.underlying5)) (du zk (jP Tryz.underlying4) (gA zk (gp Tryz.underlying3)))))))))) (du zk (gp Tryz.underlying2) (gA zk (eK (t:=eQ) Tryz.underlying25 zk (fw (P:=Tryz.prog) (t:=eQ) (l:=[(46,0),(4,6)]) Tryz.underlying55 zk zk (du zk (fw (P:=Tryz.prog) (t:=jU) (l:=[(2,0),(28,1),(28,2),(4,3),(3,4),(3,5)]) Tryz.underlying46 zk zk (du zk (gp Tryz.underlying2) (du zk (eK Tryz.underlying28 zk (iX Tryz.underlying5)) (du zk (eK Tryz.underlying28 zk (iX Tryz.underlying5)) (du zk (jP Tryz.underlying4) (du zk (gp Tryz.underlying3) (gA zk (gp Tryz.underlying3)))))))) (gA zk (jP Tryz.underlying4))))))))) h0
  have lt1:=oA h1
  have g1:=h1
  obtain ⟨x1,s1⟩:=nf (eK Tryz.underlying28 zk (iX Tryz.underlying5)) h1
  replace s1:=rK Tryz.underlying28 (hval 1 28 v1 rfl rfl) s1
  clear hA0 hval0
  refine Calls.mono (pZ ⟨_,rfl,s0⟩ s1) fun e W' ⟨u,he,hr,hE⟩=>?_
  subst he hr
  have bel:=hE.below
  exact ⟨_,rfl,_,_,_,[],_,[],hW',trodAll_mk1 (shut_bool Tryz.underlying4 _),(trodAll_cons_mk (Below.trod laidOut zk (of_decide_eq_true zk) g0 bel lt0) (trodAll_cons_mk (Below.trod laidOut zk (of_decide_eq_true zk) g1 bel lt1) trodAll_mk0)),rfl,bel.frame _,fun h=>by cases h⟩
theorem over:Rows.metaBackRow.holds Tryz.pinned (OpenSpec.ofChange Rows.metaBackSpec):=
  OpenClaim.holds_of_wide 3 Tryz.f3 rfl rfl rfl rfl rfl rfl rfl ⟨rfl,rfl,rfl,rfl,rfl⟩ rfl rfl rfl rfl rfl zk Tryz.func3 zk
    (of_decide_eq_true zk) (by unfold Func.isWrapper;first | (rw [if_pos zd];kernel_rfl) | (rw [if_neg zd];exact ⟨rfl,rfl⟩))
    (fun os started H enc _=>lifted os started H enc)
theorem proved:Rows.MetaBackSaid:=over
end Go.Proofs.YteehplloacefmaaGreat.metaBack
#print axioms Go.Proofs.YteehplloacefmaaGreat.metaBack.proved

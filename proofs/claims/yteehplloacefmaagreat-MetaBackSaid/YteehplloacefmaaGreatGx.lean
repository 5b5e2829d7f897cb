/- Steps and lemmas for the walks. -/
import Derived.Test.YteehplloacefmaaGreatGe
set_option linter.unusedVariables false
set_option linter.unusedSimpArgs false
namespace Go.Vc
def qM (B:Nat) (W W':World):Prop:=∃ K:Nat→Prop,ao K W W'∧∀ b,b < W.heap.size→K b→(b=B∨b=B + 1)∧∃ o:Obj,W.heap[b]? = some o∧o.isCells=false
theorem qM.turn {B:Nat} {W W':World} (h:qM B W W'):fY B W W':=by
  obtain ⟨K,k,hK⟩:=h
  exact ⟨K,k,fun b hb hk=>⟨by have:=(hK b hb hk).1;omega,(hK b hb hk).2⟩⟩
theorem qM.keep {B:Nat} {W W':World} (h:qM B W W'):ao (fun b=>b=B∨b=B + 1) W W':=by
  obtain ⟨K,k,hK⟩:=h
  exact k.mono fun b hb hk=>(hK b hb hk).1
def vK {α:Type} (P:Program) (gf:Nat) (lb:Array Value) (encs:α→List Value) (Y:List α→α→World→Prop) (Kp:Nat→Prop) (S Sp:List α→Prop) (w0:World):Prop:=
  ∀ (l:Nat) (J Jx:List α→World→Prop) (W:World),aX w0 W→w0.heap.size + 2≤W.heap.size→(∀ s A B,aX A B→J s A→J s B)→(∀ s A B,aX A B→Jx s A→Jx s B) →
    (∀ pre x W1,J pre W1→Y pre x W1→YieldAt Fence.wide 0 P l (encs x).toArray W1 (fun en W'=>∃ v,en=.returned v∧((v=.bool true∧J (pre ++ [x]) W'∧ao Kp W1 W')∨(v=.bool false∧Jx (pre ++ [x]) W')))) →
    J [] W→ae P gf (#[.func (.yield l) #[] #[]] ++ lb) W (fun _ W'=>(∃ xs,S xs∧J xs W')∨∃ pre,Sp pre∧Jx pre W')
theorem vK.mono {α:Type} {P:Program} {gf:Nat} {lb:Array Value} {encs:α→List Value} {Y:List α→α→World→Prop} {Kp Kp':Nat→Prop} {S Sp:List α→Prop} {w0:World} (h:vK P gf lb encs Y Kp S Sp w0) (hk:∀ i,Kp' i→Kp i):vK P gf lb encs Y Kp' S Sp w0:=by
  intro l J Jx W hx hz hJ hJx hY h0
  refine h l J Jx W hx hz hJ hJx (fun pre x W1 hj hy=>(hY pre x W1 hj hy).mono fun en W' hR=>?_) h0
  obtain ⟨v,h1,h2⟩:=hR
  refine ⟨v,h1,?_⟩
  rcases h2 with ⟨h2,h3,h4⟩ | h2
  · exact .inl ⟨h2,h3,h4.mono fun i _ hi=>hk i hi⟩
  · exact .inr h2
theorem nI {P:Program} {t:TypeId} {a:Addr} {v:Value} {w:World} (hk:sT P t=true) (hc:w.cell? a=some v):(loadVar t a).run P w=.ok v w:=by
  simp [loadVar,jC hk,load,Sem.run,hc]
section
variable {n:Nat} {P:Program} {fn:Func} {N:Nat} {e:Nat→Value} {w:World} {R:Value→World→Prop}
end
end Go.Vc
namespace Go.Vc
section
variable {P:Program} {d:Option Tmp} {ty:TypeId} {p:String} {af:Array Edge} {g:Option (Nat × Bool)} {e:Nat→Value} {w:World} {x y:Operand}
theorem lG {t et n sz k:Nat} {kk:IntKind} {i:Int} {cs r:Array Value} (hk:ue P t et n sz=true) (h1:nT P et sz=true) (hx:ev e x=.agg cs) (hy:ev e y=.int kk i) (hi:i=(k:Nat)) (hn:k < n) (hc:cs.extract (k * sz) (k * sz + sz)=r) :
    aG P ⟨d,.index t x y,ty,p,af,g⟩ e w (.agg r):=by
  subst hi
  obtain ⟨hu,hsz⟩:=qt hk
  have h2:=gV h1 w
  have h3:(k:Int) < (n:Int):=by omega
  simp [aG,execOp,hx,hy,Instr.index,asIntOf,run_underlying hu,h3,em hsz,part,h2.1,h2.2,hc]
  intro h;omega
end
section
variable {P:Program} {N:Nat} {ops:Array Oper} {Q:Exit→Act→World→Prop} {K:Nat→Prop} {J:(Nat→Bool)→(Nat→Value)→World→Prop} {D:Nat→Bool} {e0:Nat→Value} {w0:World} {l:List Oper} {k:Nat} {S:Nat→Value→World→Prop}
theorem fJ {d:Option Tmp} {op:Op} {ty:TypeId} {p:String} {af:Array Edge} {t:Value}
    (h:∀ done ab w,ao K w0 w→gg ops done→done k=false→J done ab w→(∀ j,bq ⟨d,op,ty,p,af,none⟩ j=true→done j=true)→(∀ j,bq ⟨d,op,ty,p,af,none⟩ j=true→S j (ab j) w)→bx P ⟨d,op,ty,p,af,none⟩ (dF ops ab e0 k) w (fun v w'=>v=t∧aX w w'))
    (hj:∀ done ab w w',done k=false→J done ab w→aX w w'→J (eT done k) (cA ab k t) w')
    (r:iB P N ops Q K J e0 w0 l (k + 1) (eS S k (fun v _=>v=t))):iB P N ops Q K J e0 w0 (⟨d,op,ty,p,af,none⟩ :: l) k S:=by
  refine ⟨_,fun _ _ _ h _=>h,fun done ab w hR hcl hdk hJ hdn hd=>?_,r⟩
  simp only [kG,cb,Region.wanted,if_true]
  exact (h done ab w hR hcl hdk hJ hdn hd).mono fun v w' hv=>by
    obtain ⟨rfl,e⟩:=hv
    exact ⟨aX.keep e,rfl,hj done ab w w' hdk hJ e⟩
end
end Go.Vc
namespace Go.Vc
section
variable {P:Program} {d:Option Tmp} {ty:TypeId} {p:String} {af:Array Edge} {g:Option (Nat × Bool)} {e:Nat→Value} {w:World} {x y:Operand} {K:Value→World→Prop} {α:Type}
end
end Go.Vc
namespace Go.Vc
section
variable {P:Program} {d:Option Tmp} {ty:TypeId} {p:String} {af:Array Edge} {g:Option (Nat × Bool)} {e:Nat→Value} {w:World} {x y z:Operand}
end
end Go.Vc
namespace Go.Vc
section
variable {P:Program} {d:Option Tmp} {ty:TypeId} {p:String} {af:Array Edge} {g:Option (Nat × Bool)} {e:Nat→Value} {w:World} {x y:Operand} {K:Value→World→Prop} {α:Type}
end
end Go.Vc
namespace Go.Vc
end Go.Vc
namespace Go.Vc
end Go.Vc

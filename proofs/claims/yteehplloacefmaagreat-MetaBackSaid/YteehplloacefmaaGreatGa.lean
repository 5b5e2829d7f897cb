/- Steps and lemmas for the walks. -/
import Derived.WalkKit
import Derived.WalkLawsBesides
import Derived.WalkSpells
import Derived.RangeFuncNested
import Derived.RangeFuncBound
import Derived.RangeFuncCalls
import Derived.RangeFuncLeaves
import Derived.RangeFuncFrom
import Derived.OwnWalkIn
import Derived.TacticsInMore
import Derived.LoopNIn
import Derived.LoopIn
import Derived.OrdersIn
import Derived.Deep.AppendSrc
import Derived.Deep.LoopGhost
import Derived.Sort.LoopGhostIn
set_option linter.unusedVariables false
set_option linter.unusedSimpArgs false
namespace Go.Vc
def pd (e:Nat→Value) (d:Nat) (v:Value):Nat→Value:=fun i=>bif Nat.beq i d then v else e i
def fH (e:Nat→Value) (d:Option Tmp) (v:Value):Nat→Value:=match d with | some d=>pd e d v | none=>e
def Fr (N:Nat) (e:Nat→Value):Act:=⟨Array.ofFn (n:=N) fun i=>e i.val,[]⟩
def ev (e:Nat→Value):Operand→Value
  | .tmp t=>e t
  | .const v=>v
  | .global g=>.pointer (some ⟨g,0,none⟩)
  | .func f=>.func (.func f) #[] #[]
theorem jY (e:Nat→Value) (d:Nat) (v:Value):pd e d v d=v:=by simp [pd]
theorem nE (e:Nat→Value) {d t:Nat} (v:Value) (h:t≠d):pd e d v t=e t:=by
  have:Nat.beq t d=false:=by
    cases hb:Nat.beq t d with
    | false=>rfl
    | true=>exact absurd (Nat.eq_of_beq_eq_true hb) h
  simp only [pd,this,cond_false]
def Operand.lt (N:Nat):Operand→Bool
  | .tmp t=>Nat.blt t N
  | _=>true
theorem um {N:Nat} {e:Nat→Value} {x:Operand} (h:Operand.lt N x=true):(Fr N e).eval x=ev e x:=by
  cases x with
  | tmp t=>
    have ht:t + 1≤N:=by simpa [Operand.lt,Nat.blt] using h
    have ht:t < N:=ht
    simp [Act.eval,Fr,ev,Array.getD,ht]
  | _=>rfl
theorem s5 {N:Nat} {e:Nat→Value} {d:Nat} (h:d < N) (v:Value):(Fr N e).put (some d) v=Fr N (pd e d v):=by
  simp only [Fr,Act.put]
  congr 1
  apply Array.ext
  · simp
  · intro i h1 h2
    simp only [Array.size_ofFn] at h2
    rw [Array.getElem_setIfInBounds (by simpa using h2)]
    by_cases hd:d=i
    · subst hd;simp [jY]
    · simp [hd,nE e v (Ne.symm hd)]
def iH (N:Nat):Option Tmp→Bool
  | some d=>Nat.blt d N
  | none=>true
theorem ul {N:Nat} {e:Nat→Value} {d:Option Tmp} (h:iH N d=true) (v:Value):(Fr N e).put d v=Fr N (fH e d v):=by
  cases d with
  | none=>rfl
  | some d=>
    have h':d + 1≤N:=by simpa [iH,Nat.blt] using h
    exact s5 h' v
def Fw:Option Nat→Fence
  | none=>Fence.wide
  | some l=>Fence.wide.inRound l
theorem jh (ro:Option Nat) (f:FuncId):(Fw ro).fn f:=by cases ro <;> trivial
theorem ji (ro:Option Nat):(Fw ro).depth=none:=by cases ro <;> rfl
theorem mM (ro:Option Nat):(Fw ro).round=ro:=by cases ro <;> rfl
theorem mD {ro:Option Nat} {n:Nat} {P:Program} {f:FuncId} {args:Array Value} {w:World} {R:Ending→World→Prop} (h:Calls P f args w R):CallsIn (Fw ro) n P f args w R:=by
  cases ro with
  | none=>exact callsIn_wide.2 h
  | some l=>exact CallsIn.inRound l (callsIn_wide.2 h)
abbrev dg (N:Nat) (e:Nat→Value) (ds:List Deferred):Act:=⟨(Fr N e).tmps,ds⟩
theorem gG {N:Nat} {e:Nat→Value} {ds:List Deferred} {x:Operand} (h:Operand.lt N x=true):(dg N e ds).eval x=ev e x:=by
  have:=um (e:=e) h
  cases x <;> simpa [Act.eval,dg] using this
theorem eu {N:Nat} {e:Nat→Value} {ds:List Deferred} {d:Option Tmp} (h:iH N d=true) (v:Value):(dg N e ds).put d v=dg N (fH e d v) ds:=by
  have:=ul (e:=e) h v
  cases d with
  | none=>rfl
  | some d=>
    have h2:=congrArg Act.tmps this
    simp only [Act.put,dg] at h2 ⊢
    rw [h2]
def ix:Op→Bool
  | .select ..=>false
  | .defer _=>false
  | _=>true
def iN (N:Nat) (o:Oper):Bool:=o.op.operands.toList.all (Operand.lt N) && iH N o.dst && ix o.op
theorem mr {N:Nat} {o:Oper} (h:iN N o=true) (e:Nat→Value) (ds:List Deferred):execOp (dg N e ds).eval o=execOp (ev e) o:=by
  simp only [iN,Bool.and_eq_true,List.all_eq_true] at h
  refine execOp_congr o (fun cs b hs=>?_) (fun x hx=>gG (h.1.1 x (by simpa using hx)))
  have:=h.2
  rw [hs] at this
  simp [ix] at this
theorem oE {ro:Option Nat} {ρ:Operand→Value} {o:Oper} (h:ix o.op=true):Oper.semAt (Fw ro).round ρ o=execOp ρ o:=by
  rw [mM]
  cases ro with
  | none=>rfl
  | some l=>exact Oper.semAt_some l ρ o (fun c hc=>by rw [hc] at h;cases h)
theorem pw {ro:Option Nat} {n:Nat} {P:Program} {l f:Nat} {tmps:Array Value} {assign body:Code} {w:World} {R:Ending→World→Prop} (h:RoundIn Fence.wide 0 P l f tmps assign body w R):RoundIn (Fw ro) n P l f tmps assign body w R:=by
  cases ro with
  | none=>exact ⟨h.1,fun c cs _=>h.2 c cs (room_wide _)⟩
  | some l=>exact ⟨h.1,fun c cs _=>h.2 c cs (room_wide _)⟩
def aG (P:Program) (o:Oper) (e:Nat→Value) (w:World) (v:Value):Prop:=(execOp (ev e) o).run P w=.ok (.value v) w
def mI (R:Value→World→Prop):Ending→World→Prop:=fun e w=>∃ v,e=.returned v∧R v w
def ae (P:Program) (f:FuncId) (args:Array Value) (w:World) (R:Value→World→Prop):Prop:=Calls P f args w (mI R)
theorem ae.mono {P:Program} {f:FuncId} {args:Array Value} {w:World} {R R':Value→World→Prop} (h:ae P f args w R) (hr:∀ v w',R v w'→R' v w'):ae P f args w R':=
  Calls.mono h fun _ _ ⟨v,he,hv⟩=>⟨v,he,hr _ _ hv⟩
def bx (P:Program) (o:Oper) (e:Nat→Value) (w:World) (K:Value→World→Prop):Prop:=
  match (execOp (ev e) o).run P w with
  | .ok (.value v) w'=>K v w'
  | .ok .skip w'=>K undef w'
  | .ok (.enter f args) w'=>ae P f args w' K
  | .ok (.round l f tmps assign body) w'=>RoundIn Fence.wide 0 P l f tmps assign body w' (mI K)
  | _=>False
theorem bx.of_v {P:Program} {o:Oper} {e:Nat→Value} {w:World} {v:Value} {K:Value→World→Prop} (h:aG P o e w v) (k:K v w):bx P o e w K:=by
  unfold bx;rw [h];exact k
theorem bx.mono {P:Program} {o:Oper} {e:Nat→Value} {w:World} {K K':Value→World→Prop} (h:bx P o e w K) (hk:∀ v w',K v w'→K' v w'):bx P o e w K':=by
  unfold bx at *
  split at h
  · exact hk _ _ h
  · exact hk _ _ h
  · exact ae.mono h hk
  · exact RoundIn.mono h fun _ _ ⟨v,he,hv⟩=>⟨v,he,hk _ _ hv⟩
  · exact h.elim
def iI (P:Program) (o:Oper) (e:Nat→Value) (w:World) (K:List PanicEntry→World→Prop):Prop:=
  match (execOp (ev e) o).run P w with
  | .ok (.enter f args) w'=>Calls P f args w' (fun en w''=>∃ ch,en=.panicked ch∧K ch w'')
  | .halt (.panic v) w'=>K [{ v,recovered:=false }] w'
  | _=>False
theorem iI.wpIn {ro:Option Nat} {n:Nat} {P:Program} {o:Oper} {N:Nat} {e:Nat→Value} {ds:List Deferred} {w:World} {K:List PanicEntry→World→Prop} {next:Act→World→Prop} {Q:Exit→Act→World→Prop} (hl:iN N o=true)
    (h:iI P o e w K) (hk:∀ ch w',K ch w'→Q (.panic ch) (dg N e ds) w'):o.wpIn (Fw ro) n P (dg N e ds) w next Q:=by
  have hnd:ix o.op=true:=by simp only [iN,Bool.and_eq_true] at hl;exact hl.2
  unfold Oper.wpIn
  refine ⟨fun f _=>jh ro f,?_⟩
  rw [oE hnd,mr hl]
  unfold iI at h
  split at h
  · rename_i hr;rw [hr,Oper.uponIn_enter]
    refine ⟨(fun hh=>by rw [ji] at hh;simp at hh),mD (Calls.mono h ?_)⟩
    rintro e' w'' ⟨ch,rfl,hv⟩
    exact hk _ _ hv
  · rename_i hr;rw [hr];exact hk _ _ h
  · exact h.elim
theorem bx.wpIn {ro:Option Nat} {n:Nat} {P:Program} {o:Oper} {N:Nat} {e:Nat→Value} {ds:List Deferred} {w:World} {K:Value→World→Prop} {next:Act→World→Prop} {Q:Exit→Act→World→Prop} (hl:iN N o=true)
    (h:bx P o e w K) (hk:∀ v w',K v w'→next (dg N (fH e o.dst v) ds) w'):o.wpIn (Fw ro) n P (dg N e ds) w next Q:=by
  have hd:iH N o.dst=true:=by simp only [iN,Bool.and_eq_true] at hl;exact hl.1.2
  have hnd:ix o.op=true:=by simp only [iN,Bool.and_eq_true] at hl;exact hl.2
  unfold Oper.wpIn
  refine ⟨fun f _=>jh ro f,?_⟩
  rw [oE hnd,mr hl]
  unfold bx at h
  split at h
  · rename_i hr;rw [hr,Oper.uponIn_value,eu hd];exact hk _ _ h
  · rename_i hr;rw [hr,Oper.uponIn_skip,eu hd];exact hk _ _ h
  · rename_i hr;rw [hr,Oper.uponIn_enter]
    refine ⟨(fun hh=>by rw [ji] at hh;simp at hh),mD (Calls.mono h ?_)⟩
    rintro e' w'' ⟨v,rfl,hv⟩
    show next ((dg N e ds).put o.dst v) w''
    rw [eu hd];exact hk _ _ hv
  · rename_i hr;rw [hr,Oper.uponIn_round]
    refine ⟨(fun hh=>by rw [ji] at hh;simp at hh),pw (RoundIn.mono h ?_)⟩
    rintro e' w'' ⟨v,rfl,hv⟩
    show next ((dg N e ds).put o.dst v) w''
    rw [eu hd];exact hk _ _ hv
  · exact h.elim
def eG (ops:Array Oper) (e:Nat→Value) (j:Nat):Option Bool:=
  match (ops[j]?).bind (·.dst) with
  | some t=>match e t with | .bool b=>some b | _=>none
  | none=>none
def cb (ops:Array Oper) (e:Nat→Value) (o:Oper):Bool:=Region.wanted o (eG ops e)
def fC (N:Nat) (ops:Array Oper):Bool:=ops.toList.all (iN N)
theorem lX {N:Nat} {ops:Array Oper} (h:fC N ops=true) {j:Nat} {o:Oper} (hj:ops[j]? = some o):iN N o=true:=by
  simp only [fC,List.all_eq_true] at h
  refine h o ?_
  have:=Array.mem_of_getElem? hj
  simpa using this
theorem pg {N:Nat} {ops:Array Oper} (h:fC N ops=true) (e:Nat→Value):yielded ops (Fr N e).tmps=eG ops e:=by
  funext j
  unfold yielded eG
  cases hj:ops[j]? with
  | none=>simp
  | some o=>
    cases hd:o.dst with
    | none=>simp [hd]
    | some t=>
      have hl:=lX h hj
      simp only [iN,Bool.and_eq_true,hd,iH] at hl
      have ht:t + 1≤N:=by simpa [Nat.blt] using hl.1.2
      have ht:t < N:=ht
      simp [hd,Fr,ht]
      split <;> simp_all
def jl (P:Program) (N:Nat) (ops:Array Oper) (Q:Exit→Act→World→Prop):List Oper→(Nat→Value)→World→Prop
  | [],e,w=>Q .normal (Fr N e) w
  | o :: ca,e,w=>if cb ops e o then (bx P o e w (fun v w'=>jl P N ops Q ca (fH e o.dst v) w')∨iI P o e w (fun ch w'=>Q (.panic ch) (Fr N e) w')) else jl P N ops Q ca (fH e o.dst undef) w
theorem gL {N:Nat} {ops:Array Oper} (h:fC N ops=true) (e:Nat→Value) (ds:List Deferred):yielded ops (dg N e ds).tmps=eG ops e:=pg h e
abbrev Qd (ds:List Deferred) (Q:Exit→Act→World→Prop):Exit→Act→World→Prop:=fun ex a w=>Q ex ⟨a.tmps,ds⟩ w
theorem kI {ro:Option Nat} {n:Nat} {P:Program} {N:Nat} {ops:Array Oper} {Q:Exit→Act→World→Prop} {ds:List Deferred} (hl:fC N ops=true):∀ (l:List Oper),(∀ o ∈ l,iN N o=true)→∀ (e:Nat→Value) (w:World),jl P N ops (Qd ds Q) l e w→wpListIn (Fw ro) n P ops Q l (dg N e ds) w
  | [],_,e,w,h=>h
  | o :: ca,hm,e,w,h=>by
    have ho:=hm o (by simp)
    have hd:iH N o.dst=true:=by simp only [iN,Bool.and_eq_true] at ho;exact ho.1.2
    refine wpListIn_step fun K hK=>?_
    have hr:∀ e w,jl P N ops (Qd ds Q) ca e w→K (dg N e ds) w:=fun e w h=>hK _ _ (kI hl ca (fun o h'=>hm o (by simp [h'])) e w h)
    rw [gL hl]
    unfold jl at h
    unfold cb at h
    split
    · rename_i hw;rw [if_pos hw] at h
      rcases h with h | h
      · exact bx.wpIn ho h fun v w' hv=>hr _ _ hv
      · exact iI.wpIn ho h fun ch w' hv=>hv
    · rename_i hw;rw [if_neg hw] at h;rw [eu hd];exact ⟨fun f _=>jh ro f,hr _ _ h⟩
theorem O {ro:Option Nat} {n:Nat} {P:Program} {N:Nat} {ops:List Oper} {id:Nat} {Q:Exit→Act→World→Prop} {e:Nat→Value} {ds:List Deferred} {w:World} (hl:fC N ops.toArray=true) (h:jl P N ops.toArray (Qd ds Q) ops e w):(Code.region id ops.toArray false).wpIn (Fw ro) n P Q (dg N e ds) w:=
  wpIn_region_lit (kI hl ops (by simpa [fC] using hl) e w h)
section
variable {P:Program} {N:Nat} {ops:Array Oper} {Q:Exit→Act→World→Prop} {e:Nat→Value} {w:World} {ca:List Oper}
theorem ac (h:Q .normal (Fr N e) w):jl P N ops Q [] e w:=h
theorem aa {d:Option Tmp} {op:Op} {ty:TypeId} {p:String} {af:Array Edge} {t:Value} (h:aG P ⟨d,op,ty,p,af,none⟩ e w t) (k:jl P N ops Q ca (fH e d t) w) :
    jl P N ops Q (⟨d,op,ty,p,af,none⟩ :: ca) e w:=by
  unfold jl
  simp only [cb,Region.wanted,if_true]
  exact Or.inl (bx.of_v h k)
theorem ah {d:Option Tmp} {op:Op} {ty:TypeId} {p:String} {af:Array Edge} (h:bx P ⟨d,op,ty,p,af,none⟩ e w (fun v w'=>jl P N ops Q ca (fH e d v) w')) :
    jl P N ops Q (⟨d,op,ty,p,af,none⟩ :: ca) e w:=by
  unfold jl
  simp only [cb,Region.wanted,if_true]
  exact Or.inl h
theorem cj {d:Option Tmp} {op:Op} {ty:TypeId} {p:String} {af:Array Edge} (h:iI P ⟨d,op,ty,p,af,none⟩ e w (fun ch w'=>Q (.panic ch) (Fr N e) w')) :
    jl P N ops Q (⟨d,op,ty,p,af,none⟩ :: ca) e w:=by
  unfold jl
  simp only [cb,Region.wanted,if_true]
  exact Or.inr h
theorem kH {g:Nat} {t:Tmp} {c:Bool} (hg:(ops[g]?).bind (·.dst)=some t) (hc:e t=.bool c):eG ops e g=some c:=by
  unfold eG;rw [hg];simp [hc]
theorem dE {d:Option Tmp} {op:Op} {ty:TypeId} {p:String} {af:Array Edge} {g:Nat} {b:Bool} {t:Tmp} (hg:(ops[g]?).bind (·.dst)=some t) (hc:e t=.bool b)
    (h:bx P ⟨d,op,ty,p,af,some (g,b)⟩ e w (fun v w'=>jl P N ops Q ca (fH e d v) w')) :
    jl P N ops Q (⟨d,op,ty,p,af,some (g,b)⟩ :: ca) e w:=by
  unfold jl
  simp only [cb,Region.wanted,kH hg hc,beq_self_eq_true,if_true]
  exact Or.inl h
end
end Go.Vc
namespace Go.Vc
def mR (f:Nat→Bool):Nat→Nat
  | 0=>0
  | n + 1=>mR f n + (if f n then 1 else 0)
theorem tl {f g:Nat→Bool} (h:∀ i,g i=true→f i=true):∀ n,mR g n≤mR f n
  | 0=>Nat.le_refl _
  | n + 1=>by
    have:=tl h n
    simp only [mR]
    cases hg:g n with
    | false=>simp;omega
    | true=>simp [h n hg];omega
theorem mB {f g:Nat→Bool} (h:∀ i,g i=true→f i=true) {i:Nat} (hf:f i=true) (hg:g i=false):∀ n,i < n→mR g n + 1≤mR f n
  | 0,h=>by omega
  | n + 1,hn=>by
    simp only [mR]
    by_cases hi:i=n
    · subst hi;have:=tl h i;simp [hf,hg];omega
    · have:=mB h hf hg n (by omega)
      cases hgn:g n with
      | false=>simp;omega
      | true=>simp [h n hgn];omega
theorem jd {f:Nat→Bool}:∀ n,mR f n=0→∀ i,i < n→f i=false
  | 0,_,i,hi=>by omega
  | n + 1,h,i,hi=>by
    simp only [mR] at h
    have h1:mR f n=0:=by omega
    by_cases hin:i=n
    · subst hin;cases hf:f i with | false=>rfl | true=>simp [hf] at h
    · exact jd n h1 i (by omega)
theorem oR {f:Nat→Bool}:∀ n,(∃ i,i < n∧f i=true)→∃ i,i < n∧f i=true∧∀ j,j < i→f j=false
  | 0,⟨i,hi,_⟩=>by omega
  | n + 1,⟨i,hi,hf⟩=>by
    by_cases h:∃ i,i < n∧f i=true
    · obtain ⟨k,hk,hfk,hl⟩:=oR n h;exact ⟨k,by omega,hfk,hl⟩
    · have hin:i=n:=by
        rcases Nat.lt_or_ge i n with h' | h'
        · exact absurd ⟨i,h',hf⟩ h
        · omega
      subst hin
      refine ⟨i,by omega,hf,fun j hj=>?_⟩
      cases hfj:f j with
      | false=>rfl
      | true=>exact absurd ⟨j,hj,hfj⟩ h
def bq (o:Oper) (k:Nat):Bool:=o.after.toList.any fun e=>Region.binds .any e && Nat.beq e.on k
theorem dG {o:Oper} {k:Nat} (h:bq o k=true):∃ e,e ∈ o.after∧(Region.binds .any e && Nat.beq e.on k)=true:=by
  simp only [bq,List.any_eq_true] at h
  obtain ⟨e,he,hb⟩:=h
  exact ⟨e,by simpa using he,hb⟩
def ni (ops:Array Oper):Bool:=(List.range ops.size).all fun i=>match ops[i]? with
  | none=>true
  | some o=>(o.after.all fun e=>!Region.binds .any e || Nat.blt e.on i) && (List.range i).all fun k=>bq o k || (match ops[k]? with | some ok=>ok.apart ops o | none=>true)
theorem dD {ops:Array Oper} (h:ni ops=true) {i:Nat} {o:Oper} (hi:ops[i]? = some o):∀ e ∈ o.after,Region.binds .any e=true→e.on < i:=by
  have hlt:i < ops.size:=(Array.getElem?_eq_some_iff.1 hi).1
  simp only [ni,List.all_eq_true,List.mem_range] at h
  have h1:=h i hlt
  simp only [hi,Bool.and_eq_true,Array.all_eq_true'] at h1
  intro e he hb
  have h2:=h1.1 e he
  simp [hb,Nat.blt] at h2
  exact h2
theorem gq {ops:Array Oper} (h:ni ops=true) {i k:Nat} {o ok:Oper} (hi:ops[i]? = some o) (hk:ops[k]? = some ok) (hki:k < i) (hne:bq o k=false):ok.apart ops o=true:=by
  have hlt:i < ops.size:=(Array.getElem?_eq_some_iff.1 hi).1
  simp only [ni,List.all_eq_true,List.mem_range] at h
  have h1:=h i hlt
  simp only [hi,Bool.and_eq_true,List.all_eq_true,List.mem_range] at h1
  have h2:=h1.2 k hki
  simpa [hne,hk] using h2
def fE (ops:Array Oper) (n:Nat):Option Tmp:=(ops[n]?).bind (·.dst)
def cZ (ops:Array Oper) (ls:Nat→Bool) (ab:Nat→Value) (e0:Nat→Value):Nat→Nat→Value
  | 0=>e0
  | n + 1=>bif ls n then fH (cZ ops ls ab e0 n) (fE ops n) (ab n) else cZ ops ls ab e0 n
theorem eX {e:Nat→Value} {d:Option Tmp} {v:Value} {t:Nat} (h:d≠some t):fH e d v t=e t:=by
  cases d with
  | none=>rfl
  | some d=>exact nE e v (fun hh=>h (by rw [hh]))
theorem ey {e:Nat→Value} {d:Option Tmp} {v:Value} {t:Nat} (h:d=some t):fH e d v t=v:=by subst h;exact jY e t v
section
variable {ops:Array Oper} {ls:Nat→Bool} {ab e0:Nat→Value}
theorem kQ {t:Nat}:∀ n,(∀ k,k < n→ls k=false→fE ops k≠some t)→cZ ops ls ab e0 n t=cZ ops (fun _=>true) ab e0 n t
  | 0,_=>rfl
  | n + 1,h=>by
    have ih:=kQ n (fun k hk=>h k (by omega))
    simp only [cZ,cond_true]
    cases hl:ls n with
    | true=>
      simp only [cond_true]
      by_cases hd:fE ops n=some t
      · rw [ey hd,ey hd]
      · rw [eX hd,eX hd];exact ih
    | false=>simp only [cond_false];rw [eX (h n (by omega) hl)];exact ih
theorem ib {t i:Nat}:∀ n,i≤n→(∀ k,i≤k→k < n→ls k=true→fE ops k≠some t)→cZ ops ls ab e0 n t=cZ ops ls ab e0 i t
  | 0,hi,_=>by
                   have:i=0:=by omega
                   subst this;rfl
  | n + 1,hi,h=>by
    by_cases he:i=n + 1
    · subst he;rfl
    · have ih:=ib n (by omega) (fun k h1 h2=>h k h1 (by omega))
      simp only [cZ]
      cases hl:ls n with
      | true=>simp only [cond_true];rw [eX (h n (by omega) (by omega) hl)];exact ih
      | false=>simp only [cond_false];exact ih
theorem jc {ls':Nat→Bool} {vals':Nat→Value}:∀ n,(∀ k,k < n→ls k=ls' k)→(∀ k,k < n→ls k=true→ab k=vals' k)→cZ ops ls ab e0 n=cZ ops ls' vals' e0 n
  | 0,_,_=>rfl
  | n + 1,h,hv=>by
    simp only [cZ]
    rw [jc n (fun k hk=>h k (by omega)) (fun k hk=>hv k (by omega)),← h n (by omega)]
    cases hl:ls n with
    | true=>rw [hv n (by omega) hl]
    | false=>rfl
end
def cA (ab:Nat→Value) (i:Nat) (v:Value):Nat→Value:=fun j=>if j=i then v else ab j
def kG (P:Program) (ops:Array Oper) (e:Nat→Value) (o:Oper) (w:World) (K:Value→World→Prop):Prop:=
  if cb ops e o then bx P o e w K else K undef w
theorem jB {ops:Array Oper} {e e':Nat→Value} {o:Oper} (h:∀ t,t ∈ o.looksAt ops→e t=e' t):cb ops e o=cb ops e' o:=by
  unfold cb Region.wanted
  cases hg:o.guard with
  | none=>rfl
  | some gw=>
    obtain ⟨g,b⟩:=gw
    have:eG ops e g=eG ops e' g:=by
      unfold eG
      cases hd:(ops[g]?).bind (·.dst) with
      | none=>rfl
      | some t=>simp only [h t (by simp [Oper.looksAt,hg,hd])]
    simp only [this]
theorem jH {ops:Array Oper} {e e':Nat→Value} {o:Oper} (hs:ix o.op=true) (h:∀ t,t ∈ o.looksAt ops→e t=e' t):execOp (ev e) o=execOp (ev e') o:=by
  refine execOp_congr o (fun cs b hh=>by rw [hh] at hs;simp [ix] at hs) (fun x hx=>?_)
  cases x with
  | tmp t=>exact h t (List.mem_append_left _ (List.mem_filterMap.2 ⟨.tmp t,by simpa using hx,rfl⟩))
  | _=>rfl
abbrev ot (ro:Option Nat) (n:Nat) (P:Program) (ops:Array Oper) (Q:Exit→Act→World→Prop) (a:Act) (w:World):Prop:=wpAnyIn (Fw ro) n P .any ops Q ops.size (Array.replicate ops.size false) a w
theorem oH {ro:Option Nat} {n:Nat} {ds:List Deferred} {P:Program} {N:Nat} {ops:Array Oper} {Q:Exit→Act→World→Prop} {e0:Nat→Value} {w0:World} {R:World→World→Prop} (S:Nat→Value→World→Prop)
    (hl:fC N ops=true) (hok:ni ops=true)
    (htr:∀ a b c,R a b→R b c→R a c) (h0:R w0 w0)
    (hst:∀ i v w w',S i v w→R w w'→S i v w')
    (hloc:∀ i o,ops[i]? = some o→∀ ab w,R w0 w→(∀ j,bq o j=true→S j (ab j) w)→kG P ops (cZ ops (fun _=>true) ab e0 i) o w (fun v w'=>R w w'∧S i v w'))
    (hfin:∀ ab w,R w0 w→(∀ i,i < ops.size→S i (ab i) w)→Q .normal (dg N (cZ ops (fun _=>true) ab e0 ops.size) ds) w) :
    ot ro n P ops Q (dg N e0 ds) w0:=by
  have main:∀ (fuel:Nat) (listed:Array Bool) (ab:Nat→Value) (w:World),mR (fun i=>!listed.getD i true) ops.size≤fuel→R w0 w →
      (∀ j o,listed.getD j true=true→ops[j]? = some o→∀ e ∈ o.after,Region.binds .any e=true→listed.getD e.on false=true) →
      (∀ j,j < ops.size→listed.getD j true=true→S j (ab j) w)→listed.size=ops.size →
      wpAnyIn (Fw ro) n P .any ops Q fuel listed (dg N (cZ ops (fun i=>listed.getD i true) ab e0 ops.size) ds) w:=by
    intro fuel
    induction fuel with
    | zero=>
      intro listed ab w hc hR hdc hS hsz
      have hall:=jd ops.size (Nat.le_zero.1 hc)
      have hall':∀ i,i < ops.size→listed.getD i true=true:=fun i hi=>by have:=hall i hi;simpa using this
      refine ⟨?_,?_⟩
      · cases hr:Region.ready .any ops listed with
        | nil=>rfl
        | cons i l=>
          have hi:i ∈ Region.ready .any ops listed:=by rw [hr];simp
          obtain ⟨hu,o,ho,_⟩:=mem_ready.1 hi
          rw [hall' i (Array.getElem?_eq_some_iff.1 ho).1] at hu;cases hu
      · rw [jc (ls':=fun _=>true) (vals':=ab) ops.size (fun k hk=>hall' k hk) (fun _ _ _=>rfl)]
        exact hfin ab w hR fun i hi=>hS i hi (hall' i hi)
    | succ fuel ih=>
      intro listed ab w hc hR hdc hS hsz
      refine ⟨fun hnil=>?_,fun i hi=>?_⟩
      · have hall':∀ i,i < ops.size→listed.getD i true=true:=by
          intro i hi
          cases hu:listed.getD i true with
          | true=>rfl
          | false=>
            obtain ⟨k,hk,hfk,hmin⟩:=oR (f:=fun i=>!listed.getD i true) ops.size ⟨i,hi,by simp only [hu];rfl⟩
            have hok':ops[k]? = some ops[k]:=by simp [hk]
            have:k ∈ Region.ready .any ops listed:=mem_ready.2 ⟨by simpa using hfk,ops[k],hok',fun e he hb=>by
              have hlt:=dD hok hok' e he hb
              have h1:=hmin e.on hlt
              have h2:listed.getD e.on true=true:=by simpa using h1
              have h3:e.on < listed.size:=by omega
              simp only [Array.getD,h3,dif_pos] at h2 ⊢
              exact h2⟩
            rw [hnil] at this;cases this
        rw [jc (ls':=fun _=>true) (vals':=ab) ops.size (fun k hk=>hall' k hk) (fun _ _ _=>rfl)]
        exact hfin ab w hR fun i hi=>hS i hi (hall' i hi)
      · obtain ⟨hu,o,ho,hdeps⟩:=mem_ready.1 hi
        have hilt:i < ops.size:=(Array.getElem?_eq_some_iff.1 ho).1
        have holt:=lX hl ho
        have hedge:∀ k,bq o k=true→listed.getD k false=true:=by
          intro k hk
          obtain ⟨e,he,hb⟩:=dG hk
          simp only [Bool.and_eq_true] at hb
          have:=hdeps e he hb.1
          rwa [Nat.eq_of_beq_eq_true hb.2] at this
        have toT:∀ k,listed.getD k false=true→listed.getD k true=true:=by
          intro k hk
          by_cases hlt:k < listed.size
          · simp only [Array.getD,hlt,dif_pos] at hk ⊢;exact hk
          · simp only [Array.getD,hlt,dif_neg,not_false_eq_true]
        have hsee:∀ t,t ∈ o.looksAt ops→cZ ops (fun i=>listed.getD i true) ab e0 ops.size t=cZ ops (fun _=>true) ab e0 i t:=by
          intro t ht
          rw [ib (i:=i) ops.size (by omega) (fun k h1 h2 h3 hd=>?_),kQ i (fun k hk hku hd=>?_)]
          ·
            obtain ⟨ok,hok'⟩:∃ ok,ops[k]? = some ok:=⟨ops[k],by simp [show k < ops.size by omega]⟩
            have hne:bq o k=false:=by
              cases hh:bq o k with
              | false=>rfl
              | true=>have:=toT k (hedge k hh);rw [hku] at this;cases this
            have hap:=gq hok ho hok' hk hne
            obtain ⟨a1,a2,a3⟩:=Oper.apart_spec hap
            simp only [fE,hok',Option.bind_some] at hd
            exact a1 t hd ht
          ·
            have hki:k≠i:=fun he=>by subst he;rw [hu] at h3;cases h3
            obtain ⟨ok,hok'⟩:∃ ok,ops[k]? = some ok:=⟨ops[k],by simp [h2]⟩
            have hne:bq ok i=false:=by
              cases hh:bq ok i with
              | false=>rfl
              | true=>
                obtain ⟨e,he,hb⟩:=dG hh
                simp only [Bool.and_eq_true] at hb
                have:=hdc k ok h3 hok' e he hb.1
                rw [Nat.eq_of_beq_eq_true hb.2] at this
                have:=toT i this
                rw [hu] at this;cases this
            have hap:=gq hok hok' ho (by omega) hne
            obtain ⟨a1,a2,a3⟩:=Oper.apart_spec hap
            simp only [fE,hok',Option.bind_some] at hd
            exact a3 t hd ht
        have hw:cb ops (cZ ops (fun i=>listed.getD i true) ab e0 ops.size) o=cb ops (cZ ops (fun _=>true) ab e0 i) o:=jB hsee
        have hns:ix o.op=true:=by simp only [iN,Bool.and_eq_true] at holt;exact holt.2
        have hex:=jH (ops:=ops) hns hsee
        have hL:=hloc i o ho ab w hR (fun j hj=>hS j (by
          obtain ⟨e,he,hb⟩:=dG hj
          simp only [Bool.and_eq_true] at hb
          have:=dD hok ho e he hb.1
          rw [Nat.eq_of_beq_eq_true hb.2] at this
          omega) (toT j (hedge j hj)))
        have next:∀ v w',R w w'→S i v w'→wpAnyIn (Fw ro) n P .any ops Q fuel (listed.setIfInBounds i true) (dg N (fH (cZ ops (fun i=>listed.getD i true) ab e0 ops.size) o.dst v) ds) w':=by
          intro v w' hRw hSv
          have hget:∀ j d,(listed.setIfInBounds i true).getD j d=if j=i then true else listed.getD j d:=by
            intro j d
            by_cases hji:j=i
            · subst hji
              have:j < listed.size:=by omega
              simp [Array.getD,this]
            · by_cases hlt:j < listed.size
              · simp [Array.getD,hlt,hji,Ne.symm hji]
              · simp [Array.getD,hlt,hji]
          have henv:fH (cZ ops (fun i=>listed.getD i true) ab e0 ops.size) o.dst v=cZ ops (fun j=>(listed.setIfInBounds i true).getD j true) (cA ab i v) e0 ops.size:=by
            have hdi:fE ops i=o.dst:=by simp [fE,ho]
            funext t
            by_cases hd:o.dst=some t
            · rw [ey hd]
              rw [ib (i:=i + 1) ops.size (by omega) (fun k h1 h2 h3 hk=>?_)]
              · simp only [cZ]
                have:(listed.setIfInBounds i true).getD i true=true:=by rw [hget];simp
                rw [this,cond_true,ey (by rw [hdi];exact hd)]
                simp [cA]
              · obtain ⟨ok,hok'⟩:∃ ok,ops[k]? = some ok:=⟨ops[k],by simp [h2]⟩
                have hki:k≠i:=by omega
                rw [hget,if_neg hki] at h3
                have hne:bq ok i=false:=by
                  cases hh:bq ok i with
                  | false=>rfl
                  | true=>
                    obtain ⟨e,he,hb⟩:=dG hh
                    simp only [Bool.and_eq_true] at hb
                    have:=hdc k ok h3 hok' e he hb.1
                    rw [Nat.eq_of_beq_eq_true hb.2] at this
                    have:=toT i this
                    rw [hu] at this;cases this
                have hap:=gq hok hok' ho (by omega) hne
                obtain ⟨a1,a2,a3⟩:=Oper.apart_spec hap
                simp only [fE,hok',Option.bind_some] at hk
                exact a2 t hd hk
            · rw [eX hd]
              have:∀ n,cZ ops (fun i=>listed.getD i true) ab e0 n t=cZ ops (fun j=>(listed.setIfInBounds i true).getD j true) (cA ab i v) e0 n t:=by
                intro n
                induction n with
                | zero=>rfl
                | succ n ihn=>
                  simp only [cZ]
                  by_cases hni:n=i
                  · subst hni
                    have e1:(listed.setIfInBounds n true).getD n true=true:=by rw [hget];simp
                    rw [hu,e1,cond_false,cond_true,eX (by rw [hdi];exact hd)]
                    exact ihn
                  · rw [hget,if_neg hni]
                    cases listed.getD n true with
                    | false=>simpa using ihn
                    | true=>
                      simp only [cond_true]
                      by_cases hdn:fE ops n=some t
                      · rw [ey hdn,ey hdn];simp [cA,hni]
                      · rw [eX hdn,eX hdn];exact ihn
              exact this _
          rw [henv]
          refine ih _ _ _ ?_ (htr _ _ _ hR hRw) ?_ ?_ (by simpa using hsz)
          · have:=mB (f:=fun i=>!listed.getD i true) (g:=fun j=>!(listed.setIfInBounds i true).getD j true) (i:=i) (fun j hj=>by
              rw [hget] at hj
              by_cases hji:j=i
              · simp [hji] at hj
              · simpa [hji] using hj) (by simp only [hu];rfl) (by rw [hget];simp) ops.size hilt
            omega
          · intro j oj hj hoj e he hb
            rw [hget] at hj ⊢
            by_cases hji:j=i
            · subst hji
              rw [ho] at hoj;cases hoj
              split
              · rfl
              · exact hdeps e he hb
            · rw [if_neg hji] at hj
              split
              · rfl
              · exact hdc j oj hj hoj e he hb
          · intro j hjs hj
            by_cases hji:j=i
            · subst hji;simpa [cA] using hSv
            · rw [hget,if_neg hji] at hj
              simp only [cA,if_neg hji]
              exact hst j _ _ _ (hS j hjs hj) hRw
        unfold wpOpIn
        rw [ho]
        simp only []
        rw [gL hl]
        unfold kG at hL
        rw [← hw] at hL
        split
        · rename_i hwt
          have hwt':cb ops (cZ ops (fun i=>listed.getD i true) ab e0 ops.size) o=true:=hwt
          rw [if_pos hwt'] at hL
          have hL':bx P o (cZ ops (fun i=>listed.getD i true) ab e0 ops.size) w (fun v w'=>R w w'∧S i v w'):=by
            unfold bx at hL ⊢
            rw [hex];exact hL
          exact (bx.wpIn holt hL' fun v w' hv=>next v w' hv.1 hv.2)
        · rename_i hwt
          have hwt':¬ cb ops (cZ ops (fun i=>listed.getD i true) ab e0 ops.size) o=true:=hwt
          rw [if_neg hwt'] at hL
          have hd:iH N o.dst=true:=by simp only [iN,Bool.and_eq_true] at holt;exact holt.1.2
          rw [eu hd]
          exact ⟨fun f _=>jh ro f,next _ _ hL.1 hL.2⟩
  have:=main ops.size (Array.replicate ops.size false) (fun _=>undef) w0 (by
    have h:∀ n,mR (fun i=>!(Array.replicate ops.size false).getD i true) n≤n:=by
      intro n
      induction n with
      | zero=>simp [mR]
      | succ n ih=>simp only [mR];split <;> omega
    exact h _) h0 (by
      intro j o hj ho
      have:j < ops.size:=(Array.getElem?_eq_some_iff.1 ho).1
      simp [Array.getD,this] at hj) (by
      intro j hj hl
      simp [Array.getD,hj] at hl) (by simp)
  have e1:cZ ops (fun i=>(Array.replicate ops.size false).getD i true) (fun _=>undef) e0 ops.size=e0:=by
    have:∀ n,n≤ops.size→cZ ops (fun i=>(Array.replicate ops.size false).getD i true) (fun _=>undef) e0 n=e0:=by
      intro n
      induction n with
      | zero=>intro _;rfl
      | succ n ih=>
        intro hn
        have hlt:n < ops.size:=by omega
        have hf:(Array.replicate ops.size false).getD n true=false:=by simp [Array.getD,hlt]
        simp only [cZ]
        rw [hf,cond_false]
        exact ih (by omega)
    exact this _ (Nat.le_refl _)
  rw [e1] at this
  exact this
theorem tX {ro:Option Nat} {n:Nat} {ds:List Deferred} {P:Program} {N id:Nat} {ops:Array Oper} {Q:Exit→Act→World→Prop} {e0:Nat→Value} {w0:World} {R:World→World→Prop} (S:Nat→Value→World→Prop)
    (hm:P.follows .mixedOrders=true) (hl:fC N ops=true) (hok:ni ops=true)
    (htr:∀ a b c,R a b→R b c→R a c) (h0:R w0 { w0 with drawn:=w0.drawn + 1 }) (hr:R { w0 with drawn:=w0.drawn + 1 } { w0 with drawn:=w0.drawn + 1 })
    (hst:∀ i v w w',S i v w→R w w'→S i v w')
    (hloc:∀ i o,ops[i]? = some o→∀ ab w,R w0 w→(∀ j,bq o j=true→S j (ab j) w)→kG P ops (cZ ops (fun _=>true) ab e0 i) o w (fun v w'=>R w w'∧S i v w'))
    (hfin:∀ ab w,R w0 w→(∀ i,i < ops.size→S i (ab i) w)→Q .normal (dg N (cZ ops (fun _=>true) ab e0 ops.size) ds) w) :
    (Code.region id ops true).wpIn (Fw ro) n P Q (dg N e0 ds) w0:=
  wpIn_region_any hm (oH (w0:={ w0 with drawn:=w0.drawn + 1 }) S hl hok htr hr hst (fun i o ho ab w hR=>hloc i o ho ab w (htr _ _ _ h0 hR)) (fun ab w hR=>hfin ab w (htr _ _ _ h0 hR)))
end Go.Vc
namespace Go.Vc
structure ao (K:Nat→Prop) (w w':World):Prop where
  os:w'.os=w.os
  tape:w'.tape=w.tape
  output:w'.output=w.output
  size:w.heap.size≤w'.heap.size
  block:∀ k,k < w.heap.size→¬ K k→w'.heap[k]? = w.heap[k]?
theorem ao.refl {K:Nat→Prop} (w:World):ao K w w:=⟨rfl,rfl,rfl,Nat.le_refl _,fun _ _ _=>rfl⟩
theorem ao.trans {K:Nat→Prop} {a b c:World} (h:ao K a b) (k:ao K b c):ao K a c:=
  ⟨k.os.trans h.os,k.tape.trans h.tape,k.output.trans h.output,Nat.le_trans h.size k.size,fun i hi hk=>(k.block i (Nat.lt_of_lt_of_le hi h.size) hk).trans (h.block i hi hk)⟩
theorem ao.mono {K K':Nat→Prop} {a b:World} (h:ao K a b) (hk:∀ i,i < a.heap.size→K i→K' i):ao K' a b:=⟨h.os,h.tape,h.output,h.size,fun i hi hn=>h.block i hi (fun x=>hn (hk i hi x))⟩
theorem ao.drawn {K:Nat→Prop} (w:World) (n:Nat):ao K w { w with drawn:=n }:=⟨rfl,rfl,rfl,Nat.le_refl _,fun _ _ _=>rfl⟩
def aP:Nat→Prop:=fun _=>False
abbrev aX (w w':World):Prop:=ao aP w w'
theorem aX.keep {K:Nat→Prop} {a b:World} (h:aX a b):ao K a b:=h.mono fun _ _ x=>x.elim
theorem ao.keep {K:Nat→Prop} {a b:World} (h:ao aP a b):ao K a b:=h.mono fun _ _ x=>x.elim
theorem aX.blk {a b:World} (h:aX a b) {k:Nat} (hk:k < a.heap.size):b.heap[k]? = a.heap[k]?:=h.block k hk (fun x=>x)
theorem aX.cell {a b:World} (h:aX a b) {p:Addr} {v:Value} (hc:a.cell? p=some v):b.cell? p=some v:=by
  have hlt:=World.block_lt_of_cell? a p hc
  rw [World.cell?_of_block (h.blk hlt)];exact hc
theorem ao.cell {K:Nat→Prop} {a b:World} (h:ao K a b) {p:Addr} {v:Value} (hc:a.cell? p=some v) (hk:¬ K p.block):b.cell? p=some v:=by
  have hlt:=World.block_lt_of_cell? a p hc
  rw [World.cell?_of_block (h.block _ hlt hk)];exact hc
theorem aX.below {a b:World} (h:aX a b):RowKit.Below a.heap.size a b:=⟨h.os,h.tape,h.output,h.size,fun k hk=>h.blk hk⟩
def vI:Nat→Bool:=fun _=>true
def eS (S:Nat→Value→World→Prop) (k:Nat) (Sk:Value→World→Prop):Nat→Value→World→Prop:=fun j=>bif Nat.beq j k then Sk else S j
theorem gN {S:Nat→Value→World→Prop} {k j:Nat} {Sk:Value→World→Prop} (h:j≠k):eS S k Sk j=S j:=by
  have:Nat.beq j k=false:=by
    cases hb:Nat.beq j k with
    | false=>rfl
    | true=>exact absurd (Nat.eq_of_beq_eq_true hb) h
  simp only [eS,this,cond_false]
theorem jq {S:Nat→Value→World→Prop} {k:Nat} {Sk:Value→World→Prop}:eS S k Sk k=Sk:=by simp [eS]
def pa (N:Nat) (Q:Exit→Act→World→Prop) (S:Nat→Value→World→Prop):List Oper→Nat→(Nat→Value)→World→Prop
  | [],_,e,w=>Q .normal (Fr N e) w
  | o :: l,k,e,w=>∀ v,S k v w→pa N Q S l (k + 1) (fH e o.dst v) w
abbrev dF (ops:Array Oper) (ab e0:Nat→Value) (k:Nat):Nat→Value:=cZ ops vI ab e0 k
def fN (P:Program) (N:Nat) (ops:Array Oper) (Q:Exit→Act→World→Prop) (K:Nat→Prop) (e0:Nat→Value) (w0:World):List Oper→Nat→(Nat→Value→World→Prop)→Prop
  | [],k,S=>∀ w,ao K w0 w→pa N Q S ops.toList 0 e0 w
  | o :: l,k,S=>∃ Sk:Value→World→Prop,(∀ v w w',Sk v w→ao K w w'→Sk v w') ∧
      (∀ ab w,ao K w0 w→(∀ j,bq o j=true→S j (ab j) w)→kG P ops (dF ops ab e0 k) o w (fun v w'=>ao K w w'∧Sk v w')) ∧
      fN P N ops Q K e0 w0 l (k + 1) (eS S k Sk)
theorem kO {N:Nat} {Q:Exit→Act→World→Prop} {S:Nat→Value→World→Prop} {ops:Array Oper} {ab:Nat→Value} {e0:Nat→Value} {w:World}:∀ (l:List Oper) (k:Nat),(∀ j,l[j]? = ops[k + j]?) →
    pa N Q S l k (dF ops ab e0 k) w→(∀ i,i < k + l.length→S i (ab i) w)→Q .normal (Fr N (dF ops ab e0 (k + l.length))) w
  | [],k,_,h,_=>h
  | o :: l,k,hl,h,hS=>by
    have h0:ops[k]? = some o:=by simpa using (hl 0).symm
    have hk:=h (ab k) (hS k (by simp))
    have he:fH (dF ops ab e0 k) o.dst (ab k)=dF ops ab e0 (k + 1):=by simp [dF,cZ,vI,fE,h0]
    rw [he] at hk
    have:=kO l (k + 1) (fun j=>by have:=hl (j + 1);simpa [Nat.add_assoc,Nat.add_comm 1 j] using this) hk (fun i hi=>hS i (by simp;omega))
    have e2:k + 1 + l.length=k + (o :: l).length:=by simp;omega
    rw [e2] at this
    exact this
theorem jL {P:Program} {N:Nat} {ops:Array Oper} {Q:Exit→Act→World→Prop} {K:Nat→Prop} {e0:Nat→Value} {w0:World} (hok:ni ops=true):∀ (l:List Oper) (k:Nat) (S:Nat→Value→World→Prop),(∀ j,l[j]? = ops[k + j]?)→fN P N ops Q K e0 w0 l k S →
    (∀ i v w w',S i v w→ao K w w'→S i v w') →
    (∀ i o,i < k→ops[i]? = some o→∀ ab w,ao K w0 w→(∀ j,bq o j=true→S j (ab j) w)→kG P ops (dF ops ab e0 i) o w (fun v w'=>ao K w w'∧S i v w')) →
    ∃ S':Nat→Value→World→Prop,(∀ i v w w',S' i v w→ao K w w'→S' i v w') ∧
      (∀ i o,ops[i]? = some o→∀ ab w,ao K w0 w→(∀ j,bq o j=true→S' j (ab j) w)→kG P ops (dF ops ab e0 i) o w (fun v w'=>ao K w w'∧S' i v w')) ∧
      (∀ w,ao K w0 w→pa N Q S' ops.toList 0 e0 w)
  | [],k,S,hl,h,hst,hlo=>by
    refine ⟨S,hst,fun i o hi=>?_,h⟩
    have hlt:i < ops.size:=(Array.getElem?_eq_some_iff.1 hi).1
    by_cases hik:i < k
    · exact hlo i o hik hi
    · have:=hl (i - k)
      rw [show k + (i - k)=i by omega,hi] at this
      simp at this
  | o :: l,k,S,hl,⟨Sk,hsk,hop,hrest⟩,hst,hlo=>by
    have h0:ops[k]? = some o:=by simpa using (hl 0).symm
    have hedge:∀ i oi,ops[i]? = some oi→∀ j,bq oi j=true→j < i:=by
      intro i oi hi j hj
      obtain ⟨e,he,hb⟩:=dG hj
      simp only [Bool.and_eq_true] at hb
      have:=dD hok hi e he hb.1
      rwa [Nat.eq_of_beq_eq_true hb.2] at this
    refine jL hok l (k + 1) (eS S k Sk) (fun j=>by have:=hl (j + 1);simpa [Nat.add_assoc,Nat.add_comm 1 j] using this) hrest ?_ ?_
    · intro i v w w' hs hkw
      by_cases hik:i=k
      · subst hik;rw [jq] at hs ⊢;exact hsk v w w' hs hkw
      · rw [gN hik] at hs ⊢;exact hst i v w w' hs hkw
    · intro i oi hi hoi ab w hR hd
      by_cases hik:i=k
      · subst hik
        rw [h0] at hoi;cases hoi
        rw [jq]
        exact hop ab w hR fun j hj=>by
          have hlt:=hedge i o h0 j hj
          have:=hd j hj
          rwa [gN (by omega)] at this
      · rw [gN hik]
        exact hlo i oi (by omega) hoi ab w hR fun j hj=>by
          have hlt:=hedge i oi hoi j hj
          have:=hd j hj
          rwa [gN (by omega)] at this
def uR:Nat→Value→World→Prop:=fun _ _ _=>True
theorem dx {ro:Option Nat} {n:Nat} {ds:List Deferred} {P:Program} {N:Nat} {l:List Oper} {id:Nat} {Q:Exit→Act→World→Prop} {e:Nat→Value} {w:World} (K:Nat→Prop) (hm:P.follows .mixedOrders=true) (hl:fC N l.toArray=true) (hok:ni l.toArray=true)
    (h:fN P N l.toArray (Qd ds Q) K e w l 0 uR):(Code.region id l.toArray true).wpIn (Fw ro) n P Q (dg N e ds) w:=by
  obtain ⟨S,h1,h2,h3⟩:=jL hok l 0 uR (by simp) h (fun _ _ _ _ _ _=>trivial) (fun i o hi=>by omega)
  refine tX (R:=ao K) S hm hl hok (fun _ _ _=>ao.trans) (ao.drawn _ _) (ao.refl _) h1 h2 fun ab w' hR hS=>?_
  have h4:pa N (Qd ds Q) S l 0 (dF l.toArray ab e 0) w':=h3 w' hR
  have:=kO (ops:=l.toArray) (ab:=ab) l 0 (by simp) h4 (fun i hi=>hS i (by simpa using hi))
  rw [Nat.zero_add] at this
  exact this
theorem cf {ro:Option Nat} {n:Nat} {ds:List Deferred} {P:Program} {N:Nat} {l:List Oper} {Q:Exit→Act→World→Prop} {e:Nat→Value} {w:World} (K:Nat→Prop) (hl:fC N l.toArray=true) (hok:ni l.toArray=true)
    (h:fN P N l.toArray (Qd ds Q) K e w l 0 uR):ot ro n P l.toArray Q (dg N e ds) w:=by
  obtain ⟨S,h1,h2,h3⟩:=jL hok l 0 uR (by simp) h (fun _ _ _ _ _ _=>trivial) (fun i o hi=>by omega)
  refine oH (R:=ao K) S hl hok (fun _ _ _=>ao.trans) (ao.refl _) h1 h2 fun ab w' hR hS=>?_
  have h4:pa N (Qd ds Q) S l 0 (dF l.toArray ab e 0) w':=h3 w' hR
  have:=kO (ops:=l.toArray) (ab:=ab) l 0 (by simp) h4 (fun i hi=>hS i (by simpa using hi))
  rw [Nat.zero_add] at this
  exact this
section
variable {P:Program} {N:Nat} {ops:Array Oper} {Q:Exit→Act→World→Prop} {K:Nat→Prop} {e0:Nat→Value} {w0:World} {l:List Oper} {k:Nat} {S:Nat→Value→World→Prop}
theorem bU (h:∀ w,ao K w0 w→pa N Q S ops.toList 0 e0 w):fN P N ops Q K e0 w0 [] k S:=h
theorem aB {d:Option Tmp} {op:Op} {ty:TypeId} {p:String} {af:Array Edge} {t:Value}
    (h:∀ ab w,ao K w0 w→(∀ j,bq ⟨d,op,ty,p,af,none⟩ j=true→S j (ab j) w)→aG P ⟨d,op,ty,p,af,none⟩ (dF ops ab e0 k) w t)
    (r:fN P N ops Q K e0 w0 l (k + 1) (eS S k (fun v _=>v=t))):fN P N ops Q K e0 w0 (⟨d,op,ty,p,af,none⟩ :: l) k S:=by
  refine ⟨_,fun _ _ _ h _=>h,fun ab w hR hd=>?_,r⟩
  simp only [kG,cb,Region.wanted,if_true]
  exact bx.of_v (h ab w hR hd) ⟨ao.refl _,rfl⟩
theorem cr {d:Option Tmp} {op:Op} {ty:TypeId} {p:String} {af:Array Edge} (Sk:Value→World→Prop)
    (hs:∀ v w w',Sk v w→ao K w w'→Sk v w')
    (h:∀ ab w,ao K w0 w→(∀ j,bq ⟨d,op,ty,p,af,none⟩ j=true→S j (ab j) w)→bx P ⟨d,op,ty,p,af,none⟩ (dF ops ab e0 k) w (fun v w'=>ao K w w'∧Sk v w'))
    (r:fN P N ops Q K e0 w0 l (k + 1) (eS S k Sk)):fN P N ops Q K e0 w0 (⟨d,op,ty,p,af,none⟩ :: l) k S:=by
  refine ⟨Sk,hs,fun ab w hR hd=>?_,r⟩
  simp only [kG,cb,Region.wanted,if_true]
  exact h ab w hR hd
theorem bh {d:Option Tmp} {op:Op} {ty:TypeId} {p:String} {af:Array Edge} {g:Nat} {b c:Bool} {tt:Tmp} {t:Value} (hg:(ops[g]?).bind (·.dst)=some tt)
    (hc:∀ ab w,(∀ j,bq ⟨d,op,ty,p,af,some (g,b)⟩ j=true→S j (ab j) w)→dF ops ab e0 k tt=.bool c)
    (h:∀ ab w,ao K w0 w→(∀ j,bq ⟨d,op,ty,p,af,some (g,b)⟩ j=true→S j (ab j) w)→(c == b)=true→aG P ⟨d,op,ty,p,af,some (g,b)⟩ (dF ops ab e0 k) w t)
    (r:fN P N ops Q K e0 w0 l (k + 1) (eS S k (fun v _=>v=bif (c == b) then t else undef))):fN P N ops Q K e0 w0 (⟨d,op,ty,p,af,some (g,b)⟩ :: l) k S:=by
  refine ⟨_,fun _ _ _ h _=>h,fun ab w hR hd=>?_,r⟩
  have hy:=kH hg (hc ab w hd)
  simp only [kG,cb,Region.wanted,hy]
  by_cases hb:c=b
  · have hcb:(c == b)=true:=by simp [hb]
    have:(some c == some b)=true:=by simp [hb]
    rw [this]
    exact bx.of_v (h ab w hR hd hcb) ⟨ao.refl _,by rw [hcb];rfl⟩
  · have hcb:(c == b)=false:=by simpa using hb
    have:(some c == some b)=false:=by simpa using hb
    rw [this]
    exact ⟨ao.refl _,by rw [hcb];rfl⟩
theorem db {d:Option Tmp} {op:Op} {ty:TypeId} {p:String} {af:Array Edge} {g:Nat} {b c G:Bool} {tt:Tmp} {t:Value} (hg:(ops[g]?).bind (·.dst)=some tt)
    (hc:∀ ab w,(∀ j,bq ⟨d,op,ty,p,af,some (g,b)⟩ j=true→S j (ab j) w)→dF ops ab e0 k tt=bif G then .bool c else undef)
    (h:∀ ab w,ao K w0 w→(∀ j,bq ⟨d,op,ty,p,af,some (g,b)⟩ j=true→S j (ab j) w)→(G && (c == b))=true→aG P ⟨d,op,ty,p,af,some (g,b)⟩ (dF ops ab e0 k) w t)
    (r:fN P N ops Q K e0 w0 l (k + 1) (eS S k (fun v _=>v=bif (G && (c == b)) then t else undef))):fN P N ops Q K e0 w0 (⟨d,op,ty,p,af,some (g,b)⟩ :: l) k S:=by
  refine ⟨_,fun _ _ _ h _=>h,fun ab w hR hd=>?_,r⟩
  have hc':=hc ab w hd
  have hy:eG ops (dF ops ab e0 k) g=bif G then some c else none:=by
    unfold eG;rw [hg];simp only [hc'];cases G <;> rfl
  simp only [kG,cb,Region.wanted,hy]
  cases G with
  | false=>
    have:((none:Option Bool) == some b)=false:=rfl
    simp only [cond_false,this,Bool.false_and]
    exact ⟨ao.refl _,trivial⟩
  | true=>
    simp only [cond_true,Bool.true_and]
    by_cases hb:c=b
    · have hcb:(c == b)=true:=by simp [hb]
      have:(some c == some b)=true:=by simp [hb]
      rw [this]
      exact bx.of_v (h ab w hR hd (by simp [hcb])) ⟨ao.refl _,by rw [hcb];rfl⟩
    · have hcb:(c == b)=false:=by simpa using hb
      have:(some c == some b)=false:=by simpa using hb
      rw [this]
      exact ⟨ao.refl _,by rw [hcb];rfl⟩
end
theorem jm {ops:Array Oper} {e:Nat→Value} {d:Option Tmp} {op:Op} {ty:TypeId} {p:String} {af:Array Edge} {g:Nat} {b c:Bool} {tt:Tmp} (hg:(ops[g]?).bind (·.dst)=some tt) (hc:e tt=.bool c) :
    cb ops e ⟨d,op,ty,p,af,some (g,b)⟩=(c == b):=by
  simp only [cb,Region.wanted,kH hg hc];cases c <;> cases b <;> rfl
theorem nB {ops:Array Oper} {e:Nat→Value} {d:Option Tmp} {op:Op} {ty:TypeId} {p:String} {af:Array Edge} {g:Nat} {b c G:Bool} {tt:Tmp} (hg:(ops[g]?).bind (·.dst)=some tt) (hc:e tt=bif G then .bool c else undef) :
    cb ops e ⟨d,op,ty,p,af,some (g,b)⟩=(G && (c == b)):=by
  have hy:eG ops e g=bif G then some c else none:=by
    unfold eG;rw [hg];simp only [hc];cases G <;> rfl
  simp only [cb,Region.wanted,hy];cases G <;> cases c <;> cases b <;> rfl
theorem gd {v t:Value} {G:Bool} (hG:G=true) (h:v=bif G then t else undef):v=t:=by subst hG;exact h
theorem sY {v t:Value} {A B:Bool} (hA:A=true) (h:v=bif (A && B) then t else undef):v=bif B then t else undef:=by subst hA;exact h
section
variable {P:Program} {N:Nat} {ops:Array Oper} {Q:Exit→Act→World→Prop} {e:Nat→Value} {w:World} {ca:List Oper}
theorem aj {d:Option Tmp} {op:Op} {ty:TypeId} {p:String} {af:Array Edge} {g:Nat} {b c:Bool} {tt:Tmp} {t:Value} (hg:(ops[g]?).bind (·.dst)=some tt) (hc:e tt=.bool c)
    (h:(c == b)=true→aG P ⟨d,op,ty,p,af,some (g,b)⟩ e w t) (r:jl P N ops Q ca (fH e d (bif (c == b) then t else undef)) w) :
    jl P N ops Q (⟨d,op,ty,p,af,some (g,b)⟩ :: ca) e w:=by
  unfold jl
  rw [jm hg hc]
  cases hcb:(c == b) with
  | true=>rw [hcb] at r;exact Or.inl (bx.of_v (h hcb) r)
  | false=>rw [hcb] at r;exact r
theorem gX {d:Option Tmp} {op:Op} {ty:TypeId} {p:String} {af:Array Edge} {g:Nat} {b c G:Bool} {tt:Tmp} {t:Value} (hg:(ops[g]?).bind (·.dst)=some tt) (hc:e tt=bif G then .bool c else undef)
    (h:(G && (c == b))=true→aG P ⟨d,op,ty,p,af,some (g,b)⟩ e w t) (r:jl P N ops Q ca (fH e d (bif (G && (c == b)) then t else undef)) w) :
    jl P N ops Q (⟨d,op,ty,p,af,some (g,b)⟩ :: ca) e w:=by
  unfold jl
  rw [nB hg hc]
  cases hcb:(G && (c == b)) with
  | true=>rw [hcb] at r;exact Or.inl (bx.of_v (h hcb) r)
  | false=>rw [hcb] at r;exact r
end
end Go.Vc
namespace Go.Vc
theorem hM (P:Program) (w:World) (n:Nat) (t:TypeId) (a b:Bool) (h:P.underlying t=some .bool):(Op.equalIn (n + 1) t (.bool a) (.bool b)).run P w=.ok (a == b) w:=by
  simp [Op.equalIn,run_underlying h]
theorem lj (P:Program) (w:World) (n:Nat) (t et:TypeId) (a:Option Addr) (h:P.underlying t=some (.pointer et)):(Op.equalIn (n + 1) t (.pointer a) (.pointer none)).run P w=.ok a.isNone w:=by
  cases a <;> simp [Op.equalIn,run_underlying h,samePointer]
theorem kL (P:Program) (w:World) (n:Nat) (t:TypeId) {ps rs:Array TypeId} {v:Bool} (fn:Fn) (a b:Array Value) (h:P.underlying t=some (.func ps rs v)):(Op.equalIn (n + 1) t (.func fn a b) .nilFunc).run P w=.ok false w:=by
  simp [Op.equalIn,run_underlying h]
section
variable {P:Program} {d:Option Tmp} {ty:TypeId} {p:String} {af:Array Edge} {g:Option (Nat × Bool)} {e:Nat→Value} {w:World} {x y c:Operand}
theorem be {t:Value} (hx:ev e x=t):aG P ⟨d,.move x,ty,p,af,g⟩ e w t:=by subst hx;rfl
theorem ad {t:Value} (hx:ev e x=t):aG P ⟨d,.assign x,ty,p,af,g⟩ e w t:=by subst hx;rfl
theorem nC {b:Bool} {s t:Value} (hc:ev e c=.bool b) (hx:ev e x=s) (hy:ev e y=t):aG P ⟨d,.pick c x y,ty,p,af,g⟩ e w (bif b then s else t):=by
  subst hx;subst hy;cases b <;> simp [aG,execOp,hc,asBool]
theorem bF {b q:Bool} (hc:ev e c=.bool b) (hy:ev e y=bif (b == false) then .bool q else undef):aG P ⟨d,.pick c (.const (.bool true)) y,ty,p,af,g⟩ e w (.bool (b || q)):=by
  cases b
  · simp [aG,execOp,hc,asBool,hy]
  · simp [aG,execOp,hc,asBool];rfl
theorem bu {b q:Bool} (hc:ev e c=.bool b) (hy:ev e y=bif (b == true) then .bool q else undef):aG P ⟨d,.pick c y (.const (.bool false)),ty,p,af,g⟩ e w (.bool (b && q)):=by
  cases b
  · simp [aG,execOp,hc,asBool];rfl
  · simp [aG,execOp,hc,asBool,hy]
section ints
variable {k:IntKind} {a b:Int} {xt yt:TypeId}
theorem cn {t:Int} (hx:ev e x=.int k a) (hy:ev e y=.int k b) (ht:k.wrap (a + b)=t):aG P ⟨d,.binOp .add xt x y yt,ty,p,af,g⟩ e w (.int k t):=by
  subst ht;simp [aG,execOp,hx,hy,eqGuard,binOp,Op.intArith]
theorem iE {t:Int} (hx:ev e x=.int k a) (hy:ev e y=.int k b) (ht:k.wrap (a - b)=t):aG P ⟨d,.binOp .sub xt x y yt,ty,p,af,g⟩ e w (.int k t):=by
  subst ht;simp [aG,execOp,hx,hy,eqGuard,binOp,Op.intArith]
theorem sa {t:Int} (hx:ev e x=.int k a) (hy:ev e y=.int k b) (ht:k.wrap (a * b)=t):aG P ⟨d,.binOp .mul xt x y yt,ty,p,af,g⟩ e w (.int k t):=by
  subst ht;simp [aG,execOp,hx,hy,eqGuard,binOp,Op.intArith]
theorem vY {t:Int} (hx:ev e x=.int k a) (hy:ev e y=.int k b) (h0:b≠0) (ht:k.wrap (a.tdiv b)=t):aG P ⟨d,.binOp .quo xt x y yt,ty,p,af,g⟩ e w (.int k t):=by
  subst ht;simp [aG,execOp,hx,hy,eqGuard,binOp,Op.intDiv,h0]
theorem uI {t:Int} (hx:ev e x=.int k a) (hy:ev e y=.int k b) (h0:b≠0) (ht:a.tmod b=t):aG P ⟨d,.binOp .rem xt x y yt,ty,p,af,g⟩ e w (.int k t):=by
  subst ht;simp [aG,execOp,hx,hy,eqGuard,binOp,Op.intDiv,h0]
theorem vZ {t:Int} (hx:ev e x=.int k a) (hy:ev e y=.int k b) (ht:k.wrap ((BitVec.ofInt k.bits a ||| BitVec.ofInt k.bits b).toNat)=t):aG P ⟨d,.binOp .or xt x y yt,ty,p,af,g⟩ e w (.int k t):=by
  subst ht;simp [aG,execOp,hx,hy,eqGuard,binOp,Op.intBits]
theorem bw (hx:ev e x=.int k a) (hy:ev e y=.int k b):aG P ⟨d,.binOp .lss xt x y yt,ty,p,af,g⟩ e w (.bool (decide (a < b))):=by
  simp [aG,execOp,hx,hy,eqGuard,binOp,Op.intCmp]
theorem fT (hx:ev e x=.int k a) (hy:ev e y=.int k b):aG P ⟨d,.binOp .leq xt x y yt,ty,p,af,g⟩ e w (.bool (decide (a≤b))):=by
  simp [aG,execOp,hx,hy,eqGuard,binOp,Op.intCmp]
theorem bX (hx:ev e x=.int k a) (hy:ev e y=.int k b):aG P ⟨d,.binOp .gtr xt x y yt,ty,p,af,g⟩ e w (.bool (decide (b < a))):=by
  simp [aG,execOp,hx,hy,eqGuard,binOp,Op.intCmp]
theorem fc (hx:ev e x=.int k a) (hy:ev e y=.int k b):aG P ⟨d,.binOp .geq xt x y yt,ty,p,af,g⟩ e w (.bool (decide (b≤a))):=by
  simp [aG,execOp,hx,hy,eqGuard,binOp,Op.intCmp]
theorem aJ (hx:ev e x=.int k a) (hy:ev e y=.int k b):aG P ⟨d,.binOp .eql xt x y yt,ty,p,af,g⟩ e w (.bool (decide (a=b))):=by
  have:(a == b)=decide (a=b):=rfl
  simp [aG,execOp,hx,hy,eqGuard,binOp,Op.intCmp,this]
theorem bD (hx:ev e x=.int k a) (hy:ev e y=.int k b):aG P ⟨d,.binOp .neq xt x y yt,ty,p,af,g⟩ e w (.bool (!decide (a=b))):=by
  simp [aG,execOp,hx,hy,eqGuard,binOp,Op.intCmp,bne]
  rfl
theorem bS {t:Int} {k':IntKind} {ds:TypeDesc} {src dst:TypeId} (hs:P.underlying src=some ds) (hd:P.underlying dst=some (.int k)) (hx:ev e x=.int k' a) (ht:k.wrap a=t):aG P ⟨d,.convert src dst x,ty,p,af,g⟩ e w (.int k t):=by
  subst ht;simp [aG,execOp,hx,convert,run_underlying hs,run_underlying hd,Conv.intToInt]
end ints
theorem cg {b:Bool} {xt:TypeId} (hx:ev e x=.bool b):aG P ⟨d,.unOp .not xt x,ty,p,af,g⟩ e w (.bool !b):=by
  simp [aG,execOp,hx,Op.unary]
theorem nD {a b:Bool} {xt yt:TypeId} (ht:P.underlying xt=some .bool) (hx:ev e x=.bool a) (hy:ev e y=.bool b):aG P ⟨d,.binOp .eql xt x y yt,ty,p,af,g⟩ e w (.bool (a == b)):=by
  simp only [aG,execOp,hx,hy,eqGuard,binOp];simp [Op.equal,Op.maxDepth,hM P w 9999 xt a b ht]
theorem gU {a b:Bool} {xt yt:TypeId} (ht:P.underlying xt=some .bool) (hx:ev e x=.bool a) (hy:ev e y=.bool b):aG P ⟨d,.binOp .neq xt x y yt,ty,p,af,g⟩ e w (.bool !(a == b)):=by
  simp only [aG,execOp,hx,hy,eqGuard,binOp];simp [Op.equal,Op.maxDepth,hM P w 9999 xt a b ht]
theorem uY {a b:ByteArray} {xt yt:TypeId} (hx:ev e x=.string a) (hy:ev e y=.string b):aG P ⟨d,.binOp .eql xt x y yt,ty,p,af,g⟩ e w (.bool (a.toList == b.toList)):=by
  simp [aG,execOp,hx,hy,eqGuard,binOp,Op.stringOp]
theorem lF {a:Option Addr} {n c:Nat} {xt yt et:TypeId} (ht:P.underlying xt=some (.slice et)) (hx:ev e x=.slice a n c) (hy:ev e y=.slice none 0 0):aG P ⟨d,.binOp .eql xt x y yt,ty,p,af,g⟩ e w (.bool a.isNone):=by
  have:=Lib.run_eql_slice_nil (P:=P) w xt et a n c 0 0 ht
  simp [aG,execOp,hx,hy,eqGuard,this]
theorem uZ {a:Option Addr} {xt yt et:TypeId} (ht:P.underlying xt=some (.pointer et)) (hx:ev e x=.pointer a) (hy:ev e y=.pointer none):aG P ⟨d,.binOp .eql xt x y yt,ty,p,af,g⟩ e w (.bool a.isNone):=by
  simp only [aG,execOp,hx,hy,eqGuard,binOp];simp [Op.equal,Op.maxDepth,lj P w 9999 xt et a ht]
theorem aM {a:Addr} (hx:ev e x=.pointer (some a)):aG P ⟨d,.nilCheck x,ty,p,af,g⟩ e w (.pointer (some a)):=by
  simp [aG,execOp,hx]
theorem ai {vs:Array Value} {i:Nat} {t:Value} (hx:ev e x=.tuple vs) (hi:vs[i]? = some t):aG P ⟨d,.extract x i,ty,p,af,g⟩ e w t:=by
  simp [aG,execOp,hx,Instr.extract,hi]
theorem cC {fn:Fn} {first captured:Array Operand} {f' c':Array Value} (h1:first.map (ev e)=f') (h2:captured.map (ev e)=c'):aG P ⟨d,.makeFunc fn first captured,ty,p,af,g⟩ e w (.func fn f' c'):=by
  simp [aG,execOp,Instr.makeFunc,h1,h2]
theorem ba {t:TypeId} {et:TypeId} {a:Option Addr} {n c:Nat} (ht:P.underlying t=some (.slice et)) (hx:ev e x=.slice a n c):aG P ⟨d,.call { callee:=.builtin .len,args:=#[x],argTypes:=#[t] },ty,p,af,g⟩ e w (.int .i64 n):=by
  simp [aG,execOp,hx,resolve,invoke,builtin,Builtin.len_,run_underlying ht,goInt]
theorem eM {fn:Fn} {a b:Array Value} {xt yt:TypeId} {ps rs:Array TypeId} {v:Bool} (ht:P.underlying xt=some (.func ps rs v)) (hx:ev e x=.func fn a b) (hy:ev e y=.nilFunc):aG P ⟨d,.binOp .eql xt x y yt,ty,p,af,g⟩ e w (.bool false):=by
  simp only [aG,execOp,hx,hy,eqGuard,binOp];simp [Op.equal,Op.maxDepth,kL P w 9999 xt fn a b ht]
end
end Go.Vc
namespace Go.Vc
theorem gT (q:Addr) (i j:Nat):(q.add i).add j=q.add (i + j):=by
  unfold Addr.add
  by_cases hi:i=0
  · subst hi;by_cases hj:j=0 <;> simp [hj]
  · by_cases hj:j=0
    · subst hj;simp
    · simp [hi,hj,Nat.add_assoc]
theorem au (q:Addr) (i:Nat):(q.add i).block=q.block:=by unfold Addr.add;split <;> rfl
theorem eE (b o i:Nat):(⟨b,o,none⟩:Addr).add i=⟨b,o + i,none⟩:=Addr.add_lit b o i
theorem kB (q:Addr):q.add 0=q:=by simp [Addr.add]
structure Ty (α:Type) where
  sz:Nat
  pos:0 < sz
  rep:World→(Nat→Prop)→List Value→α→Prop
  len:∀ {w F cs x},rep w F cs x→cs.length=sz
  one:∀ {w F cs x},rep w F cs x→∀ u ∈ cs,u.oneCell'=true
  keep:∀ {w w' F K cs x},rep w F cs x→ao K w w'→(∀ b,b < w.heap.size→F b→¬ K b)→rep w' F cs x
  mono:∀ {w F F' cs x},rep w F cs x→(∀ b,b < w.heap.size→F b→F' b)→rep w F' cs x
def Pv (w:World) (q:Addr) (cs:List Value):Prop:=∀ j u,cs[j]? = some u→w.cell? (q.add j)=some u
theorem Pv.keep {w w':World} {K:Nat→Prop} {q:Addr} {cs:List Value} (h:Pv w q cs) (k:ao K w w') (hk:¬ K q.block):Pv w' q cs:=
  fun j u hu=>k.cell (h j u hu) (by rw [au];exact hk)
theorem Pv.ext {w w':World} {q:Addr} {cs:List Value} (h:Pv w q cs) (k:aX w w'):Pv w' q cs:=h.keep k (fun x=>x)
theorem Pv.lt {w:World} {q:Addr} {cs:List Value} (h:Pv w q cs) (hp:0 < cs.length):q.block < w.heap.size:=by
  have h0:cs[0]? = some cs[0]:=by simp [hp]
  have:=World.block_lt_of_cell? w _ (h 0 _ h0)
  rwa [au] at this
def bs {α:Type} (t:Ty α) (w:World) (F:Nat→Prop) (v:Value) (xs:List α):Prop:=
  ∃ a c,v=.slice a xs.length c∧xs.length≤c∧c≤maxLen∧(a=none→c=0) ∧
    ∀ i x,xs[i]? = some x→∃ q cs,a=some q∧F q.block∧Pv w (q.add (i * t.sz)) cs∧t.rep w F cs x
section
variable {α:Type} {t:Ty α} {w w':World} {F F' K:Nat→Prop} {v:Value} {xs:List α}
theorem bs.shape (h:bs t w F v xs):∃ a c,v=.slice a xs.length c:=by obtain ⟨a,c,rfl,_⟩:=h;exact ⟨a,c,rfl⟩
theorem bs.max (h:bs t w F v xs):xs.length≤maxLen:=by obtain ⟨a,c,_,h1,h2,_⟩:=h;omega
theorem bs.nil (t:Ty α) (w:World) (F:Nat→Prop):bs t w F (.slice none 0 0) []:=⟨none,0,rfl,Nat.le_refl _,by simp [maxLen],fun _=>rfl,fun i x h=>by simp at h⟩
theorem bs.empty (t:Ty α) (w:World) (F:Nat→Prop) (a:Option Addr) (c:Nat) (hc:c≤maxLen) (ha:a=none→c=0):bs t w F (.slice a 0 c) []:=⟨a,c,rfl,Nat.zero_le _,hc,ha,fun i x h=>by simp at h⟩
theorem lS {q:Addr} {cs:List Value} {x:α} (hp:Pv w q cs) (hr:t.rep w F cs x):q.block < w.heap.size:=hp.lt (by have:=t.len hr;have:=t.pos;omega)
theorem bs.keep (h:bs t w F v xs) (k:ao K w w') (hk:∀ b,b < w.heap.size→F b→¬ K b):bs t w' F v xs:=by
  obtain ⟨a,c,hv,h1,h2,h3,h4⟩:=h
  refine ⟨a,c,hv,h1,h2,h3,fun i x hx=>?_⟩
  obtain ⟨q,cs,ha,hF,hc,hr⟩:=h4 i x hx
  have hlt:=lS hc hr
  rw [au] at hlt
  exact ⟨q,cs,ha,hF,hc.keep k (by rw [au];exact hk _ hlt hF),t.keep hr k hk⟩
theorem bs.ext (h:bs t w F v xs) (k:aX w w'):bs t w' F v xs:=h.keep k (fun _ _ _ x=>x)
theorem bs.mono (h:bs t w F v xs) (hf:∀ b,b < w.heap.size→F b→F' b):bs t w F' v xs:=by
  obtain ⟨a,c,hv,h1,h2,h3,h4⟩:=h
  refine ⟨a,c,hv,h1,h2,h3,fun i x hx=>?_⟩
  obtain ⟨q,cs,ha,hF,hc,hr⟩:=h4 i x hx
  have hlt:=lS hc hr
  rw [au] at hlt
  exact ⟨q,cs,ha,hf _ hlt hF,hc,t.mono hr hf⟩
theorem bs.lt (h:bs t w F v xs):bs t w (fun b=>F b∧b < w.heap.size) v xs:=h.mono fun b hb hF=>⟨hF,hb⟩
theorem bs.all (h:bs t w F v xs):bs t w (fun b=>b < w.heap.size) v xs:=h.mono fun b hb _=>hb
end
def cw:Ty UInt8 where
  sz:=1
  pos:=by decide
  rep:=fun _ _ cs x=>cs=[.int .u8 x.toNat]
  len:=by rintro _ _ _ _ rfl;rfl
  one:=by rintro _ _ _ _ rfl u hu;simp at hu;subst hu;rfl
  keep:=by intro _ _ _ _ _ _ h _ _;exact h
  mono:=by intro _ _ _ _ _ h _;exact h
def dL (k:IntKind):Ty Int where
  sz:=1
  pos:=by decide
  rep:=fun _ _ cs x=>cs=[.int k x]∧(Lit.int k x).wf=true
  len:=by rintro _ _ _ _ ⟨rfl,_⟩;rfl
  one:=by rintro _ _ _ _ ⟨rfl,_⟩ u hu;simp at hu;subst hu;rfl
  keep:=by intro _ _ _ _ _ _ h _ _;exact h
  mono:=by intro _ _ _ _ _ h _;exact h
def j7:Ty Bool where
  sz:=1
  pos:=by decide
  rep:=fun _ _ cs x=>cs=[.bool x]
  len:=by rintro _ _ _ _ rfl;rfl
  one:=by rintro _ _ _ _ rfl u hu;simp at hu;subst hu;rfl
  keep:=by intro _ _ _ _ _ _ h _ _;exact h
  mono:=by intro _ _ _ _ _ h _;exact h
theorem cL (a:Option Addr) (n c:Nat):(Value.slice a n c).oneCell'=true:=rfl
def dB {α:Type} (t:Ty α):Ty (List α) where
  sz:=1
  pos:=by decide
  rep:=fun w F cs xs=>∃ v,cs=[v]∧bs t w F v xs
  len:=by rintro _ _ _ _ ⟨v,rfl,_⟩;rfl
  one:=by rintro _ _ _ _ ⟨v,rfl,h⟩ u hu;obtain ⟨a,c,rfl⟩:=h.shape;simp at hu;subst hu;rfl
  keep:=by rintro _ _ _ _ _ _ ⟨v,rfl,h⟩ k hk;exact ⟨v,rfl,h.keep k hk⟩
  mono:=by rintro _ _ _ _ _ ⟨v,rfl,h⟩ hf;exact ⟨v,rfl,h.mono hf⟩
def bM {α β:Type} (s:Ty α) (t:Ty β):Ty (α × β) where
  sz:=s.sz + t.sz
  pos:=by have:=s.pos;omega
  rep:=fun w F cs x=>∃ c1 c2,cs=c1 ++ c2∧s.rep w F c1 x.1∧t.rep w F c2 x.2
  len:=by rintro _ _ _ _ ⟨c1,c2,rfl,h1,h2⟩;simp [s.len h1,t.len h2]
  one:=by
    rintro _ _ _ _ ⟨c1,c2,rfl,h1,h2⟩ u hu
    rcases List.mem_append.1 hu with h | h
    · exact s.one h1 u h
    · exact t.one h2 u h
  keep:=by rintro _ _ _ _ _ _ ⟨c1,c2,rfl,h1,h2⟩ k hk;exact ⟨c1,c2,rfl,s.keep h1 k hk,t.keep h2 k hk⟩
  mono:=by rintro _ _ _ _ _ ⟨c1,c2,rfl,h1,h2⟩ hf;exact ⟨c1,c2,rfl,s.mono h1 hf,t.mono h2 hf⟩
def wb {α β:Type} (t:Ty α) (f:β→α):Ty β where
  sz:=t.sz
  pos:=t.pos
  rep:=fun w F cs y=>t.rep w F cs (f y)
  len:=fun h=>t.len h
  one:=fun h=>t.one h
  keep:=fun h k hk=>t.keep h k hk
  mono:=fun h hf=>t.mono h hf
abbrev Bv (w:World) (F:Nat→Prop) (v:Value) (l:List UInt8):Prop:=bs cw w F v l
def dh (w:World) (b:Nat) (cs:List Value) (T:TypeId):Prop:=w.heap[b]? = some (.cells cs.toArray T (0,0))
theorem dh.lt {w:World} {b:Nat} {cs:List Value} {T:TypeId} (h:dh w b cs T):b < w.heap.size:=by
  rcases Nat.lt_or_ge b w.heap.size with h' | h'
  · exact h'
  · simp [dh,Array.getElem?_eq_none h'] at h
theorem dh.keep {w w':World} {K:Nat→Prop} {b:Nat} {cs:List Value} {T:TypeId} (h:dh w b cs T) (k:ao K w w') (hk:¬ K b):dh w' b cs T:=by
  unfold dh;rw [k.block b h.lt hk];exact h
theorem dh.ext {w w':World} {b:Nat} {cs:List Value} {T:TypeId} (h:dh w b cs T) (k:aX w w'):dh w' b cs T:=h.keep k (fun x=>x)
theorem dh.cell {w:World} {b:Nat} {cs:List Value} {T:TypeId} (h:dh w b cs T) {i:Nat} {v:Value} (hi:cs[i]? = some v):w.cell? ⟨b,i,none⟩=some v:=by
  rw [cell_of_row w b i _ T (0,0) h];simpa using hi
theorem dh.pv {w:World} {b:Nat} {cs:List Value} {T:TypeId} (h:dh w b cs T):Pv w ⟨b,0,none⟩ cs:=fun j u hu=>by
  rw [eE,Nat.zero_add];exact h.cell hu
theorem dh.free {w:World} {b:Nat} {cs:List Value} {T:TypeId} (h:dh w b cs T) (i:Nat):w.frozen? ⟨b,i,none⟩=false:=by
  unfold dh at h
  simp [World.frozen?,h]
theorem aX.alloc (w:World) (o:Obj):aX w (w.alloc o):=⟨rfl,rfl,rfl,by simp,fun k hk _=>RowKit.Below.heap_alloc w o k hk⟩
theorem dh.new (w:World) (cs:List Value) (T:TypeId):dh (w.alloc (.cells cs.toArray T)) w.heap.size cs T:=heap_alloc_new w _
theorem ao.setCell (w:World) (a:Addr) (v:Value):ao (fun b=>b=a.block) w (w.setCell a v):=
  ⟨rfl,rfl,rfl,by simp [World.setCell],fun k _ hk=>RowKit.Below.heap_setCell _ _ _ _ hk⟩
theorem dh.set {w:World} {b:Nat} {cs:List Value} {T:TypeId} (h:dh w b cs T) (i:Nat) (v:Value):dh (w.setCell ⟨b,i,none⟩ v) b (cs.set i v) T:=by
  have hlt:=h.lt
  unfold dh at h ⊢
  simp only [World.setCell,Array.getElem?_modify,h]
  simp
end Go.Vc
namespace Go.Vc
def sT (P:Program) (t:TypeId):Bool:=match P.underlying t with
  | some (.struct _) | some (.array _ _)=>false
  | some _=>true
  | none=>false
def nT (P:Program) (t:TypeId) (n:Nat):Bool:=(match P.underlying t with
  | some (.struct _) | some (.array _ _)=>true
  | _=>false) && (P.info? t).map (·.size) == some n
def gQ (P:Program) (t:TypeId) (n:Nat):Bool:=(P.info? t).map (·.size) == some n
def pM (P:Program) (s i off:Nat) (ft:TypeId):Bool:=match P.underlying s with
  | some (.struct fs)=>(match fs[i]? with | some f=>Nat.beq f.offset off && Nat.beq f.type ft && (match P.info? ft with | some inf=>!Nat.beq inf.size 0 | none=>false) | none=>false)
  | _=>false
def gj (P:Program) (T e sz bytes:Nat):Bool:=(match P.underlying T with | some (.slice e')=>Nat.beq e' e | _=>false) &&
  (match P.info? e with | some i=>(match i.zero with | some z=>Nat.beq z.cells.size sz | none=>false) && Nat.beq i.size sz && Nat.beq i.bytes bytes | none=>false)
def gD (P:Program) (T e:Nat):Bool:=match P.underlying T with | some (.slice e')=>Nat.beq e' e | _=>false
theorem eO {P:Program} {T e:Nat} (h:gD P T e=true):P.underlying T=some (.slice e):=by
  unfold gD at h
  split at h
  · rename_i e' he;rw [he,Nat.eq_of_beq_eq_true h]
  · cases h
theorem fW {P:Program} {T e sz bytes:Nat} (h:gj P T e sz bytes=true):P.underlying T=some (.slice e)∧∃ i z,P.info? e=some i∧i.zero=some z∧z.cells.size=sz∧i.size=sz∧i.bytes=bytes:=by
  simp only [gj,Bool.and_eq_true] at h
  refine ⟨eO h.1,?_⟩
  have h2:=h.2
  split at h2
  · rename_i i hi
    simp only [Bool.and_eq_true] at h2
    obtain ⟨⟨h3,h4⟩,h5⟩:=h2
    split at h3
    · rename_i z hz;exact ⟨i,z,hi,hz,Nat.eq_of_beq_eq_true h3,Nat.eq_of_beq_eq_true h4,Nat.eq_of_beq_eq_true h5⟩
    · cases h3
  · cases h2
theorem jC {P:Program} {t:TypeId} (h:sT P t=true) (w:World):(isAgg t).run P w=.ok false w:=by
  unfold sT at h
  unfold isAgg
  cases hu:P.underlying t with
  | none=>simp [hu] at h
  | some d=>
    rw [hu] at h
    cases d <;> simp at h <;> simp [run_underlying hu]
theorem gV {P:Program} {t:TypeId} {n:Nat} (h:nT P t n=true) (w:World):(isAgg t).run P w=.ok true w∧(sizeOf t).run P w=.ok n w:=by
  simp only [nT,Bool.and_eq_true] at h
  constructor
  · have h1:=h.1
    unfold isAgg
    cases hu:P.underlying t with
    | none=>simp [hu] at h1
    | some d=>
      rw [hu] at h1
      cases d <;> simp at h1 <;> simp [run_underlying hu]
  · have h2:=h.2
    cases hi:P.info? t with
    | none=>simp [hi] at h2
    | some i=>simp [hi] at h2;simp [sizeOf,typeInfo,hi,h2]
theorem em {P:Program} {t:TypeId} {n:Nat} (h:gQ P t n=true) (w:World):(sizeOf t).run P w=.ok n w:=by
  cases hi:P.info? t with
  | none=>simp [gQ,hi] at h
  | some i=>simp [gQ,hi] at h;simp [sizeOf,typeInfo,hi,h]
section
variable {P:Program} {d:Option Tmp} {ty:TypeId} {p:String} {af:Array Edge} {g:Option (Nat × Bool)} {e:Nat→Value} {w:World} {x y c:Operand}
theorem ag {t:TypeId} {a:Addr} {v:Value} (hk:sT P t=true) (hx:ev e x=.pointer (some a)) (hc:w.cell? a=some v):aG P ⟨d,.load t x,ty,p,af,g⟩ e w v:=by
  simp [aG,execOp,hx,Instr.loadAt,Instr.sureAddr,loadVar,jC hk,load,Sem.run,hc]
theorem ap {t:TypeId} {n:Nat} {a:Addr} {cs:List Value} (hk:nT P t n=true) (hx:ev e x=.pointer (some a)) (hc:Pv w a cs) (hn:cs.length=n):aG P ⟨d,.load t x,ty,p,af,g⟩ e w (.agg cs.toArray):=by
  have h1:=gV hk w
  have h2:=run_loadCells_list (P:=P) w a cs hc
  rw [hn] at h2
  simp [aG,execOp,hx,Instr.loadAt,Instr.sureAddr,loadVar,h1.1,h1.2,h2]
theorem ox {s i off:Nat} {ft:TypeId} {a:Addr} (hk:pM P s i off ft=true) (hx:ev e x=.pointer (some a)):aG P ⟨d,.fieldAddr s x i,ty,p,af,g⟩ e w (.pointer (some (a.add off))):=by
  unfold pM at hk
  split at hk
  · rename_i fs hu
    split at hk
    · rename_i f hf
      simp only [Bool.and_eq_true] at hk
      obtain ⟨⟨h1,h2⟩,h3⟩:=hk
      have h1:=Nat.eq_of_beq_eq_true h1
      have h2:=Nat.eq_of_beq_eq_true h2
      split at h3
      · rename_i inf hi
        have h0:¬ inf.size=0:=by intro h;simp [h] at h3
        rw [← h2] at hi
        simp [aG,execOp,hx,Instr.fieldAt,Instr.sureAddr,run_underlying hu,hf,fieldPlace,sizeOf,typeInfo,hi,h0,h1]
      · cases h3
    · cases hk
  · cases hk
theorem aF {t et:TypeId} {sz n c k:Nat} {kk:IntKind} {i:Int} {q:Addr} (ht:gD P t et=true) (hs:gQ P et sz=true) (hx:ev e x=.slice (some q) n c) (hy:ev e y=.int kk i) (hi:i=(k:Nat)) (hk:k < n) :
    aG P ⟨d,.indexAddr t x y,ty,p,af,g⟩ e w (.pointer (some (q.add (k * sz)))):=by
  subst hi
  have h1:(k:Int) < (n:Int):=by omega
  simp [aG,execOp,hx,hy,Instr.indexAt,asIntOf,run_underlying (eO ht),h1,em hs]
  intro h;omega
theorem kW {src dst et:TypeId} {F:Nat→Prop} {v:Value} {l:List UInt8} (hs:gD P src et=true) (he:P.underlying et=some (.int .u8)) (hd:P.underlying dst=some .string) (hx:ev e x=v) (hb:Bv w F v l) :
    aG P ⟨d,.convert src dst x,ty,p,af,g⟩ e w (.string ⟨l.toArray⟩):=by
  obtain ⟨a,c,rfl,h1,h2,h3,h4⟩:=hb
  have hcv:=run_convert_bytes_string (P:=P) w src dst et a l.length c (eO hs) he hd
  simp only [aG,execOp,hx]
  rw [Sem.run_bind,hcv]
  cases ha:a with
  | none=>
    have h0:l=[]:=List.eq_nil_of_length_eq_zero (by have:=h3 ha;omega)
    subst h0
    simp [Conv.bytesToString,ByteArray.empty,ByteArray.emptyWithCapacity]
    rfl
  | some q=>
    have hl:(loadCells q l.length).run P w=.ok ((l.map (fun b=>(b.toNat:Int))).map (Value.int .u8)).toArray w:=by
      have:=run_loadCells_list (P:=P) w q ((l.map (fun b=>(b.toNat:Int))).map (Value.int .u8)) (fun j u hu=>by
        simp only [List.map_map,List.getElem?_map,Option.map_eq_some_iff] at hu
        obtain ⟨b,hb,rfl⟩:=hu
        obtain ⟨q',cs,hq,_,hp,hr⟩:=h4 j b hb
        rw [ha] at hq;cases hq
        have hr':cs=[.int .u8 b.toNat]:=hr
        subst hr'
        have:=hp 0 _ rfl
        rw [gT] at this
        simpa [cw] using this)
      simpa using this
    have:=run_bytesToString (P:=P) w q l.length c (l.map (fun b=>(b.toNat:Int))) hl
    rw [this]
    simp only [Result.andThen,Sem.run_pure]
    congr 3
    have gen:∀ (l:List UInt8) (s:ByteArray),(l.map (fun b=>(b.toNat:Int))).foldl (fun r n=>r.push (UInt8.ofNat n.toNat)) s=⟨s.data ++ l.toArray⟩:=by
      intro l
      induction l with
      | nil=>intro s;simp
      | cons b l ih=>
        intro s
        simp only [List.map_cons,List.foldl_cons,ih]
        simp [ByteArray.push]
    rw [gen]
    simp [ByteArray.empty,ByteArray.emptyWithCapacity]
    rfl
theorem tA (l:List UInt8):(⟨l.toArray⟩:ByteArray).toList=l:=by
  have gen:∀ (n i:Nat) (r:List UInt8),l.length - i=n→i≤l.length→ByteArray.toList.loop ⟨l.toArray⟩ i r=r.reverse ++ l.drop i:=by
    intro n
    induction n with
    | zero=>
      intro i r hn hi
      have:i=l.length:=by omega
      subst this
      unfold ByteArray.toList.loop
      simp [ByteArray.size]
    | succ n ih=>
      intro i r hn hi
      have hlt:i < l.length:=by omega
      unfold ByteArray.toList.loop
      have:i < (⟨l.toArray⟩:ByteArray).size:=by simpa [ByteArray.size] using hlt
      rw [if_pos this,ih (i + 1) _ (by omega) (by omega)]
      have hg:(⟨l.toArray⟩:ByteArray).get! i=l[i]:=by simp [ByteArray.get!,hlt]
      rw [hg,List.reverse_cons,List.append_assoc,List.drop_eq_getElem_cons hlt]
      rfl
  unfold ByteArray.toList
  rw [gen l.length 0 [] (by omega) (by omega)]
  simp
theorem p7 {a b:List UInt8} {xt yt:TypeId} (hx:ev e x=.string ⟨a.toArray⟩) (hy:ev e y=.string ⟨b.toArray⟩):aG P ⟨d,.binOp .eql xt x y yt,ty,p,af,g⟩ e w (.bool (decide (a=b))):=by
  have:=uY (P:=P) (d:=d) (ty:=ty) (p:=p) (af:=af) (g:=g) (w:=w) (xt:=xt) (yt:=yt) hx hy
  have e0:(a == b)=decide (a=b):=by rw [Bool.eq_iff_iff];simp
  rw [tA,tA,e0] at this;exact this
variable {K:Value→World→Prop}
theorem aS {t:TypeId} {v:Value} (hx:ev e x=v) (k:∀ b w',b=w.heap.size→dh w' b v.cells.toList t→aX w w'→w'.heap.size=b + 1→K (.pointer (some ⟨b,0,none⟩)) w'):bx P ⟨d,.box t x,ty,p,af,g⟩ e w K:=by
  have hr:(execOp (ev e) ⟨d,.box t x,ty,p,af,g⟩).run P w=.ok (.value (.pointer (some ⟨w.heap.size,0,none⟩))) (w.alloc (.cells v.cells t)):=by
    subst hx
    simp [execOp,Instr.box,newVar,newRow,newObj,Sem.run]
  unfold bx
  rw [hr]
  exact k _ _ rfl (by have:=dh.new w v.cells.toList t;simpa using this) (aX.alloc _ _) (by simp)
def aE (P:Program) (t:TypeId) (z:Value):Prop:=(P.info? t).bind (·.zero)=some z
theorem aD {t:TypeId} {z:Value} (hz:aE P t z) (k:∀ b w',b=w.heap.size→dh w' b z.cells.toList t→aX w w'→w'.heap.size=b + 1→K (.pointer (some ⟨b,0,none⟩)) w'):bx P ⟨d,.alloc t,ty,p,af,g⟩ e w K:=by
  have hr:(execOp (ev e) ⟨d,.alloc t,ty,p,af,g⟩).run P w=.ok (.value (.pointer (some ⟨w.heap.size,0,none⟩))) (w.alloc (.cells z.cells t)):=by
    unfold aE at hz
    cases hi:P.info? t with
    | none=>simp [hi] at hz
    | some i=>
      simp [hi] at hz
      simp [execOp,Instr.alloc,zeroValue,typeInfo,hi,hz,newVar,newRow,newObj,Sem.run]
  unfold bx
  rw [hr]
  exact k _ _ rfl (by have:=dh.new w z.cells.toList t;simpa using this) (aX.alloc _ _) (by simp)
theorem aR {t:TypeId} {b i:Nat} {cs:List Value} {T:TypeId} {v:Value} {a:Addr} (hx:ev e x=.pointer (some a)) (ha:a=⟨b,i,none⟩) (hy:ev e y=v) (h1:v.oneCell'=true) (hs:gQ P t 1=true) (hb:dh w b cs T) (hi:i < cs.length)
    (k:∀ w',dh w' b (cs.set i v) T→ao (fun k=>k=b) w w'→w'.heap.size=w.heap.size→K undef w'):bx P ⟨d,.store t x y,ty,p,af,g⟩ e w K:=by
  subst ha
  have hc:v.cells=#[v]:=by cases v <;> first | rfl | simp [Value.oneCell'] at h1
  have hcell:w.cell? ⟨b,i,none⟩=some cs[i]:=hb.cell (by simp [hi])
  have hst:=run_storeCells_cells (P:=P) b i [v] 0 w (by
    intro j hj
    have:j=0:=by simpa using hj
    subst this;simp [hcell]) (by intro j hj;exact hb.free _) (by intro u hu;simp at hu;subst hu;exact h1)
  have hr:(execOp (ev e) ⟨d,.store t x y,ty,p,af,g⟩).run P w=.ok .skip (w.setCell ⟨b,i,none⟩ v):=by
    simp only [execOp,hx,hy]
    simp only [Nat.add_zero] at hst
    simp [Instr.storeAt,Instr.sureAddr,storeVar,hc,em hs,hst,World.setCells]
  unfold bx
  rw [hr]
  exact k _ (hb.set i v) (ao.setCell w ⟨b,i,none⟩ v) (by simp [World.setCell])
end
end Go.Vc
namespace Go.Vc
def ck {α:Type} (t:Ty α) (e:TypeId) (w:World) (B:Nat) (F:Nat→Prop) (v:Value) (xs:List α):Prop:=
  ∃ cells,w.ownsRow B e t.sz v xs.length cells∧∀ i x,xs[i]? = some x→t.rep w (fun b=>F b∧v.ownBlock≠some b) ((cells.drop (i * t.sz)).take t.sz) x
section
variable {α:Type} {t:Ty α} {e:TypeId} {w w':World} {B:Nat} {F F':Nat→Prop} {K:Nat→Prop} {v:Value} {xs:List α}
theorem ck.nil (t:Ty α) (e:TypeId) (w:World) (B:Nat) (F:Nat→Prop):ck t e w B F (.slice none 0 0) []:=⟨[],World.ownsRow_nil w B e t.sz,fun i x h=>by simp at h⟩
theorem ck.shape (h:ck t e w B F v xs):∃ a c,v=.slice a xs.length c:=by
  obtain ⟨cells,h1,_⟩:=h
  rcases h1.2 with ⟨rfl,h0⟩ | ⟨g,cap,cur,rfl,_⟩
  · exact ⟨none,0,by rw [h0]⟩
  · exact ⟨_,_,rfl⟩
theorem ck.max (h:ck t e w B F v xs):xs.length≤maxLen:=by
  obtain ⟨cells,h1,_⟩:=h
  rcases h1.2 with ⟨rfl,h0⟩ | ⟨g,cap,cur,rfl,_,_,h3,h4,_⟩
  · rw [h0];exact Nat.zero_le _
  · omega
theorem ck.own_lt (h:ck t e w B F v xs) {b:Nat} (hb:v.ownBlock=some b):B≤b∧b < w.heap.size:=by
  obtain ⟨cells,h1,_⟩:=h
  exact h1.lt b hb
theorem ck.view (h:ck t e w B F v xs):bs t w (fun b=>B≤b∨F b) v xs:=by
  obtain ⟨cells,h1,h2⟩:=h
  obtain ⟨hl,h1'⟩:=h1
  rcases h1' with ⟨rfl,h0⟩ | ⟨g,cap,cur,rfl,hB,hg,h3,h4,h5,h6⟩
  · have:xs=[]:=List.eq_nil_of_length_eq_zero h0
    subst this;exact bs.nil _ _ _
  · refine ⟨some ⟨g,0,none⟩,cap,rfl,h3,h4,fun h=>(by cases h),fun i x hx=>?_⟩
    have hr:=h2 i x hx
    refine ⟨_,_,rfl,.inl hB,fun j u hu=>?_,t.mono hr fun b _ hb=>.inr hb.1⟩
    rw [gT,eE,Nat.zero_add,cell_of_row w g _ cur e (0,0) hg]
    have hjlt:j < t.sz:=by
      have:=(List.getElem?_eq_some_iff.1 hu).1
      simp at this;omega
    rw [List.getElem?_take,if_pos hjlt,List.getElem?_drop,← h6,List.getElem?_take] at hu
    split at hu
    · simpa using hu
    · cases hu
theorem ck.keep (h:ck t e w B F v xs) (k:ao K w w') (ho:∀ b,v.ownBlock=some b→¬ K b) (hk:∀ b,b < w.heap.size→F b→v.ownBlock≠some b→¬ K b):ck t e w' B F v xs:=by
  obtain ⟨cells,h1,h2⟩:=h
  refine ⟨cells,⟨h1.1,?_⟩,fun i x hx=>t.keep (h2 i x hx) k fun b hb hF=>hk b hb hF.1 hF.2⟩
  rcases h1.2 with h0 | ⟨g,cap,cur,rfl,hB,hg,h3⟩
  · exact .inl h0
  · refine .inr ⟨g,cap,cur,rfl,hB,?_,h3⟩
    rw [k.block g (Array.getElem?_eq_some_iff.1 hg).1 (ho g rfl)];exact hg
theorem ck.ext (h:ck t e w B F v xs) (k:aX w w'):ck t e w' B F v xs:=h.keep k (fun _ _ x=>x) (fun _ _ _ _ x=>x)
theorem ck.mono (h:ck t e w B F v xs) (hf:∀ b,b < w.heap.size→F b→F' b):ck t e w B F' v xs:=by
  obtain ⟨cells,h1,h2⟩:=h
  exact ⟨cells,h1,fun i x hx=>t.mono (h2 i x hx) fun b hb h=>⟨hf b hb h.1,h.2⟩⟩
theorem ck.base {B':Nat} (h:ck t e w B F v xs) (hB:B'≤B):ck t e w B' F v xs:=by
  obtain ⟨cells,⟨h0,h1⟩,h2⟩:=h
  refine ⟨cells,⟨h0,?_⟩,h2⟩
  rcases h1 with h | ⟨g,cap,cur,rfl,hb,h3⟩
  · exact .inl h
  · exact .inr ⟨g,cap,cur,rfl,Nat.le_trans hB hb,h3⟩
end
theorem gR {α:Type} {sz:Nat} (css:List (List α)) (h:∀ c ∈ css,c.length=sz):∀ i (c:List α),css[i]? = some c→((css.flatten).drop (i * sz)).take sz=c:=by
  induction css with
  | nil=>intro i c hi;simp at hi
  | cons c0 css ih=>
    intro i c hi
    have h0:c0.length=sz:=h c0 (by simp)
    cases i with
    | zero=>
      simp at hi
      subst hi
      simp only [Nat.zero_mul,List.drop_zero,List.flatten_cons]
      rw [← h0];exact List.take_left
    | succ i=>
      simp at hi
      have e1:(i + 1) * sz=c0.length + i * sz:=by rw [h0,Nat.succ_mul];omega
      rw [List.flatten_cons,e1,List.drop_append,List.drop_of_length_le (by omega),List.nil_append]
      simp only [Nat.add_sub_cancel_left]
      exact ih (fun c hc=>h c (by simp [hc])) i c hi
theorem gP {α:Type} {sz:Nat} (css:List (List α)) (h:∀ c ∈ css,c.length=sz):css.flatten.length=css.length * sz:=by
  induction css with
  | nil=>simp
  | cons c0 css ih=>
    rw [List.flatten_cons,List.length_append,ih (fun c hc=>h c (by simp [hc])),h c0 (by simp),List.length_cons,Nat.succ_mul];omega
theorem jS {α:Type} {sz:Nat} (hp:0 < sz) (css:List (List α)) (h:∀ c ∈ css,c.length=sz) (j:Nat) (u:α) (hu:css.flatten[j]? = some u):∃ c,css[j / sz]? = some c∧c[j % sz]? = some u:=by
  have hlt:=(List.getElem?_eq_some_iff.1 hu).1
  rw [gP css h] at hlt
  have hi:j / sz < css.length:=(Nat.div_lt_iff_lt_mul hp).2 hlt
  refine ⟨css[j / sz],by simp [hi],?_⟩
  have:=gR css h (j / sz) css[j / sz] (by simp [hi])
  rw [← this,List.getElem?_take,if_pos (Nat.mod_lt _ hp),List.getElem?_drop]
  rw [← hu];congr 1
  rw [Nat.mul_comm];exact Nat.div_add_mod j sz
theorem bs.cells {α:Type} {t:Ty α} {w:World} {F:Nat→Prop} {v:Value} {xs:List α} (h:bs t w F v xs):∃ css:List (List Value),css.length=xs.length∧(∀ c ∈ css,c.length=t.sz)∧(∀ u ∈ css.flatten,u.oneCell'=true) ∧
    (∀ (i:Nat) (x:α),xs[i]? = some x→∃ c:List Value,css[i]? = some c∧t.rep w F c x)∧∃ (a:Option Addr) (c:Nat),v=.slice a xs.length c∧(a=none→c=0)∧xs.length≤c∧∀ q,a=some q→∀ (j:Nat) (u:Value),css.flatten[j]? = some u→w.cell? (q.add j)=some u:=by
  obtain ⟨a,c,hv,h1,h2,h3,h4⟩:=h
  have hex:∀ i,∃ cs:List Value,∀ x,xs[i]? = some x→(∃ q,a=some q∧F q.block∧Pv w (q.add (i * t.sz)) cs)∧t.rep w F cs x:=by
    intro i
    cases hx:xs[i]? with
    | none=>exact ⟨[],fun x h=>by cases h⟩
    | some x=>
      obtain ⟨q,cs,ha,hF,hp,hr⟩:=h4 i x hx
      exact ⟨cs,fun x' hx'=>by cases hx';exact ⟨⟨q,ha,hF,hp⟩,hr⟩⟩
  have hch:=Classical.axiomOfChoice hex
  obtain ⟨f,hf⟩:=hch
  refine ⟨(List.range xs.length).map f,by simp,?_,?_,?_,a,c,hv,h3,h1,?_⟩
  · intro c hc
    obtain ⟨i,hi,rfl⟩:=List.mem_map.1 hc
    have hi':i < xs.length:=by simpa using hi
    exact t.len (hf i xs[i] (by simp [hi'])).2
  · intro u hu
    obtain ⟨c,hc,huc⟩:=List.mem_flatten.1 hu
    obtain ⟨i,hi,rfl⟩:=List.mem_map.1 hc
    have hi':i < xs.length:=by simpa using hi
    exact t.one (hf i xs[i] (by simp [hi'])).2 u huc
  · intro i x hx
    have hi:i < xs.length:=(List.getElem?_eq_some_iff.1 hx).1
    exact ⟨f i,by simp [hi],(hf i x hx).2⟩
  · intro q hq j u hu
    have hall:∀ c ∈ (List.range xs.length).map f,c.length=t.sz:=by
      intro c hc
      obtain ⟨i,hi,rfl⟩:=List.mem_map.1 hc
      have hi':i < xs.length:=by simpa using hi
      exact t.len (hf i xs[i] (by simp [hi'])).2
    obtain ⟨c,hc,hcu⟩:=jS t.pos _ hall j u hu
    simp only [List.getElem?_map,Option.map_eq_some_iff] at hc
    obtain ⟨i,hi,rfl⟩:=hc
    have hi2:j / t.sz < xs.length∧i=j / t.sz:=by
      obtain ⟨h,h'⟩:=List.getElem?_eq_some_iff.1 hi
      exact ⟨by simpa using h,by rw [← h'];simp⟩
    have hix:i < xs.length:=by omega
    obtain ⟨⟨q',hq',_,hp⟩,_⟩:=hf i xs[i] (by simp [hix])
    rw [hq] at hq';cases hq'
    have:=hp _ _ hcu
    rw [gT,hi2.2] at this
    rwa [Nat.mul_comm,Nat.div_add_mod] at this
theorem lQ {α:Type} {P:Program} {t:Ty α} {T e bytes:Nat} (ty:TypeId) (hk:gj P T e t.sz bytes=true) {w:World} {B:Nat} {F F':Nat→Prop} {v u:Value} {xs ys:List α} (hv:ck t e w B F v xs) (hu:bs t w F' u ys)
    (hF:∀ cs x,t.rep w F' cs x→t.rep w (fun b=>F b∧v.ownBlock≠some b) cs x) (hn:(xs.length + ys.length) * bytes≤140737488355328) (hm:xs.length + ys.length≤maxLen) (hB:B≤w.heap.size) :
    ∃ v' w',(Builtin.append_ #[T,T] ty #[v,u]).run P w=.ok v' w'∧ck t e w' B F v' (xs ++ ys)∧ao (fun b=>v.ownBlock=some b) w w'∧(v'=.slice none 0 0↔v=.slice none 0 0∧ys.length=0)∧(∀ b,v'.ownBlock=some b→v.ownBlock=some b∨w.heap.size≤b):=by
  obtain ⟨ht,i,z,hi,hz,hzs,his,hib⟩:=fW hk
  obtain ⟨css,hcl,hall,hone,hrep,a,c,rfl,hnone,hlc,hcell⟩:=hu.cells
  obtain ⟨cells,hown,hreps⟩:=hv
  have hfl:css.flatten.length=ys.length * t.sz:=by rw [gP css hall,hcl]
  cases a with
  | none=>
    have hc0:=hnone rfl
    subst hc0
    have hy:ys=[]:=List.eq_nil_of_length_eq_zero (by omega)
    subst hy
    refine ⟨v,w,?_,⟨cells,by simpa using hown,by simpa using hreps⟩,ao.refl _,by simp,fun b hb=>.inl hb⟩
    exact run_append_owned_none (P:=P) w B T ty e i t.sz ht hi v xs.length cells hown
  | some q=>
    obtain ⟨v',w',hr,h1,h2,h3⟩:=run_append_own (P:=P) w B T ty e i z t.sz bytes ht hi hz his hib hzs t.pos v xs.length cells hown q ys.length c css.flatten hfl (hcell q rfl) hone hm hn hB
    have hkeep:ao (fun b=>v.ownBlock=some b) w w':=⟨h2.os,h2.tape,h2.output,h2.size,fun k hk hk'=>h2.block k hk (fun h=>hk' h.symm)⟩
    have hblk:∀ b,v'.ownBlock=some b→v.ownBlock=some b∨w.heap.size≤b:=by
      intro b hb
      rcases Nat.lt_or_ge b w.heap.size with hlt | hge
      · left
        rcases hown.2 with ⟨rfl,h0⟩ | ⟨g,cap,cur,rfl,hbg,hg,hnc,hcm,hcs,htake⟩
        · exfalso
          by_cases hm0:ys.length=0
          · have:=h3.2 ⟨rfl,hm0⟩
            rw [this] at hb;cases hb
          · have hx:cells=[]:=List.eq_nil_of_length_eq_zero (by have:=hown.1;rw [h0] at this;simpa using this)
            have hby:ys.length * bytes≤140737488355328:=by rw [h0,Nat.zero_add] at hn;exact hn
            have hgr:=run_append_nil (P:=P) w T ty e i z ht hi hz q ys.length c css.flatten (by rw [his];exact hfl) (hcell q rfl) (by omega) (by simp only [maxLen] at hm;omega) (by rw [hib];omega)
            rw [hr] at hgr
            cases hgr
            simp [Value.ownBlock] at hb
            omega
        · by_cases hroom:xs.length + ys.length≤cap
          · have hgr:=run_append_room (P:=P) w T ty e i ht hi g xs.length cap cur hg q ys.length c css.flatten (by rw [his];exact hfl) (hcell q rfl) hone hroom (by rw [his,hfl,hcs,← Nat.add_mul];exact Nat.mul_le_mul_right _ hroom)
            rw [hr] at hgr
            cases hgr
            exact hb
          · exfalso
            have holds:∀ j u,cells[j]? = some u→w.cell? ((⟨g,0,none⟩:Addr).add j)=some u:=hown.cells (g:=g) rfl
            have hgr:=run_append_grow (P:=P) w T ty e i z ht hi hz ⟨g,0,none⟩ xs.length cap cells (by rw [his];exact hown.1) holds q ys.length c css.flatten (by rw [his];exact hfl) (hcell q rfl) (by omega) (by simp only [maxLen] at hm;omega) (by rw [hib];exact growslice_fits (by omega) hn)
            rw [hr] at hgr
            cases hgr
            simp [Value.ownBlock] at hb
            omega
      · exact .inr hge
    refine ⟨v',w',hr,⟨cells ++ css.flatten,by simpa using h1,fun k x hx=>?_⟩,hkeep,h3,hblk⟩
    have hcl1:cells.length=xs.length * t.sz:=hown.1
    have hsafe:∀ b,b < w.heap.size→v.ownBlock≠some b→v'.ownBlock≠some b:=by
      intro b hb hne he
      rcases hblk b he with h | h
      · exact hne h
      · omega
    by_cases hkx:k < xs.length
    · have hxk:xs[k]? = some x:=by rw [← hx,List.getElem?_append_left hkx]
      have hr0:=hreps k x hxk
      have hseg:((cells ++ css.flatten).drop (k * t.sz)).take t.sz=(cells.drop (k * t.sz)).take t.sz:=by
        have hle:(k + 1) * t.sz≤cells.length:=by rw [hcl1];exact Nat.mul_le_mul_right _ hkx
        have hle':k * t.sz + t.sz≤cells.length:=by rw [Nat.succ_mul] at hle;exact hle
        rw [List.drop_append_of_le_length (by omega),List.take_append_of_le_length (by rw [List.length_drop];omega)]
      rw [hseg]
      refine t.mono (F:=fun b=>F b∧v.ownBlock≠some b∧b < w.heap.size) (t.keep (K:=fun b=>v.ownBlock=some b) (t.mono hr0 fun b hb hF=>⟨hF.1,hF.2,hb⟩) hkeep fun b hb hF=>hF.2.1) fun b hb hF=>⟨hF.1,hsafe b hF.2.2 hF.2.1⟩
    · have hxk:ys[k - xs.length]? = some x:=by rw [← hx,List.getElem?_append_right (by omega)]
      obtain ⟨cc,hcc,hrc⟩:=hrep _ _ hxk
      have hseg:((cells ++ css.flatten).drop (k * t.sz)).take t.sz=cc:=by
        have e1:k * t.sz=cells.length + (k - xs.length) * t.sz:=by
          rw [hcl1,← Nat.add_mul];congr 1;omega
        rw [e1,List.drop_append,List.drop_of_length_le (by omega),List.nil_append,Nat.add_sub_cancel_left]
        exact gR css hall _ _ hcc
      rw [hseg]
      refine t.mono (F:=fun b=>F b∧v.ownBlock≠some b∧b < w.heap.size) (t.keep (K:=fun b=>v.ownBlock=some b) (t.mono (hF _ _ hrc) fun b hb hFb=>⟨hFb.1,hFb.2,hb⟩) hkeep fun b hb hF=>hF.2.1) fun b hb hF=>⟨hF.1,hsafe b hF.2.2 hF.2.1⟩
section
variable {α:Type} {P:Program} {d:Option Tmp} {ty:TypeId} {p:String} {af:Array Edge} {g:Option (Nat × Bool)} {e:Nat→Value} {w:World} {x y c:Operand} {K:Value→World→Prop}
theorem cv {t:Ty α} {T et bytes B:Nat} {F F':Nat→Prop} {v u:Value} {xs ys:List α} (hk:gj P T et t.sz bytes=true) (hx:ev e x=v) (hv:ck t et w B F v xs) (hy:ev e y=u) (hu:bs t w F' u ys)
    (hF:∀ cs x,t.rep w F' cs x→t.rep w (fun b=>F b∧v.ownBlock≠some b) cs x) (hn:(xs.length + ys.length) * bytes≤140737488355328) (hm:xs.length + ys.length≤maxLen) (hB:B≤w.heap.size)
    (k:∀ a n cc w',ck t et w' B F (.slice a n cc) (xs ++ ys)→n=(xs ++ ys).length→ao (fun b=>v.ownBlock=some b) w w'→(∀ b,(Value.slice a n cc).ownBlock=some b→v.ownBlock=some b∨w.heap.size≤b)→(a=none↔v=.slice none 0 0∧ys.length=0)→K (.slice a n cc) w') :
    bx P ⟨d,.call { callee:=.builtin .append,args:=#[x,y],argTypes:=#[T,T] },ty,p,af,g⟩ e w K:=by
  obtain ⟨v',w',hr,h1,h2,h3,h4⟩:=lQ (P:=P) ty hk hv hu hF hn hm hB
  obtain ⟨a,cc,rfl⟩:=h1.shape
  have hr':(execOp (ev e) ⟨d,.call { callee:=.builtin .append,args:=#[x,y],argTypes:=#[T,T] },ty,p,af,g⟩).run P w=.ok (.value (.slice a (xs ++ ys).length cc)) w':=by
    simp only [execOp,resolve,invoke,builtin,Sem.run_bind,Sem.run_pure,Result.andThen_ok,List.map_toArray,List.map_cons,List.map_nil,hx,hy,hr]
  unfold bx
  rw [hr']
  refine k _ _ _ _ h1 rfl h2 h4 ⟨fun ha=>?_,fun hh=>?_⟩
  · subst ha
    obtain ⟨cells,ho,_⟩:=h1
    rcases ho.2 with ⟨he,_⟩ | ⟨g',cap,cur,he,_⟩
    · exact h3.1 he
    · cases he
  · have:=h3.2 hh
    simp only [Value.slice.injEq] at this
    exact this.1
theorem cp {t:Ty α} {T et bytes:Nat} {v:Value} {F:Nat→Prop} {xx:α} (hk:gj P T et t.sz bytes=true) (hsz:t.sz≤16777216) (hx:ev e x=v) (hr:t.rep w F v.cells.toList xx)
    (k:∀ b w',b=w.heap.size→ck t et w' b (fun b=>F b∧b < w.heap.size) (.slice (some ⟨b,0,none⟩) 1 1) [xx]→aX w w'→w'.heap.size=b + 1→K (.slice (some ⟨b,0,none⟩) 1 1) w') :
    bx P ⟨d,.buildSlice T 1 #[(0,x)],ty,p,af,g⟩ e w K:=by
  obtain ⟨ht,i,z,hi,hz,hzs,his,hib⟩:=fW hk
  have hlen:=t.len hr
  have hpos:=t.pos
  have hcs:v.cells.size=t.sz:=by simpa using hlen
  have hfill:Instr.fill (fun i=>some (i * t.sz,t.sz)) ((Array.range (1 * t.sz)).map (z.cells[· % z.cells.size]!)) [(0,v)]=some v.cells:=by
    have hp:¬ (v.cells.size≠t.sz):=by simp [hcs]
    have hgen:∀ (n:Nat) (cs:Array Value) (arr:Array Value),n=cs.size→arr.size=cs.size→cs.zipIdx.foldl (fun a (c,j)=>a.setIfInBounds (0 + j) c) arr=cs:=by
      intro n cs arr hn ha
      apply Array.ext
      · have:∀ (l:List (Value × Nat)) (a:Array Value),(l.foldl (fun a x=>a.setIfInBounds (0 + x.2) x.1) a).size=a.size:=by
          intro l
          induction l with
          | nil=>intro a;rfl
          | cons y l ih=>intro a;rw [List.foldl_cons,ih];simp
        rw [← Array.foldl_toList]
        exact (this _ _).trans ha
      · intro j h1 h2
        have key:∀ (l:List Value) (o:Nat) (a:Array Value),o + l.length≤a.size→∀ m,((l.zipIdx o).foldl (fun a x=>a.setIfInBounds (0 + x.2) x.1) a)[m]? = if o≤m∧m < o + l.length then l[m - o]? else a[m]?:=by
          intro l
          induction l with
          | nil=>intro o a _ m;simp;omega
          | cons y l ih=>
            intro o a ho m
            simp only [List.zipIdx_cons,List.foldl_cons]
            rw [ih (o + 1) _ (by simp at ho ⊢;omega) m]
            simp only [List.length_cons] at ho ⊢
            by_cases h1:o + 1≤m∧m < o + 1 + l.length
            · rw [if_pos h1,if_pos (by omega),show m - o=(m - (o + 1)) + 1 by omega];simp
            · rw [if_neg h1]
              by_cases h2:m=o
              · subst h2
                have hma:m < a.size:=by omega
                rw [if_pos (by omega)];simp [hma]
              · rw [if_neg (by omega),Array.getElem?_setIfInBounds_ne (by omega)]
        have:=key cs.toList 0 arr (by simp [ha]) j
        rw [← Array.foldl_toList] at h1
        have e2:(cs.zipIdx.foldl (fun a (c,j)=>a.setIfInBounds (0 + j) c) arr)[j]? = cs[j]?:=by
          rw [← Array.foldl_toList]
          have e3:cs.zipIdx.toList=cs.toList.zipIdx 0:=by simp
          rw [e3,this,if_pos (by simpa using h2)]
          simp
        have h3:=e2
        rw [Array.getElem?_eq_getElem (by rw [← Array.foldl_toList];exact h1),Array.getElem?_eq_getElem h2] at h3
        exact Option.some.inj h3
    simp only [Instr.fill,Nat.zero_mul]
    have hcond:(v.cells.size≠t.sz || decide (0 + v.cells.size > ((Array.range (1 * t.sz)).map (z.cells[· % z.cells.size]!)).size))=false:=by simp [hcs]
    rw [if_neg (by simpa using hcond)]
    rw [hgen _ v.cells _ rfl (by simp [hcs])]
  have hr':(execOp (ev e) ⟨d,.buildSlice T 1 #[(0,x)],ty,p,af,g⟩).run P w=.ok (.value (.slice (some ⟨w.heap.size,0,none⟩) 1 1)) (w.alloc (.cells v.cells et)):=by
    have hs1:¬ (1 * i.size > 2 ^ 24):=by rw [his];omega
    have hs2:¬ (1 * i.size=0):=by rw [his];omega
    rw [← his] at hfill
    simp only [execOp,Instr.buildSlice,hx,List.map_toArray,List.map_cons,List.map_nil]
    simp only [run_underlying ht,sizeOf,typeInfo,zeroValue,hi,hz,Sem.run_bind,Sem.run_pure,Result.andThen_ok,if_neg hs1,if_neg hs2]
    simp [hi,hz,run_underlying ht,sizeOf,typeInfo,zeroValue,his,newRow,newObj,Sem.run]
    rw [if_neg (by omega),if_neg (by omega)]
    rw [his,Nat.one_mul] at hfill
    rw [hfill]
    simp [Sem.run]
  unfold bx
  rw [hr']
  refine k _ _ rfl ⟨v.cells.toList,⟨by simp [hcs],.inr ⟨w.heap.size,1,v.cells,rfl,Nat.le_refl _,heap_alloc_new w _,Nat.le_refl _,by simp [maxLen],by simp [hcs],?_⟩⟩,fun j y hy=>?_⟩ (aX.alloc _ _) (by simp)
  · rw [List.take_of_length_le];simp [hcs]
  · cases j with
    | succ j=>simp at hy
    | zero=>
      simp at hy
      subst hy
      simp only [Nat.zero_mul,List.drop_zero]
      rw [List.take_of_length_le (by simp [hcs])]
      refine t.mono (t.keep (K:=aP) (t.mono hr fun b hb hF=>(⟨hF,hb⟩:F b∧b < w.heap.size)) (aX.alloc _ _) fun _ _ _ x=>x) fun b hb hF=>⟨hF,?_⟩
      simp only [Value.ownBlock]
      intro h
      have:=Option.some.inj h
      omega
theorem jZ {t:Ty α} {T et:Nat} {F:Nat→Prop} {v:Value} {xs:List α} {lo hi:Option Operand} {l h:Nat} (hk:gD P T et=true) (hs:gQ P et t.sz=true) (hx:ev e x=v) (hv:bs t w F v xs)
    (hl:match lo with | some o=>∃ k,ev e o=.int k (l:Nat) | none=>l=0) (hh:match hi with | some o=>∃ k,ev e o=.int k (h:Nat) | none=>h=xs.length) (hlh:l≤h) (hhx:h≤xs.length)
    (k:∀ a n c,bs t w F (.slice a n c) ((xs.take h).drop l)→h - l=n→(∀ a0 n0 c0,v=.slice (some a0) n0 c0→∃ a1,a=some a1)→K (.slice a n c) w) :
    bx P ⟨d,.slice T x lo hi none,ty,p,af,g⟩ e w K:=by
  obtain ⟨a,c,rfl,h1,h2,h3,h4⟩:=hv
  have hlo:∀ (y:Nat),l≤y→(match lo.map (ev e) with | some v=>Instr.sliceBound v y .sliceB | none=>pure 0).run P w=.ok l w:=by
    intro y hy
    cases lo with
    | none=>simp at hl;subst hl;rfl
    | some o=>
      obtain ⟨kk,ho⟩:=hl
      simp [ho,Instr.sliceBound,asIntOf]
      have:¬ (y:Int) < (l:Int):=by omega
      omega
  have hr:(execOp (ev e) ⟨d,.slice T x lo hi none,ty,p,af,g⟩).run P w=.ok (.value (.slice (if c=l then a else a.map (·.add (l * t.sz))) (h - l) (c - l))) w:=by
    have hi':(match hi.map (ev e) with | some v=>Instr.sliceBound v c .sliceAcap | none=>pure xs.length).run P w=.ok h w:=by
      cases hi with
      | none=>simp at hh;subst hh;rfl
      | some o=>
        obtain ⟨kk,ho⟩:=hh
        simp [ho,Instr.sliceBound,asIntOf]
        omega
    have hb:(Instr.sliceBounds true xs.length c (lo.map (ev e)) (hi.map (ev e)) none).run P w=.ok (l,h,c) w:=by
      unfold Instr.sliceBounds
      cases hi with
      | none=>
        simp only [Option.map_none] at hi' ⊢
        have:=hlo h hlh
        cases lo with
        | none=>simp at this hi' ⊢;exact ⟨this,hi'⟩
        | some o=>simp at this hi' ⊢;rw [hi'];simp [this]
      | some oh=>
        simp only [Option.map_some] at hi' ⊢
        have:=hlo h hlh
        cases lo with
        | none=>simp at this hi' ⊢;rw [hi'];simp [this]
        | some o=>simp at this hi' ⊢;rw [hi'];simp [this]
    simp [execOp,hx,Instr.sliceAt,Instr.slice,run_underlying (eO hk),hb,em hs]
  unfold bx
  rw [hr]
  have hlen:((xs.take h).drop l).length=h - l:=by simp;omega
  refine k _ _ _ ?_ rfl ?_
  · refine ⟨_,_,by rw [hlen],by rw [hlen];omega,by omega,?_,?_⟩
    · intro hn
      split at hn
      · have:=h3 hn;omega
      · have:a=none:=by cases a <;> simp_all
        have:=h3 this;omega
    · intro i y hy
      have hi:i < h - l:=by have:=(List.getElem?_eq_some_iff.1 hy).1;rw [hlen] at this;exact this
      rw [List.getElem?_drop,List.getElem?_take,if_pos (by omega)] at hy
      obtain ⟨q,cs,ha,hF,hp,hr⟩:=h4 _ _ hy
      have hne:¬ c=l:=by omega
      refine ⟨q.add (l * t.sz),cs,by rw [if_neg hne,ha];rfl,by rw [au];exact hF,?_,hr⟩
      rw [gT,← Nat.add_mul];exact hp
  · intro a0 n0 c0 hv0
    cases hv0
    split
    · exact ⟨_,rfl⟩
    · exact ⟨_,rfl⟩
theorem nF {t:Ty α} {T et bytes:Nat} {kl kc:IntKind} {n m:Nat} {z:α} {zv:Value} (hk:gj P T et t.sz bytes=true) (hx:ev e x=.int kl (n:Nat)) (hy:ev e y=.int kc (m:Nat)) (hnm:n=m∨n=0) (hb:bytes * m≤140737488355328) (hm:m≤maxLen)
    (hz:aE P et zv) (h1:t.sz=1) (hzv:zv.cells=#[zv]) (hr:∀ w F,t.rep w F [zv] z)
    (k:∀ b c w',b=w.heap.size→ck t et w' b aP (.slice (some ⟨b,0,none⟩) n c) (List.replicate n z)→aX w w'→w.heap.size < w'.heap.size→K (.slice (some ⟨b,0,none⟩) n c) w') :
    bx P ⟨d,.makeSlice T x y,ty,p,af,g⟩ e w K:=by
  obtain ⟨ht,i,z',hi,hz',hzs,his,hib⟩:=fW hk
  have hzz:z'=zv:=by unfold aE at hz;simp [hi,hz'] at hz;exact hz
  subst hzz
  have fin:∀ (w':World) (cells:List Value),(Instr.makeSlice T (.int kl (n:Int)) (.int kc (m:Int))).run P w=.ok (.slice (some ⟨w.heap.size,0,none⟩) n m) w'→w'.ownsRow w.heap.size et t.sz (.slice (some ⟨w.heap.size,0,none⟩) n m) n cells→w.grownBy w' none →
      (∀ (j:Nat) (u:Value),cells[j]? = some u→u=z')→bx P ⟨d,.makeSlice T x y,ty,p,af,g⟩ e w K:=by
    intro w' cells hrun hown hg hall
    have hr':(execOp (ev e) ⟨d,.makeSlice T x y,ty,p,af,g⟩).run P w=.ok (.value (.slice (some ⟨w.heap.size,0,none⟩) n m)) w':=by
      simp [execOp,hx,hy,hrun]
    unfold bx
    rw [hr']
    refine k _ _ _ rfl ⟨cells,by simpa using hown,fun j y hy=>?_⟩ ⟨hg.os,hg.tape,hg.output,hg.size,fun k hk _=>hg.block k hk (by simp)⟩ ?_
    · have hjn:j < n:=by have:=(List.getElem?_eq_some_iff.1 hy).1;simpa using this
      have hyz:y=z:=by
        rw [List.getElem?_replicate,if_pos hjn] at hy;exact (Option.some.inj hy).symm
      subst hyz
      have hl:cells.length=n * t.sz:=hown.1
      rw [h1,Nat.mul_one] at hl ⊢
      have hc:cells[j]? = some cells[j]:=by simp [hl,hjn]
      have:(cells.drop j).take 1=[z']:=by
        rw [List.drop_eq_getElem_cons (by omega),List.take_succ_cons,List.take_zero]
        rw [hall j _ hc]
      rw [this]
      exact hr _ _
    · exact (hown.lt w.heap.size rfl).2
  rcases hnm with hnm | hnm
  · subst hnm
    obtain ⟨w',hrun,hown,hg⟩:=run_make_full (P:=P) w w.heap.size T et i z' t.sz ht hi hz' his kl kc n (by rw [hib];omega) hm (Nat.le_refl _)
    refine fin w' _ hrun hown hg fun j u hu=>?_
    simp only [madeCells,Array.toList_map] at hu
    rw [hzv] at hu
    simp [Nat.mod_one] at hu
    exact hu.2.symm
  · subst hnm
    obtain ⟨w',hrun,hown,hg⟩:=run_make_own (P:=P) w w.heap.size T et i z' t.sz ht hi hz' his kl kc m (by rw [hib];omega) hm (Nat.le_refl _)
    exact fin w' _ hrun hown hg fun j u hu=>by simp at hu
end
end Go.Vc
namespace Go.Vc
def dj (P:Program) (f:Nat):Bool:=match P.funcs[f]? with
  | some fn=>fn.body.isSome && !(fn.name == "runtime.NumGoroutine")
  | none=>false
theorem fq {P:Program} {f:Nat} (h:dj P f=true) (args:Array Value) (w:World):(callFunc f args).run P w=.ok (.enter f args) w:=by
  unfold dj at h
  split at h
  · rename_i fn hf
    simp only [Bool.and_eq_true,Bool.not_eq_true'] at h
    have h1:fn.body.isNone=false:=by cases hb:fn.body <;> simp_all
    have h2:¬ (fn.name == "runtime.NumGoroutine")=true:=by rw [h.2];simp
    unfold callFunc
    simp only [Sem.run_bind]
    simp [hf,program,Sem.run,h1,h2]
    simp at h2;simp [h2]
    intro h;rw [h] at h1;simp at h1
  · cases h
section
variable {P:Program} {d:Option Tmp} {ty:TypeId} {p:String} {af:Array Edge} {g:Option (Nat × Bool)} {e:Nat→Value} {w:World} {K:Value→World→Prop} {f:Operand} {x0 x1 x2 x3 x4 x5:Operand} {v0 v1 v2 v3 v4 v5:Value} {fn:Nat} {cap fst:Array Value} {ts:Array TypeId}
theorem gt {args:Array Operand} {vs:Array Value} (hb:dj P fn=true) (hf:ev e f=.func (.func fn) fst cap) (hfst:fst=#[]) (ha:args.map (ev e)=vs) (h:ae P fn (vs ++ cap) w K):bx P ⟨d,.call { callee:=.value f,args:=args,argTypes:=ts },ty,p,af,g⟩ e w K:=by
  subst hfst
  have hr:(execOp (ev e) ⟨d,.call { callee:=.value f,args:=args,argTypes:=ts },ty,p,af,g⟩).run P w=.ok (.enter fn (vs ++ cap)) w:=by
    simp only [execOp,resolve,hf,ha,Deferred.ofValue]
    simp [invoke,fq hb]
  unfold bx
  rw [hr]
  exact h
theorem eV (hb:dj P fn=true) (hf:ev e f=.func (.func fn) #[] cap) (h0:ev e x0=v0) (h:ae P fn (#[v0] ++ cap) w K):bx P ⟨d,.call { callee:=.value f,args:=#[x0],argTypes:=ts },ty,p,af,g⟩ e w K:=
  gt hb hf rfl (by simp [h0]) h
theorem dd (hb:dj P fn=true) (hf:ev e f=.func (.func fn) #[] cap) (h0:ev e x0=v0) (h1:ev e x1=v1) (h:ae P fn (#[v0,v1] ++ cap) w K):bx P ⟨d,.call { callee:=.value f,args:=#[x0,x1],argTypes:=ts },ty,p,af,g⟩ e w K:=
  gt hb hf rfl (by simp [h0,h1]) h
theorem hH (hb:dj P fn=true) (hf:ev e f=.func (.func fn) #[] cap) (h0:ev e x0=v0) (h1:ev e x1=v1) (h2:ev e x2=v2) (h3:ev e x3=v3) (h:ae P fn (#[v0,v1,v2,v3] ++ cap) w K):bx P ⟨d,.call { callee:=.value f,args:=#[x0,x1,x2,x3],argTypes:=ts },ty,p,af,g⟩ e w K:=
  gt hb hf rfl (by simp [h0,h1,h2,h3]) h
end
def jf (l:List Value):Nat→Value:=fun i=>l.getD i undef
theorem jt {N:Nat} (l:List Value) (h:l.length≤N):(⟨l.toArray ++ Array.replicate (N - l.toArray.size) undef,[]⟩:Act)=Fr N (jf l):=by
  simp only [Fr]
  congr 1
  apply Array.ext
  · simp;omega
  · intro i h1 h2
    simp only [Array.size_ofFn] at h2
    simp only [Array.getElem_ofFn,jf]
    by_cases hi:i < l.length
    · rw [Array.getElem_append_left (by simpa using hi)];simp [hi]
    · rw [Array.getElem_append_right (by simpa using hi)];simp [List.getD,show l[i]? = none by simp;omega]
theorem aL {P:Program} {f:Nat} {fn:Func} {c:Code} {l:List Value} {w:World} {R:Value→World→Prop} (N:Nat) (hf:P.funcs[f]? = some fn) (hb:fn.body=some c) (hN:fn.ntmps=N) (hl:l.length≤N)
    (h:c.wpIn (Fw none) 0 P (bodyPost P fn (mI R)) (dg N (jf l) []) w):ae P f l.toArray w R:=by
  refine calls_of_wp hf hb ?_
  rw [hN,jt l hl];exact wpIn_wide.1 h
section
variable {ro:Option Nat} {m:Nat} {ds:List Deferred} {P:Program} {N:Nat} {Q:Exit→Act→World→Prop} {e:Nat→Value} {w:World} {a:Act} {X Y:Code} {fn:Func} {R:Value→World→Prop} {Kn:Act→World→Prop}
theorem V (h:X.wpIn (Fw ro) m P (Exit.then (Y.wpIn (Fw ro) m P Q) Q) a w):(Code.seq X Y).wpIn (Fw ro) m P Q a w:=wpIn_seq h
theorem ar (h:Q .normal a w):Code.skip.wpIn (Fw ro) m P Q a w:=wpIn_skip h
theorem aw (h:Q .ret a w):Code.ret.wpIn (Fw ro) m P Q a w:=wpIn_ret h
theorem qJ {l:Nat} (h:Q .normal a w):(Code.label l).wpIn (Fw ro) m P Q a w:=wpIn_label h
theorem cl {i:Nat} (h:Q (.exit i) a w):(Code.exit i).wpIn (Fw ro) m P Q a w:=wpIn_exit h
theorem qI (h:X.wpIn (Fw none) m P (Exit.noGoto Q) a w):(Code.scope X).wpIn (Fw none) m P Q a w:=wpIn_wide.2 (wp_scope_straight (wpIn_wide.1 h))
theorem aO {i:Nat} (h:X.wpIn (Fw ro) m P (Exit.inBlock i Q) a w):(Code.block i X).wpIn (Fw ro) m P Q a w:=wpIn_block h
theorem wx (M:Act→World→Prop) (h:X.wpIn (Fw ro) m P (Exit.then M Q) a w) (h2:∀ a w,M a w→Y.wpIn (Fw ro) m P Q a w):(Code.seq X Y).wpIn (Fw ro) m P Q a w:=
  wpIn_seq (wpIn_mono h fun ex a w hq=>by cases ex <;> first | exact h2 _ _ hq | exact hq)
theorem U (h:Kn a w):Exit.then Kn Q .normal a w:=h
theorem ay (h:Q .ret a w):Exit.then Kn Q .ret a w:=h
theorem bm {i:Nat} (h:Q (.exit i) a w):Exit.then Kn Q (.exit i) a w:=h
theorem bE {i:Nat} (h:Q .normal a w):Exit.inBlock i Q .normal a w:=h
theorem bz {i:Nat} (h:Q .ret a w):Exit.inBlock i Q .ret a w:=h
theorem cV {i:Nat} (h:Q .normal a w):Exit.inBlock i Q (.exit i) a w:=by simp only [Exit.inBlock,if_true];exact h
theorem lC {i j:Nat} (hne:j≠i) (h:Q (.exit j) a w):Exit.inBlock i Q (.exit j) a w:=by simp only [Exit.inBlock,if_neg hne];exact h
theorem lW (h:Q .ret a w):Exit.noGoto Q .ret a w:=h
theorem am {c:Operand} {b:Bool} (hl:Operand.lt N c=true) (hc:ev e c=.bool b) (ht:b=true→X.wpIn (Fw ro) m P Q (dg N e ds) w) (hf:b=false→Y.wpIn (Fw ro) m P Q (dg N e ds) w):(Code.cond c X Y).wpIn (Fw ro) m P Q (dg N e ds) w:=
  wpIn_cond_split (by rw [gG hl];exact hc) ht hf
theorem ke {t:Tmp} (hr:fn.results=#[.tmp t]) (ht:t < N) (h:R (e t) w):bodyPost P fn (mI R) .ret (dg N e []) w:=
  ⟨rfl,e t,by rw [results_tmp hr];simp [dg,Fr,Array.getD,ht],e t,rfl,h⟩
theorem ee {t u:Tmp} (hr:fn.results=#[.tmp t,.tmp u]) (ht:t < N) (hu:u < N) (h:R (.tuple #[e t,e u]) w):bodyPost P fn (mI R) .ret (dg N e []) w:=
  ⟨rfl,_,by rw [results_tmp2 hr];simp [dg,Fr,Array.getD,ht,hu],_,rfl,h⟩
theorem vb (hr:fn.results=#[]) (h:R (.tuple #[]) w):bodyPost P fn (mI R) .ret (dg N e []) w:=
  ⟨rfl,_,by rw [results_none hr],_,rfl,h⟩
theorem ti (hr:fn.results=#[]) (h:R (.tuple #[]) w):bodyPost P fn (mI R) .normal (dg N e []) w:=
  ⟨rfl,_,by rw [results_none hr],_,rfl,h⟩
end
def sU (m:List Nat) (i:Nat):Bool:=m.any (Nat.beq i)
def cD (m:List Nat) (e e':Nat→Value):Prop:=∀ i,sU m i=false→e' i=e i
theorem cD.refl (m:List Nat) (e:Nat→Value):cD m e e:=fun _ _=>rfl
theorem cD.upd {m:List Nat} {e e':Nat→Value} (h:cD m e e') {d:Nat} (hd:sU m d=true) (v:Value):cD m e (pd e' d v):=fun i hi=>by
  by_cases hid:i=d
  · subst hid;rw [hd] at hi;cases hi
  · rw [nE _ _ hid];exact h i hi
theorem cD.updo {m:List Nat} {e e':Nat→Value} (h:cD m e e') {d:Option Tmp} (hd:∀ t,d=some t→sU m t=true) (v:Value):cD m e (fH e' d v):=by
  cases d with
  | none=>exact h
  | some t=>exact h.upd (hd t rfl) v
def over (e0:Nat→Value) (m:List Nat) (j:Nat→Value):Nat→Value:=fun i=>bif sU m i then j i else e0 i
theorem cD.over {m:List Nat} {e e':Nat→Value} (h:cD m e e'):e'=over e m e':=by
  funext i
  simp only [Vc.over]
  cases hi:sU m i with
  | true=>rfl
  | false=>rw [h i hi];rfl
theorem cD.of_over (m:List Nat) (e j:Nat→Value):cD m e (Vc.over e m j):=fun i hi=>by simp only [Vc.over,hi,cond_false]
theorem vH {e:Nat→Value} {d:Nat} {v:Value} (h:e d=v):e=pd e d v:=by
  funext i
  by_cases hi:i=d
  · subst hi;rw [jY];exact h
  · rw [nE _ _ hi]
def jI:List (Nat × Value)→(Nat→Value)→Prop
  | [],_=>True
  | (d,v) :: l,e=>e d=v∧jI l e
def oy:List (Nat × Value)→(Nat→Value)→Nat→Value
  | [],e=>e
  | (d,v) :: l,e=>oy l (pd e d v)
theorem jI.upd {l:List (Nat × Value)} {e:Nat→Value} (h:jI l e):e=oy l e:=by
  induction l with
  | nil=>rfl
  | cons x l ih=>
    obtain ⟨d,v⟩:=x
    obtain ⟨h1,h2⟩:=h
    simp only [oy]
    rw [← vH h1];exact ih h2
theorem head {m:List Nat} {e0 e:Nat→Value} {l:List (Nat × Value)} (ho:cD m e0 e) (hh:jI l e):∃ j,e=oy l (over e0 m j):=⟨e,by rw [← ho.over];exact hh.upd⟩
def wH {τ:Type} (N:Nat) (ds:List Deferred) (m:List Nat) (e0:Nat→Value) (sl:τ→List (Nat × Value)) (I:τ→World→Prop) (μ:τ→Nat) (t:τ):Act→World→Prop:=
  fun a w=>∃ t' e',a=dg N e' ds∧cD m e0 e'∧jI (sl t') e'∧I t' w∧μ t' < μ t
theorem cy {ro:Option Nat} {n:Nat} {ds:List Deferred} {P:Program} {N:Nat} {c:Code} {Q:Exit→Act→World→Prop} {e0:Nat→Value} {w:World} {τ:Type} (m:List Nat) (sl:τ→List (Nat × Value)) (I:τ→World→Prop) (μ:τ→Nat) (t0:τ)
    (hs:jI (sl t0) e0) (hi:I t0 w)
    (round:∀ t w j,I t w→c.wpIn (Fw ro) n P (Exit.then (wH N ds m e0 sl I μ t) Q) (dg N (oy (sl t) (over e0 m j)) ds) w):(Code.loop c).wpIn (Fw ro) n P Q (dg N e0 ds) w:=by
  refine wpIn_loop_ghost (fun n a w=>∃ t e,μ t=n∧a=dg N e ds∧cD m e0 e∧jI (sl t) e∧I t w) (μ t0) ⟨t0,e0,rfl,rfl,cD.refl _ _,hs,hi⟩ ?_
  rintro n a w ⟨t,e,rfl,rfl,ho,hh,hI⟩
  obtain ⟨j,hj⟩:=head ho hh
  rw [hj]
  refine wpIn_mono (round t w j hI) ?_
  intro ex a' w' hq
  cases ex with
  | normal=>
    obtain ⟨t',e',h1,h2,h3,h4,h5⟩:=hq
    exact ⟨μ t',h5,t',e',rfl,h1,h2,h3,h4⟩
  | _=>exact hq
end Go.Vc
namespace Go.Vc
theorem bn {x:Int} (h1:-9223372036854775808≤x) (h2:x≤9223372036854775807):IntKind.i64.wrap x=x:=by rw [IntKind.wrap_i64];omega
theorem cq {x:Int} (h1:0≤x) (h2:x≤18446744073709551615):IntKind.u64.wrap x=x:=by rw [IntKind.wrap_u64];omega
theorem uH {x:Int} (h1:0≤x) (h2:x≤255):IntKind.u8.wrap x=x:=by rw [IntKind.wrap_u8'];omega
theorem uL {a b:Int} (h:0≤a):a.tmod b=a % b:=Int.tmod_eq_emod_of_nonneg h
theorem wa {a b:Int} (h:0≤a):a.tdiv b=a / b:=Int.tdiv_eq_ediv_of_nonneg h
theorem vf {a b:Int} (h:0≤a) (h2:a≤18446744073709551615) (hb:0 < b):IntKind.u64.wrap (a.tdiv b)=a / b:=by
  rw [wa h]
  have h3:0≤a / b:=Int.ediv_nonneg h (by omega)
  have h4:a / b≤a:=Int.ediv_le_self _ h
  exact cq (by omega) (by omega)
theorem vq {x:Int} (h1:0≤x) (h2:x≤127):IntKind.u8.wrap ((BitVec.ofInt IntKind.u8.bits 128 ||| BitVec.ofInt IntKind.u8.bits x).toNat)=128 + x:=by
  obtain ⟨n,rfl⟩:=Int.eq_ofNat_of_zero_le h1
  have hn:n≤127:=by omega
  have:∀ m:Fin 128,IntKind.u8.wrap ((BitVec.ofInt IntKind.u8.bits 128 ||| BitVec.ofInt IntKind.u8.bits ((m.val:Nat):Int)).toNat)=128 + ((m.val:Nat):Int):=by decide +kernel
  exact this ⟨n,by omega⟩
section
variable {P:Program} {N:Nat} {ops:Array Oper} {Q:Exit→Act→World→Prop} {e:Nat→Value} {w:World} {ca:List Oper} {α:Type} {K:Value→World→Prop}
variable {d:Option Tmp} {ty:TypeId} {p:String} {af:Array Edge} {g:Option (Nat × Bool)} {x y:Operand} {x0 x1 x2 x3 x4 x5:Operand} {v0 v1 v2 v3 v4 v5:Value} {fn:Nat} {ts:Array TypeId}
theorem j0 (hb:dj P fn=true) (h:ae P fn #[] w K):bx P ⟨d,.call { callee:=.value (.func fn),args:=#[],argTypes:=ts },ty,p,af,g⟩ e w K:=
  gt (vs:=#[]) hb rfl rfl (by simp) (by simpa using h)
theorem av (hb:dj P fn=true) (h0:ev e x0=v0) (h:ae P fn #[v0] w K):bx P ⟨d,.call { callee:=.value (.func fn),args:=#[x0],argTypes:=ts },ty,p,af,g⟩ e w K:=
  gt hb rfl rfl (by simp [h0];rfl) (by simpa using h)
theorem aW (hb:dj P fn=true) (h0:ev e x0=v0) (h1:ev e x1=v1) (h:ae P fn #[v0,v1] w K):bx P ⟨d,.call { callee:=.value (.func fn),args:=#[x0,x1],argTypes:=ts },ty,p,af,g⟩ e w K:=
  gt hb rfl rfl (by simp [h0,h1];rfl) (by simpa using h)
theorem gM (hb:dj P fn=true) (h0:ev e x0=v0) (h1:ev e x1=v1) (h2:ev e x2=v2) (h:ae P fn #[v0,v1,v2] w K):bx P ⟨d,.call { callee:=.value (.func fn),args:=#[x0,x1,x2],argTypes:=ts },ty,p,af,g⟩ e w K:=
  gt hb rfl rfl (by simp [h0,h1,h2];rfl) (by simpa using h)
theorem ed {t:Ty α} {T et k:Nat} {kk:IntKind} {i:Int} {F:Nat→Prop} {v:Value} {xs:List α} {xx:α} (ht:gD P T et=true) (hs:gQ P et t.sz=true) (hx:ev e x=v) (hv:bs t w F v xs) (hy:ev e y=.int kk i) (hi:i=(k:Nat)) (hk:xs[k]? = some xx)
    (r:∀ q cs,F q.block→Pv w q cs→t.rep w F cs xx→K (.pointer (some q)) w):bx P ⟨d,.indexAddr T x y,ty,p,af,g⟩ e w K:=by
  obtain ⟨a,c,rfl,h1,h2,h3,h4⟩:=hv
  obtain ⟨q,cs,ha,hF,hp,hr⟩:=h4 k xx hk
  subst ha
  have hlt:=(List.getElem?_eq_some_iff.1 hk).1
  exact bx.of_v (aF ht hs hx hy hi hlt) (r _ cs (by rw [au];exact hF) hp hr)
theorem qm {w:World} {F:Nat→Prop} {q:Addr} {cs:List Value} {b:UInt8} (h:Pv w q cs) (hr:cw.rep w F cs b):w.cell? q=some (.int .u8 b.toNat):=by
  have hr':cs=[.int .u8 b.toNat]:=hr
  subst hr'
  have:=h 0 _ rfl
  rwa [kB] at this
theorem aK {w:World} {q:Addr} {v:Value} (h:Pv w q [v]):w.cell? q=some v:=by
  have:=h 0 _ rfl
  rwa [kB] at this
end
def vQ {α:Type} (t:Ty α):Prop:=∀ w F cs x w' F',t.rep w F cs x→t.rep w' F' cs x
theorem iy:vQ cw:=fun _ _ _ _ _ _ h=>h
theorem vQ.to {α:Type} {t:Ty α} (h:vQ t) {w w':World} {F F':Nat→Prop}:∀ cs x,t.rep w F cs x→t.rep w' F' cs x:=fun cs x hr=>h _ _ _ _ _ _ hr
theorem lf {α:Type} {t:Ty α} {w:World} {F F':Nat→Prop} {v:Value} (h:∀ b,b < w.heap.size→F' b→F b∧v.ownBlock≠some b):∀ cs x,t.rep w F' cs x→t.rep w (fun b=>F b∧v.ownBlock≠some b) cs x:=fun cs x hr=>t.mono hr h
theorem ao.step {K K':Nat→Prop} {a b c:World} (h:ao K a b) (k:ao K' b c) (hk:∀ i,i < a.heap.size→K' i→K i):ao K a c:=
  ⟨k.os.trans h.os,k.tape.trans h.tape,k.output.trans h.output,Nat.le_trans h.size k.size,fun i hi hn=>(k.block i (Nat.lt_of_lt_of_le hi h.size) (fun x=>hn (hk i hi x))).trans (h.block i hi hn)⟩
theorem wL {m:Nat} (h:m < 256):(UInt8.ofNat m).toNat=m:=by simp [Nat.mod_eq_of_lt h]
theorem sy {w:World} {F:Nat→Prop} {x:Int} (b:UInt8) (h:x=(b.toNat:Int)):cw.rep w F (Value.int .u8 x).cells.toList b:=by subst h;rfl
theorem bl {p:Prop} [Decidable p] (h:decide p=true):p:=of_decide_eq_true h
theorem bf {p:Prop} [Decidable p] (h:decide p=false):¬ p:=of_decide_eq_false h
end Go.Vc
namespace Go.Vc
theorem aC {P:Prop} (h:P:=by intro i _ hi he;(try dsimp only [aP,bj] at hi he);first | exact hi.elim | exact he.elim | omega | (rcases hi with hi | hi <;> omega) | (rcases he with he | he <;> omega)):P:=h
theorem aH {P:Prop} (h:P:=by intro h;(try dsimp only at h);first | omega):P:=h
theorem bi {P:Prop} (h:P:=by intro i hi he;(try dsimp only [aP] at hi he ⊢);first | exact he.elim | omega | exact he):P:=h
theorem bV {P:Prop} (h:P:=by first | exact of_decide_eq_true rfl | (simp;done) | decide | (simp only [List.length_set,hlen];exact of_decide_eq_true rfl)):P:=h
theorem cT {P:Prop} (h:P:=by first | exact eo (by rfl) | (simp [cL];done) | (simp only [List.forall_mem_cons,List.cons_append,List.nil_append];repeat' (first | exact rfl | apply And.intro | (intro u hu;cases hu;done)))):P:=h
theorem fB {P:Prop} (h:P:=by intro h;have h:=h;(try dsimp only [aP] at h);first | exact h | omega | (rcases h with h | h <;> omega)):P:=h
theorem eU {P:Prop} (h:P:=by first | exact fun h=>h | (intro h;have he0:=h;have h:=h;(try dsimp only at h);(try simp only [Value.ownBlock,Option.some.injEq] at h);(try simp only [au] at h);(try simp only [au] at he0);first | omega) | (intro i _ hi he;have he0:=he;have hi:=hi;have he:=he;(try dsimp only [aP,bj] at hi he);(try simp only [Value.ownBlock,Option.some.injEq] at he);first | exact hi.elim | exact he.elim | omega | (rcases hi with hi | hi <;> omega) | (rcases he with he | he <;> omega))):P:=h
theorem zk {P:Prop} (h:P:=by kernel_rfl):P:=h
theorem zd {P:Prop} (h:P:=by decide +kernel):P:=h
theorem zq {P:Prop} (h:P:=by decide):P:=h
theorem zo {P:Prop} (h:P:=by omega):P:=h
theorem bI {x:Value} {a n c} (h:x=.slice a n c):x=.slice a n c:=h
theorem bB {x:Value} {k n} (h:x=.int k n):x=.int k n:=h
theorem aZ {x:Value} {a} (h:x=.agg a):x=.agg a:=h
theorem ci {x:Value} {a} (h:x=.pointer a):x=.pointer a:=h
theorem cE {x:Value} {a} (h:x=.bool a):x=.bool a:=h
theorem vR {x:Value} {a} (h:x=.string a):x=.string a:=h
theorem bP {P:Program} {d:Option Tmp} {ty:TypeId} {p:String} {af:Array Edge} {g:Option (Nat × Bool)} {e:Nat→Value} {w:World} {x:Operand} {a n c} (hx:ev e x=.slice a n c):aG P ⟨d,.move x,ty,p,af,g⟩ e w (.slice a n c):=be hx
theorem aQ {P:Program} {d:Option Tmp} {ty:TypeId} {p:String} {af:Array Edge} {g:Option (Nat × Bool)} {e:Nat→Value} {w:World} {x:Operand} {k n} (hx:ev e x=.int k n):aG P ⟨d,.move x,ty,p,af,g⟩ e w (.int k n):=be hx
theorem bH {P:Program} {d:Option Tmp} {ty:TypeId} {p:String} {af:Array Edge} {g:Option (Nat × Bool)} {e:Nat→Value} {w:World} {x:Operand} {a} (hx:ev e x=.bool a):aG P ⟨d,.move x,ty,p,af,g⟩ e w (.bool a):=be hx
theorem bK {P:Program} {d:Option Tmp} {ty:TypeId} {p:String} {af:Array Edge} {g:Option (Nat × Bool)} {e:Nat→Value} {w:World} {x:Operand} {a} (hx:ev e x=.pointer a):aG P ⟨d,.move x,ty,p,af,g⟩ e w (.pointer a):=be hx
theorem dY {P:Program} {d:Option Tmp} {ty:TypeId} {p:String} {af:Array Edge} {g:Option (Nat × Bool)} {e:Nat→Value} {w:World} {x:Operand} {a} (hx:ev e x=.tuple a):aG P ⟨d,.move x,ty,p,af,g⟩ e w (.tuple a):=be hx
theorem jA {P:Program} {d:Option Tmp} {ty:TypeId} {p:String} {af:Array Edge} {g:Option (Nat × Bool)} {e:Nat→Value} {w:World} {x:Operand} {a b c} (hx:ev e x=.func a b c):aG P ⟨d,.move x,ty,p,af,g⟩ e w (.func a b c):=be hx
theorem cF {P:Program} {d:Option Tmp} {ty:TypeId} {p:String} {af:Array Edge} {g:Option (Nat × Bool)} {e:Nat→Value} {w:World} {x:Operand} {a n c} (hx:ev e x=.slice a n c):aG P ⟨d,.assign x,ty,p,af,g⟩ e w (.slice a n c):=ad hx
theorem bO {P:Program} {d:Option Tmp} {ty:TypeId} {p:String} {af:Array Edge} {g:Option (Nat × Bool)} {e:Nat→Value} {w:World} {x:Operand} {k n} (hx:ev e x=.int k n):aG P ⟨d,.assign x,ty,p,af,g⟩ e w (.int k n):=ad hx
theorem dl {P:Program} {d:Option Tmp} {ty:TypeId} {p:String} {af:Array Edge} {g:Option (Nat × Bool)} {e:Nat→Value} {w:World} {x:Operand} {a} (hx:ev e x=.bool a):aG P ⟨d,.assign x,ty,p,af,g⟩ e w (.bool a):=ad hx
theorem mO {P:Program} {d:Option Tmp} {ty:TypeId} {p:String} {af:Array Edge} {g:Option (Nat × Bool)} {e:Nat→Value} {w:World} {x:Operand} {a} (hx:ev e x=.pointer a):aG P ⟨d,.assign x,ty,p,af,g⟩ e w (.pointer a):=ad hx
theorem zaF {P:Program} {d:Option Tmp} {ty:TypeId} {p:String} {af:Array Edge} {g:Option (Nat × Bool)} {e:Nat→Value} {w:World} {x:Operand} {a b c} (hx:ev e x=.func a b c):aG P ⟨d,.assign x,ty,p,af,g⟩ e w (.func a b c):=ad hx
theorem aA {P:Program} {d:Option Tmp} {ty:TypeId} {p:String} {af:Array Edge} {g:Option (Nat × Bool)} {e:Nat→Value} {w:World} {x:Operand} {s i:Nat} {a:Addr} (off ft:Nat) (hx:ev e x=.pointer (some a)) (hk:pM P s i off ft=true:=by kernel_rfl):aG P ⟨d,.fieldAddr s x i,ty,p,af,g⟩ e w (.pointer (some (a.add off))):=ox hk hx
theorem Z {α:Sort _} {a:α}:a=a:=rfl
end Go.Vc

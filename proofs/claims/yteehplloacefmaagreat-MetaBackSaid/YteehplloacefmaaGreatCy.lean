/- Steps and lemmas for the walks. -/
import Derived.Test.YteehplloacefmaaGreatGy
import Derived.Test.YteehplloacefmaaGreatVc35
import Derived.RecoverIn
set_option linter.unusedVariables false
set_option linter.unusedSimpArgs false
namespace Go.Vc
theorem ir.srcE {a k:Nat} {R0:World→Prop} {R1:Value→World→Prop} {done:Nat→Bool} {ab:Nat→Value} {w w':World} {v:Value} (h0:∀ w w',aX w w'→R0 w→R0 w') (h1:∀ v w w',aX w w'→R1 v w→R1 v w') (j:ir a R0 R1 done ab w) (e:aX w w') (ha:a≠k):ir a R0 R1 (eT done k) (cA ab k v) w':=by
  refine ir.src ?_ ha
  unfold ir at *
  by_cases hd:done a=true
  · rw [if_pos hd] at *;exact h1 _ _ _ e j
  · rw [if_neg hd] at *;exact h0 _ _ e j
theorem aN {w:World} {q:Addr} {cs:List Value} (off n:Nat) (h:Pv w q cs):Pv w (q.add off) ((cs.drop off).take n):=fun j u hu=>by
  rw [List.getElem?_take] at hu
  split at hu
  · rw [gT];exact h _ _ (by simpa using hu)
  · cases hu
end Go.Vc
namespace Go.Vc
def bt (P:Program) (f:FuncId) (args:Array Value) (w:World) (R:List PanicEntry→World→Prop):Prop:=Calls P f args w (fun en w'=>∃ ch,en=.panicked ch∧R ch w')
theorem bt.mono {P:Program} {f:FuncId} {args:Array Value} {w:World} {R R':List PanicEntry→World→Prop} (h:bt P f args w R) (hr:∀ v w',R v w'→R' v w'):bt P f args w R':=
  Calls.mono h fun _ _ ⟨v,he,hv⟩=>⟨v,he,hr _ _ hv⟩
def wF (R:List PanicEntry→World→Prop):Ending→World→Prop:=fun en w'=>∃ ch,en=.panicked ch∧R ch w'
section
variable {P:Program} {d:Option Tmp} {ty:TypeId} {p:String} {af:Array Edge} {g:Option (Nat × Bool)} {e:Nat→Value} {w:World} {K:List PanicEntry→World→Prop} {f:Operand} {x0 x1 x2 x3 x4 x5:Operand} {v0 v1 v2 v3 v4 v5:Value} {fn:Nat} {cap fst:Array Value} {ts:Array TypeId}
theorem ny {args:Array Operand} {vs:Array Value} (hb:dj P fn=true) (ha:args.map (ev e)=vs) (h:bt P fn vs w K):iI P ⟨d,.call { callee:=.value (.func fn),args:=args,argTypes:=ts },ty,p,af,g⟩ e w K:=by
  have hr:(execOp (ev e) ⟨d,.call { callee:=.value (.func fn),args:=args,argTypes:=ts },ty,p,af,g⟩).run P w=.ok (.enter fn vs) w:=by
    simp only [execOp,resolve,ha,Deferred.ofValue,ev]
    simp [invoke,fq hb]
  unfold iI
  rw [hr]
  exact h
theorem cJ (hb:dj P fn=true) (h0:ev e x0=v0) (h:bt P fn #[v0] w K):iI P ⟨d,.call { callee:=.value (.func fn),args:=#[x0],argTypes:=ts },ty,p,af,g⟩ e w K:=
  ny hb (by simp [h0]) h
theorem ei (hb:dj P fn=true) (h0:ev e x0=v0) (h1:ev e x1=v1) (h:bt P fn #[v0,v1] w K):iI P ⟨d,.call { callee:=.value (.func fn),args:=#[x0,x1],argTypes:=ts },ty,p,af,g⟩ e w K:=
  ny hb (by simp [h0,h1]) h
end
section
variable {ro:Option Nat} {m:Nat} {ds:List Deferred} {P:Program} {N:Nat} {Q:Exit→Act→World→Prop} {e:Nat→Value} {w:World} {a:Act} {X Y:Code} {fn:Func} {Kn:Act→World→Prop} {ch:List PanicEntry}
theorem bC (h:Q (.panic ch) a w):Exit.then Kn Q (.panic ch) a w:=h
theorem gz {i:Nat} (h:Q (.panic ch) a w):Exit.inBlock i Q (.panic ch) a w:=h
theorem oM {R:List PanicEntry→World→Prop} (h:R ch w):bodyPost P fn (wF R) (.panic ch) (Fr N e) w:=⟨rfl,ch,rfl,h⟩
end
theorem mw {P:Program} {f:Nat} {fn:Func} {c:Code} {l:List Value} {w:World} {R:List PanicEntry→World→Prop} (N:Nat) (hf:P.funcs[f]? = some fn) (hb:fn.body=some c) (hN:fn.ntmps=N) (hl:l.length≤N)
    (h:c.wpIn (Fw none) 0 P (bodyPost P fn (wF R)) (dg N (jf l) []) w):bt P f l.toArray w R:=by
  refine calls_of_wp hf hb ?_
  rw [hN,jt l hl];exact wpIn_wide.1 h
theorem vD {P:Program} {f:Nat} {fn:Func} {c:Code} {l:List Value} {w:World} {R:Value→World→Prop} (N:Nat) (hf:P.funcs[f]? = some fn) (hb:fn.body=some c) (hN:fn.ntmps=N) (hl:l.length≤N)
    (h:c.wpIn (Fw none) 0 P (bodyPostDIn (Fw none) 0 P fn (mI R)) (dg N (jf l) []) w):ae P f l.toArray w R:=by
  refine callsIn_wide.1 (callsIn_of_wp_defers (n:=0) hf hb (by trivial) ?_)
  rw [hN,jt l hl];exact h
def UR (Rr:Value→World→Prop) (Rp:List PanicEntry→World→Prop):Ending→World→Prop:=fun en w=>(∃ v,en=.returned v∧Rr v w)∨(∃ ch,en=.panicked ch∧Rp ch w)
def jT (P:Program) (f:FuncId) (args:Array Value) (w:World) (Rr:Value→World→Prop) (Rp:List PanicEntry→World→Prop):Prop:=Calls P f args w (UR Rr Rp)
theorem jT.r {P:Program} {f:FuncId} {args:Array Value} {w:World} {Rr R:Value→World→Prop} {Rp:List PanicEntry→World→Prop} (h:jT P f args w Rr Rp) (hr:∀ v w',Rr v w'→R v w') (hp:∀ ch w',¬ Rp ch w'):ae P f args w R:=
  Calls.mono h fun _ _ h=>h.elim (fun ⟨v,he,hv⟩=>⟨v,he,hr _ _ hv⟩) (fun ⟨ch,_,h⟩=>(hp _ _ h).elim)
theorem jT.p {P:Program} {f:FuncId} {args:Array Value} {w:World} {Rr:Value→World→Prop} {Rp R:List PanicEntry→World→Prop} (h:jT P f args w Rr Rp) (hr:∀ v w',¬ Rr v w') (hp:∀ ch w',Rp ch w'→R ch w'):bt P f args w R:=
  Calls.mono h fun _ _ h=>h.elim (fun ⟨v,_,hv⟩=>(hr _ _ hv).elim) (fun ⟨ch,he,h⟩=>⟨ch,he,hp _ _ h⟩)
theorem tf {P:Program} {f:Nat} {fn:Func} {c:Code} {l:List Value} {w:World} {Rr:Value→World→Prop} {Rp:List PanicEntry→World→Prop} (N:Nat) (hf:P.funcs[f]? = some fn) (hb:fn.body=some c) (hN:fn.ntmps=N) (hl:l.length≤N)
    (h:c.wpIn (Fw none) 0 P (bodyPost P fn (UR Rr Rp)) (dg N (jf l) []) w):jT P f l.toArray w Rr Rp:=by
  refine calls_of_wp hf hb ?_
  rw [hN,jt l hl];exact wpIn_wide.1 h
theorem fK {N:Nat} {P:Program} {fn:Func} {e:Nat→Value} {w:World} {ch:List PanicEntry} {Rr:Value→World→Prop} {Rp:List PanicEntry→World→Prop} (h:Rp ch w):bodyPost P fn (UR Rr Rp) (.panic ch) (Fr N e) w:=⟨rfl,.inr ⟨ch,rfl,h⟩⟩
theorem oG {P:Program} {fn:Func} {a:Act} {w:World} {Rr:Value→World→Prop} {Rp:List PanicEntry→World→Prop} (h:bodyPost P fn (mI Rr) .ret a w):bodyPost P fn (UR Rr Rp) .ret a w:=by
  obtain ⟨hd,v,hv,v2,h1,h2⟩:=h
  exact ⟨hd,v,hv,.inl ⟨v2,h1,h2⟩⟩
theorem rE {P:Program} {d:Option Tmp} {ty:TypeId} {p:String} {af:Array Edge} {g:Option (Nat × Bool)} {e:Nat→Value} {w:World} {K:List PanicEntry→World→Prop} {x:Operand} {T:TypeId} {v:Value} (hx:ev e x=.iface T v)
    (h:K [{ v:=.iface T v,recovered:=false }] w):iI P ⟨d,.panic x,ty,p,af,g⟩ e w K:=by
  have hr:(execOp (ev e) ⟨d,.panic x,ty,p,af,g⟩).run P w=.halt (.panic (.iface T v)) w:=by
    simp [execOp,hx,Instr.panic,goPanic]
  unfold iI
  rw [hr];exact h
def nn (P:Program) (T:TypeId):Bool:=match P.underlying T with
  | some (.interface _)=>false
  | some _=>true
  | none=>false
theorem qR {P:Program} {d:Option Tmp} {ty:TypeId} {p:String} {af:Array Edge} {g:Option (Nat × Bool)} {e:Nat→Value} {w:World} {x:Operand} {T:TypeId} {v:Value} (ht:nn P T=true) (hx:ev e x=v):aG P ⟨d,.makeInterface T x,ty,p,af,g⟩ e w (.iface T v):=by
  unfold nn at ht
  split at ht
  · cases ht
  · next td h1 h2=>
    have h:(Instr.makeInterface T v).run P w=.ok (.iface T v) w:=by
      simp only [Instr.makeInterface,Sem.run_bind,run_underlying h2]
      cases td <;> first | exact absurd rfl (h1 _) | rfl
    simp [aG,execOp,hx,h]
  · cases ht
theorem rY {m:Nat} {P:Program} {N:Nat} {id:Nat} {Q:Exit→Act→World→Prop} {e:Nat→Value} {ds:List Deferred} {w:World} {d f:Nat} {caps:Array Operand} {ty ty2:TypeId} {p p2:String} {af af2:Array Edge} (hd:d < N) (hc:caps.toList.all (Operand.lt N)=true)
    (h:Q .normal (dg N (pd e d (.func (.func f) #[] (caps.map (ev e)))) ({ target:=.fn (.func f) (caps.map (ev e)),args:=#[] } :: ds)) w) :
    (Code.region id (Array.mk [⟨some d,.makeFunc (.func f) #[] caps,ty,p,af,none⟩,⟨none,.defer { callee:=.value (.tmp d),args:=#[],argTypes:=#[] },ty2,p2,af2,none⟩]) false).wpIn (Fw none) m P Q (dg N e ds) w:=by
  have hcm:caps.map (dg N e ds).eval=caps.map (ev e):=by
    apply Array.map_congr_left
    intro x hx
    simp only [List.all_eq_true] at hc
    exact gG (hc x (by simpa using hx))
  refine wpIn_region_lit ?_
  refine wpListIn_plain rfl fun K hK=>?_
  unfold Oper.wpIn
  refine ⟨fun f _=>jh none f,?_⟩
  rw [mM,Oper.semAt_none]
  have h1:(execOp (dg N e ds).eval ⟨some d,.makeFunc (.func f) #[] caps,ty,p,af,none⟩).run P w=.ok (.value (.func (.func f) #[] (caps.map (ev e)))) w:=by
    simp [execOp,Instr.makeFunc,hcm]
  rw [h1,Oper.uponIn_value]
  apply hK
  have hp:(dg N e ds).put (some d) (.func (.func f) #[] (caps.map (ev e)))=dg N (pd e d (.func (.func f) #[] (caps.map (ev e)))) ds:=eu (d:=some d) (by simp [iH,Nat.blt];omega) _
  show wpListIn _ _ _ _ _ _ ((dg N e ds).put (some d) _) _
  rw [hp]
  refine wpListIn_plain rfl fun K2 hK2=>?_
  unfold Oper.wpIn
  refine ⟨fun f _=>jh none f,?_⟩
  rw [mM,Oper.semAt_none]
  have h2:(execOp (dg N (pd e d (.func (.func f) #[] (caps.map (ev e)))) ds).eval ⟨none,.defer { callee:=.value (.tmp d),args:=#[],argTypes:=#[] },ty2,p2,af2,none⟩).run P w=.ok (.defer { target:=.fn (.func f) (caps.map (ev e)),args:=#[] }) w:=by
    simp [execOp,resolve,gG (ds:=ds) (e:=pd e d (.func (.func f) #[] (caps.map (ev e)))) (x:=.tmp d) (N:=N) (by simp [Operand.lt,Nat.blt];omega),ev,jY,Deferred.ofValue]
  rw [h2,Oper.uponIn_defer]
  apply hK2
  exact h
end Go.Vc
namespace Go.Vc
theorem kh (a:Act) (d:Option Tmp) (v:Value):∀ t,d≠some t→(a.put d v).tmps[t]? = a.tmps[t]?:=by
  intro t ht
  cases d with
  | none=>rfl
  | some d=>
    have:d≠t:=fun h=>ht (by rw [h])
    simp [Act.put,Array.getElem?_setIfInBounds,this]
theorem rZ {F:Fence} {n:Nat} {P:Program} {o:Oper} {a:Act} {w:World} {next:Act→World→Prop} {Q:Exit→Act→World→Prop} (hh:o.wpIn F n P a w next Q) :
    o.wpIn F n P a w (fun a' w'=>next a' w'∧∀ t,o.dst≠some t→a'.tmps[t]? = a.tmps[t]?) Q:=by
  unfold Oper.wpIn at *
  refine ⟨hh.1,?_⟩
  have hh:=hh.2
  generalize (o.semAt F.round a.eval).run P w=r at *
  cases r with
  | ok x w'=>
    cases x <;> simp only [Oper.uponIn] at hh ⊢ <;>
      first
        | exact ⟨hh,kh _ _ _⟩
        | exact ⟨hh.1,CallsIn.mono hh.2 (fun e w'' he=>by cases e <;> first | exact ⟨he,kh _ _ _⟩ | exact he)⟩
        | exact ⟨hh.1,RowsIn.mono hh.2 (fun _ _ he=>⟨he,kh _ _ _⟩)⟩
        | exact ⟨hh.1,RoundIn.mono hh.2 (fun e w'' he=>by cases e <;> first | exact ⟨he,kh _ _ _⟩ | exact he)⟩
        | exact hh
  | halt h w'=>cases h <;> first | exact hh | exact hh.elim
def mY (m:Nat) (ops:Array Oper) (a:Act):Prop:=∀ (j:Nat) (o:Oper) (g:Nat × Bool),ops[m + j]? = some o→o.guard=some g→g.1 < m→yielded ops a.tmps g.1=some g.2
theorem mY.put {m:Nat} {ops:Array Oper} {a a':Act} {d:Option Tmp} (h:mY m ops a) (hd:∀ j' o' g,ops[m + j']? = some o'→o'.guard=some g→g.1 < m→∀ t,(ops[g.1]?).bind (·.dst)=some t→d≠some t) (hp:∀ t,d≠some t→a'.tmps[t]? = a.tmps[t]?):mY m ops a':=by
  intro j o g ho hg hm
  rw [← h j o g ho hg hm]
  unfold yielded
  cases hdst:(ops[g.1]?).bind (·.dst) with
  | none=>rfl
  | some t=>simp only [Option.bind_some];rw [hp t (hd j o g ho hg hm t hdst)]
def qZ (m:Nat) (o:Oper):Oper:={ pu m o with guard:=match o.guard with | none=>none | some g=>if g.1 < m then none else some (g.1 - m,g.2) }
theorem pi {m:Nat} {ops Bs:Array Oper} {j:Nat} {o:Oper} {a:Act} (hB:∀ j,Bs[j]? = (ops[m + j]?).map (qZ m)) (ho:ops[m + j]? = some o) (hI:mY m ops a):Region.wanted (qZ m o) (yielded Bs a.tmps)=Region.wanted o (yielded ops a.tmps):=by
  cases hgd:o.guard with
  | none=>simp [Region.wanted,qZ,hgd]
  | some g=>
    obtain ⟨i,b⟩:=g
    by_cases him:i < m
    · have:=hI j o (i,b) ho hgd him
      simp only at this
      simp [Region.wanted,qZ,hgd,him,this]
    · have hm:m + (i - m)=i:=by omega
      have hy:yielded Bs a.tmps (i - m)=yielded ops a.tmps i:=by
        unfold yielded
        have:((Bs[i - m]?).bind (·.dst))=((ops[i]?).bind (·.dst)):=by
          rw [hB,hm];cases ops[i]? <;> rfl
        rw [this]
      simp [Region.wanted,qZ,hgd,hy,him]
section
variable {ro:Option Nat} {n:Nat} {P:Program} {Q:Exit→Act→World→Prop}
theorem wr {m:Nat} {ops Bs:Array Oper} (hs:ops.size=m + Bs.size) (hB:∀ j,Bs[j]? = (ops[m + j]?).map (qZ m)) (hdst:∀ j o j' o' g,ops[m + j]? = some o→ops[m + j']? = some o'→o'.guard=some g→g.1 < m→∀ t,(ops[g.1]?).bind (·.dst)=some t→o.dst≠some t) :
    ∀ (f:Nat) (L lB:Array Bool) (a:Act) (w:World),L.size=ops.size→lB.size=Bs.size→(∀ i,i < m→L.getD i true=true)→(∀ j d,j < Bs.size→L.getD (m + j) d=lB.getD j d)→mY m ops a →
      wpAnyIn (Fw ro) n P .any Bs Q f lB a w→wpAnyIn (Fw ro) n P .any ops Q f L a w:=by
  have rdy:∀ (L lB:Array Bool),L.size=ops.size→lB.size=Bs.size→(∀ i,i < m→L.getD i true=true)→(∀ j d,j < Bs.size→L.getD (m + j) d=lB.getD j d)→∀ i,i ∈ Region.ready .any ops L→∃ j o,i=m + j∧j < Bs.size∧ops[m + j]? = some o∧j ∈ Region.ready .any Bs lB:=by
    intro L lB h1 h2 h3 h4 i hi
    obtain ⟨hu,o,ho,hd⟩:=mem_ready.1 hi
    have hlt:i < ops.size:=(Array.getElem?_eq_some_iff.1 ho).1
    have him:m≤i:=by
      rcases Nat.lt_or_ge i m with h | h
      · rw [h3 i h] at hu;cases hu
      · exact h
    obtain ⟨j,rfl⟩:∃ j,i=m + j:=⟨i - m,by omega⟩
    refine ⟨j,o,rfl,by omega,ho,mem_ready.2 ⟨by rw [← h4 j true zo];exact hu,qZ m o,by rw [hB,ho];rfl,fun e he hb=>?_⟩⟩
    simp only [qZ,pu,List.mem_toArray,List.mem_filterMap] at he
    obtain ⟨e0,he0,hs0⟩:=he
    unfold wg at hs0
    split at hs0
    · cases hs0
    · rename_i hge
      have hge':m≤e0.on:=by
        rcases Nat.lt_or_ge e0.on m with h | h
        · exact absurd (by simpa [Nat.blt] using (show e0.on + 1≤m from h)) hge
        · exact h
      cases hs0
      have:=hd e0 (by simpa using he0) (by simpa [Region.binds] using hb)
      have hlt2:e0.on < ops.size:=by
        rcases Nat.lt_or_ge e0.on ops.size with h | h
        · exact h
        · have:L.getD e0.on false=false:=by simp [Array.getD,show ¬ e0.on < L.size by omega]
          simp_all
      have h5:=h4 (e0.on - m) false zo
      rw [show m + (e0.on - m)=e0.on by omega] at h5
      simp only []
      rw [← h5];exact this
  intro f
  induction f with
  | zero=>
    intro L lB a w h1 h2 h3 h4 hI h
    refine ⟨?_,h.2⟩
    cases hr:Region.ready .any ops L with
    | nil=>rfl
    | cons i l=>
      obtain ⟨j,o,_,_,_,hj⟩:=rdy L lB h1 h2 h3 h4 i (by rw [hr];exact List.mem_cons_self)
      rw [h.1] at hj;cases hj
  | succ f ih=>
    intro L lB a w h1 h2 h3 h4 hI h
    refine ⟨fun hn=>?_,fun i hi=>?_⟩
    · refine h.1 ?_
      cases hr:Region.ready .any Bs lB with
      | nil=>rfl
      | cons j l=>
        obtain ⟨hu,o',ho',hd⟩:=mem_ready.1 (show j ∈ Region.ready .any Bs lB by rw [hr];exact List.mem_cons_self)
        have hjB:j < Bs.size:=(Array.getElem?_eq_some_iff.1 ho').1
        rw [hB] at ho'
        cases ho:ops[m + j]? with
        | none=>rw [ho] at ho';cases ho'
        | some o=>
          rw [ho] at ho';cases ho'
          have:m + j ∈ Region.ready .any ops L:=mem_ready.2 ⟨by rw [h4 j true hjB];exact hu,o,ho,fun e he hb=>by
            rcases Nat.lt_or_ge e.on m with h5 | h5
            · have h6:=h3 e.on h5
              have h7:e.on < L.size:=by omega
              simp only [Array.getD,h7,dif_pos] at h6 ⊢;exact h6
            · have h6:=hd { e with on:=e.on - m } (by
                simp only [qZ,pu,List.mem_toArray,List.mem_filterMap]
                refine ⟨e,by simpa using he,?_⟩
                unfold wg
                have:Nat.blt e.on m=false:=by
                  cases hh:Nat.blt e.on m with
                  | false=>rfl
                  | true=>
                            have:e.on + 1≤m:=by simpa [Nat.blt] using hh
                            omega
                rw [this];rfl) (by simpa [Region.binds] using hb)
              simp only [] at h6
              have h7:e.on - m < Bs.size:=by
                rcases Nat.lt_or_ge (e.on - m) Bs.size with h | h
                · exact h
                · have:lB.getD (e.on - m) false=false:=by simp [Array.getD,show ¬ e.on - m < lB.size by omega]
                  simp_all
              have h8:=h4 (e.on - m) false h7
              rw [show m + (e.on - m)=e.on by omega] at h8
              rw [h8];exact h6⟩
          rw [hn] at this;cases this
    · obtain ⟨j,o,rfl,hjB,ho,hj⟩:=rdy L lB h1 h2 h3 h4 i hi
      have h5:=h.2 j hj
      unfold wpOpIn at h5 ⊢
      have hoB:Bs[j]? = some (qZ m o):=by rw [hB,ho];rfl
      rw [hoB] at h5
      rw [ho]
      simp only [] at h5 ⊢
      rw [pi hB ho hI] at h5
      have nxt:∀ a w,mY m ops a→wpAnyIn (Fw ro) n P .any Bs Q f (lB.setIfInBounds j true) a w→wpAnyIn (Fw ro) n P .any ops Q f (L.setIfInBounds (m + j) true) a w:=fun a w hI6 h6=>
        ih _ _ a w (by simpa using h1) (by simpa using h2) (fun i hi=>by
          rw [df zo,if_neg zo];exact h3 i hi) (fun i d hi=>by
          rw [df zo,df zo]
          by_cases hij:i=j
          · subst hij;simp
          · rw [if_neg zo,if_neg hij];exact h4 i d hi) hI6 h6
      split
      · rename_i hw;rw [if_pos hw] at h5;exact Oper.wpIn_mono (fun a' w' h=>nxt a' w' (hI.put (hdst j o · · · ho) h.2) h.1) (rZ h5)
      · rename_i hw;rw [if_neg hw] at h5;exact ⟨h5.1,nxt _ _ (hI.put (hdst j o · · · ho) (kh a o.dst undef)) h5.2⟩
theorem phAG {m:Nat} {ops As Bs:Array Oper} (hok:ni ops=true) (hbar:tz ops m=true) (hA:As.size=m) (hs:ops.size=m + Bs.size) (hAt:∀ j,j < m→As[j]? = ops[j]?) (hB:∀ j,Bs[j]? = (ops[m + j]?).map (qZ m)) (hdst:∀ j o j' o' g,ops[m + j]? = some o→ops[m + j']? = some o'→o'.guard=some g→g.1 < m→∀ t,(ops[g.1]?).bind (·.dst)=some t→o.dst≠some t)
    (hgA:∀ j o,j < m→ops[j]? = some o→match o.guard with | none=>True | some g=>g.1 < m) :
    ∀ (fA:Nat) (lA L:Array Bool) (a:Act) (w:World) (f:Nat),lA.size=m→L.size=ops.size→(∀ i d,i < m→L.getD i d=lA.getD i d)→(∀ i d,m≤i→i < ops.size→L.getD i d=false) →
      (∀ j oj,L.getD j false=true→ops[j]? = some oj→∀ i ∈ pV oj,L.getD i false=true)→mR (fun i=>!lA.getD i true) m≤fA→fA + Bs.size≤f →
      wpAnyIn (Fw ro) n P .any As (Exit.then (fun a w=>mY m ops a∧ot ro n P Bs Q a w) Q) fA lA a w→wpAnyIn (Fw ro) n P .any ops Q f L a w:=by
  have edge:∀ (j:Nat) (o:Oper),ops[j]? = some o→∀ i ∈ pV o,i < j:=fun j o ho i hi=>by
    obtain ⟨e,he,hb,rfl⟩:=jv.1 hi
    exact dD hok ho e he hb
  intro fA
  induction fA with
  | zero=>
    intro lA L a w f h1 h2 h3 h4 h5 hc hf h
    have hall:=jd m (Nat.le_zero.1 hc)
    exact wr hs hB hdst f L (Array.replicate Bs.size false) a w h2 (by simp) (fun i hi=>by rw [h3 i true hi];have:=hall i hi;simpa using this) (fun j d hj=>by rw [h4 (m + j) d zo zo];simp [Array.getD,hj]) h.2.1 (ek _ f _ a w zo h.2.2)
  | succ fA ih=>
    intro lA L a w f h1 h2 h3 h4 h5 hc hf h
    by_cases hall:∀ i,i < m→lA.getD i true=true
    · have hn:Region.ready .any As lA=[]:=by
        cases hr:Region.ready .any As lA with
        | nil=>rfl
        | cons i l=>
          obtain ⟨hu,o,ho,_⟩:=mem_ready.1 (show i ∈ Region.ready .any As lA by rw [hr];exact List.mem_cons_self)
          have:i < m:=by rw [← hA];exact (Array.getElem?_eq_some_iff.1 ho).1
          rw [hall i this] at hu;cases hu
      exact wr hs hB hdst f L (Array.replicate Bs.size false) a w h2 (by simp) (fun i hi=>by rw [h3 i true hi];exact hall i hi) (fun j d hj=>by rw [h4 (m + j) d zo zo];simp [Array.getD,hj]) (h.1 hn).1 (ek _ f _ a w zo (h.1 hn).2)
    · obtain ⟨f,rfl⟩:∃ f',f=f' + 1:=⟨f - 1,by omega⟩
      have hex:∃ i,i < m∧(fun i=>!lA.getD i true) i=true:=by
        apply Classical.byContradiction
        intro hne
        refine hall fun i hi=>?_
        cases hh:lA.getD i true with
        | true=>rfl
        | false=>exact absurd ⟨i,hi,by simp only [hh];rfl⟩ hne
      refine ⟨fun hn=>?_,fun i hi=>?_⟩
      · obtain ⟨k,hk,hfk,hmin⟩:=oR m hex
        obtain ⟨o,ho⟩:∃ o,ops[k]? = some o:=⟨ops[k],by simp [show k < ops.size by omega]⟩
        have:k ∈ Region.ready .any ops L:=mem_ready.2 ⟨by rw [h3 k true hk];simpa using hfk,o,ho,fun e he hb=>by
          have hlt:=dD hok ho e he hb
          have h6:=hmin e.on hlt
          have h7:lA.getD e.on true=true:=by simpa using h6
          rw [h3 e.on false zo]
          have h8:e.on < lA.size:=by omega
          simp only [Array.getD,h8,dif_pos] at h7 ⊢
          exact h7⟩
        rw [hn] at this;cases this
      · obtain ⟨hu,o,ho,hd⟩:=mem_ready.1 hi
        have hilt:i < ops.size:=(Array.getElem?_eq_some_iff.1 ho).1
        have hd':∀ j ∈ pV o,L.getD j false=true:=fun j hj=>by
          obtain ⟨e,he,hb,rfl⟩:=jv.1 hj
          exact hd e he hb
        have him:i < m:=by
          rcases Nat.lt_or_ge i m with h6 | h6
          · exact h6
          · exfalso
            refine hall fun t ht=>?_
            have:=mF hok hbar (L:=fun j=>L.getD j false=true) h5 ho h6 hd' t ht
            rw [h3 t false ht] at this
            have h8:t < lA.size:=by omega
            simp only [Array.getD,h8,dif_pos] at this ⊢
            exact this
        have hoA:As[i]? = some o:=by rw [hAt i him,ho]
        have hiA:i ∈ Region.ready .any As lA:=mem_ready.2 ⟨by rw [← h3 i true him];exact hu,o,hoA,fun e he hb=>by
          have hlt:=dD hok ho e he hb
          rw [← h3 e.on false zo];exact hd e he hb⟩
        have h6:=h.2 i hiA
        unfold wpOpIn at h6 ⊢
        rw [hoA] at h6
        rw [ho]
        simp only [] at h6 ⊢
        have hwt:Region.wanted o (yielded As a.tmps)=Region.wanted o (yielded ops a.tmps):=by
          have hgg:=hgA i o him ho
          unfold Region.wanted
          cases hgd:o.guard with
          | none=>rfl
          | some g=>
            rw [hgd] at hgg
            simp only []
            have:yielded As a.tmps g.1=yielded ops a.tmps g.1:=by unfold yielded;rw [hAt g.1 hgg]
            rw [this]
        rw [hwt] at h6
        have nxt:∀ a w,wpAnyIn (Fw ro) n P .any As (Exit.then (fun a w=>mY m ops a∧ot ro n P Bs Q a w) Q) fA (lA.setIfInBounds i true) a w→wpAnyIn (Fw ro) n P .any ops Q f (L.setIfInBounds i true) a w:=fun a w h7=>by
          refine ih _ _ a w f (by simpa using h1) (by simpa using h2) (fun j d hj=>?_) (fun j d hj hj2=>?_) (fun j oj hj hoj k hk=>?_) ?_ zo h7
          · rw [df zo,df zo,h3 j d hj]
          · rw [df zo,if_neg zo];exact h4 j d hj hj2
          · rw [df zo] at hj ⊢
            by_cases hji:j=i
            · subst hji
              rw [ho] at hoj;cases hoj
              split
              · rfl
              · exact hd' k hk
            · rw [if_neg hji] at hj
              split
              · rfl
              · exact h5 j oj hj hoj k hk
          · have h8:lA.getD i true=false:=by rw [← h3 i true him];exact hu
            have:=mB (f:=fun i=>!lA.getD i true) (g:=fun j=>!(lA.setIfInBounds i true).getD j true) (i:=i) (fun j hj=>by
              rw [df zo] at hj
              by_cases hji:j=i
              · simp [hji] at hj
              · simpa [hji] using hj) (by simp only [h8];rfl) (by rw [df zo];simp) m him
            omega
        split
        · rename_i hw;rw [if_pos hw] at h6;exact Oper.wpIn_mono nxt (lE h6)
        · rename_i hw;rw [if_neg hw] at h6;exact ⟨h6.1,nxt _ _ h6.2⟩
def gGB (m:Nat) (l1 l2:List Oper):Bool:=(l1.all fun o=>match o.guard with | none=>true | some g=>Nat.blt g.1 m) && (l2.all fun o'=>match o'.guard with | none=>true | some g=>!Nat.blt g.1 m || (match (l1[g.1]?).bind (·.dst) with | none=>true | some t=>l2.all fun o=>match o.dst with | none=>true | some d=>!Nat.beq d t))
theorem ve {l:List Oper} {a:Act} {w:World} (m:Nat) (hm:Nat.ble m l.length=true) (hok:ni l.toArray=true) (hbar:tz l.toArray m=true) (hg:gGB m (l.take m) (l.drop m)=true)
    (h:ot ro n P (l.take m).toArray (Exit.then (fun a w=>mY m l.toArray a∧ot ro n P ((l.drop m).map (qZ m)).toArray Q a w) Q) a w):ot ro n P l.toArray Q a w:=by
  have hm':m≤l.length:=Nat.le_of_ble_eq_true hm
  simp only [gGB,Bool.and_eq_true] at hg
  have hsz:(l.take m).length=m:=by simp;omega
  refine phAG (ops:=l.toArray) (As:=(l.take m).toArray) (Bs:=((l.drop m).map (qZ m)).toArray) hok hbar (by simpa using hsz) (by simp;omega) (fun j hj=>by simp [List.getElem?_take_of_lt hj]) (fun j=>by simp) (fun j o j' o' g ho ho' hgd him t ht=>?_) (fun j o hj ho=>?_)
    m (Array.replicate (l.take m).toArray.size false) (Array.replicate l.toArray.size false) a w l.toArray.size (by simp;omega) (by simp) (fun i d hi=>?_) (fun i d hi hi2=>?_) (fun j oj hj _=>?_) (nZ _ _) ?_ (by simpa [ot,hsz,Nat.min_eq_left hm'] using h)
  · have:=List.all_eq_true.1 hg.2 o' (List.mem_of_getElem? (i:=j') (by simpa using ho'))
    rw [hgd] at this
    simp only [] at this
    have hb:Nat.blt g.1 m=true:=by
      have h1:g.1 + 1≤m:=him
      simpa [Nat.blt] using h1
    rw [hb] at this
    have ht2:((l.take m)[g.1]?).bind (·.dst)=some t:=by
      rw [List.getElem?_take_of_lt him];simpa using ht
    rw [ht2] at this
    simp only [Bool.not_true,Bool.false_or] at this
    have h2:=List.all_eq_true.1 this o (List.mem_of_getElem? (i:=j) (by simpa using ho))
    intro hd
    rw [hd] at h2
    simp at h2
  · have:=List.all_eq_true.1 hg.1 o (List.mem_of_getElem? (i:=j) (by simpa [List.getElem?_take_of_lt hj] using ho))
    cases hgd:o.guard with
    | none=>trivial
    | some g=>
                rw [hgd] at this;have h2:g.1 + 1≤m:=by simpa [Nat.blt] using this
                exact h2
  · have h1:i < l.length:=by omega
    have h2:i < (l.take m).length:=by omega
    simp [Array.getD,h1,h2,hi]
    intro h3;omega
  · have h1:i < l.length:=by simpa using hi2
    simp [Array.getD,h1]
  · exfalso
    by_cases h1:j < l.length
    · simp [Array.getD,h1] at hj
    · simp [Array.getD,h1] at hj
  · simp;omega
theorem uf {N m:Nat} {l:List Oper} {e:Nat→Value} {ds:List Deferred} (hl:fC N l.toArray=true) (h:((l.drop m).all fun o=>match o.guard with | none=>true | some g=>!Nat.blt g.1 m || (eG l.toArray e g.1 == some g.2))=true):mY m l.toArray (dg N e ds):=by
  intro j o g ho hg hm
  have:=List.all_eq_true.1 h o (List.mem_of_getElem? (i:=j) (by simpa using ho))
  rw [hg] at this
  simp only [] at this
  have hb:Nat.blt g.1 m=true:=by
    have h1:g.1 + 1≤m:=hm
    simpa [Nat.blt] using h1
  rw [hb] at this
  have h2:eG l.toArray e g.1=some g.2:=by simpa using this
  rw [gL hl];exact h2
end
theorem bs.pre {α:Type} {t:Ty α} {w:World} {F:Nat→Prop} {a:Option Addr} {n c h:Nat} {xs:List α} (hv:bs t w F (.slice a n c) xs) (hh:h≤xs.length):bs t w F (.slice a h c) (xs.take h):=by
  obtain ⟨a',c',hv',h1,h2,h3,h4⟩:=hv
  cases hv'
  have hlen:(xs.take h).length=h:=by simp;omega
  refine ⟨_,_,by rw [hlen],by rw [hlen];omega,by omega,?_,?_⟩
  · intro hn;have:=h3 hn;omega
  · intro i y hy
    have hi:i < h:=by have:=(List.getElem?_eq_some_iff.1 hy).1;rw [hlen] at this;exact this
    rw [List.getElem?_take,if_pos hi] at hy
    exact h4 _ _ hy
end Go.Vc
namespace Go.Vc
def gh (b:Nat) (T:TypeId) (as:List Nat) (css:List (List Value)) (done:Nat→Bool) (ab:Nat→Value) (w:World):Prop:=
  ∃ c,c≤as.length∧(∀ i a,as[i]? = some a→(done a=true↔i < c))∧dh w b (css.getD c []) T
section
variable {b:Nat} {T:TypeId} {as:List Nat} {css:List (List Value)} {done:Nat→Bool} {ab:Nat→Value} {w w':World}
theorem gh.start {cs:List Value} (h:dh w b cs T) (h0:css.getD 0 []=cs) (hd:∀ a ∈ as,done a=false):gh b T as css done ab w:=
  ⟨0,Nat.zero_le _,fun i a ha=>by rw [hd a (List.mem_of_getElem? ha)];simp,by rw [h0];exact h⟩
theorem gh.src {k:Nat} {v:Value} (j:gh b T as css done ab w) (e:aX w w') (hk:(as.all fun a=>!(Nat.beq a k))=true):gh b T as css (eT done k) (cA ab k v) w':=by
  obtain ⟨c,hc,h1,h3⟩:=j
  refine ⟨c,hc,fun i a ha=>?_,h3.ext e⟩
  have hne:a≠k:=fun he=>by
    have:=List.all_eq_true.1 hk a (List.mem_of_getElem? ha)
    rw [he] at this;simp at this
  simp only [eT,if_neg hne];exact h1 i a ha
theorem gh.at {n k:Nat} (j:gh b T as css done ab w) (hk:as[n]? = some k) (hd:done k=false) (hp:∀ m,n=m + 1→∃ a,as[m]? = some a∧done a=true):dh w b (css.getD n []) T:=by
  obtain ⟨c,hc,h1,h3⟩:=j
  have a1:¬ n < c:=fun h=>by have:=(h1 n _ hk).2 h;rw [hd] at this;cases this
  have a2:n≤c:=by
    cases n with
    | zero=>exact Nat.zero_le _
    | succ m=>obtain ⟨a,ha,hda⟩:=hp m rfl;exact (h1 m a ha).1 hda
  have:c=n:=by omega
  subst this;exact h3
theorem gh.step {n k:Nat} {u:Value} (j:gh b T as css done ab w) (hk:as[n]? = some k) (hd:done k=false) (hp:∀ m,n=m + 1→∃ a,as[m]? = some a∧done a=true)
    (hone:((List.range as.length).all fun i=>!(Nat.beq (as.getD i 0) k) || Nat.beq i n)=true) (hB:dh w' b (css.getD (n + 1) []) T):gh b T as css (eT done k) (cA ab k u) w':=by
  obtain ⟨c,hc,h1,h3⟩:=j
  have a1:¬ n < c:=fun h=>by have:=(h1 n _ hk).2 h;rw [hd] at this;cases this
  have a2:n≤c:=by
    cases n with
    | zero=>exact Nat.zero_le _
    | succ m=>obtain ⟨a,ha,hda⟩:=hp m rfl;exact (h1 m a ha).1 hda
  have:c=n:=by omega
  subst this
  have hlt:=(List.getElem?_eq_some_iff.1 hk).1
  refine ⟨c + 1,by omega,fun i a ha=>?_,hB⟩
  by_cases hak:a=k
  · have hil:=(List.getElem?_eq_some_iff.1 ha).1
    have:=List.all_eq_true.1 hone i (List.mem_range.2 hil)
    have h9:as.getD i 0=a:=by simp [List.getD,ha]
    rw [h9,hak] at this
    have hi:i=c:=by simpa using this
    simp [eT,hak,hi]
  · simp only [eT,if_neg hak]
    rw [h1 i a ha]
    constructor
    · intro h;omega
    · intro h
      rcases Nat.lt_or_ge i c with h' | h'
      · exact h'
      · have:i=c:=by omega
        subst this;rw [hk] at ha;cases ha;exact absurd rfl hak
theorem gh.fin {n:Nat} (j:gh b T as css (fun _=>true) ab w) (hn:as.length=n):dh w b (css.getD n []) T:=by
  obtain ⟨c,hc,h1,h3⟩:=j
  have:c=n:=by
    rcases Nat.lt_or_ge c as.length with h | h
    · have:=(h1 c _ (List.getElem?_eq_getElem h)).1 rfl;omega
    · omega
  subst this;exact h3
end
theorem eo {cs:List Value} (h:(cs.all fun u=>u.oneCell')=true):∀ u ∈ cs,u.oneCell'=true:=fun u hu=>List.all_eq_true.1 h u hu
theorem gc {n:Nat} {as:List Nat} (h:(as.all fun a=>Nat.blt a n)=true):∀ a ∈ as,a < n:=fun a ha=>by
  have h1:a + 1≤n:=by simpa [Nat.blt] using List.all_eq_true.1 h a ha
  exact h1
section
variable {P:Program} {N:Nat} {ops:Array Oper} {Q:Exit→Act→World→Prop} {K:Nat→Prop} {J:(Nat→Bool)→(Nat→Value)→World→Prop} {D:Nat→Bool} {e0:Nat→Value} {w0:World} {l:List Oper} {k:Nat} {S:Nat→Value→World→Prop}
theorem gb {d:Option Tmp} {op:Op} {ty:TypeId} {p:String} {af:Array Edge} {g:Nat} {b c:Bool} {tt:Tmp} {t:Value} (hg:(ops[g]?).bind (·.dst)=some tt)
    (hc:∀ ab w,(∀ j,bq ⟨d,op,ty,p,af,some (g,b)⟩ j=true→S j (ab j) w)→dF ops ab e0 k tt=.bool c)
    (h:∀ done ab w,ao K w0 w→gg ops done→done k=false→J done ab w→(∀ j,bq ⟨d,op,ty,p,af,some (g,b)⟩ j=true→done j=true)→(∀ j,bq ⟨d,op,ty,p,af,some (g,b)⟩ j=true→S j (ab j) w)→(c == b)=true→aG P ⟨d,op,ty,p,af,some (g,b)⟩ (dF ops ab e0 k) w t)
    (hj:∀ done ab v w,done k=false→J done ab w→J (eT done k) (cA ab k v) w)
    (r:iB P N ops Q K J e0 w0 l (k + 1) (eS S k (fun v _=>v=bif (c == b) then t else undef))):iB P N ops Q K J e0 w0 (⟨d,op,ty,p,af,some (g,b)⟩ :: l) k S:=by
  refine ⟨_,fun _ _ _ h _=>h,fun done ab w hR hcl hdk hJ hdn hd=>?_,r⟩
  unfold kG
  rw [jm hg (hc ab w hd)]
  cases hcb:(c == b) with
  | true=>exact bx.of_v (h done ab w hR hcl hdk hJ hdn hd hcb) ⟨ao.refl _,rfl,hj done ab _ w hdk hJ⟩
  | false=>exact ⟨ao.refl _,rfl,hj done ab _ w hdk hJ⟩
theorem qd {d:Option Tmp} {op:Op} {ty:TypeId} {p:String} {af:Array Edge} {g:Nat} {b c:Bool} {tt:Tmp} {t:Value} (hg:(ops[g]?).bind (·.dst)=some tt)
    (hc:∀ ab w,(∀ j,bq ⟨d,op,ty,p,af,some (g,b)⟩ j=true→S j (ab j) w)→dF ops ab e0 k tt=.bool c)
    (h:∀ done ab w,ao K w0 w→gg ops done→done k=false→J done ab w→(∀ j,bq ⟨d,op,ty,p,af,some (g,b)⟩ j=true→done j=true)→(∀ j,bq ⟨d,op,ty,p,af,some (g,b)⟩ j=true→S j (ab j) w)→(c == b)=true→bx P ⟨d,op,ty,p,af,some (g,b)⟩ (dF ops ab e0 k) w (fun v w'=>v=t∧aX w w'))
    (hj:∀ done ab v w w',done k=false→J done ab w→aX w w'→J (eT done k) (cA ab k v) w')
    (r:iB P N ops Q K J e0 w0 l (k + 1) (eS S k (fun v _=>v=bif (c == b) then t else undef))):iB P N ops Q K J e0 w0 (⟨d,op,ty,p,af,some (g,b)⟩ :: l) k S:=by
  refine ⟨_,fun _ _ _ h _=>h,fun done ab w hR hcl hdk hJ hdn hd=>?_,r⟩
  unfold kG
  rw [jm hg (hc ab w hd)]
  cases hcb:(c == b) with
  | true=>
    exact (h done ab w hR hcl hdk hJ hdn hd hcb).mono fun v w' hv=>by
      obtain ⟨rfl,e⟩:=hv
      exact ⟨aX.keep e,rfl,hj done ab _ w w' hdk hJ e⟩
  | false=>exact ⟨ao.refl _,rfl,hj done ab _ w w hdk hJ (ao.refl _)⟩
end
end Go.Vc
namespace Go.Vc
def uX (P:Program) (o:Oper) (e:Nat→Value) (w:World) (K:Value→World→Prop):Prop:=
  match (execOp (ev e) o).run P w with
  | .ok (.value v) w'=>K v w'
  | .ok .skip w'=>K undef w'
  | _=>False
section
variable {P:Program} {d:Option Tmp} {ty:TypeId} {p:String} {af:Array Edge} {g:Option (Nat × Bool)} {e:Nat→Value} {w:World} {K:Value→World→Prop} {x y:Operand}
theorem hT {o:Oper} {v:Value} (h:aG P o e w v) (k:K v w):uX P o e w K:=by
  unfold uX;rw [h];exact k
theorem nh {t:TypeId} (h:bx P ⟨d,.alloc t,ty,p,af,g⟩ e w K):uX P ⟨d,.alloc t,ty,p,af,g⟩ e w K:=by
  unfold bx at h
  unfold uX
  simp only [execOp,Sem.run_bind] at h ⊢
  cases hr:(Instr.alloc t true (.tuple #[])).run P w with
  | ok v w'=>rw [hr] at h;exact h
  | halt s w'=>rw [hr] at h;exact h
theorem js {t:TypeId} (h:bx P ⟨d,.store t x y,ty,p,af,g⟩ e w K):uX P ⟨d,.store t x y,ty,p,af,g⟩ e w K:=by
  unfold bx at h
  unfold uX
  simp only [execOp,Sem.run_bind] at h ⊢
  cases hr:(Instr.storeAt t (ev e x) (ev e y)).run P w with
  | ok v w'=>rw [hr] at h;exact h
  | halt s w'=>rw [hr] at h;exact h
theorem vW {T S:TypeId} {v:Value} (ht:nn P T=true) (hx:ev e x=.iface T v):aG P ⟨d,.typeAssert x S T true,ty,p,af,g⟩ e w (.tuple #[v,.bool true]):=by
  unfold nn at ht
  split at ht
  · cases ht
  · next td h1 h2=>
    have h:(Instr.typeAssert (.iface T v) S T true).run P w=.ok (.tuple #[v,.bool true]) w:=by
      simp only [Instr.typeAssert,Sem.run_bind,run_underlying h2]
      cases td <;> first | exact absurd rfl (h1 _) | simp [Result.andThen]
    simp [aG,execOp,hx,h]
  · cases ht
theorem vX {T S:TypeId} {z:Value} (ht:nn P T=true) (hz:aE P T z) (hx:ev e x=.nilIface):aG P ⟨d,.typeAssert x S T true,ty,p,af,g⟩ e w (.tuple #[z,.bool false]):=by
  unfold nn at ht
  split at ht
  · cases ht
  · next td h1 h2=>
    have h:(Instr.typeAssert .nilIface S T true).run P w=.ok (.tuple #[z,.bool false]) w:=by
      unfold aE at hz
      cases hi:P.info? T with
      | none=>simp [hi] at hz
      | some i=>
        simp [hi] at hz
        simp only [Instr.typeAssert,Sem.run_bind,run_underlying h2]
        cases td <;> first | exact absurd rfl (h1 _) | simp [Result.andThen,zeroValue,typeInfo,hi,hz]
    simp [aG,execOp,hx,h]
  · cases ht
end
section
variable {P:Program} {N n:Nat} {ops:Array Oper} {Q:Exit→Act→List Frame→World→Prop} {e:Nat→Value} {w:World} {cs:List Frame} {i:Nat} {ca:List Nat}
theorem lD (h:Q .normal (dg N e []) cs w):wpOpsSIn (Fw none) n P ops Q [] (dg N e []) cs w:=h
theorem fo {o:Oper} (ho:ops[i]? = some o) (hl:iN N o=true) (hg:o.guard=none) (h:uX P o e w (fun v w'=>wpOpsSIn (Fw none) n P ops Q ca (dg N (fH e o.dst v) []) cs w')):wpOpsSIn (Fw none) n P ops Q (i :: ca) (dg N e []) cs w:=by
  have hd:iH N o.dst=true:=by simp only [iN,Bool.and_eq_true] at hl;exact hl.1.2
  simp only [wpOpsSIn,ho]
  refine ⟨fun f _=>jh none f,?_⟩
  have hw:Region.wanted o (yielded ops (dg N e []).tmps)=true:=by simp [Region.wanted,hg]
  rw [if_pos hw,mr hl]
  unfold uX at h
  split at h
  · next hr=>rw [hr];simp only [];rw [eu hd];exact h
  · next hr=>rw [hr];simp only [];rw [eu hd];exact h
  · exact h.elim
theorem rW {o:Oper} {cs':List Frame} {v:Value} (ho:ops[i]? = some o) (hl:iH N o.dst=true) (hg:o.guard=none) (hop:∃ ts,o.op=.call { callee:=.builtin .recover,args:=#[],argTypes:=ts })
    (hr:(match recoverD cs with | some (v,cs')=>(v,cs') | none=>(.nilIface,cs))=(v,cs'))
    (h:wpOpsSIn (Fw none) n P ops Q ca (dg N (fH e o.dst v) []) cs' w):wpOpsSIn (Fw none) n P ops Q (i :: ca) (dg N e []) cs w:=by
  obtain ⟨ts,hop⟩:=hop
  simp only [wpOpsSIn,ho]
  refine ⟨fun f _=>jh none f,?_⟩
  have hw:Region.wanted o (yielded ops (dg N e []).tmps)=true:=by simp [Region.wanted,hg]
  have hx:(execOp (dg N e []).eval o).run P w=.ok .recover w:=by
    simp [execOp,hop,resolve,invoke,builtin]
  rw [if_pos hw,hx]
  simp only []
  cases hrd:recoverD cs with
  | none=>
    rw [hrd] at hr
    simp only [Prod.mk.injEq] at hr
    obtain ⟨rfl,rfl⟩:=hr
    simp only []
    rw [eu hl];exact h
  | some q=>
    rw [hrd] at hr
    obtain ⟨v',cs''⟩:=q
    simp only [Prod.mk.injEq] at hr
    obtain ⟨rfl,rfl⟩:=hr
    simp only []
    rw [eu hl];exact h
end
theorem tg {P:Program} {f:Nat} {fn:Func} {c:Code} {l:List Value} {u:FrameMode} {w:World} {R:Ending→FrameMode→World→Prop} (N n:Nat) (hf:P.funcs[f]? = some fn) (hb:fn.body=some c) (hN:fn.ntmps=N) (hl:l.length≤N)
    (h:∀ (c₀:Frame) (cs:List Frame),c₀.mode=u→c.wpSIn (Fw none) n P (bodyPostS P fn c₀ cs R) (dg N (jf l) []) (c₀ :: cs) w):CallsDIn (Fw none) n P f l.toArray u w R:=by
  refine callsDIn_of_wpSIn hf hb (by trivial) fun c₀ cs hu=>?_
  rw [hN,jt l hl];exact h c₀ cs hu
end Go.Vc
namespace Go.Vc
theorem mW {fn:Func} {p q:Tmp} {ty ty2:TypeId} (h:fn.results=#[.cell p ty,.cell q ty2]) (tmps:Array Value) (P:Program) (w:World) :
    (results fn tmps).run P w=((asAddr (tmps.getD p undef)).run P w).andThen fun a w₁=>((loadVar ty a).run P w₁).andThen fun v w₂=>((asAddr (tmps.getD q undef)).run P w₂).andThen fun b w₃=>((loadVar ty2 b).run P w₃).andThen fun u w₄=>.ok (.tuple #[v,u]) w₄:=by
  simp only [results,h]
  simp [Sem.run_bind,Result.andThen]
section
variable {P:Program} {fn:Func} {N:Nat} {e:Nat→Value} {w:World} {R:Value→World→Prop} {ds:List Deferred}
theorem uP {t u:Tmp} {ty ty2:TypeId} {n:Nat} {a b:Addr} {cs:List Value} {v:Value} (hr:fn.results=#[.cell t ty,.cell u ty2]) (ht:t < N) (hu:u < N) (hp:e t=.pointer (some a)) (hq:e u=.pointer (some b)) (hk:nT P ty n=true) (hk2:sT P ty2=true)
    (hc:Pv w a cs) (hn:cs.length=n) (hc2:w.cell? b=some v):(results fn (dg N e ds).tmps).run P w=.ok (.tuple #[.agg cs.toArray,v]) w:=by
  have h1:(dg N e ds).tmps.getD t undef=.pointer (some a):=by simp [dg,Fr,Array.getD,ht,hp]
  have h2:(dg N e ds).tmps.getD u undef=.pointer (some b):=by simp [dg,Fr,Array.getD,hu,hq]
  rw [mW hr,h1,h2]
  have h3:(asAddr (.pointer (some a))).run P w=.ok a w:=rfl
  have h4:(asAddr (.pointer (some b))).run P w=.ok b w:=rfl
  rw [h3]
  simp only [Result.andThen_ok]
  rw [iu hk hc hn]
  simp only [Result.andThen_ok]
  rw [h4]
  simp only [Result.andThen_ok]
  rw [nI hk2 hc2]
  rfl
theorem ub {f:Nat} {cap:Array Value} {S:World→Prop} (hb:dj P f=true) (h:CallsDIn (Fw none) 0 P f cap .returning w (fun en u' w'=>en=.returned (.tuple #[])∧u'=.returning∧S w'))
    (hres:∀ w',S w'→∃ v,(results fn (dg N e ds).tmps).run P w'=.ok v w'∧R v w'):bodyPostDIn (Fw none) 0 P fn (mI R) .ret (dg N e [{ target:=.fn (.func f) cap,args:=#[] }]) w:=by
  refine leavesIn_cons (f:=f) (args:=cap) (by simp) (by simp [ji]) (by simp [invoke,fq hb]) (fun g _=>jh none g) (h.mono ?_)
  rintro en u' w' ⟨rfl,rfl,hS⟩
  obtain ⟨v,h1,h2⟩:=hres w' hS
  exact ⟨v,h1,v,rfl,h2⟩
theorem uc {f:Nat} {cap:Array Value} {ch:List PanicEntry} {x:Value} {S:World→Prop} (hb:dj P f=true) (h:CallsDIn (Fw none) 0 P f cap (.panicking ch) w (fun en u' w'=>en=.returned (.tuple #[])∧u'=.panicking [{ v:=x,recovered:=true }]∧S w'))
    (hres:∀ w',S w'→∃ v,(results fn (dg N e ds).tmps).run P w'=.ok v w'∧R v w'):bodyPostDIn (Fw none) 0 P fn (mI R) (.panic ch) (dg N e [{ target:=.fn (.func f) cap,args:=#[] }]) w:=by
  refine leavesIn_cons (f:=f) (args:=cap) (by simp) (by simp [ji]) (by simp [invoke,fq hb]) (fun g _=>jh none g) (h.mono ?_)
  rintro en u' w' ⟨rfl,rfl,hS⟩
  obtain ⟨v,h1,h2⟩:=hres w' hS
  exact ⟨v,h1,v,rfl,h2⟩
end
theorem qP {m:Nat} {P:Program} {N:Nat} {id:Nat} {Q:Exit→Act→World→Prop} {e:Nat→Value} {ds:List Deferred} {w:World} {d f:Nat} {x y:Operand} {vx vy:Value} {ty ty2:TypeId} {p p2:String} {af af2:Array Edge} (hd:d < N) (hc:(#[x,y]:Array Operand).toList.all (Operand.lt N)=true)
    (hx:ev e x=vx) (hy:ev e y=vy)
    (h:Q .normal (dg N (pd e d (.func (.func f) #[] #[vx,vy])) ({ target:=.fn (.func f) #[vx,vy],args:=#[] } :: ds)) w) :
    (Code.region id (Array.mk [⟨some d,.makeFunc (.func f) #[] #[x,y],ty,p,af,none⟩,⟨none,.defer { callee:=.value (.tmp d),args:=#[],argTypes:=#[] },ty2,p2,af2,none⟩]) false).wpIn (Fw none) m P Q (dg N e ds) w:=by
  subst hx hy
  refine rY hd hc ?_
  have:(#[x,y]:Array Operand).map (ev e)=#[ev e x,ev e y]:=by simp
  rw [this];exact h
end Go.Vc

/- Steps and lemmas for the walks. -/
import Derived.Test.YteehplloacefmaaGreatGb
import GoSem.Extern.BytealgCompare
import Derived.Lib.AppendZerosOnto
set_option linter.unusedVariables false
set_option linter.unusedSimpArgs false
namespace Go.Vc
theorem nm (x:List UInt8):¬ x < x:=List.lt_irrefl x
def fm (x y:List UInt8):Int:=if x < y then -1 else if x=y then 0 else 1
def rF (x y:List UInt8):Int:=
  match (List.range (min x.length y.length)).find? fun i=>x.getD i 0 != y.getD i 0 with
  | some i=>if x.getD i 0 < y.getD i 0 then -1 else 1
  | none=>if x.length < y.length then -1 else if x.length > y.length then 1 else 0
theorem qE:∀ x y:List UInt8,rF x y=fm x y
  | [],[]=>by simp [rF,fm]
  | _ :: _,[]=>by simp [rF,fm]
  | [],_ :: _=>by simp [rF,fm]
  | a :: x,b :: y=>by
    have ih:=qE x y
    unfold rF at ih ⊢
    have hm:min (a :: x).length (b :: y).length=min x.length y.length + 1:=by simp [Nat.succ_min_succ]
    rw [hm,List.range_succ_eq_map,List.find?_cons]
    by_cases hab:a=b
    · subst hab
      simp only [List.getD_cons_zero,bne_self_eq_false]
      rw [List.find?_map]
      have he:((fun i=>(a :: x).getD i 0 != (a :: y).getD i 0) ∘ Nat.succ)=fun i=>x.getD i 0 != y.getD i 0:=by
        funext i;simp
      rw [he]
      have h1:fm (a :: x) (a :: y)=fm x y:=by
        have:¬ a < a:=by simp
        simp [fm,List.cons_lt_cons_iff,this]
      rw [h1,← ih]
      cases (List.range (min x.length y.length)).find? fun i=>x.getD i 0 != y.getD i 0 with
      | none=>simp
      | some i=>simp
    · have hb:(a != b)=true:=by simpa using hab
      simp only [List.getD_cons_zero,hb]
      by_cases hlt:a < b
      · simp [fm,List.cons_lt_cons_iff,hlt]
      · simp [fm,List.cons_lt_cons_iff,hlt,hab]
theorem lv (x:List UInt8) (i:Nat) (h:i < x.length):(⟨x.toArray⟩:ByteArray)[i]! = x.getD i 0:=by
  have h2:i < (⟨x.toArray⟩:ByteArray).size:=by simpa [ByteArray.size] using h
  rw [getElem!_pos (⟨x.toArray⟩:ByteArray) i h2]
  simp [h]
  rfl
theorem tm (x y:List UInt8):Extern.BytealgCompare.cmp ⟨x.toArray⟩ ⟨y.toArray⟩=fm x y:=by
  rw [← qE]
  unfold Extern.BytealgCompare.cmp rF
  have hx:(⟨x.toArray⟩:ByteArray).size=x.length:=by simp [ByteArray.size]
  have hy:(⟨y.toArray⟩:ByteArray).size=y.length:=by simp [ByteArray.size]
  rw [hx,hy]
  have hf:(List.range (min x.length y.length)).find? (fun i=>(⟨x.toArray⟩:ByteArray)[i]! != (⟨y.toArray⟩:ByteArray)[i]!)=(List.range (min x.length y.length)).find? (fun i=>x.getD i 0 != y.getD i 0):=by
    have:∀ l:List Nat,(∀ i ∈ l,i < min x.length y.length)→l.find? (fun i=>(⟨x.toArray⟩:ByteArray)[i]! != (⟨y.toArray⟩:ByteArray)[i]!)=l.find? (fun i=>x.getD i 0 != y.getD i 0):=by
      intro l hl
      induction l with
      | nil=>rfl
      | cons i l ih=>
        have hi:=hl i List.mem_cons_self
        rw [List.find?_cons,List.find?_cons,lv x i zo,lv y i zo,ih (fun j hj=>hl j (List.mem_cons_of_mem _ hj))]
    exact this _ (fun i hi=>by simpa using hi)
  rw [hf]
  cases h:(List.range (min x.length y.length)).find? fun i=>x.getD i 0 != y.getD i 0 with
  | none=>simp
  | some i=>
    have:=List.mem_of_find?_eq_some h
    have hi:i < min x.length y.length:=by simpa using this
    simp only [lv x i zo,lv y i zo]
end Go.Vc
namespace Go.Vc
theorem na {P:Program} {w:World}:∀ (l:List UInt8) (a:Addr) (acc:ByteArray),(∀ (j:Nat) (x:UInt8),l[j]? = some x→w.cell? (a.add j)=some (.int .u8 x.toNat)) →
    (Extern.Bytes.loadBytes a l.length acc).run P w=.ok ⟨acc.data ++ l.toArray⟩ w
  | [],a,acc,_=>by simp [Extern.Bytes.loadBytes]
  | x :: l,a,acc,h=>by
    have h0:=h 0 x rfl
    rw [kB] at h0
    have ih:=na (P:=P) l (a.add 1) (acc.push x) (fun j y hj=>by
      have:=h (j + 1) y (by simpa using hj)
      rwa [gT,Nat.add_comm 1 j])
    have hx:(x.toNat:Int).toNat.toUInt8=x:=by simp
    simp only [List.length_cons,Extern.Bytes.loadBytes,Sem.run_bind,load,Sem.run,h0,Result.andThen,hx]
    rw [ih]
    congr 1
    congr 1
    simp [ByteArray.push]
theorem kX {P:Program} {w:World} {F:Nat→Prop} {v:Value} {l:List UInt8} (h:Bv w F v l):(Extern.Bytes.bytesOf v).run P w=.ok ⟨l.toArray⟩ w:=by
  obtain ⟨a,c,rfl,h1,h2,h3,h4⟩:=h
  cases a with
  | none=>
    have:l=[]:=List.eq_nil_of_length_eq_zero (by have:=h3 rfl;omega)
    subst this;rfl
  | some a=>
    have:=na (P:=P) (w:=w) l a .empty (fun j x hx=>by
      obtain ⟨q,cs,hq,_,hp,hr⟩:=h4 j x hx
      cases hq
      have:=qm hp hr
      simpa [cw] using this)
    simp only [Extern.Bytes.bytesOf]
    rw [this]
    have e0:ByteArray.empty.data=#[]:=rfl
    rw [e0];simp
def kCmp (P:Program) (f:Nat):Prop:=∃ fn,P.funcs[f]? = some fn∧(fn.name == "runtime.NumGoroutine")=false∧fn.body.isNone=true∧(Extern.findNext fn).isNone=true∧Extern.find fn=some Extern.BytealgCompare.compare
theorem u3 {P:Program} {d:Option Tmp} {ty:TypeId} {p:String} {af:Array Edge} {g:Option (Nat × Bool)} {e:Nat→Value} {w:World} {x0 x1:Operand} {v0 v1:Value} {fn:Nat} {ts:Array TypeId} {F G:Nat→Prop} {x y:List UInt8}
    (hk:kCmp P fn) (h0:ev e x0=v0) (h1:ev e x1=v1) (hx:Bv w F v0 x) (hy:Bv w G v1 y) :
    aG P ⟨d,.call { callee:=.value (.func fn),args:=#[x0,x1],argTypes:=ts },ty,p,af,g⟩ e w (.int .i64 (fm x y)):=by
  obtain ⟨f,hf,hn,hb,h3,h4⟩:=hk
  have h3':Extern.findNext f=none:=by simpa using h3
  have h5:(Extern.BytealgCompare.compare #[v0,v1]).run P w=.ok (.int .i64 (fm x y)) w:=by
    show Sem.run P (do pure (goInt (Extern.BytealgCompare.cmp (← Extern.Bytes.bytesOf v0) (← Extern.Bytes.bytesOf v1)))) w=_
    simp [kX hx,kX hy,tm,goInt]
  have hn':¬ f.name = "runtime.NumGoroutine":=by simpa using hn
  have hb':f.body=none:=by simpa using hb
  have hf0:ev e (.func fn)=.func (.func fn) #[] #[]:=rfl
  unfold aG
  simp [execOp,resolve,hf0,h0,h1,Deferred.ofValue,invoke,callFunc,hf,hn',hb',h3',h4,h5]
section
variable {P:Program} {d:Option Tmp} {ty:TypeId} {p:String} {af:Array Edge} {g:Option (Nat × Bool)} {e:Nat→Value} {w:World} {x y c:Operand} {a b:List UInt8} {xt yt:TypeId}
end
theorem bg {w:World} {b i:Nat} {cs:List Value} (off:Nat) (h:Pv w ⟨b,i,none⟩ cs):Pv w ((⟨b,i,none⟩:Addr).add off) (cs.drop off):=fun j u hu=>by
  rw [gT];exact h _ _ (by simpa using hu)
end Go.Vc
namespace Go.Vc
def fY (B:Nat) (W W':World):Prop:=∃ K:Nat→Prop,ao K W W'∧∀ b,b < W.heap.size→K b→B≤b∧∃ o:Obj,W.heap[b]? = some o∧o.isCells=false
theorem ao.of_grownBy {W W':World} {row:Option Nat} (hg:W.grownBy W' row):ao (fun b=>row=some b) W W':=⟨hg.os,hg.tape,hg.output,hg.size,fun k hk hK=>hg.block k hk (fun e=>hK e.symm)⟩
theorem aX.grown {W W':World} (h:aX W W'):W.grownBy W' none:=⟨h.os,h.tape,h.output,h.size,fun k hk _=>h.blk hk⟩
theorem fY.of_grownBy {B:Nat} {W W':World} {row:Option Nat} (hg:W.grownBy W' row) (hr:∀ r,row=some r→B≤r∧∃ o:Obj,W.heap[r]? = some o∧o.isCells=false):fY B W W':=
  ⟨_,ao.of_grownBy hg,fun b _ h=>hr b h⟩
theorem dh.turn {B:Nat} {w w':World} {b:Nat} {cs:List Value} {T:TypeId} (h:dh w b cs T) (t:fY B w w'):dh w' b cs T:=by
  obtain ⟨K,k,hK⟩:=t
  refine h.keep k (fun hb=>?_)
  obtain ⟨_,o,ho,hc⟩:=hK b h.lt hb
  rw [dh] at h
  rw [h] at ho;cases ho;cases hc
theorem bs.turn {α:Type} {t:Ty α} {B:Nat} {w w':World} {F:Nat→Prop} {v:Value} {xs:List α} (h:bs t w F v xs) (tn:fY B w w') (hF:∀ b,b < w.heap.size→F b→b < B):bs t w' F v xs:=by
  obtain ⟨K,k,hK⟩:=tn
  exact h.keep k fun b hb hf hk=>by have:=hF b hb hf;have:=(hK b hb hk).1;omega
theorem Pv.turn {B:Nat} {w w':World} {q:Addr} {cs:List Value} (h:Pv w q cs) (tn:fY B w w') (hF:q.block < B):Pv w' q cs:=by
  obtain ⟨K,k,hK⟩:=tn
  by_cases hlt:q.block < w.heap.size
  · exact h.keep k fun hk=>by have:=(hK _ hlt hk).1;omega
  · intro j u hu
    have:=World.block_lt_of_cell? w _ (h j u hu)
    rw [au] at this;exact absurd this hlt
theorem ao.turn {K:Nat→Prop} {B:Nat} {w0 w w':World} (h:ao K w0 w) (tn:fY B w w') (hB:w0.heap.size≤B):ao K w0 w':=by
  obtain ⟨K',k,hK⟩:=tn
  refine ⟨k.os.trans h.os,k.tape.trans h.tape,k.output.trans h.output,Nat.le_trans h.size k.size,fun i hi hn=>(k.block i (Nat.lt_of_lt_of_le hi h.size) (fun hk=>?_)).trans (h.block i hi hn)⟩
  have:=(hK i (Nat.lt_of_lt_of_le hi h.size) hk).1
  omega
theorem ck.turn {α:Type} {t:Ty α} {e:TypeId} {B B':Nat} {w w':World} {F:Nat→Prop} {v:Value} {xs:List α} (h:ck t e w B' F v xs) (tn:fY B w w') (hF:∀ b,b < w.heap.size→F b→b < B):ck t e w' B' F v xs:=by
  obtain ⟨K,k,hK⟩:=tn
  refine h.keep k (fun b hb hk=>?_) (fun b hb hf _ hk=>by have:=hF b hb hf;have:=(hK b hb hk).1;omega)
  obtain ⟨_,hlt⟩:=h.own_lt hb
  obtain ⟨_,o,ho,hc⟩:=hK b hlt hk
  obtain ⟨cells,h1,_⟩:=h
  rcases h1.2 with ⟨rfl,_⟩ | ⟨g,cap,cur,rfl,_,hg,_⟩
  · simp [Value.ownBlock] at hb
  · simp [Value.ownBlock] at hb
    subst hb
    rw [hg] at ho;cases ho;cases hc
abbrev rR (w:World) (D:Nat):Prop:=w.heap[D]? = some (.deferred (some []))
abbrev vS (D:Nat):List Deferred:=[{ target:=.collected D,args:=#[] }]
def pm (e:Nat→Value):List Nat→List Value→Nat→Value
  | p :: ps,v :: vs=>pm (pd e p v) ps vs
  | _,_=>e
theorem nr {N:Nat}:∀ (ps:List Nat) (vs:List Value) (e:Nat→Value),ps.all (fun p=>Nat.blt p N)=true →
    (ps.zip vs).foldl (fun t (x:Nat × Value)=>t.setIfInBounds x.1 x.2) (Fr N e).tmps=(Fr N (pm e ps vs)).tmps
  | [],vs,e,_=>by simp [pm]
  | p :: ps,[],e,_=>by simp [pm]
  | p :: ps,v :: vs,e,h=>by
    simp only [List.all_cons,Bool.and_eq_true] at h
    have hp:p + 1≤N:=by simpa [Nat.blt] using h.1
    have h1:(Fr N e).tmps.setIfInBounds p v=(Fr N (pd e p v)).tmps:=congrArg Act.tmps (s5 hp v)
    rw [List.zip_cons_cons,List.foldl_cons,h1,nr ps vs _ h.2]
    rfl
theorem mX {B:Nat} {W W':World} (h:aX W W'):KeepsFrom B W W':=⟨h.size,fun k o _ hk _=>(h.blk (Array.getElem?_eq_some_iff.1 hk).1).trans hk⟩
theorem mj {B:Nat} {K:Nat→Prop} {W W':World} (h:ao K W W') (hK:∀ b,B≤b→K b→∃ o:Obj,W.heap[b]? = some o∧o.isCells=true):KeepsFrom B W W':=⟨h.size,fun k o hB hk ho=>by
  by_cases hk':K k
  · obtain ⟨o',h1,h2⟩:=hK k hB hk'
    rw [hk] at h1;cases h1;rw [ho] at h2;cases h2
  · exact (h.block k (Array.getElem?_eq_some_iff.1 hk).1 hk').trans hk⟩
theorem uq {N M:Nat} {P:Program} {g:Operand} {ps:List Tmp} {assign body:Code} {Q:Exit→Act→World→Prop} {e:Nat→Value} {w:World} {n gf:Nat} {lb:Array Value}
    (hl:Operand.lt N g=true) (hg:ev e g=.func (.func gf) #[] lb) (hb:dj P gf=true) (hps:ps.all (fun p=>Nat.blt p N)=true)
    (encs:Fin M→List Value) (hsz:∀ x,(encs x).length=ps.length) (Kp:Nat→Prop) (hKp:∀ i,w.heap.size≤i→Kp i)
    (hseq:SeqStopsK Fence.wide 1 P gf lb (fun x=>(encs x).toArray) (ao Kp) (fun ys=>ys=List.finRange M) (fun pre=>pre <+: List.finRange M) M w)
    (I:List (Fin M)→World→Prop) (Ix:Code→List (Fin M)→World→Prop) (hI:∀ s W W',fY w.heap.size W W'→I s W→I s W') (hIx:∀ c s W W',fY w.heap.size W W'→Ix c s W→Ix c s W') (h0:I [] w)
    (A:Fin M→(Nat→Value)→World→Prop) (hA:∀ x e' W W',fY w.heap.size W W'→A x e' W→A x e' W')
    (hassign:∀ l pre x W,I pre W→assign.wpIn (Fw (some l)) 0 P (Exit.then (fun a' W'=>∃ e',a'=dg N e' []∧aX W W'∧I pre W'∧A x e' W') (fun _ _ _=>False)) (dg N (pm e ps (encs x)) []) W)
    (hbody:∀ l pre x e' W,I pre W→A x e' W→pre.length < M→body.wpIn (Fw (some l)) 0 P (ownPostG w.heap.size (ao Kp) I Ix (pre ++ [x]) W) (dg N e' []) W)
    (hdone:∀ D W,w.heap.size≤D→I (List.finRange M) W→rR W D→Q .normal (dg N e (vS D)) W)
    (hstop:∀ D c pre W,w.heap.size≤D→pre <+: List.finRange M→Ix c pre W→rR W D→c.wpIn (Fw none) n P Q (dg N e (vS D)) W) :
    (Code.rangeFunc g ps.toArray assign body).wpIn (Fw none) n P Q (dg N e []) w:=by
  refine wpIn_wide.2 ((wpIn_wide (n:=2)).1 ?_)
  refine wpIn_rangeFunc_ownH (F:=Fence.wide) (n:=2) rfl zo (gf:=gf) (lb:=lb) (by rw [gG hl];exact hg) trivial (fun args w=>fq hb args w) hseq
    (fun h k=>h.trans k) (fun W l o o' hl ho _ _=>(ao.of_grownBy (grownBy_putObj' W l o')).mono (fun i _ h=>by cases h;exact hKp _ hl)) (RowKit.Below.refl _ _) (fun x=>by simpa using hsz x)
    I Ix (fun s W W' row hs hg hr=>hI s W W' (fY.of_grownBy hg hr) hs) (fun c s W W' row hs hg hr=>hIx c s W W' (fY.of_grownBy hg hr) hs) h0
    (fun x a' W=>∃ e',a'=dg N e' []∧A x e' W) (fun x a' _ W W' row hs hg hr=>by obtain ⟨e',h1,h2⟩:=hs;exact ⟨e',h1,hA x e' W W' (fY.of_grownBy hg hr) h2⟩) ?_ ?_ ?_ ?_
  · intro l pre x W K hi hK
    have hfr:({ tmps:=(ps.toArray.zip (encs x).toArray).foldl (fun t (x:Nat × Value)=>t.setIfInBounds x.1 x.2) (dg N e []).tmps,defers:=[] }:Act)=dg N (pm e ps (encs x)) []:=by
      have:=nr (N:=N) ps (encs x) e hps
      simp only [dg]
      congr 1
      rw [← this]
      simp
    have h:=hassign l pre x W hi
    rw [← hfr] at h
    refine wpIn_mono h ?_
    intro ex a' W' hq
    cases ex with
    | normal=>
      obtain ⟨e',rfl,hx,hI',hA'⟩:=hq
      exact hK _ _ (mX hx) hx.keep hI' ⟨e',rfl,hA'⟩
    | _=>exact hq.elim
  · rintro l pre x a' W _ _ hi ⟨e',rfl,hA'⟩ hlt
    exact hbody l pre x e' W hi hA' hlt
  · rintro D xs W hD rfl hi hd
    exact hdone D W hD hi hd
  · intro D c pre W hD hp hi hd
    exact wpIn_wide.2 ((wpIn_wide (n:=n)).1 (hstop D c pre W hD hp hi hd))
def wE {α:Type} (K:Nat→Prop) (I:List α→World→Prop) (Ix:Code→List α→World→Prop) (xs:List α) (W:World):Exit→Act→World→Prop
  | .normal,_,W'=>ao K W W'∧I xs W'
  | .ret,_,W'=>ao K W W'∧Ix .ret xs W'
  | .exit i,_,W'=>ao K W W'∧Ix (.exit i) xs W'
  | _,_,_=>False
theorem oY {N M:Nat} {P:Program} {g:Operand} {ps:List Tmp} {assign body:Code} {Q:Exit→Act→World→Prop} {e:Nat→Value} {w0 w:World} {n gf:Nat} {lb:Array Value}
    (hl:Operand.lt N g=true) (hg:ev e g=.func (.func gf) #[] lb) (hb:dj P gf=true) (hps:ps.all (fun p=>Nat.blt p N)=true) (E0:aX w0 w)
    (encs:Fin M→List Value) (hsz:∀ x,(encs x).length=ps.length) (K:Nat→Prop) (hK:∀ i,K i→w0.heap.size≤i∧i < w.heap.size)
    (hseq:SeqStopsK Fence.wide 1 P gf lb (fun x=>(encs x).toArray) (ao (fun i=>K i∨w.heap.size≤i)) (fun ys=>ys=List.finRange M) (fun pre=>pre <+: List.finRange M) M w)
    (I:List (Fin M)→World→Prop) (Ix:Code→List (Fin M)→World→Prop) (hI:∀ s W W',fY w.heap.size W W'→I s W→I s W') (hIx:∀ c s W W',fY w.heap.size W W'→Ix c s W→Ix c s W') (h0:I [] w)
    (A:Fin M→(Nat→Value)→World→Prop) (hA:∀ x e' W W',fY w.heap.size W W'→A x e' W→A x e' W')
    (hassign:∀ l pre x W,aX w0 W→ao K w W→I pre W→assign.wpIn (Fw (some l)) 0 P (Exit.then (fun a' W'=>∃ e',a'=dg N e' []∧aX W W'∧I pre W'∧A x e' W') (fun _ _ _=>False)) (dg N (pm e ps (encs x)) []) W)
    (hbody:∀ l pre x e' W,aX w0 W→ao K w W→I pre W→A x e' W→pre.length < M→body.wpIn (Fw (some l)) 0 P (wE K I Ix (pre ++ [x]) W) (dg N e' []) W)
    (hdone:∀ D W,w.heap.size≤D→aX w0 W→ao K w W→I (List.finRange M) W→rR W D→Q .normal (dg N e (vS D)) W)
    (hstop:∀ D c pre W,w.heap.size≤D→aX w0 W→ao K w W→pre <+: List.finRange M→Ix c pre W→rR W D→c.wpIn (Fw none) n P Q (dg N e (vS D)) W) :
    (Code.rangeFunc g ps.toArray assign body).wpIn (Fw none) n P Q (dg N e []) w:=by
  refine uq hl hg hb hps encs hsz (fun i=>K i∨w.heap.size≤i) (fun i h=>.inr h) hseq (fun s W=>aX w0 W∧ao K w W∧I s W) (fun c s W=>aX w0 W∧ao K w W∧Ix c s W)
    (fun s W W' t h=>⟨h.1.turn t E0.size,h.2.1.turn t (Nat.le_refl _),hI s W W' t h.2.2⟩) (fun c s W W' t h=>⟨h.1.turn t E0.size,h.2.1.turn t (Nat.le_refl _),hIx c s W W' t h.2.2⟩) ⟨E0,ao.refl _,h0⟩ A hA ?_ ?_ ?_ ?_
  · rintro l pre x W ⟨h1,h2,h3⟩
    refine wpIn_mono (hassign l pre x W h1 h2 h3) ?_
    intro ex a' W' hq
    cases ex with
    | normal=>
      obtain ⟨e',he,hx,hi,ha⟩:=hq
      exact ⟨e',he,hx,⟨h1.trans hx,h2.trans (aX.keep hx),hi⟩,ha⟩
    | _=>exact hq.elim
  · rintro l pre x e' W ⟨h1,h2,h3⟩ ha hlt
    refine wpIn_mono (hbody l pre x e' W h1 h2 h3 ha hlt) ?_
    have kf:∀ W',ao K W W'→KeepsFrom w.heap.size W W':=fun W' k=>mj k (fun b hB hk=>absurd (hK b hk).2 zo)
    have kx:∀ W',ao K W W'→aX w0 W':=fun W' k=>h1.step k (fun i hi hk=>absurd (hK i hk).1 zo)
    intro ex a' W' hq
    cases ex with
    | normal=>exact ⟨kf W' hq.1,hq.1.mono (fun i _ h=>.inl h),kx W' hq.1,h2.trans hq.1,hq.2⟩
    | ret=>exact ⟨kf W' hq.1,kx W' hq.1,h2.trans hq.1,hq.2⟩
    | exit i=>exact ⟨kf W' hq.1,kx W' hq.1,h2.trans hq.1,hq.2⟩
    | _=>exact hq.elim
  · rintro D W hD ⟨h1,h2,h3⟩ hd
    exact hdone D W hD h1 h2 h3 hd
  · rintro D c pre W hD hp ⟨h1,h2,h3⟩ hd
    exact hstop D c pre W hD h1 h2 hp h3 hd
theorem oB {P:Program} {d:Option Tmp} {ty:TypeId} {p:String} {af:Array Edge} {g:Option (Nat × Bool)} {e:Nat→Value} {w:World} {K:Value→World→Prop} {f:Operand} {args:Array Operand} {ts:Array TypeId} {l m:Nat} {vs:Array Value}
    (hf:ev e f=.func (.yield l) #[] #[]) (ha:args.map (ev e)=vs) (h:YieldAt Fence.wide m P l vs w (fun en w'=>∃ v,en=.returned v∧K v w')):bx P ⟨d,.call { callee:=.value f,args:=args,argTypes:=ts },ty,p,af,g⟩ e w K:=by
  obtain ⟨fn,tmps,assign,body,hy,hR⟩:=h
  subst ha
  have hr:(execOp (ev e) ⟨d,.call { callee:=.value f,args:=args,argTypes:=ts },ty,p,af,g⟩).run P w=.ok (.round l fn tmps assign body) w:=by
    simp only [execOp,resolve,hf,Deferred.ofValue]
    simp [invoke,hy]
  unfold bx
  rw [hr]
  exact ⟨hR.1,fun c cs _=>hR.2 c cs (room_wide _)⟩
theorem qT {P:Program} {d:Option Tmp} {ty:TypeId} {p:String} {af:Array Edge} {g:Option (Nat × Bool)} {e:Nat→Value} {w:World} {K:Value→World→Prop} {f x0:Operand} {ts:Array TypeId} {l m:Nat} {v0:Value}
    (hf:ev e f=.func (.yield l) #[] #[]) (h0:ev e x0=v0) (h:YieldAt Fence.wide m P l #[v0] w (fun en w'=>∃ v,en=.returned v∧K v w')):bx P ⟨d,.call { callee:=.value f,args:=#[x0],argTypes:=ts },ty,p,af,g⟩ e w K:=oB hf (by simp [h0]) h
theorem qS {P:Program} {d:Option Tmp} {ty:TypeId} {p:String} {af:Array Edge} {g:Option (Nat × Bool)} {e:Nat→Value} {w:World} {K:Value→World→Prop} {f x0 x1:Operand} {ts:Array TypeId} {l m:Nat} {v0 v1:Value}
    (hf:ev e f=.func (.yield l) #[] #[]) (h0:ev e x0=v0) (h1:ev e x1=v1) (h:YieldAt Fence.wide m P l #[v0,v1] w (fun en w'=>∃ v,en=.returned v∧K v w')):bx P ⟨d,.call { callee:=.value f,args:=#[x0,x1],argTypes:=ts },ty,p,af,g⟩ e w K:=oB hf (by simp [h0,h1]) h
theorem sn {M:Nat} {P:Program} {gf:Nat} {lb:Array Value} {encs:Fin M→List Value} {Kp:Nat→Prop} {w0:World}
    (h:∀ (l:Nat) (J Jx:List (Fin M)→World→Prop) (W:World),aX w0 W→(∀ s A B,aX A B→J s A→J s B)→(∀ s A B,aX A B→Jx s A→Jx s B) →
      (∀ pre x W1,J pre W1→pre.length < M→YieldAt Fence.wide 0 P l (encs x).toArray W1 (fun en W'=>∃ v,en=.returned v∧((v=.bool true∧J (pre ++ [x]) W'∧ao Kp W1 W')∨(v=.bool false∧Jx (pre ++ [x]) W')))) →
      J [] W→ae P gf (#[.func (.yield l) #[] #[]] ++ lb) W (fun _ W'=>J (List.finRange M) W'∨∃ pre,pre <+: List.finRange M∧Jx pre W')) :
    SeqStopsK Fence.wide 1 P gf lb (fun x=>(encs x).toArray) (ao Kp) (fun ys=>ys=List.finRange M) (fun pre=>pre <+: List.finRange M) M w0:=by
  intro l J Jx W hW hJ hJx hY h0
  have hx:aX w0 W:=⟨hW.os,hW.tape,hW.output,hW.size,fun k hk _=>hW.block k hk⟩
  have:=h l J Jx W hx (fun s A B e hs=>hJ s A B none hs e.grown (fun r hr=>by cases hr)) (fun s A B e hs=>hJx s A B none hs e.grown (fun r hr=>by cases hr)) (fun pre x W1 hj hl=>(hY pre x W1 hj hl).mono fun en W' hR=>by
    rcases hR with ⟨rfl,h1,h2⟩ | ⟨rfl,h1⟩
    · exact ⟨_,rfl,.inl ⟨rfl,h1,h2⟩⟩
    · exact ⟨_,rfl,.inr ⟨rfl,h1⟩⟩) h0
  refine callsIn_wide.2 (Calls.mono this ?_)
  rintro en W' ⟨v,rfl,hv⟩
  refine ⟨⟨v,rfl⟩,?_⟩
  rcases hv with h1 | h1
  · exact .inl ⟨_,rfl,h1⟩
  · exact .inr h1
theorem th {P:Program} {f:Nat} {fn:Func} {c:Code} {l:List Value} {w:World} {R:Value→World→Prop} (N:Nat) (hf:P.funcs[f]? = some fn) (hb:fn.body=some c) (hN:fn.ntmps=N) (hl:l.length≤N)
    (h:c.wpIn (Fw none) 0 P (bodyPostM (Fw none) 0 P fn (mI R)) (dg N (jf l) []) w):ae P f l.toArray w R:=by
  refine callsIn_wide.1 (callsIn_of_wp_marks (F:=Fence.wide) (n:=0) hf hb trivial ?_)
  rw [hN,jt l hl];exact h
section
variable {n:Nat} {P:Program} {fn:Func} {N:Nat} {e:Nat→Value} {w:World} {R:Value→World→Prop}
theorem wj {t:Tmp} (hr:fn.results=#[.tmp t]) (ht:t < N) (h:R (e t) w):bodyPostM (Fw none) n P fn (mI R) .ret (dg N e []) w:=
  ⟨e t,by rw [results_tmp hr];simp [dg,Fr,Array.getD,ht],e t,rfl,h⟩
theorem u7 {t:Tmp} {v:Value} (hr:fn.results=#[.tmp t]) (ht:t < N) (hv:e t=v) (h:R v w):bodyPostM (Fw none) n P fn (mI R) .ret (dg N e []) w:=by subst hv;exact wj hr ht h
theorem wi {t:Tmp} {D:Nat} (hK:rR w D) (hr:fn.results=#[.tmp t]) (ht:t < N) (h:R (e t) (w.putObj D (.deferred none))):bodyPostM (Fw none) n P fn (mI R) .ret (dg N e (vS D)) w:=by
  refine ⟨by simp,.inl ⟨_,_,rfl,run_takeDeferred hK,?_⟩⟩
  exact ⟨e t,by rw [results_tmp hr];simp [dg,Fr,Array.getD,ht],e t,rfl,h⟩
theorem px {t:Tmp} {D:Nat} {v:Value} (hK:rR w D) (hr:fn.results=#[.tmp t]) (ht:t < N) (hv:e t=v) (h:R v (w.putObj D (.deferred none))):bodyPostM (Fw none) n P fn (mI R) .ret (dg N e (vS D)) w:=by subst hv;exact wi hK hr ht h
end
theorem ml {K:Nat→Prop} {w0 w:World} {D:Nat} (h:ao K w0 w) (hD:w0.heap.size≤D) (o:Obj):ao K w0 (w.putObj D o):=
  h.step (ao.of_grownBy (grownBy_putObj' w D o)) (fun i hi he=>by cases he;omega)
def sv (s:Option Nat) (v:Value) (ab:Nat→Value):Value:=match s with
  | some k=>ab k
  | none=>v
def fF (cs:List Value) (ab:Nat→Value):List (Nat × Nat × Option Nat × Value)→List Value
  | []=>cs
  | a :: l=>fF (cs.set a.2.1 (sv a.2.2.1 a.2.2.2 ab)) ab l
theorem gS {ab vals':Nat→Value}:∀ (l:List (Nat × Nat × Option Nat × Value)) (cs:List Value),(∀ a ∈ l,∀ k,a.2.2.1=some k→ab k=vals' k)→fF cs ab l=fF cs vals' l
  | [],_,_=>rfl
  | a :: l,cs,h=>by
    have h0:sv a.2.2.1 a.2.2.2 ab=sv a.2.2.1 a.2.2.2 vals':=by
      cases hs:a.2.2.1 with
      | none=>rfl
      | some k=>exact h a List.mem_cons_self k hs
    simp only [fF,h0]
    exact gS l _ (fun b hb=>h b (List.mem_cons_of_mem _ hb))
theorem mA {ab:Nat→Value} (a:Nat × Nat × Option Nat × Value):∀ (l:List (Nat × Nat × Option Nat × Value)) (cs:List Value),fF cs ab (l ++ [a])=(fF cs ab l).set a.2.1 (sv a.2.2.1 a.2.2.2 ab)
  | [],_=>rfl
  | b :: l,cs=>mA a l _
theorem fi {ab:Nat→Value}:∀ (l:List (Nat × Nat × Option Nat × Value)) (cs:List Value),(fF cs ab l).length=cs.length
  | [],_=>rfl
  | a :: l,cs=>by simp only [fF];rw [fi l];simp
def ly (b:Nat) (T:TypeId) (cs:List Value) (as:List (Nat × Nat × Option Nat × Value)) (done:Nat→Bool) (ab:Nat→Value) (w:World):Prop:=
  ∃ c,c≤as.length∧(∀ i a,as[i]? = some a→(done a.1=true↔i < c))∧(∀ i a,as[i]? = some a→i < c→∀ k,a.2.2.1=some k→done k=true)∧dh w b (fF cs ab (as.take c)) T
def dSt (as:List (Nat × Nat × Option Nat × Value)) (i:Nat):Bool:=as.any fun a=>Nat.beq a.1 i || (match a.2.2.1 with | some k=>Nat.beq k i | none=>false)
section
variable {b:Nat} {T:TypeId} {cs:List Value} {as:List (Nat × Nat × Option Nat × Value)} {done:Nat→Bool} {ab:Nat→Value} {w w':World}
theorem vF {i:Nat} {a:Nat × Nat × Option Nat × Value} (h:as[i]? = some a):dSt as a.1=true:=List.any_eq_true.2 ⟨a,List.mem_of_getElem? h,by simp⟩
theorem qB {a:Nat × Nat × Option Nat × Value} {k:Nat} (h:a ∈ as) (hk:a.2.2.1=some k):dSt as k=true:=List.any_eq_true.2 ⟨a,h,by simp [hk]⟩
theorem ly.on:tI (dSt as) (ly b T cs as):=by
  rintro done ab done' vals' w h ⟨c,hc,h1,h2,h3⟩
  refine ⟨c,hc,fun i a ha=>?_,fun i a ha hi k hk=>?_,?_⟩
  · rw [← (h a.1 (vF ha)).1];exact h1 i a ha
  · rw [← (h k (qB (List.mem_of_getElem? ha) hk)).1];exact h2 i a ha hi k hk
  · rw [← gS (ab:=ab) _ _ (fun a ha k hk=>(h k (qB (List.mem_of_mem_take ha) hk)).2)];exact h3
theorem ly.start (h:dh w b cs T) (hd:∀ a ∈ as,done a.1=false):ly b T cs as done ab w:=
  ⟨0,Nat.zero_le _,fun i a ha=>by rw [hd a (List.mem_of_getElem? ha)];simp,fun i a _ hi=>by omega,by simpa [fF] using h⟩
theorem ly.src {k:Nat} {v:Value} (j:ly b T cs as done ab w) (e:aX w w') (hd:done k=false) (hk:(as.all fun a=>!(Nat.beq a.1 k))=true):ly b T cs as (eT done k) (cA ab k v) w':=by
  obtain ⟨c,hc,h1,h2,h3⟩:=j
  have hne:∀ (i:Nat) (a:Nat × Nat × Option Nat × Value),as[i]? = some a→a.1≠k:=fun i a ha he=>by
    have:=List.all_eq_true.1 hk a (List.mem_of_getElem? ha)
    rw [he] at this;simp at this
  refine ⟨c,hc,fun i a ha=>?_,fun i a ha hi s hs=>?_,?_⟩
  · have:=hne i a ha
    simp only [eT,if_neg this];exact h1 i a ha
  · have:=h2 i a ha hi s hs
    simp only [eT];split
    · rfl
    · exact this
  · rw [gS (ab:=cA ab k v) (vals':=ab) _ _ (fun a ha s hs=>?_)]
    · exact h3.ext e
    · obtain ⟨i,hi⟩:=List.mem_iff_getElem?.1 ha
      have hil:i < c:=by
        have:=(List.getElem?_eq_some_iff.1 hi).1
        simp at this;omega
      rw [List.getElem?_take_of_lt hil] at hi
      have:=h2 i a hi hil s hs
      have:s≠k:=fun he=>by subst he;rw [hd] at this;cases this
      simp [cA,this]
theorem ly.at {n k off:Nat} {s:Option Nat} {v:Value} (j:ly b T cs as done ab w) (hk:as[n]? = some (k,off,s,v)) (hd:done k=false) (hp:∀ m,n=m + 1→∃ a,as[m]? = some a∧done a.1=true):dh w b (fF cs ab (as.take n)) T:=by
  obtain ⟨c,hc,h1,h2,h3⟩:=j
  have a1:¬ n < c:=fun h=>by have:=(h1 n _ hk).2 h;rw [hd] at this;cases this
  have a2:n≤c:=by
    cases n with
    | zero=>exact Nat.zero_le _
    | succ m=>obtain ⟨a,ha,hda⟩:=hp m rfl;exact (h1 m a ha).1 hda
  have:c=n:=by omega
  subst this;exact h3
theorem ly.step {n k off:Nat} {s:Option Nat} {v u:Value} (j:ly b T cs as done ab w) (hk:as[n]? = some (k,off,s,v)) (hd:done k=false) (hp:∀ m,n=m + 1→∃ a,as[m]? = some a∧done a.1=true) (hs:∀ k',s=some k'→done k'=true)
    (hone:∀ i a,as[i]? = some a→a.1=k→i=n) (hns:(as.all fun a=>match a.2.2.1 with | some q=>!(Nat.beq q k) | none=>true)=true)
    (hB:dh w' b ((fF cs ab (as.take n)).set off (sv s v ab)) T):ly b T cs as (eT done k) (cA ab k u) w':=by
  obtain ⟨c,hc,h1,h2,h3⟩:=j
  have a1:¬ n < c:=fun h=>by have:=(h1 n _ hk).2 h;rw [hd] at this;cases this
  have a2:n≤c:=by
    cases n with
    | zero=>exact Nat.zero_le _
    | succ m=>obtain ⟨a,ha,hda⟩:=hp m rfl;exact (h1 m a ha).1 hda
  have:c=n:=by omega
  subst this
  have hlt:=(List.getElem?_eq_some_iff.1 hk).1
  have hq:∀ a ∈ as,∀ q,a.2.2.1=some q→q≠k:=fun a ha q hq he=>by
    have:=List.all_eq_true.1 hns a ha
    subst he;simp [hq] at this
  refine ⟨c + 1,by omega,fun i a ha=>?_,fun i a ha hi q hq'=>?_,?_⟩
  · by_cases hak:a.1=k
    · have:=hone i a ha hak;subst this;simp [eT,hak]
    · simp only [eT,if_neg hak]
      rw [h1 i a ha]
      constructor
      · intro h;omega
      · intro h
        rcases Nat.lt_or_ge i c with h' | h'
        · exact h'
        · have:i=c:=by omega
          subst this;rw [hk] at ha;cases ha;exact absurd rfl hak
  · have hne:=hq a (List.mem_of_getElem? ha) q hq'
    simp only [eT,if_neg hne]
    rcases Nat.lt_or_ge i c with h' | h'
    · exact h2 i a ha h' q hq'
    · have:i=c:=by omega
      subst this;rw [hk] at ha;cases ha;exact hs q hq'
  · have e1:as.take (c + 1)=as.take c ++ [(k,off,s,v)]:=by
      rw [List.take_add_one,hk];rfl
    rw [gS (ab:=cA ab k u) (vals':=ab) _ _ (fun a ha q hq'=>by simp [cA,hq a (List.mem_of_mem_take ha) q hq']),e1,mA]
    exact hB
theorem ly.fin (j:ly b T cs as (fun _=>true) ab w):dh w b (fF cs ab as) T:=by
  obtain ⟨c,hc,h1,h2,h3⟩:=j
  have:c=as.length:=by
    rcases Nat.lt_or_ge c as.length with h | h
    · have:=(h1 c as[c] (by simp [h])).1 rfl;omega
    · omega
  subst this;simpa using h3
theorem ly.at0 {ops:Array Oper} {k:Nat} (j:ly b T cs as done ab w) (hcl:gg ops done) (hdk:done k=false) (h:∃ a o,as[0]? = some a∧ops[a.1]? = some o∧bq o k=true):dh w b cs T:=by
  obtain ⟨c,hc,h1,h2,h3⟩:=j
  obtain ⟨a,o,ha,ho,he⟩:=h
  cases c with
  | zero=>simpa [fF] using h3
  | succ c=>
    have hd:=(h1 0 a ha).2 zo
    have:=hcl a.1 o hd ho k he
    rw [hdk] at this;cases this
end
theorem qb {as:List (Nat × Nat × Option Nat × Value)} {n:Nat} (h:(as.all fun a=>Nat.blt a.1 n)=true):∀ a ∈ as,a.1 < n:=fun a ha=>by
  have:=List.all_eq_true.1 h a ha
  have h2:a.1 + 1≤n:=by simpa [Nat.blt] using this
  exact h2
theorem bs.one {α:Type} {t:Ty α} {w:World} {F:Nat→Prop} {v:Value} {xs:List α} (h:bs t w F v xs):v.oneCell'=true:=by
  obtain ⟨a,c,rfl⟩:=h.shape;rfl
theorem iw {as:List (Nat × Nat × Option Nat × Value)} {k n:Nat} (h:(List.range as.length).all (fun i=>!(Nat.beq ((as.getD i (0,0,none,undef)).1) k) || Nat.beq i n)=true):∀ i a,as[i]? = some a→a.1=k→i=n:=by
  intro i a hi hk
  have hlt:=(List.getElem?_eq_some_iff.1 hi).1
  have h2:=List.all_eq_true.1 h i (List.mem_range.2 hlt)
  have h3:as.getD i (0,0,none,undef)=a:=by simp [List.getD,hi]
  rw [h3,hk] at h2
  simpa using h2
section
variable {P:Program} {N:Nat} {ops:Array Oper} {Q:Exit→Act→World→Prop} {K:Nat→Prop} {J:(Nat→Bool)→(Nat→Value)→World→Prop} {D:Nat→Bool} {e0:Nat→Value} {w0:World} {l:List Oper} {k:Nat} {S:Nat→Value→World→Prop}
theorem aI {d:Option Tmp} {op:Op} {ty:TypeId} {p:String} {af:Array Edge} {t:Value}
    (h:∀ done ab w,ao K w0 w→gg ops done→done k=false→J done ab w→(∀ j,bq ⟨d,op,ty,p,af,none⟩ j=true→done j=true)→(∀ j,bq ⟨d,op,ty,p,af,none⟩ j=true→S j (ab j) w)→aG P ⟨d,op,ty,p,af,none⟩ (dF ops ab e0 k) w t)
    (hj:∀ done ab w,done k=false→J done ab w→J (eT done k) (cA ab k t) w)
    (r:iB P N ops Q K J e0 w0 l (k + 1) (eS S k (fun v _=>v=t))):iB P N ops Q K J e0 w0 (⟨d,op,ty,p,af,none⟩ :: l) k S:=by
  refine ⟨_,fun _ _ _ h _=>h,fun done ab w hR hcl hdk hJ hdn hd=>?_,r⟩
  simp only [kG,cb,Region.wanted,if_true]
  exact bx.of_v (h done ab w hR hcl hdk hJ hdn hd) ⟨ao.refl _,rfl,hj done ab w hdk hJ⟩
theorem ka {d:Option Tmp} {op:Op} {ty:TypeId} {p:String} {af:Array Edge} (Sk:Value→World→Prop) (hs:∀ v w w',Sk v w→ao K w w'→Sk v w')
    (h:∀ done ab w,ao K w0 w→gg ops done→done k=false→J done ab w→(∀ j,bq ⟨d,op,ty,p,af,none⟩ j=true→done j=true)→(∀ j,bq ⟨d,op,ty,p,af,none⟩ j=true→S j (ab j) w)→bx P ⟨d,op,ty,p,af,none⟩ (dF ops ab e0 k) w (fun v w'=>ao K w w'∧Sk v w'∧J (eT done k) (cA ab k v) w'))
    (r:iB P N ops Q K J e0 w0 l (k + 1) (eS S k Sk)):iB P N ops Q K J e0 w0 (⟨d,op,ty,p,af,none⟩ :: l) k S:=by
  refine ⟨Sk,hs,fun done ab w hR hcl hdk hJ hdn hd=>?_,r⟩
  simp only [kG,cb,Region.wanted,if_true]
  exact h done ab w hR hcl hdk hJ hdn hd
end
theorem nL {fn:Func} {p:Tmp} {ty:TypeId} (h:fn.results=#[.cell p ty]) (tmps:Array Value) (P:Program) (w:World) :
    (results fn tmps).run P w=((asAddr (tmps.getD p undef)).run P w).andThen fun a w₁=>(loadVar ty a).run P w₁:=by
  simp only [results,h]
  simp [Sem.run_bind,Result.andThen]
section
variable {P:Program} {fn:Func} {N:Nat} {e:Nat→Value} {w:World} {R:Value→World→Prop}
theorem jD {t:Tmp} {ty:TypeId} {n:Nat} {a:Addr} {cs:List Value} (hr:fn.results=#[.cell t ty]) (ht:t < N) (hp:e t=.pointer (some a)) (hk:nT P ty n=true) (hc:Pv w a cs) (hn:cs.length=n)
    (h:R (.agg cs.toArray) w):bodyPost P fn (mI R) .ret (dg N e []) w:=by
  have h1:(dg N e []).tmps.getD t undef=.pointer (some a):=by simp [dg,Fr,Array.getD,ht,hp]
  refine ⟨rfl,.agg cs.toArray,?_,_,rfl,h⟩
  rw [nL hr,h1]
  have h3:(asAddr (.pointer (some a))).run P w=.ok a w:=rfl
  rw [h3]
  simp only [Result.andThen_ok]
  rw [iu hk hc hn]
end
section
variable {P:Program} {N:Nat} {ops:Array Oper} {Q:Exit→Act→World→Prop} {K:Nat→Prop} {e0:Nat→Value} {w0:World} {l:List Oper} {k:Nat} {S:Nat→Value→World→Prop}
theorem kY {d:Option Tmp} {op:Op} {ty:TypeId} {p:String} {af:Array Edge} {t:Value}
    (h:∀ ab w,ao K w0 w→(∀ j,bq ⟨d,op,ty,p,af,none⟩ j=true→S j (ab j) w)→bx P ⟨d,op,ty,p,af,none⟩ (dF ops ab e0 k) w (fun v w'=>v=t∧aX w w'))
    (r:fN P N ops Q K e0 w0 l (k + 1) (eS S k (fun v _=>v=t))):fN P N ops Q K e0 w0 (⟨d,op,ty,p,af,none⟩ :: l) k S:=by
  refine ⟨_,fun _ _ _ h _=>h,fun ab w hR hd=>?_,r⟩
  simp only [kG,cb,Region.wanted,if_true]
  exact (h ab w hR hd).mono fun v w' hv=>⟨aX.keep hv.2,hv.1⟩
theorem gx {d:Option Tmp} {op:Op} {ty:TypeId} {p:String} {af:Array Edge} {g:Nat} {b c:Bool} {tt:Tmp} {t:Value} (hg:(ops[g]?).bind (·.dst)=some tt)
    (hc:∀ ab w,(∀ j,bq ⟨d,op,ty,p,af,some (g,b)⟩ j=true→S j (ab j) w)→dF ops ab e0 k tt=.bool c)
    (h:∀ ab w,ao K w0 w→(∀ j,bq ⟨d,op,ty,p,af,some (g,b)⟩ j=true→S j (ab j) w)→(c == b)=true→bx P ⟨d,op,ty,p,af,some (g,b)⟩ (dF ops ab e0 k) w (fun v w'=>v=t∧aX w w'))
    (r:fN P N ops Q K e0 w0 l (k + 1) (eS S k (fun v _=>v=bif (c == b) then t else undef))):fN P N ops Q K e0 w0 (⟨d,op,ty,p,af,some (g,b)⟩ :: l) k S:=by
  refine ⟨_,fun _ _ _ h _=>h,fun ab w hR hd=>?_,r⟩
  unfold kG
  rw [jm hg (hc ab w hd)]
  cases hcb:(c == b) with
  | true=>exact (h ab w hR hd hcb).mono fun v w' hv=>⟨aX.keep hv.2,hv.1⟩
  | false=>exact ⟨ao.refl _,rfl⟩
theorem su {d:Option Tmp} {op:Op} {ty:TypeId} {p:String} {af:Array Edge} {g:Nat} {b c G:Bool} {tt:Tmp} {t:Value} (hg:(ops[g]?).bind (·.dst)=some tt)
    (hc:∀ ab w,(∀ j,bq ⟨d,op,ty,p,af,some (g,b)⟩ j=true→S j (ab j) w)→dF ops ab e0 k tt=bif G then .bool c else undef)
    (h:∀ ab w,ao K w0 w→(∀ j,bq ⟨d,op,ty,p,af,some (g,b)⟩ j=true→S j (ab j) w)→(G && (c == b))=true→bx P ⟨d,op,ty,p,af,some (g,b)⟩ (dF ops ab e0 k) w (fun v w'=>v=t∧aX w w'))
    (r:fN P N ops Q K e0 w0 l (k + 1) (eS S k (fun v _=>v=bif (G && (c == b)) then t else undef))):fN P N ops Q K e0 w0 (⟨d,op,ty,p,af,some (g,b)⟩ :: l) k S:=by
  refine ⟨_,fun _ _ _ h _=>h,fun ab w hR hd=>?_,r⟩
  unfold kG
  rw [nB hg (hc ab w hd)]
  cases hcb:(G && (c == b)) with
  | true=>exact (h ab w hR hd hcb).mono fun v w' hv=>⟨aX.keep hv.2,hv.1⟩
  | false=>exact ⟨ao.refl _,rfl⟩
theorem so {d:Option Tmp} {op:Op} {ty:TypeId} {p:String} {af:Array Edge} {g:Nat} {b:Bool} {tt:Tmp} {t:Value} (hg:(ops[g]?).bind (·.dst)=some tt)
    (hc:∀ ab w,(∀ j,bq ⟨d,op,ty,p,af,some (g,b)⟩ j=true→S j (ab j) w)→dF ops ab e0 k tt=.bool b)
    (h:∀ ab w,ao K w0 w→(∀ j,bq ⟨d,op,ty,p,af,some (g,b)⟩ j=true→S j (ab j) w)→bx P ⟨d,op,ty,p,af,some (g,b)⟩ (dF ops ab e0 k) w (fun v w'=>v=t∧aX w w'))
    (r:fN P N ops Q K e0 w0 l (k + 1) (eS S k (fun v _=>v=t))):fN P N ops Q K e0 w0 (⟨d,op,ty,p,af,some (g,b)⟩ :: l) k S:=
  sr (fun v _=>v=t) (fun _ _ _ h _=>h) hg hc (fun ab w hR hd=>(h ab w hR hd).mono fun v w' hv=>⟨aX.keep hv.2,hv.1⟩) r
end
section
variable {P:Program} {fn:Func} {N:Nat} {e:Nat→Value} {w:World} {R:Value→World→Prop} {v1 v2 v3:Value}
theorem aU {t:Tmp} (hr:fn.results=#[.tmp t]) (ht:t < N) (h1:e t=v1) (h:R v1 w):bodyPost P fn (mI R) .ret (dg N e []) w:=by subst h1;exact ke hr ht h
theorem fu {t u:Tmp} (hr:fn.results=#[.tmp t,.tmp u]) (ht:t < N) (hu:u < N) (h1:e t=v1) (h2:e u=v2) (h:R (.tuple #[v1,v2]) w):bodyPost P fn (mI R) .ret (dg N e []) w:=by subst h1 h2;exact ee hr ht hu h
theorem bL {t u:Tmp} {ty:TypeId} {n:Nat} {a:Addr} {cs:List Value} (hr:fn.results=#[.cell t ty,.tmp u]) (ht:t < N) (hu:u < N) (hp:e t=.pointer (some a)) (hk:nT P ty n=true) (hc:Pv w a cs) (hn:cs.length=n) (h2:e u=v2)
    (h:R (.tuple #[.agg cs.toArray,v2]) w):bodyPost P fn (mI R) .ret (dg N e []) w:=by subst h2;exact wk hr ht hu hp hk hc hn h
end
section
variable {P:Program} {d:Option Tmp} {ty:TypeId} {p:String} {af:Array Edge} {g:Option (Nat × Bool)} {e:Nat→Value} {w:World} {x y:Operand}
theorem eZ {T et sz:Nat} {a:Option Addr} {n c h:Nat} {kk:IntKind} {i:Int} (hk:gD P T et=true) (hs:gQ P et sz=true) (hx:ev e x=.slice a n c) (hy:ev e y=.int kk i) (hi:i=(h:Nat)) (hc:h≤c) :
    aG P ⟨d,.slice T x none (some y) none,ty,p,af,g⟩ e w (.slice a h c):=by
  subst hi
  have h1:(Instr.sliceBound (.int kk (h:Int)) c .sliceAcap).run P w=.ok h w:=by
    simp [Instr.sliceBound,asIntOf];omega
  have hb:(Instr.sliceBounds true n c none (some (.int kk (h:Int))) none).run P w=.ok (0,h,c) w:=by
    unfold Instr.sliceBounds
    simp [h1]
  have hv:(if c=0 then a else a.map (·.add (0 * sz)))=a:=by
    split
    · rfl
    · cases a with
      | none=>rfl
      | some q=>simp [Addr.add]
  simp [aG,execOp,hx,hy,Instr.sliceAt,Instr.slice,run_underlying (eO hk),hb,em hs]
  intro _
  cases a <;> simp [kB]
end
theorem ck.pre {α:Type} {t:Ty α} {e:TypeId} {w:World} {B b n c m:Nat} {F:Nat→Prop} {xs:List α} (h:ck t e w B F (.slice (some ⟨b,0,none⟩) n c) xs) (hm:m≤xs.length):ck t e w B F (.slice (some ⟨b,0,none⟩) m c) (xs.take m):=by
  obtain ⟨cells,h1,h2⟩:=h
  obtain ⟨hl,h1'⟩:=h1
  rcases h1' with ⟨h0,_⟩ | ⟨g,cap,cur,hv,hB,hg,h3,h4,h5,h6⟩
  · cases h0
  · cases hv
    refine ⟨cells.take (m * t.sz),⟨?_,.inr ⟨b,c,cur,?_,hB,hg,?_,h4,h5,?_⟩⟩,fun i x hx=>?_⟩
    · rw [List.length_take,hl,List.length_take,Nat.min_eq_left hm,Nat.min_eq_left (Nat.mul_le_mul_right _ hm)]
    · rw [List.length_take,Nat.min_eq_left hm]
    · rw [List.length_take,Nat.min_eq_left hm];omega
    · rw [List.length_take,Nat.min_eq_left hm,← h6,List.take_take,Nat.min_eq_left (Nat.mul_le_mul_right _ hm)]
    · have hi:i < m:=by have:=(List.getElem?_eq_some_iff.1 hx).1;rw [List.length_take] at this;omega
      rw [List.getElem?_take_of_lt hi] at hx
      have h7:=h2 i x hx
      have he:((cells.take (m * t.sz)).drop (i * t.sz)).take t.sz=(cells.drop (i * t.sz)).take t.sz:=by
        rw [List.drop_take,List.take_take]
        have:(i + 1) * t.sz≤m * t.sz:=Nat.mul_le_mul_right _ hi
        rw [Nat.succ_mul] at this
        rw [Nat.min_eq_left zo]
      rw [he];exact h7
theorem ck.fresh {α:Type} {t:Ty α} {e:TypeId} {w:World} {B B':Nat} {v:Value} {xs:List α} (h:ck t e w B aP v xs) (hB:B'≤B):bs t w (fun b=>B'≤b) v xs:=h.view.mono fun b _ h=>by rcases h with h | h;omega;exact h.elim
theorem ck.one {α:Type} {t:Ty α} {e:TypeId} {w:World} {B:Nat} {F:Nat→Prop} {v:Value} {xs:List α} (h:ck t e w B F v xs):v.oneCell'=true:=by
  obtain ⟨a,c,rfl⟩:=h.shape;rfl
theorem ck.len_max {α:Type} {t:Ty α} {e:TypeId} {w:World} {B:Nat} {F:Nat→Prop} {v:Value} {xs:List α} (h:ck t e w B F v xs):xs.length≤9223372036854775807:=by have:=h.max;simpa [maxLen] using this
theorem ck.cap {α:Type} {t:Ty α} {e:TypeId} {w:World} {B n c:Nat} {F:Nat→Prop} {a:Option Addr} {xs:List α} (h:ck t e w B F (.slice a n c) xs):xs.length≤c:=by
  obtain ⟨cells,⟨_,h1⟩,_⟩:=h
  rcases h1 with ⟨h0,h2⟩ | ⟨g,cap,cur,hv,hB,hg,h3,_⟩
  · omega
  · cases hv;exact h3
theorem ck.addr {α:Type} {t:Ty α} {e:TypeId} {w:World} {B n c:Nat} {F:Nat→Prop} {a:Option Addr} {xs:List α} (h:ck t e w B F (.slice a n c) xs) (hne:xs≠[]):∃ b,a=some ⟨b,0,none⟩∧B≤b∧b < w.heap.size:=by
  have h':=h
  obtain ⟨cells,⟨_,h1⟩,_⟩:=h
  rcases h1 with ⟨h0,h2⟩ | ⟨g,cap,cur,hv,hB,hg,h3,_⟩
  · exact absurd (List.eq_nil_of_length_eq_zero h2) hne
  · cases hv;exact ⟨g,rfl,h'.own_lt rfl⟩
theorem bs.pick {α:Type} {t:Ty α} {w:World} {F:Nat→Prop} {a:Option Addr} {n c:Nat} {xs:List α} (h:bs t w F (.slice a n c) xs):∃ css:Nat→List Value,∀ i x,xs[i]? = some x→∃ q,a=some q∧F q.block∧q.block < w.heap.size∧Pv w (q.add (i * t.sz)) (css i)∧t.rep w F (css i) x:=by
  have h1:∀ i,∃ cs:List Value,∀ x,xs[i]? = some x→∃ q,a=some q∧F q.block∧q.block < w.heap.size∧Pv w (q.add (i * t.sz)) cs∧t.rep w F cs x:=by
    intro i
    cases hx:xs[i]? with
    | none=>exact ⟨[],fun x h=>by cases h⟩
    | some y=>
      obtain ⟨a',c',hv,h1,h2,h3,h4⟩:=h
      cases hv
      obtain ⟨q,cs,h5,h6,h7,h8⟩:=h4 i y hx
      have hl:=lS h7 h8
      rw [au] at hl
      exact ⟨cs,fun x hh=>by cases hh;exact ⟨q,h5,h6,hl,h7,h8⟩⟩
  exact ⟨fun i=>Classical.choose (h1 i),fun i=>Classical.choose_spec (h1 i)⟩
theorem fS {n i:Nat} (h:i < n):(List.finRange n).take (i + 1)=(List.finRange n).take i ++ [⟨i,h⟩]:=by
  rw [List.take_add_one]
  have:(List.finRange n)[i]? = some ⟨i,h⟩:=by simp [List.getElem?_eq_some_iff,h]
  rw [this];rfl
theorem iA {n i:Nat} (h:n≤i):(List.finRange n).take i=List.finRange n:=List.take_of_length_le (by simpa using h)
theorem yb {A B:Prop} {v:Value} (h:(v=.bool true∧A)∨(v=.bool false∧B)):∃ b,v=.bool b∧(b=true→A)∧(b=false→B):=by
  rcases h with ⟨h,a⟩ | ⟨h,a⟩
  · exact ⟨true,h,(fun _=>a),(fun h=>by cases h)⟩
  · exact ⟨false,h,(fun h=>by cases h),(fun _=>a)⟩
theorem jr {cs0 cs:List Value} (h:cs0.length=cs.length):fU cs0 0 cs=cs:=by
  simp [fU,← h]
theorem t4 {n:Nat} {q:List (Fin n)} {x:Fin n} (h:q ++ [x] <+: List.finRange n):x.val=q.length∧∀ j (hn:j < n),j < q.length→(⟨j,hn⟩:Fin n) ∈ q:=by
  obtain ⟨r,hr⟩:=h
  have hl:=congrArg List.length hr
  simp at hl
  have at_:∀ j (hj:j < n),(q ++ [x] ++ r)[j]? = some ⟨j,hj⟩:=fun j hj=>by rw [hr];simp [List.getElem?_eq_some_iff,hj]
  constructor
  · have h1:=at_ q.length zo
    simp at h1
    rw [h1]
  · intro j hn hj
    have h1:=at_ j hn
    rw [List.append_assoc,List.getElem?_append_left hj] at h1
    exact List.mem_of_getElem? h1
theorem rD {α:Type} {xs:List α} {p:α→Bool} (h:∀ x ∈ List.finRange xs.length,p (xs.get x)=false):xs.findIdx? p=none:=by
  rw [List.findIdx?_eq_none_iff]
  intro x hx
  obtain ⟨i,hi⟩:=List.mem_iff_getElem?.1 hx
  have hlt:=(List.getElem?_eq_some_iff.1 hi).1
  have:=h ⟨i,hlt⟩ (List.mem_finRange _)
  simp at this
  have h2:=(List.getElem?_eq_some_iff.1 hi).2
  rw [← h2];exact this
theorem rC {α:Type} {xs:List α} {p:α→Bool} {q:List (Fin xs.length)} {x:Fin xs.length} (h:q ++ [x] <+: List.finRange xs.length) (hq:∀ y ∈ q,p (xs.get y)=false) (hx:p (xs.get x)=true):xs.findIdx? p=some x.val:=by
  obtain ⟨h1,h2⟩:=t4 h
  rw [List.findIdx?_eq_some_iff_getElem]
  refine ⟨x.isLt,by simpa using hx,fun j hj=>?_⟩
  have:=hq ⟨j,by have:=x.isLt;omega⟩ (h2 j _ zo)
  simp at this
  simp [this]
end Go.Vc
namespace Go.Vc
def pV (o:Oper):List Nat:=o.after.toList.filterMap fun e=>if Region.binds .any e then some e.on else none
theorem nZ (f:Nat→Bool):∀ n,mR f n≤n
  | 0=>Nat.le_refl _
  | n + 1=>by have:=nZ f n;simp only [mR];split <;> omega
theorem jv {o:Oper} {j:Nat}:j ∈ pV o↔∃ e,e ∈ o.after∧Region.binds .any e=true∧e.on=j:=by
  simp only [pV,List.mem_filterMap]
  constructor
  · rintro ⟨e,he,h⟩
    split at h
    · rename_i hb;cases h;exact ⟨e,by simpa using he,hb,rfl⟩
    · cases h
  · rintro ⟨e,he,hb,rfl⟩
    exact ⟨e,by simpa using he,by rw [hb];rfl⟩
def uO (rows:List Nat) (o:Oper):Nat:=(pV o).foldl (fun acc j=>Nat.lor acc (Nat.lor (rows.getD j 0) (2 ^ j))) 0
def tP (ops:Array Oper):Nat→List Nat
  | 0=>[]
  | n + 1=>
             let r:=tP ops n
             r ++ [match ops[n]? with | some o=>uO r o | none=>0]
theorem lu (ops:Array Oper):∀ n,(tP ops n).length=n
  | 0=>rfl
  | n + 1=>by simp [tP,lu ops n]
theorem oc {ops:Array Oper}:∀ n k,k < n→∀ o,ops[k]? = some o→(tP ops n).getD k 0=uO (tP ops k) o
  | 0,k,h,_,_=>by omega
  | n + 1,k,h,o,ho=>by
    by_cases hk:k=n
    · subst hk
      simp only [tP,List.getD_eq_getElem?_getD]
      rw [List.getElem?_append_right (by rw [lu];omega),lu]
      simp [ho]
    · have ih:=oc n k zo o ho
      rw [← ih]
      simp only [tP,List.getD_eq_getElem?_getD]
      rw [List.getElem?_append_left (by rw [lu];omega)]
theorem nq (rows:List Nat) (t:Nat):∀ (l:List Nat) (acc:Nat),(l.foldl (fun acc j=>Nat.lor acc (Nat.lor (rows.getD j 0) (2 ^ j))) acc).testBit t=true→acc.testBit t=true∨∃ j ∈ l,(rows.getD j 0).testBit t=true∨j=t
  | [],acc,h=>.inl h
  | j :: l,acc,h=>by
    rcases nq rows t l _ h with h1 | ⟨i,hi,h1⟩
    · have h2:(acc ||| ((rows.getD j 0) ||| (2 ^ j))).testBit t=true:=h1
      rw [Nat.testBit_or,Nat.testBit_or,Nat.testBit_two_pow] at h2
      simp only [Bool.or_eq_true,decide_eq_true_eq] at h2
      rcases h2 with h2 | h2 | h2
      · exact .inl h2
      · exact .inr ⟨j,List.mem_cons_self,.inl h2⟩
      · exact .inr ⟨j,List.mem_cons_self,.inr h2⟩
    · exact .inr ⟨i,List.mem_cons_of_mem _ hi,h1⟩
def tz (ops:Array Oper) (m:Nat):Bool:=
  let r:=tP ops ops.size
  (List.range ops.size).all fun k=>Nat.blt k m || Nat.beq (Nat.land (r.getD k 0) (2 ^ m - 1)) (2 ^ m - 1)
theorem rG {ops:Array Oper} (hok:ni ops=true) {L:Nat→Prop} (hL:∀ j oj,L j→ops[j]? = some oj→∀ i ∈ pV oj,L i):∀ k o,ops[k]? = some o→(∀ i ∈ pV o,L i)→∀ t,((tP ops ops.size).getD k 0).testBit t=true→L t:=by
  intro k
  induction k using Nat.strongRecOn with
  | ind k ih=>
    intro o ho hd t ht
    have hlt:k < ops.size:=(Array.getElem?_eq_some_iff.1 ho).1
    rw [oc ops.size k hlt o ho] at ht
    rcases nq _ t _ _ ht with h | ⟨j,hj,h⟩
    · simp at h
    · have hjk:j < k:=by
        obtain ⟨e,he,hb,rfl⟩:=jv.1 hj
        exact dD hok ho e he hb
      rcases h with h | rfl
      · obtain ⟨oj,hoj⟩:∃ oj,ops[j]? = some oj:=⟨ops[j],by simp [show j < ops.size by omega]⟩
        refine ih j hjk oj hoj (hL j oj (hd j hj) hoj) t ?_
        rw [oc ops.size j zo oj hoj]
        rwa [oc k j hjk oj hoj] at h
      · exact hd j hj
theorem mF {ops:Array Oper} {m:Nat} (hok:ni ops=true) (hb:tz ops m=true) {L:Nat→Prop} (hL:∀ j oj,L j→ops[j]? = some oj→∀ i ∈ pV oj,L i) {k:Nat} {o:Oper} (ho:ops[k]? = some o) (hkm:m≤k) (hd:∀ i ∈ pV o,L i):∀ t,t < m→L t:=by
  intro t ht
  have hlt:k < ops.size:=(Array.getElem?_eq_some_iff.1 ho).1
  have h1:=List.all_eq_true.1 hb k (List.mem_range.2 hlt)
  have h2:Nat.blt k m=false:=by
    cases h:Nat.blt k m with
    | false=>rfl
    | true=>
              have:k + 1≤m:=by simpa [Nat.blt] using h
              omega
  rw [h2,Bool.false_or] at h1
  have h3:((tP ops ops.size).getD k 0 &&& (2 ^ m - 1))=2 ^ m - 1:=Nat.eq_of_beq_eq_true h1
  have h4:=congrArg (fun x=>Nat.testBit x t) h3
  simp only [Nat.testBit_and,Nat.testBit_two_pow_sub_one,ht,decide_true,Bool.and_true] at h4
  exact rG hok hL k o ho hd t h4
theorem df {L:Array Bool} {i j:Nat} {d:Bool} (h:i < L.size):(L.setIfInBounds i true).getD j d=if j=i then true else L.getD j d:=by
  by_cases hji:j=i
  · subst hji;simp [Array.getD,h]
  · by_cases hlt:j < L.size
    · simp [Array.getD,hlt,hji,Ne.symm hji]
    · simp [Array.getD,hlt,hji]
def wg (m:Nat) (e:Edge):Option Edge:=if Nat.blt e.on m then none else some { e with on:=e.on - m }
def pu (m:Nat) (o:Oper):Oper:={ o with after:=(o.after.toList.filterMap (wg m)).toArray,guard:=o.guard.map fun g=>(g.1 - m,g.2) }
def gB (m:Nat) (l1 l2:List Oper):Bool:=(l1.all fun o=>match o.guard with | none=>true | some g=>Nat.blt g.1 m) && (l2.all fun o=>match o.guard with | none=>true | some g=>Nat.ble m g.1)
section
variable {ro:Option Nat} {n:Nat} {P:Program} {Q:Exit→Act→World→Prop}
theorem ek {F:Fence} {md:Region.Mode} {ops:Array Oper}:∀ (f f':Nat) (L:Array Bool) (a:Act) (w:World),f≤f'→wpAnyIn F n P md ops Q f L a w→wpAnyIn F n P md ops Q f' L a w
  | 0,0,_,_,_,_,h=>h
  | 0,f' + 1,L,a,w,_,h=>⟨fun _=>h.2,fun i hi=>by rw [h.1] at hi;cases hi⟩
  | f + 1,0,_,_,_,h0,_=>by omega
  | f + 1,f' + 1,L,a,w,h0,h=>⟨h.1,fun i hi=>by
      have h1:=h.2 i hi
      unfold wpOpIn at h1 ⊢
      split
      · rename_i ho;rw [ho] at h1;exact ek f f' _ _ _ zo h1
      · rename_i o ho
        rw [ho] at h1
        simp only [] at h1
        split
        · rename_i hw;rw [if_pos hw] at h1;exact Oper.wpIn_mono (fun a w h=>ek f f' _ a w zo h) h1
        · rename_i hw;rw [if_neg hw] at h1;exact ⟨h1.1,ek f f' _ _ _ zo h1.2⟩⟩
theorem lE {F:Fence} {o:Oper} {a:Act} {w:World} {K M:Act→World→Prop} (h:o.wpIn F n P a w K (Exit.then M Q)):o.wpIn F n P a w K Q:=by
  unfold Oper.wpIn at *
  refine ⟨h.1,?_⟩
  have h2:=h.2
  generalize (o.semAt F.round a.eval).run P w=r at *
  revert h2
  unfold Oper.uponIn
  split
  · exact id
  · exact id
  · exact id
  · rintro ⟨h3,h4⟩
    refine ⟨h3,h4.mono fun e w' he=>?_⟩
    cases e with
    | returned v=>exact he
    | panicked c=>exact he
    | outgrown=>obtain ⟨a',w'',h⟩:=he;exact ⟨a',w'',h⟩
  · exact id
  · rintro ⟨h3,h4⟩
    refine ⟨h3,h4.mono fun e w' he=>?_⟩
    cases e with
    | returned v=>exact he
    | panicked c=>exact he
    | outgrown=>obtain ⟨a',w'',h⟩:=he;exact ⟨a',w'',h⟩
  · exact id
  · exact id
theorem ph {m:Nat} {ops Bs:Array Oper} {o:Oper} {tmps:Array Value} (hB:∀ j,Bs[j]? = (ops[m + j]?).map (pu m)) (hg:match o.guard with | none=>True | some g=>m≤g.1):Region.wanted (pu m o) (yielded Bs tmps)=Region.wanted o (yielded ops tmps):=by
  cases hgd:o.guard with
  | none=>simp [Region.wanted,pu,hgd]
  | some g=>
    obtain ⟨i,b⟩:=g
    rw [hgd] at hg
    have hm:m + (i - m)=i:=by omega
    have hy:yielded Bs tmps (i - m)=yielded ops tmps i:=by
      unfold yielded
      have:((Bs[i - m]?).bind (·.dst))=((ops[i]?).bind (·.dst)):=by
        rw [hB,hm];cases ops[i]? <;> rfl
      rw [this]
    simp [Region.wanted,pu,hgd,hy]
theorem phB {m:Nat} {ops Bs:Array Oper} (hs:ops.size=m + Bs.size) (hB:∀ j,Bs[j]? = (ops[m + j]?).map (pu m)) (hg:∀ j o,ops[m + j]? = some o→match o.guard with | none=>True | some g=>m≤g.1) :
    ∀ (f:Nat) (L lB:Array Bool) (a:Act) (w:World),L.size=ops.size→lB.size=Bs.size→(∀ i,i < m→L.getD i true=true)→(∀ j d,j < Bs.size→L.getD (m + j) d=lB.getD j d) →
      wpAnyIn (Fw ro) n P .any Bs Q f lB a w→wpAnyIn (Fw ro) n P .any ops Q f L a w:=by
  have rdy:∀ (L lB:Array Bool),L.size=ops.size→lB.size=Bs.size→(∀ i,i < m→L.getD i true=true)→(∀ j d,j < Bs.size→L.getD (m + j) d=lB.getD j d)→∀ i,i ∈ Region.ready .any ops L→∃ j o,i=m + j∧j < Bs.size∧ops[m + j]? = some o∧j ∈ Region.ready .any Bs lB:=by
    intro L lB h1 h2 h3 h4 i hi
    obtain ⟨hu,o,ho,hd⟩:=mem_ready.1 hi
    have hlt:i < ops.size:=(Array.getElem?_eq_some_iff.1 ho).1
    have him:m≤i:=by
      rcases Nat.lt_or_ge i m with h | h
      · rw [h3 i h] at hu;cases hu
      · exact h
    obtain ⟨j,rfl⟩:∃ j,i=m + j:=⟨i - m,by omega⟩
    refine ⟨j,o,rfl,by omega,ho,mem_ready.2 ⟨by rw [← h4 j true zo];exact hu,pu m o,by rw [hB,ho];rfl,fun e he hb=>?_⟩⟩
    simp only [pu,List.mem_toArray,List.mem_filterMap] at he
    obtain ⟨e0,he0,hs0⟩:=he
    unfold wg at hs0
    split at hs0
    · cases hs0
    · rename_i hge
      have hge':m≤e0.on:=by
        rcases Nat.lt_or_ge e0.on m with h | h
        · exact absurd (by simpa [Nat.blt] using (show e0.on + 1≤m from h)) hge
        · exact h
      cases hs0
      have:=hd e0 (by simpa using he0) (by simpa [Region.binds] using hb)
      have hlt2:e0.on < ops.size:=by
        rcases Nat.lt_or_ge e0.on ops.size with h | h
        · exact h
        · have:L.getD e0.on false=false:=by simp [Array.getD,show ¬ e0.on < L.size by omega]
          simp_all
      have h5:=h4 (e0.on - m) false zo
      rw [show m + (e0.on - m)=e0.on by omega] at h5
      simp only []
      rw [← h5];exact this
  intro f
  induction f with
  | zero=>
    intro L lB a w h1 h2 h3 h4 h
    refine ⟨?_,h.2⟩
    cases hr:Region.ready .any ops L with
    | nil=>rfl
    | cons i l=>
      obtain ⟨j,o,_,_,_,hj⟩:=rdy L lB h1 h2 h3 h4 i (by rw [hr];exact List.mem_cons_self)
      rw [h.1] at hj;cases hj
  | succ f ih=>
    intro L lB a w h1 h2 h3 h4 h
    refine ⟨fun hn=>?_,fun i hi=>?_⟩
    · refine h.1 ?_
      cases hr:Region.ready .any Bs lB with
      | nil=>rfl
      | cons j l=>
        obtain ⟨hu,o',ho',hd⟩:=mem_ready.1 (show j ∈ Region.ready .any Bs lB by rw [hr];exact List.mem_cons_self)
        have hjB:j < Bs.size:=(Array.getElem?_eq_some_iff.1 ho').1
        rw [hB] at ho'
        cases ho:ops[m + j]? with
        | none=>rw [ho] at ho';cases ho'
        | some o=>
          rw [ho] at ho';cases ho'
          have:m + j ∈ Region.ready .any ops L:=mem_ready.2 ⟨by rw [h4 j true hjB];exact hu,o,ho,fun e he hb=>by
            rcases Nat.lt_or_ge e.on m with h5 | h5
            · have h6:=h3 e.on h5
              have h7:e.on < L.size:=by omega
              simp only [Array.getD,h7,dif_pos] at h6 ⊢;exact h6
            · have h6:=hd { e with on:=e.on - m } (by
                simp only [pu,List.mem_toArray,List.mem_filterMap]
                refine ⟨e,by simpa using he,?_⟩
                unfold wg
                have:Nat.blt e.on m=false:=by
                  cases hh:Nat.blt e.on m with
                  | false=>rfl
                  | true=>
                            have:e.on + 1≤m:=by simpa [Nat.blt] using hh
                            omega
                rw [this];rfl) (by simpa [Region.binds] using hb)
              simp only [] at h6
              have h7:e.on - m < Bs.size:=by
                rcases Nat.lt_or_ge (e.on - m) Bs.size with h | h
                · exact h
                · have:lB.getD (e.on - m) false=false:=by simp [Array.getD,show ¬ e.on - m < lB.size by omega]
                  simp_all
              have h8:=h4 (e.on - m) false h7
              rw [show m + (e.on - m)=e.on by omega] at h8
              rw [h8];exact h6⟩
          rw [hn] at this;cases this
    · obtain ⟨j,o,rfl,hjB,ho,hj⟩:=rdy L lB h1 h2 h3 h4 i hi
      have h5:=h.2 j hj
      unfold wpOpIn at h5 ⊢
      have hoB:Bs[j]? = some (pu m o):=by rw [hB,ho];rfl
      rw [hoB] at h5
      rw [ho]
      simp only [] at h5 ⊢
      rw [ph hB (hg j o ho)] at h5
      have nxt:∀ a w,wpAnyIn (Fw ro) n P .any Bs Q f (lB.setIfInBounds j true) a w→wpAnyIn (Fw ro) n P .any ops Q f (L.setIfInBounds (m + j) true) a w:=fun a w h6=>
        ih _ _ a w (by simpa using h1) (by simpa using h2) (fun i hi=>by
          rw [df zo,if_neg zo];exact h3 i hi) (fun i d hi=>by
          rw [df zo,df zo]
          by_cases hij:i=j
          · subst hij;simp
          · rw [if_neg zo,if_neg hij];exact h4 i d hi) h6
      split
      · rename_i hw;rw [if_pos hw] at h5;exact Oper.wpIn_mono nxt h5
      · rename_i hw;rw [if_neg hw] at h5;exact ⟨h5.1,nxt _ _ h5.2⟩
theorem phA {m:Nat} {ops As Bs:Array Oper} (hok:ni ops=true) (hbar:tz ops m=true) (hA:As.size=m) (hs:ops.size=m + Bs.size) (hAt:∀ j,j < m→As[j]? = ops[j]?) (hB:∀ j,Bs[j]? = (ops[m + j]?).map (pu m))
    (hg:∀ j o,ops[m + j]? = some o→match o.guard with | none=>True | some g=>m≤g.1) (hgA:∀ j o,j < m→ops[j]? = some o→match o.guard with | none=>True | some g=>g.1 < m) :
    ∀ (fA:Nat) (lA L:Array Bool) (a:Act) (w:World) (f:Nat),lA.size=m→L.size=ops.size→(∀ i d,i < m→L.getD i d=lA.getD i d)→(∀ i d,m≤i→i < ops.size→L.getD i d=false) →
      (∀ j oj,L.getD j false=true→ops[j]? = some oj→∀ i ∈ pV oj,L.getD i false=true)→mR (fun i=>!lA.getD i true) m≤fA→fA + Bs.size≤f →
      wpAnyIn (Fw ro) n P .any As (Exit.then (ot ro n P Bs Q) Q) fA lA a w→wpAnyIn (Fw ro) n P .any ops Q f L a w:=by
  have edge:∀ (j:Nat) (o:Oper),ops[j]? = some o→∀ i ∈ pV o,i < j:=fun j o ho i hi=>by
    obtain ⟨e,he,hb,rfl⟩:=jv.1 hi
    exact dD hok ho e he hb
  intro fA
  induction fA with
  | zero=>
    intro lA L a w f h1 h2 h3 h4 h5 hc hf h
    have hall:=jd m (Nat.le_zero.1 hc)
    exact phB hs hB hg f L (Array.replicate Bs.size false) a w h2 (by simp) (fun i hi=>by rw [h3 i true hi];have:=hall i hi;simpa using this) (fun j d hj=>by rw [h4 (m + j) d zo zo];simp [Array.getD,hj]) (ek _ f _ a w zo h.2)
  | succ fA ih=>
    intro lA L a w f h1 h2 h3 h4 h5 hc hf h
    by_cases hall:∀ i,i < m→lA.getD i true=true
    · have hn:Region.ready .any As lA=[]:=by
        cases hr:Region.ready .any As lA with
        | nil=>rfl
        | cons i l=>
          obtain ⟨hu,o,ho,_⟩:=mem_ready.1 (show i ∈ Region.ready .any As lA by rw [hr];exact List.mem_cons_self)
          have:i < m:=by rw [← hA];exact (Array.getElem?_eq_some_iff.1 ho).1
          rw [hall i this] at hu;cases hu
      exact phB hs hB hg f L (Array.replicate Bs.size false) a w h2 (by simp) (fun i hi=>by rw [h3 i true hi];exact hall i hi) (fun j d hj=>by rw [h4 (m + j) d zo zo];simp [Array.getD,hj]) (ek _ f _ a w zo (h.1 hn))
    · obtain ⟨f,rfl⟩:∃ f',f=f' + 1:=⟨f - 1,by omega⟩
      have hex:∃ i,i < m∧(fun i=>!lA.getD i true) i=true:=by
        apply Classical.byContradiction
        intro hne
        refine hall fun i hi=>?_
        cases hh:lA.getD i true with
        | true=>rfl
        | false=>exact absurd ⟨i,hi,by simp only [hh];rfl⟩ hne
      refine ⟨fun hn=>?_,fun i hi=>?_⟩
      · obtain ⟨k,hk,hfk,hmin⟩:=oR m hex
        obtain ⟨o,ho⟩:∃ o,ops[k]? = some o:=⟨ops[k],by simp [show k < ops.size by omega]⟩
        have:k ∈ Region.ready .any ops L:=mem_ready.2 ⟨by rw [h3 k true hk];simpa using hfk,o,ho,fun e he hb=>by
          have hlt:=dD hok ho e he hb
          have h6:=hmin e.on hlt
          have h7:lA.getD e.on true=true:=by simpa using h6
          rw [h3 e.on false zo]
          have h8:e.on < lA.size:=by omega
          simp only [Array.getD,h8,dif_pos] at h7 ⊢
          exact h7⟩
        rw [hn] at this;cases this
      · obtain ⟨hu,o,ho,hd⟩:=mem_ready.1 hi
        have hilt:i < ops.size:=(Array.getElem?_eq_some_iff.1 ho).1
        have hd':∀ j ∈ pV o,L.getD j false=true:=fun j hj=>by
          obtain ⟨e,he,hb,rfl⟩:=jv.1 hj
          exact hd e he hb
        have him:i < m:=by
          rcases Nat.lt_or_ge i m with h6 | h6
          · exact h6
          · exfalso
            refine hall fun t ht=>?_
            have:=mF hok hbar (L:=fun j=>L.getD j false=true) h5 ho h6 hd' t ht
            rw [h3 t false ht] at this
            have h8:t < lA.size:=by omega
            simp only [Array.getD,h8,dif_pos] at this ⊢
            exact this
        have hoA:As[i]? = some o:=by rw [hAt i him,ho]
        have hiA:i ∈ Region.ready .any As lA:=mem_ready.2 ⟨by rw [← h3 i true him];exact hu,o,hoA,fun e he hb=>by
          have hlt:=dD hok ho e he hb
          rw [← h3 e.on false zo];exact hd e he hb⟩
        have h6:=h.2 i hiA
        unfold wpOpIn at h6 ⊢
        rw [hoA] at h6
        rw [ho]
        simp only [] at h6 ⊢
        have hwt:Region.wanted o (yielded As a.tmps)=Region.wanted o (yielded ops a.tmps):=by
          have hgg:=hgA i o him ho
          unfold Region.wanted
          cases hgd:o.guard with
          | none=>rfl
          | some g=>
            rw [hgd] at hgg
            simp only []
            have:yielded As a.tmps g.1=yielded ops a.tmps g.1:=by unfold yielded;rw [hAt g.1 hgg]
            rw [this]
        rw [hwt] at h6
        have nxt:∀ a w,wpAnyIn (Fw ro) n P .any As (Exit.then (ot ro n P Bs Q) Q) fA (lA.setIfInBounds i true) a w→wpAnyIn (Fw ro) n P .any ops Q f (L.setIfInBounds i true) a w:=fun a w h7=>by
          refine ih _ _ a w f (by simpa using h1) (by simpa using h2) (fun j d hj=>?_) (fun j d hj hj2=>?_) (fun j oj hj hoj k hk=>?_) ?_ zo h7
          · rw [df zo,df zo,h3 j d hj]
          · rw [df zo,if_neg zo];exact h4 j d hj hj2
          · rw [df zo] at hj ⊢
            by_cases hji:j=i
            · subst hji
              rw [ho] at hoj;cases hoj
              split
              · rfl
              · exact hd' k hk
            · rw [if_neg hji] at hj
              split
              · rfl
              · exact h5 j oj hj hoj k hk
          · have h8:lA.getD i true=false:=by rw [← h3 i true him];exact hu
            have:=mB (f:=fun i=>!lA.getD i true) (g:=fun j=>!(lA.setIfInBounds i true).getD j true) (i:=i) (fun j hj=>by
              rw [df zo] at hj
              by_cases hji:j=i
              · simp [hji] at hj
              · simpa [hji] using hj) (by simp only [h8];rfl) (by rw [df zo];simp) m him
            omega
        split
        · rename_i hw;rw [if_pos hw] at h6;exact Oper.wpIn_mono nxt (lE h6)
        · rename_i hw;rw [if_neg hw] at h6;exact ⟨h6.1,nxt _ _ h6.2⟩
theorem bT {l:List Oper} {a:Act} {w:World} (m:Nat) (hm:Nat.ble m l.length=true) (hok:ni l.toArray=true) (hbar:tz l.toArray m=true) (hg:gB m (l.take m) (l.drop m)=true)
    (h:ot ro n P (l.take m).toArray (Exit.then (ot ro n P ((l.drop m).map (pu m)).toArray Q) Q) a w):ot ro n P l.toArray Q a w:=by
  have hm':m≤l.length:=Nat.le_of_ble_eq_true hm
  simp only [gB,Bool.and_eq_true] at hg
  have hsz:(l.take m).length=m:=by simp;omega
  refine phA (ops:=l.toArray) (As:=(l.take m).toArray) (Bs:=((l.drop m).map (pu m)).toArray) hok hbar (by simpa using hsz) (by simp;omega) (fun j hj=>by simp [List.getElem?_take_of_lt hj]) (fun j=>by simp) (fun j o ho=>?_) (fun j o hj ho=>?_)
    m (Array.replicate (l.take m).toArray.size false) (Array.replicate l.toArray.size false) a w l.toArray.size (by simp;omega) (by simp) (fun i d hi=>?_) (fun i d hi hi2=>?_) (fun j oj hj _=>?_) (nZ _ _) ?_ (by simpa [ot,hsz,Nat.min_eq_left hm'] using h)
  · have:=List.all_eq_true.1 hg.2 o (List.mem_of_getElem? (i:=j) (by simpa using ho))
    cases hgd:o.guard with
    | none=>trivial
    | some g=>rw [hgd] at this;exact Nat.le_of_ble_eq_true this
  · have:=List.all_eq_true.1 hg.1 o (List.mem_of_getElem? (i:=j) (by simpa [List.getElem?_take_of_lt hj] using ho))
    cases hgd:o.guard with
    | none=>trivial
    | some g=>
                rw [hgd] at this;have h2:g.1 + 1≤m:=by simpa [Nat.blt] using this
                exact h2
  · have h1:i < l.length:=by omega
    have h2:i < (l.take m).length:=by omega
    simp [Array.getD,h1,h2,hi]
    intro h3;omega
  · have h1:i < l.length:=by simpa using hi2
    simp [Array.getD,h1]
  · exfalso
    by_cases h1:j < l.length
    · simp [Array.getD,h1] at hj
    · simp [Array.getD,h1] at hj
  · simp;omega
theorem cN {id:Nat} {ops:Array Oper} {a:Act} {w:World} (hm:P.follows .mixedOrders=true) (h:ot ro n P ops Q a { w with drawn:=w.drawn + 1 }):(Code.region id ops true).wpIn (Fw ro) n P Q a w:=wpIn_region_any hm h
theorem bZ {N:Nat} {ds:List Deferred} {o:Oper} {e:Nat→Value} {w:World} (hl:fC N #[o]=true) (hb:pV o=[]) (h:jl P N #[o] (Qd ds Q) [o] e w):ot ro n P #[o] Q (dg N e ds) w:=by
  have h1:=kI (ro:=ro) (n:=n) hl [o] (by simpa [fC] using hl) e w h
  have hrd:∀ (L:Array Bool),L.size=1→∀ i,i ∈ Region.ready .any #[o] L→i=0∧L.getD 0 true=false:=fun L hL i hi=>by
    obtain ⟨hu,o',ho,_⟩:=mem_ready.1 hi
    have:=(Array.getElem?_eq_some_iff.1 ho).1
    have:i=0:=by simpa using this
    subst this;exact ⟨rfl,hu⟩
  have fin:∀ a w,Q .normal a w→wpAnyIn (Fw ro) n P .any #[o] Q 0 ((Array.replicate 1 false).setIfInBounds 0 true) a w:=fun a w hq=>by
    refine ⟨?_,hq⟩
    cases hr:Region.ready .any #[o] ((Array.replicate 1 false).setIfInBounds 0 true) with
    | nil=>rfl
    | cons i l=>
      obtain ⟨_,h2⟩:=hrd ((Array.replicate 1 false).setIfInBounds 0 true) (by simp) i (by rw [hr];exact List.mem_cons_self)
      simp [Array.getD] at h2
  refine ⟨fun hn=>?_,fun i hi=>?_⟩
  · exfalso
    have:0 ∈ Region.ready .any #[o] (Array.replicate 1 false):=mem_ready.2 ⟨by simp [Array.getD],o,rfl,fun e he hbb=>by
      have:e.on ∈ pV o:=jv.2 ⟨e,he,hbb,rfl⟩
      rw [hb] at this;cases this⟩
    have h2:Region.ready .any #[o] (Array.replicate 1 false)=[]:=hn
    rw [h2] at this;cases this
  · obtain ⟨rfl,_⟩:=hrd _ (by simp) i hi
    unfold wpOpIn
    rw [show (#[o]:Array Oper)[0]? = some o from rfl]
    dsimp only
    unfold wpListIn at h1
    split
    · rename_i hw
      rw [if_pos hw] at h1
      exact Oper.wpIn_mono (fun a w hq=>fin a w (by simpa [wpListIn] using hq)) h1
    · rename_i hw
      rw [if_neg hw] at h1
      exact ⟨h1.1,fin _ _ (by simpa [wpListIn] using h1.2)⟩
end
end Go.Vc
namespace Go.Vc
structure mT where
  al:Nat
  st:Option Nat
  T:TypeId
  z:List Value
  c:List Value
def oD (done:Nat→Bool) (a:mT):Bool:=match a.st with
  | some s=>done s
  | none=>false
def iP (n0:Nat) (as:List mT) (done:Nat→Bool) (ab:Nat→Value) (w:World):Prop:=
  (∀ a ∈ as,done a.al=true→∃ b,ab a.al=.pointer (some ⟨b,0,none⟩)∧n0≤b∧dh w b (bif oD done a then a.c else a.z) a.T) ∧
  (∀ a ∈ as,∀ a' ∈ as,a.al≠a'.al→done a.al=true→done a'.al=true→ab a.al≠ab a'.al)∧n0≤w.heap.size
def wO (as:List mT) (i:Nat):Bool:=as.any fun a=>Nat.beq a.al i || (match a.st with | some s=>Nat.beq s i | none=>false)
theorem pQ {as:List mT} {a:mT} (h:a ∈ as):wO as a.al=true:=List.any_eq_true.2 ⟨a,h,by simp⟩
theorem vG {as:List mT} {a:mT} {s:Nat} (h:a ∈ as) (hs:a.st=some s):wO as s=true:=List.any_eq_true.2 ⟨a,h,by simp [hs]⟩
section
variable {n0:Nat} {as:List mT} {done:Nat→Bool} {ab:Nat→Value} {w w':World}
theorem iP.on:tI (wO as) (iP n0 as):=by
  rintro done ab done' vals' w h ⟨h1,h2,h3⟩
  have hst:∀ a ∈ as,oD done a=oD done' a:=fun a ha=>by
    unfold oD
    cases hs:a.st with
    | none=>rfl
    | some s=>exact (h s (vG ha hs)).1
  refine ⟨fun a ha hd=>?_,fun a ha a' ha' hne hd hd'=>?_,h3⟩
  · have h4:=h a.al (pQ ha)
    rw [← h4.1] at hd
    rw [← h4.2,← hst a ha];exact h1 a ha hd
  · have h4:=h a.al (pQ ha)
    have h5:=h a'.al (pQ ha')
    rw [← h4.2,← h5.2]
    exact h2 a ha a' ha' hne (by rw [h4.1];exact hd) (by rw [h5.1];exact hd')
theorem iP.ext (j:iP n0 as done ab w) (e:aX w w'):iP n0 as done ab w':=by
  obtain ⟨h1,h2,h3⟩:=j
  exact ⟨fun a ha hd=>by obtain ⟨b,hb,hn,hB⟩:=h1 a ha hd;exact ⟨b,hb,hn,hB.ext e⟩,h2,Nat.le_trans h3 e.size⟩
theorem iP.start (h:n0≤w.heap.size) (hd:∀ a ∈ as,done a.al=false):iP n0 as done ab w:=by
  refine ⟨fun a ha h=>?_,fun a ha a' ha' _ h _=>?_,h⟩
  · rw [hd a ha] at h;cases h
  · rw [hd a ha] at h;cases h
theorem iP.src {k:Nat} {v:Value} (j:iP n0 as done ab w) (e:aX w w') (hk:wO as k=false):iP n0 as (eT done k) (cA ab k v) w':=iP.on.step hk (j.ext e)
theorem iP.al {ops:Array Oper} {i k b:Nat} {a:mT} (j:iP n0 as done ab w) (hi:as[i]? = some a) (hk:a.al=k) (hd:done k=false) (hcl:gg ops done)
    (hone:∀ m a',as[m]? = some a'→a'.al=k→m=i) (hst:∀ a' ∈ as,a'.st≠some k) (hs:∀ s,a.st=some s→∃ o,ops[s]? = some o∧bq o k=true)
    (hb:b=w.heap.size) (hB:dh w' b a.z a.T) (e:aX w w'):iP n0 as (eT done k) (cA ab k (.pointer (some ⟨b,0,none⟩))) w':=by
  obtain ⟨h1,h2,h3⟩:=j
  have hns:oD done a=false:=by
    unfold oD
    cases hh:a.st with
    | none=>rfl
    | some s=>
      obtain ⟨o,ho,he⟩:=hs s hh
      cases hds:done s with
      | false=>exact hds
      | true=>have:=hcl s o hds ho k he;rw [hd] at this;cases this
  have hstd:∀ a' ∈ as,oD (eT done k) a'=oD done a':=fun a' ha'=>by
    unfold oD
    cases hh:a'.st with
    | none=>rfl
    | some s=>
      have:s≠k:=fun he=>hst a' ha' (by rw [hh,he])
      simp [eT,this]
  have hoth:∀ a' ∈ as,a'.al≠k→eT done k a'.al=true→done a'.al=true:=fun a' _ hne h=>by simpa [eT,hne] using h
  have hlt:∀ a' ∈ as,a'.al≠k→done a'.al=true→ab a'.al≠.pointer (some ⟨b,0,none⟩):=fun a' ha' hne hda he=>by
    obtain ⟨b',hb',_,hB'⟩:=h1 a' ha' hda
    rw [he] at hb';cases hb'
    have:=hB'.lt;omega
  refine ⟨fun a' ha' hda=>?_,fun a1 ha1 a2 ha2 hne hd1 hd2=>?_,Nat.le_trans h3 e.size⟩
  · rw [hstd a' ha']
    by_cases hak:a'.al=k
    · obtain ⟨m,hm⟩:=List.mem_iff_getElem?.1 ha'
      have:=hone m a' hm hak
      subst this
      rw [hi] at hm;cases hm
      refine ⟨b,by simp [cA,hak],by omega,?_⟩
      rw [hns];exact hB
    · obtain ⟨b',hb',hn,hB'⟩:=h1 a' ha' (hoth a' ha' hak hda)
      exact ⟨b',by simp [cA,hak];exact hb',hn,hB'.ext e⟩
  · by_cases h1k:a1.al=k
    · have h2k:a2.al≠k:=fun h=>hne (by rw [h1k,h])
      simp only [cA,h1k,if_true,if_neg h2k]
      exact fun h=>hlt a2 ha2 h2k (hoth a2 ha2 h2k hd2) h.symm
    · by_cases h2k:a2.al=k
      · simp only [cA,h2k,if_true,if_neg h1k]
        exact hlt a1 ha1 h1k (hoth a1 ha1 h1k hd1)
      · simp only [cA,if_neg h1k,if_neg h2k]
        exact h2 a1 ha1 a2 ha2 hne (hoth a1 ha1 h1k hd1) (hoth a2 ha2 h2k hd2)
theorem iP.at {i k:Nat} {a:mT} (j:iP n0 as done ab w) (hi:as[i]? = some a) (hs:a.st=some k) (hd:done k=false) (hal:done a.al=true):∃ b,ab a.al=.pointer (some ⟨b,0,none⟩)∧n0≤b∧dh w b a.z a.T:=by
  obtain ⟨b,hb,hn,hB⟩:=j.1 a (List.mem_of_getElem? hi) hal
  have:oD done a=false:=by unfold oD;rw [hs];exact hd
  rw [this] at hB
  exact ⟨b,hb,hn,hB⟩
theorem iP.st {i k b:Nat} {a:mT} {u:Value} (j:iP n0 as done ab w) (hi:as[i]? = some a) (hs:a.st=some k) (hd:done k=false) (hal:done a.al=true)
    (hone:∀ m a',as[m]? = some a'→a'.st=some k→m=i) (hna:∀ a' ∈ as,a'.al≠k) (hu:(as.all fun x=>as.all fun y=>Nat.beq x.al y.al == false || true)=true) (hinj:∀ m a',as[m]? = some a'→a'.al=a.al→m=i)
    (hb:ab a.al=.pointer (some ⟨b,0,none⟩)) (hB:dh w' b a.c a.T) (kk:ao (fun x=>x=b) w w'):iP n0 as (eT done k) (cA ab k u) w':=by
  obtain ⟨h1,h2,h3⟩:=j
  have hv:∀ a' ∈ as,cA ab k u a'.al=ab a'.al∧eT done k a'.al=done a'.al:=fun a' ha'=>by
    have:=hna a' ha'
    simp [cA,eT,this]
  refine ⟨fun a' ha' hda=>?_,fun a1 ha1 a2 ha2 hne hd1 hd2=>?_,Nat.le_trans h3 kk.size⟩
  · rw [(hv a' ha').2] at hda
    rw [(hv a' ha').1]
    obtain ⟨m,hm⟩:=List.mem_iff_getElem?.1 ha'
    by_cases hmi:m=i
    · subst hmi
      rw [hi] at hm;cases hm
      obtain ⟨b',hb',hn,hB'⟩:=h1 a ha' hda
      rw [hb] at hb';cases hb'
      refine ⟨b,hb,hn,?_⟩
      have:oD (eT done k) a=true:=by unfold oD;rw [hs];simp [eT]
      rw [this];exact hB
    · have hne:a'.al≠a.al:=fun h=>hmi (hinj m a' hm h)
      obtain ⟨b',hb',hn,hB'⟩:=h1 a' ha' hda
      have hbb:b'≠b:=fun h=>h2 a' ha' a (List.mem_of_getElem? hi) hne hda hal (by rw [hb',hb,h])
      refine ⟨b',hb',hn,?_⟩
      have:oD (eT done k) a'=oD done a':=by
        unfold oD
        cases hh:a'.st with
        | none=>rfl
        | some s=>
          have:s≠k:=fun he=>hmi (hone m a' hm (by rw [hh,he]))
          simp [eT,this]
      rw [this];exact hB'.keep kk hbb
  · rw [(hv a1 ha1).1,(hv a2 ha2).1]
    rw [(hv a1 ha1).2] at hd1
    rw [(hv a2 ha2).2] at hd2
    exact h2 a1 ha1 a2 ha2 hne hd1 hd2
theorem iP.fin (j:iP n0 as (fun _=>true) ab w) {i:Nat} {a:mT} (hi:as[i]? = some a):∃ b,ab a.al=.pointer (some ⟨b,0,none⟩)∧n0≤b∧dh w b (match a.st with | some _=>a.c | none=>a.z) a.T:=by
  obtain ⟨b,hb,hn,hB⟩:=j.1 a (List.mem_of_getElem? hi) rfl
  refine ⟨b,hb,hn,?_⟩
  unfold oD at hB
  cases hs:a.st with
  | none=>rw [hs] at hB;exact hB
  | some s=>rw [hs] at hB;exact hB
theorem iP.ne (j:iP n0 as (fun _=>true) ab w) {i m:Nat} {a a':mT} (hi:as[i]? = some a) (hm:as[m]? = some a') (hne:a.al≠a'.al) {b b':Nat} (hb:ab a.al=.pointer (some ⟨b,0,none⟩)) (hb':ab a'.al=.pointer (some ⟨b',0,none⟩)):b≠b':=
  fun h=>j.2.1 a (List.mem_of_getElem? hi) a' (List.mem_of_getElem? hm) hne rfl rfl (by rw [hb,hb',h])
end
def uW (as:List mT):Bool:=(List.range as.length).all fun i=>(List.range as.length).all fun m=>Nat.beq i m || (match as[i]?,as[m]? with
  | some a,some a'=>!(Nat.beq a.al a'.al) && (match a.st,a'.st with | some s,some s'=>!(Nat.beq s s') | _,_=>true) && (match a.st with | some s=>!(Nat.beq s a'.al) && !(Nat.beq s a.al) | none=>true)
  | _,_=>true)
theorem ej {as:List mT} (h:uW as=true) {i m:Nat} {a a':mT} (hi:as[i]? = some a) (hm:as[m]? = some a') (he:a'.al=a.al):m=i:=by
  have h1:=List.all_eq_true.1 h m (List.mem_range.2 (List.getElem?_eq_some_iff.1 hm).1)
  have h2:=List.all_eq_true.1 h1 i (List.mem_range.2 (List.getElem?_eq_some_iff.1 hi).1)
  rw [hi,hm] at h2
  simp only [he,Nat.beq_refl,Bool.not_true,Bool.false_and,Bool.or_false] at h2
  exact Nat.eq_of_beq_eq_true h2
theorem kA {as:List mT} (h:uW as=true) {i m k:Nat} {a a':mT} (hi:as[i]? = some a) (hm:as[m]? = some a') (hs:a.st=some k) (he:a'.st=some k):m=i:=by
  have h1:=List.all_eq_true.1 h m (List.mem_range.2 (List.getElem?_eq_some_iff.1 hm).1)
  have h2:=List.all_eq_true.1 h1 i (List.mem_range.2 (List.getElem?_eq_some_iff.1 hi).1)
  rw [hi,hm] at h2
  simp only [hs,he,Nat.beq_refl,Bool.not_true,Bool.false_and,Bool.and_false,Bool.or_false] at h2
  exact Nat.eq_of_beq_eq_true h2
def alSt (as:List mT):Bool:=as.all fun a=>as.all fun a'=>match a.st with | some s=>!(Nat.beq s a'.al) | none=>true
theorem eP {as:List mT} (h:alSt as=true) {a a':mT} (ha:a ∈ as) (ha':a' ∈ as):a.st≠some a'.al:=fun hs=>by
  have h1:=List.all_eq_true.1 (List.all_eq_true.1 h a ha) a' ha'
  simp [hs] at h1
theorem mG {as:List mT} {n:Nat} (h:(as.all fun a=>Nat.blt a.al n)=true):∀ a ∈ as,a.al < n:=fun a ha=>by
  have:=List.all_eq_true.1 h a ha
  have h2:a.al + 1≤n:=by simpa [Nat.blt] using this
  exact h2
end Go.Vc
namespace Go.Vc
def rS (a:Option Addr) (c l sz:Nat):Option Addr:=if c=l then a else a.map (·.add (l * sz))
theorem bs.sub {α:Type} {t:Ty α} {w:World} {F:Nat→Prop} {a:Option Addr} {n c l h:Nat} {xs:List α} (hv:bs t w F (.slice a n c) xs) (hlh:l≤h) (hhx:h≤xs.length):bs t w F (.slice (rS a c l t.sz) (h - l) (c - l)) ((xs.take h).drop l):=by
  obtain ⟨a',c',hv',h1,h2,h3,h4⟩:=hv
  cases hv'
  have hlen:((xs.take h).drop l).length=h - l:=by simp;omega
  refine ⟨_,_,by rw [hlen],by rw [hlen];omega,by omega,?_,?_⟩
  · intro hn
    unfold rS at hn
    split at hn
    · have:=h3 hn;omega
    · have:a=none:=by cases a <;> simp_all
      have:=h3 this;omega
  · intro i y hy
    have hi:i < h - l:=by have:=(List.getElem?_eq_some_iff.1 hy).1;rw [hlen] at this;exact this
    rw [List.getElem?_drop,List.getElem?_take,if_pos zo] at hy
    obtain ⟨q,cs,ha,hF,hp,hr⟩:=h4 _ _ hy
    have hne:¬ c=l:=by omega
    refine ⟨q.add (l * t.sz),cs,by unfold rS;rw [if_neg hne,ha];rfl,by rw [au];exact hF,?_,hr⟩
    rw [gT,← Nat.add_mul];exact hp
section
variable {P:Program} {d:Option Tmp} {ty:TypeId} {p:String} {af:Array Edge} {g:Option (Nat × Bool)} {e:Nat→Value} {w:World} {x y:Operand} {K:Value→World→Prop} {α:Type}
theorem jo {T et sz n c l h:Nat} {a:Option Addr} {lo hi:Option Operand} (hk:gD P T et=true) (hs:gQ P et sz=true) (hx:ev e x=.slice a n c)
    (hl:match lo with | some o=>∃ k,ev e o=.int k (l:Nat) | none=>l=0) (hh:match hi with | some o=>∃ k,ev e o=.int k (h:Nat) | none=>h=n) (hlh:l≤h) (hhc:h≤c) :
    aG P ⟨d,.slice T x lo hi none,ty,p,af,g⟩ e w (.slice (rS a c l sz) (h - l) (c - l)):=by
  have hlo:∀ (y:Nat),l≤y→(match lo.map (ev e) with | some v=>Instr.sliceBound v y .sliceB | none=>pure 0).run P w=.ok l w:=by
    intro y hy
    cases lo with
    | none=>simp at hl;subst hl;rfl
    | some o=>
      obtain ⟨kk,ho⟩:=hl
      simp [ho,Instr.sliceBound,asIntOf]
      have:¬ (y:Int) < (l:Int):=by omega
      omega
  have hi':(match hi.map (ev e) with | some v=>Instr.sliceBound v c .sliceAcap | none=>pure n).run P w=.ok h w:=by
    cases hi with
    | none=>simp at hh;subst hh;rfl
    | some o=>
      obtain ⟨kk,ho⟩:=hh
      simp [ho,Instr.sliceBound,asIntOf]
      omega
  have hb:(Instr.sliceBounds true n c (lo.map (ev e)) (hi.map (ev e)) none).run P w=.ok (l,h,c) w:=by
    unfold Instr.sliceBounds
    cases hi with
    | none=>
      simp only [Option.map_none] at hi' ⊢
      have:=hlo h hlh
      cases lo with
      | none=>simp at this hi' ⊢;exact ⟨this,hi'⟩
      | some o=>simp at this hi' ⊢;rw [hi'];simp [this]
    | some oh=>
      simp only [Option.map_some] at hi' ⊢
      have:=hlo h hlh
      cases lo with
      | none=>simp at this hi' ⊢;rw [hi'];simp [this]
      | some o=>simp at this hi' ⊢;rw [hi'];simp [this]
  simp [aG,execOp,hx,Instr.sliceAt,Instr.slice,run_underlying (eO hk),hb,em hs,rS]
theorem uK {T et n c:Nat} {a:Option Addr} (ht:gD P T et=true) (hx:ev e x=.slice a n c):aG P ⟨d,.call { callee:=.builtin .cap,args:=#[x],argTypes:=#[T] },ty,p,af,g⟩ e w (.int .i64 c):=by
  simp [aG,execOp,hx,resolve,invoke,builtin,Builtin.cap_,run_underlying (eO ht),goInt]
theorem pp {t:Ty α} {T tn et bytes k:Nat} {kq kn:IntKind} (hk:gj P T et t.sz bytes=true) (htn:P.underlying tn=some (.int kn)) (hx:ev e x=.slice none 0 0) (hy:ev e y=.int kq (k:Nat)) (h0:0 < k) (hb:k * bytes≤140737488355328) (hm:k≤maxLen)
    (r:∀ b cc w',b=w.heap.size→ck t et w' b aP (.slice (some ⟨b,0,none⟩) 0 cc) []→aX w w'→w'.heap.size=b + 1→K (.slice (some ⟨b,0,none⟩) k cc) w') :
    bx P ⟨d,.call { callee:=.builtin .append,args:=#[x,y],argTypes:=#[T,tn] },ty,p,af,g⟩ e w K:=by
  obtain ⟨ht,i,z,hi,hz,hzs,his,hib⟩:=fW hk
  have hold:(Builtin.firstCells i.size 0 (.slice none 0 0)).run P w.drew=.ok (([]:List Value).toArray) w.drew:=by
    simp [Builtin.firstCells]
  have hr:=Lib.run_append_grow_zeros (P:=P) w T tn ty et i z kq kn ht htn hi hz none 0 0 [] hold k h0 (by rw [his];exact t.pos) zo (by simp only [maxLen] at hm;omega) (by rw [hib];omega) (by
    have:Builtin.nextslicecap (0 + k) 0=k:=by
      unfold Builtin.nextslicecap
      rw [if_pos zo,Nat.zero_add]
    rw [this,hib];omega)
  have hr':(execOp (ev e) ⟨d,.call { callee:=.builtin .append,args:=#[x,y],argTypes:=#[T,tn] },ty,p,af,g⟩).run P w=.ok (.value (.slice (some ⟨w.heap.size,0,none⟩) (0 + k) (grownCap w (0 + k) 0 et))) (w.drew.alloc (.cells (([]:List Value).toArray ++ Builtin.zeroCells z.cells k ++ Builtin.zeroCells z.cells (grownCap w (0 + k) 0 et - (0 + k))) et)):=by
    simp [execOp,resolve,hx,hy,invoke,builtin,hr]
  have hge:=grownCap_ge w (0 + k) 0 et
  have hle:=grownCap_le_maxLen w (0 + k) 0 et zo
  unfold bx
  rw [hr',Nat.zero_add]
  rw [Nat.zero_add] at hge hle
  refine r w.heap.size _ _ rfl ?_ ((ao.drawn w _).trans (aX.alloc _ _)) (by rw [World.size_alloc];rfl)
  refine ⟨[],⟨by simp,.inr ⟨w.heap.size,_,_,rfl,Nat.le_refl _,heap_alloc_new w.drew _,by simp,hle,?_,by simp⟩⟩,fun i x hx=>by simp at hx⟩
  simp only [Builtin.zeroCells,Array.size_append,Array.size_map,Array.size_range,List.size_toArray,List.length_nil,Nat.zero_add]
  rw [hzs]
  rw [← Nat.add_mul]
  congr 1
  omega
end
theorem vl {e:Nat→Value} {i0 i1:Nat} {x0 x1:Operand} {v0 v1:Value} (h0:ev e x0=v0) (h1:ev e x1=v1):(#[(i0,x0),(i1,x1)]:Array (Nat × Operand)).toList.map (fun x=>(x.1,ev e x.2))=[(i0,v0),(i1,v1)]:=by simp [h0,h1]
theorem vk {e:Nat→Value} {i0 i1 i2:Nat} {x0 x1 x2:Operand} {v0 v1 v2:Value} (h0:ev e x0=v0) (h1:ev e x1=v1) (h2:ev e x2=v2):(#[(i0,x0),(i1,x1),(i2,x2)]:Array (Nat × Operand)).toList.map (fun x=>(x.1,ev e x.2))=[(i0,v0),(i1,v1),(i2,v2)]:=by simp [h0,h1,h2]
theorem cG {v:Value} (h:v.oneCell'=true):v.cells=#[v]:=by cases v <;> first | rfl | simp [Value.oneCell'] at h
theorem nb {α:Type} {t:Ty α} {w:World} {F:Nat→Prop} {c1 c2:List Value} {x1 x2:α} (h1:t.rep w F c1 x1) (h2:t.rep w F c2 x2):∀ i x,[x1,x2][i]? = some x→t.rep w F (((c1 ++ c2).drop (i * t.sz)).take t.sz) x:=by
  intro i x hx
  have l1:=t.len h1
  have l2:=t.len h2
  match i,hx with
  | 0,hx=>cases hx;rw [Nat.zero_mul,List.drop_zero,← l1,List.take_left' rfl];exact h1
  | 1,hx=>cases hx;rw [Nat.one_mul,← l1,List.drop_left' rfl,l1,← l2,List.take_length];exact h2
theorem lI {P:Program} {d:Option Tmp} {ty:TypeId} {p:String} {af:Array Edge} {g:Option (Nat × Bool)} {e:Nat→Value} {w:World} {K:Value→World→Prop} {α:Type} {t:Ty α} {T et bytes:Nat} {x0 x1 x2:Operand} {v0 v1 v2 z:Value} {F:Nat→Prop} {y0 y1 y2:α} (hk:gj P T et t.sz bytes=true) (hsz:t.sz=1) (hz:cQ P et 3 [z,z,z])
    (h0:ev e x0=v0) (h1:ev e x1=v1) (h2:ev e x2=v2) (c0:v0.oneCell'=true) (c1:v1.oneCell'=true) (c2:v2.oneCell'=true) (r0:t.rep w F [v0] y0) (r1:t.rep w F [v1] y1) (r2:t.rep w F [v2] y2)
    (k:∀ b w',b=w.heap.size→ck t et w' b (fun b=>F b∧b < w.heap.size) (.slice (some ⟨b,0,none⟩) 3 3) [y0,y1,y2]→aX w w'→w'.heap.size=b + 1→K (.slice (some ⟨b,0,none⟩) 3 3) w') :
    bx P ⟨d,.buildSlice T 3 #[(0,x0),(1,x1),(2,x2)],ty,p,af,g⟩ e w K:=by
  refine cz (t:=t) (xs:=[y0,y1,y2]) (cells:=[v0,v1,v2]) hk zq (by rw [hsz];decide) hz (vk h0 h1 h2) ?_ (by rw [hsz];rfl) rfl ?_ k
  · simp [iG,cG c0,cG c1,cG c2,fU,hsz]
  · intro i x hx
    rw [hsz]
    match i,hx with
    | 0,hx=>cases hx;exact r0
    | 1,hx=>cases hx;exact r1
    | 2,hx=>cases hx;exact r2
end Go.Vc
namespace Go.Vc
theorem oW (w:World) (a:Addr) (n:Nat):ao (fun i=>i=a.block) w (w.freeze a n)∧(w.freeze a n).heap.size=w.heap.size:=by
  unfold World.freeze
  split
  · exact ⟨ao.refl _,rfl⟩
  · refine ⟨⟨rfl,rfl,rfl,by simp,fun k hk hne=>?_⟩,by simp⟩
    simp only [Array.getElem?_modify]
    rw [if_neg (fun h=>hne h.symm)]
section
variable {P:Program} {d:Option Tmp} {ty:TypeId} {p:String} {af:Array Edge} {g:Option (Nat × Bool)} {e:Nat→Value} {w:World} {x y:Operand} {K:Value→World→Prop}
end
end Go.Vc
namespace Go.Vc
section
variable {P:Program} {d:Option Tmp} {ty:TypeId} {p:String} {af:Array Edge} {g:Option (Nat × Bool)} {e:Nat→Value} {w:World} {x y:Operand} {K:Value→World→Prop} {α:Type}
end
end Go.Vc
namespace Go.Vc
section
variable {α:Type} {t:Ty α} {et:TypeId} {B0 B:Nat} {F G:Nat→Prop} {v0:Value} {l0:List α} {as:List Nat} {ps:List (Option Nat)} {xs:List (List α)}
end
end Go.Vc
namespace Go.Vc
def rO (k:Nat) (P0 P1:World→Prop) (done:Nat→Bool) (_:Nat→Value) (w:World):Prop:=(done k=true→P1 w)∧(done k=false→P0 w)
theorem rO.on {k:Nat} {P0 P1:World→Prop}:tI (Nat.beq k) (rO k P0 P1):=by
  rintro done ab done' vals' w h ⟨h1,h2⟩
  have:=(h k (Nat.beq_refl k)).1
  exact ⟨fun hd=>h1 (by rw [this];exact hd),fun hd=>h2 (by rw [this];exact hd)⟩
theorem rO.start {k:Nat} {P0 P1:World→Prop} {done:Nat→Bool} {ab:Nat→Value} {w:World} (h:P0 w) (hd:done k=false):rO k P0 P1 done ab w:=⟨fun h1=>absurd (hd.symm.trans h1) zq,fun _=>h⟩
theorem rO.step {k:Nat} {P0 P1:World→Prop} {done:Nat→Bool} {ab:Nat→Value} {v:Value} {w:World} (h:P1 w):rO k P0 P1 (eT done k) (cA ab k v) w:=⟨fun _=>h,fun h1=>by simp [eT] at h1⟩
end Go.Vc

/- Steps and lemmas for the walks. -/
import Derived.Test.YteehplloacefmaaGreatVc35
import Derived.Test.YteehplloacefmaaGreatGe
set_option linter.unusedVariables false
set_option linter.unusedSimpArgs false
set_option maxRecDepth 100000
namespace Go.Vc
def wC (u v:Value):Prop:=u=v∨∃ x y:UInt8,u=.int .u8 x.toNat∧v=.int .u8 y.toNat
def jJ:List Value→List Value→Prop
  | [],[]=>True
  | a :: l,b :: m=>wC a b∧jJ l m
  | _,_=>False
theorem jJ.refl:∀ l,jJ l l
  | []=>trivial
  | a :: l=>⟨.inl rfl,jJ.refl l⟩
theorem jJ.len:∀ {l m},jJ l m→l.length=m.length
  | [],[],_=>rfl
  | a :: l,b :: m,h=>by simp [jJ.len h.2]
  | [],_ :: _,h=>h.elim
  | _ :: _,[],h=>h.elim
theorem jJ.split:∀ {a b c:List Value},jJ (a ++ b) c→∃ c1 c2,c=c1 ++ c2∧jJ a c1∧jJ b c2
  | [],b,c,h=>⟨[],c,rfl,trivial,h⟩
  | x :: a,b,[],h=>h.elim
  | x :: a,b,y :: c,h=>by
    obtain ⟨c1,c2,rfl,h1,h2⟩:=jJ.split (a:=a) h.2
    exact ⟨y :: c1,c2,rfl,⟨h.1,h1⟩,h2⟩
theorem jJ.drop:∀ (n:Nat) {l m:List Value},jJ l m→jJ (l.drop n) (m.drop n)
  | 0,_,_,h=>h
  | n + 1,[],[],_=>trivial
  | n + 1,_ :: l,_ :: m,h=>by simpa using jJ.drop n h.2
  | n + 1,[],_ :: _,h=>h.elim
  | n + 1,_ :: _,[],h=>h.elim
theorem jJ.take:∀ (n:Nat) {l m:List Value},jJ l m→jJ (l.take n) (m.take n)
  | 0,_,_,h=>by simp [jJ]
  | n + 1,[],[],_=>trivial
  | n + 1,_ :: l,_ :: m,h=>by simpa [jJ] using ⟨h.1,jJ.take n h.2⟩
  | n + 1,[],_ :: _,h=>h.elim
  | n + 1,_ :: _,[],h=>h.elim
theorem jJ.set:∀ (n:Nat) {l:List Value} {u v:Value},l[n]? = some u→wC u v→jJ l (l.set n v)
  | _,[],_,_,h,_=>by simp at h
  | 0,a :: l,u,v,h,r=>by simp at h;subst h;exact ⟨r,jJ.refl l⟩
  | n + 1,a :: l,u,v,h,r=>⟨.inl rfl,jJ.set n (by simpa using h) r⟩
theorem jJ.one {u:Value} {cs:List Value} (h:jJ [u] cs) (hu:∀ x:UInt8,u≠.int .u8 x.toNat):cs=[u]:=by
  cases cs with
  | nil=>exact h.elim
  | cons v m=>
    cases m with
    | nil=>
      rcases h.1 with h1 | ⟨x,y,h1,_⟩
      · rw [h1]
      · exact absurd h1 (hu x)
    | cons _ _=>exact h.2.elim
structure uC (w w':World):Prop where
  size:w'.heap.size=w.heap.size
  blk:∀ {b:Nat} {cs:Array Value} {T:TypeId} {g:Nat × Nat},w.heap[b]? = some (Obj.cells cs T g)→∃ cs':Array Value,w'.heap[b]? = some (Obj.cells cs' T g)∧jJ cs.toList cs'.toList
theorem Pv.poke {w w':World} {q:Addr} {cs:List Value} (h:Pv w q cs) (p:uC w w'):∃ cs',Pv w' q cs'∧jJ cs cs':=by
  cases hcs:cs with
  | nil=>exact ⟨[],fun j u hu=>by simp at hu,trivial⟩
  | cons u0 l0=>
    rw [← hcs]
    have h0:=h 0 u0 (by rw [hcs];rfl)
    rw [World.cell?] at h0
    split at h0
    · rename_i arr T g hb
      rw [au] at hb
      have hsp:(q.add 0).spot.isSome=false:=by
        rcases hx:(q.add 0).spot with _ | _
        · rfl
        · rw [hx] at h0;simp at h0
      obtain ⟨b,o,sp⟩:=q
      have hsp2:sp=none:=by
        unfold Addr.add at hsp;cases sp <;> simp_all
      subst hsp2
      simp only at hb
      obtain ⟨arr',hb',hr⟩:=p.blk hb
      have hget:∀ j u,cs[j]? = some u→arr.toList[o + j]? = some u:=by
        intro j u hu
        have:=h j u hu
        rw [eE] at this
        rw [World.cell?,hb] at this
        simpa using this
      have hcl:cs=(arr.toList.drop o).take cs.length:=by
        apply List.ext_getElem?
        intro j
        rw [List.getElem?_take]
        by_cases hj:j < cs.length
        · rw [if_pos hj,List.getElem?_drop,List.getElem?_eq_getElem hj]
          exact (hget j _ (List.getElem?_eq_getElem hj)).symm
        · rw [if_neg hj];simp;omega
      refine ⟨(arr'.toList.drop o).take cs.length,?_,?_⟩
      · intro j u hu
        rw [List.getElem?_take] at hu
        split at hu
        · rw [List.getElem?_drop] at hu
          rw [eE]
          rw [World.cell?,hb']
          simpa using hu
        · cases hu
      · have:=(hr.drop o).take cs.length
        rw [← hcl] at this
        exact this
    · cases h0
theorem jb {α:Type} {P:Nat→α→Prop}:∀ (n:Nat),(∀ i,i < n→∃ x,P i x)→∃ xs:List α,xs.length=n∧∀ i x,xs[i]? = some x→P i x
  | 0,_=>⟨[],rfl,fun i x h=>by simp at h⟩
  | n + 1,h=>by
    obtain ⟨xs,h1,h2⟩:=jb n (fun i hi=>h i zo)
    obtain ⟨x,hx⟩:=h n zo
    refine ⟨xs ++ [x],by simp [h1],fun i y hy=>?_⟩
    by_cases hi:i < n
    · rw [List.getElem?_append_left zo] at hy;exact h2 i y hy
    · rw [List.getElem?_append_right zo] at hy
      have hin:i - xs.length=0:=by
        have:=(List.getElem?_eq_some_iff.1 hy).1;simp at this;omega
      have:i=n:=by omega
      subst this
      rw [hin] at hy;simp at hy;subst hy;exact hx
def Pk {α:Type} (t:Ty α):Prop:=∀ (w w':World) (F:Nat→Prop) (cs:List Value) (x:α) (cs':List Value),t.rep w F cs x→uC w w'→jJ cs cs'→∃ x',t.rep w' F cs' x'
theorem Pk.sl {α:Type} {t:Ty α} (hp:Pk t) {w w':World} {F:Nat→Prop} {v:Value} {xs:List α} (h:bs t w F v xs) (p:uC w w'):∃ xs',xs'.length=xs.length∧bs t w' F v xs':=by
  obtain ⟨a,c,rfl,h1,h2,h3,h4⟩:=h
  obtain ⟨xs',hl,hx⟩:=jb (P:=fun i x=>∃ q cs,a=some q∧F q.block∧Pv w' (q.add (i * t.sz)) cs∧t.rep w' F cs x) xs.length (fun i hi=>by
    obtain ⟨q,cs,hq,hF,hP,hr⟩:=h4 i _ (List.getElem?_eq_getElem hi)
    obtain ⟨cs',hP',hc⟩:=hP.poke p
    obtain ⟨x',hx'⟩:=hp w w' F cs _ cs' hr p hc
    exact ⟨x',q,cs',hq,hF,hP',hx'⟩)
  exact ⟨xs',hl,a,c,by rw [hl],by rw [hl];exact h1,h2,h3,hx⟩
theorem vi {k:IntKind} (hk:k≠.u8):Pk (dL k):=by
  intro w w' F cs x cs' h p hc
  obtain ⟨rfl,hw⟩:=h
  have:=hc.one (fun x h=>by cases h;exact hk rfl)
  subst this
  exact ⟨x,rfl,hw⟩
theorem t6:Pk j7:=by
  intro w w' F cs x cs' h p hc
  obtain rfl:cs=[.bool x]:=h
  have:=hc.one (fun x h=>by cases h)
  subst this
  exact ⟨x,rfl⟩
theorem wo:Pk cw:=by
  intro w w' F cs x cs' h p hc
  obtain rfl:cs=[.int .u8 x.toNat]:=h
  cases cs' with
  | nil=>exact hc.elim
  | cons v m=>
    cases m with
    | cons _ _=>exact hc.2.elim
    | nil=>
      rcases hc.1 with h1 | ⟨a,b,_,h2⟩
      · subst h1;exact ⟨x,rfl⟩
      · subst h2;exact ⟨b,rfl⟩
theorem fQ {α β:Type} {s:Ty α} {t:Ty β} (h1:Pk s) (h2:Pk t):Pk (bM s t):=by
  intro w w' F cs x cs' h p hc
  obtain ⟨c1,c2,rfl,r1,r2⟩:=h
  obtain ⟨d1,d2,rfl,e1,e2⟩:=hc.split
  obtain ⟨x1,q1⟩:=h1 _ _ _ _ _ _ r1 p e1
  obtain ⟨x2,q2⟩:=h2 _ _ _ _ _ _ r2 p e2
  exact ⟨(x1,x2),d1,d2,rfl,q1,q2⟩
theorem wp {α:Type} {t:Ty α} (ht:Pk t):Pk (dB t):=by
  intro w w' F cs x cs' h p hc
  obtain ⟨v,rfl,hv⟩:=h
  obtain ⟨a,c,rfl⟩:=hv.shape
  have:=hc.one (fun x h=>by cases h)
  subst this
  obtain ⟨xs',_,hx⟩:=ht.sl hv p
  exact ⟨xs',_,rfl,hx⟩
def Wr (w:World) (v:Value):Prop:=∀ a n c,v=.slice (some a) n c→∃ arr T,w.heap[a.block]? = some (Obj.cells arr T (0,0))
def jy:Ty (List UInt8) where
  sz:=1
  pos:=by decide
  rep:=fun w F cs xs=>∃ v,cs=[v]∧Bv w F v xs∧(xs≠[]→Wr w v)
  len:=by rintro _ _ _ _ ⟨v,rfl,_⟩;rfl
  one:=by rintro _ _ _ _ ⟨v,rfl,h,_⟩ u hu;obtain ⟨a,c,rfl⟩:=h.shape;simp at hu;subst hu;rfl
  keep:=by
    rintro w w' F K cs xs ⟨v,rfl,h,hw⟩ k hk
    refine ⟨v,rfl,h.keep k hk,fun hne a n c hv=>?_⟩
    obtain ⟨arr,T,hb⟩:=hw hne a n c hv
    obtain ⟨a',c',hv',h1,h2,h3,h4⟩:=h
    obtain ⟨x0,hx0⟩:∃ x0,xs[0]? = some x0:=by cases xs with | nil=>exact absurd rfl hne | cons x _=>exact ⟨x,rfl⟩
    obtain ⟨q,cs,hq,hF,_⟩:=h4 0 x0 hx0
    rw [hv] at hv';cases hv';cases hq
    have hlt:a.block < w.heap.size:=by
      rcases Nat.lt_or_ge a.block w.heap.size with h | h
      · exact h
      · rw [Array.getElem?_eq_none h] at hb;cases hb
    exact ⟨arr,T,by rw [k.block _ hlt (hk _ hlt hF)];exact hb⟩
  mono:=by rintro _ _ _ _ _ ⟨v,rfl,h,hw⟩ hf;exact ⟨v,rfl,h.mono hf,hw⟩
theorem wq:Pk jy:=by
  intro w w' F cs x cs' h p hc
  obtain ⟨v,rfl,hv,hw⟩:=h
  obtain ⟨a,c,rfl⟩:=hv.shape
  have:=hc.one (fun x h=>by cases h)
  subst this
  obtain ⟨xs',hl,hx⟩:=wo.sl hv p
  refine ⟨xs',_,rfl,hx,fun hne a' n' c' hv'=>?_⟩
  obtain ⟨arr,T,hb⟩:=hw (by intro h;subst h;exact hne (List.eq_nil_of_length_eq_zero hl)) a' n' c' hv'
  obtain ⟨arr',hb',_⟩:=p.blk hb
  exact ⟨arr',T,hb'⟩
theorem ij {w:World} {F:Nat→Prop} {cs:List Value} {xs:List UInt8} (h:jy.rep w F cs xs):∃ a c,cs=[.slice a xs.length c]∧Bv w F (.slice a xs.length c) xs:=by
  obtain ⟨v,rfl,hv,hw⟩:=h
  obtain ⟨a,c,rfl⟩:=hv.shape
  exact ⟨a,c,rfl,hv⟩
def io {α:Type} (s t:Ty α):Prop:=s.sz=t.sz∧∀ w F cs x,s.rep w F cs x→t.rep w F cs x
theorem io.sl {α:Type} {s t:Ty α} (h:io s t) {w:World} {F:Nat→Prop} {v:Value} {xs:List α} (hv:bs s w F v xs):bs t w F v xs:=by
  obtain ⟨a,c,rfl,h1,h2,h3,h4⟩:=hv
  refine ⟨a,c,rfl,h1,h2,h3,fun i x hx=>?_⟩
  obtain ⟨q,cs,hq,hF,hP,hr⟩:=h4 i x hx
  exact ⟨q,cs,hq,hF,by rw [← h.1];exact hP,h.2 _ _ _ _ hr⟩
theorem io.rfl {α:Type} (t:Ty α):io t t:=⟨_root_.rfl,fun _ _ _ _ h=>h⟩
theorem io.by:io jy nG:=⟨_root_.rfl,fun w F cs x h=>by obtain ⟨v,hv,h1,_⟩:=h;exact ⟨v,hv,h1⟩⟩
theorem io.pair {α β:Type} {s s':Ty α} {t t':Ty β} (h1:io s s') (h2:io t t'):io (bM s t) (bM s' t'):=
  ⟨by show s.sz + t.sz=s'.sz + t'.sz;rw [h1.1,h2.1],fun w F cs x h=>by obtain ⟨c1,c2,hc,r1,r2⟩:=h;exact ⟨c1,c2,hc,h1.2 _ _ _ _ r1,h2.2 _ _ _ _ r2⟩⟩
section
variable {P:Program} {d:Option Tmp} {ty:TypeId} {p:String} {af:Array Edge} {g:Option (Nat × Bool)} {e:Nat→Value} {w:World} {x y:Operand} {K:Value→World→Prop}
end
def fO (w:World) (F:Nat→Prop) (v:Value) (l:List UInt8):Prop:=jy.rep w F [v] l
theorem fO.keep {w w':World} {F K:Nat→Prop} {v:Value} {l:List UInt8} (h:fO w F v l) (k:ao K w w') (hk:∀ b,b < w.heap.size→F b→¬ K b):fO w' F v l:=jy.keep h k hk
theorem fO.ext {w w':World} {F:Nat→Prop} {v:Value} {l:List UInt8} (h:fO w F v l) (k:aX w w'):fO w' F v l:=jy.keep h k (fun _ _ _ x=>x)
theorem fO.mono {w:World} {F F':Nat→Prop} {v:Value} {l:List UInt8} (h:fO w F v l) (hf:∀ b,b < w.heap.size→F b→F' b):fO w F' v l:=jy.mono h hf
theorem fO.nil (w:World) (F:Nat→Prop):fO w F (.slice none 0 0) []:=⟨_,rfl,bs.nil _ _ _,fun h=>absurd rfl h⟩
theorem fO.bv {w:World} {F:Nat→Prop} {v:Value} {l:List UInt8} (h:fO w F v l):Bv w F v l:=by
  obtain ⟨u,hu,hb,_⟩:=h
  cases hu;exact hb
end Go.Vc

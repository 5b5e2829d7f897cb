/- Steps and lemmas for the walks. -/
import Derived.Test.YteehplloacefmaaGreatGd
set_option linter.unusedVariables false
set_option linter.unusedSimpArgs false
namespace Go.Vc
abbrev nG:Ty (List UInt8):=dB cw
abbrev cO:=List UInt8 × List UInt8 × Bool × Int
abbrev dv:Ty cO:=bM nG (bM nG (bM j7 (dL .i64)))
theorem dO {w:World} {F:Nat→Prop} {cs:List Value} {x:List UInt8} (h:nG.rep w F cs x):∃ a c,cs=[.slice a x.length c]∧Bv w F (.slice a x.length c) x:=by
  obtain ⟨v,rfl,hv⟩:=h
  obtain ⟨a,c,rfl⟩:=hv.shape
  exact ⟨a,c,rfl,hv⟩
theorem bN {w:World} {F:Nat→Prop} {cs:List Value} {r:cO} (h:dv.rep w F cs r):∃ a1 c1 a2 c2,cs=[.slice a1 r.1.length c1,.slice a2 r.2.1.length c2,.bool r.2.2.1,.int .i64 r.2.2.2]∧Bv w F (.slice a1 r.1.length c1) r.1∧Bv w F (.slice a2 r.2.1.length c2) r.2.1∧(-9223372036854775808≤r.2.2.2∧r.2.2.2≤9223372036854775807):=by
  obtain ⟨k1,k2,rfl,h1,k3,k4,rfl,h2,k5,k6,rfl,h3,h4⟩:=h
  obtain ⟨a1,c1,rfl,g1⟩:=dO h1
  obtain ⟨a2,c2,rfl,g2⟩:=dO h2
  obtain rfl:k5=[.bool r.2.2.1]:=h3
  obtain ⟨rfl,h5⟩:=h4
  exact ⟨a1,c1,a2,c2,rfl,g1,g2,cB h5⟩
theorem co {n:Int} (h:-9223372036854775808≤n∧n≤9223372036854775807):(Lit.int .i64 n).wf=true:=by
  simp [Lit.wf,IntKind.min,IntKind.max,IntKind.signed,IntKind.bits];omega
theorem gu {w:World} {F:Nat→Prop} {v1 v2:Value} {x y:List UInt8} {b:Bool} {g:Int} (h1:Bv w F v1 x) (h2:Bv w F v2 y) (hg:-9223372036854775808≤g∧g≤9223372036854775807):dv.rep w F [v1,v2,.bool b,.int .i64 g] (x,y,b,g):=
  ⟨[v1],[v2,.bool b,.int .i64 g],rfl,⟨v1,rfl,h1⟩,[v2],[.bool b,.int .i64 g],rfl,⟨v2,rfl,h2⟩,[.bool b],[.int .i64 g],rfl,rfl,rfl,co hg⟩
def aY {α:Type} (t:Ty α) (w:World) (F:Nat→Prop) (v:Value) (x:α):Prop:=∃ cs:List Value,v=.agg cs.toArray∧t.rep w F cs x
section
variable {α:Type} {t:Ty α} {w w':World} {F F' K:Nat→Prop} {v:Value} {x:α}
theorem aY.keep (h:aY t w F v x) (k:ao K w w') (hk:∀ b,b < w.heap.size→F b→¬ K b):aY t w' F v x:=by
  obtain ⟨cs,hv,hr⟩:=h
  exact ⟨cs,hv,t.keep hr k hk⟩
theorem aY.ext (h:aY t w F v x) (k:aX w w'):aY t w' F v x:=h.keep k (fun _ _ _ x=>x)
theorem aY.mono (h:aY t w F v x) (hf:∀ b,b < w.heap.size→F b→F' b):aY t w F' v x:=by
  obtain ⟨cs,hv,hr⟩:=h
  exact ⟨cs,hv,t.mono hr hf⟩
theorem aY.all (h:aY t w F v x):aY t w (fun b=>b < w.heap.size) v x:=h.mono fun b hb _=>hb
end
theorem aY.rg {w:World} {F:Nat→Prop} {v:Value} {r:cO} (h:aY dv w F v r):∃ a1 c1 a2 c2,v=.agg #[.slice a1 r.1.length c1,.slice a2 r.2.1.length c2,.bool r.2.2.1,.int .i64 r.2.2.2]∧Bv w F (.slice a1 r.1.length c1) r.1∧Bv w F (.slice a2 r.2.1.length c2) r.2.1∧(-9223372036854775808≤r.2.2.2∧r.2.2.2≤9223372036854775807):=by
  obtain ⟨cs,rfl,hr⟩:=h
  obtain ⟨a1,c1,a2,c2,rfl,h⟩:=bN hr
  exact ⟨a1,c1,a2,c2,rfl,h⟩
theorem aY.mkRg {w:World} {F:Nat→Prop} {v1 v2:Value} {x y:List UInt8} {b:Bool} {g:Int} (h1:Bv w F v1 x) (h2:Bv w F v2 y) (hg:-9223372036854775808≤g∧g≤9223372036854775807):aY dv w F (.agg #[v1,v2,.bool b,.int .i64 g]) (x,y,b,g):=⟨_,rfl,gu h1 h2 hg⟩
abbrev lz:=Int × List cO
abbrev li:Ty lz:=bM (dL .i64) (dB dv)
theorem aY.mp {w:World} {F:Nat→Prop} {v:Value} {m:lz} (h:aY li w F v m):∃ a c,v=.agg #[.int .i64 m.1,.slice a m.2.length c]∧bs dv w F (.slice a m.2.length c) m.2∧(-9223372036854775808≤m.1∧m.1≤9223372036854775807):=by
  obtain ⟨cs,rfl,k1,k2,rfl,⟨rfl,h1⟩,v,rfl,hv⟩:=h
  obtain ⟨a,c,rfl⟩:=hv.shape
  exact ⟨a,c,rfl,hv,cB h1⟩
theorem aY.mkMp {w:World} {F:Nat→Prop} {v:Value} {e:Int} {l:List cO} (h1:bs dv w F v l) (he:-9223372036854775808≤e∧e≤9223372036854775807):aY li w F (.agg #[.int .i64 e,v]) (e,l):=
  ⟨_,rfl,[.int .i64 e],[v],rfl,⟨rfl,co he⟩,v,rfl,h1⟩
theorem bs.el {α:Type} {t:Ty α} {w:World} {F:Nat→Prop} {a:Option Addr} {n c k:Nat} {xs:List α} {x:α} (h:bs t w F (.slice a n c) xs) (hk:xs[k]? = some x):∃ q cs,a=some q∧F q.block∧q.block < w.heap.size∧Pv w (q.add (k * t.sz)) cs∧t.rep w F cs x:=by
  obtain ⟨a',c',hv,h1,h2,h3,h4⟩:=h
  cases hv
  obtain ⟨q,cs,h5,h6,h7,h8⟩:=h4 k x hk
  have:=lS h7 h8
  rw [au] at this
  exact ⟨q,cs,h5,h6,this,h7,h8⟩
theorem bs.len_max {α:Type} {t:Ty α} {w:World} {F:Nat→Prop} {v:Value} {xs:List α} (h:bs t w F v xs):xs.length≤9223372036854775807:=by have:=h.max;simpa [maxLen] using this
def rz (r:cO) (k:List UInt8):Bool:=!decide (k < r.1) && (!r.2.2.1 || decide (k < r.2.1))
def dJ (n:Int):Bool:=decide (1≤n) && decide (n < 5)
def fl:List cO→Bool
  | []=>true
  | [r]=>dJ r.2.2.2 && !r.2.2.1 && r.2.1.isEmpty
  | r :: s :: l=>dJ r.2.2.2 && r.2.2.1 && decide (r.2.1.length≤24) && decide (r.1 < r.2.1) && decide (r.2.1=s.1) && fl (s :: l)
def cY (m:lz):Bool:=decide (1≤m.1) && decide (m.1≤2147483647) && decide (1≤m.2.length) && decide (m.2.length≤16) && (m.2.headD ([],[],false,0)).1.isEmpty && fl m.2
theorem eC {α:Type} {l:List α} {i:Nat} (h:i < l.length):∃ x,l[i]? = some x∧l.drop i=x :: l.drop (i + 1):=
  ⟨l[i],by simp [h],by rw [List.drop_eq_getElem_cons h]⟩
theorem qv {α:Type} (l:List α):decide ((l.length:Int)=0)=l.isEmpty:=by cases l <;> simp <;> omega
theorem ky {x y:List UInt8}:fm x y < 0↔x < y:=by
  unfold fm;split
  · simp [*]
  · split <;> simp [*]
theorem uo {x y:List UInt8}:0≤fm x y↔¬ x < y:=by have:=@ky x y;constructor <;> intro h <;> (try intro h2) <;> (try have:=this.2 h2) <;> (try (rcases Int.lt_or_le (fm x y) 0 with h3 | h3;exact absurd (this.1 h3) h;exact h3)) ; omega
theorem tj (x y:List UInt8):decide (fm x y < 0)=decide (x < y):=decide_eq_decide.2 ky
theorem my (x y:List UInt8):decide (0≤fm x y) = !decide (x < y):=by
  by_cases h:x < y
  · have:=ky.2 h;rw [decide_eq_true h,decide_eq_false zo];rfl
  · have:=uo.2 h;rw [decide_eq_false h,decide_eq_true this];rfl
end Go.Vc
namespace Go.Vc
def CJ {α β:Type} (t:Ty α) (m:α) (tp:Ty β) (xs:List β) (er:Value) (zc:List Value) (T:TypeId) (p c mv x0 x1 a s B0:Nat) (done:Nat→Bool) (ab:Nat→Value) (w:World):Prop:=
  B0≤w.heap.size∧(done p=true→p≠99→bs tp w (fun i=>B0≤i∧(done a=true→ab a≠.pointer (some ⟨i,0,none⟩))) (ab p) xs) ∧
  ∃ cs:List Value,cs.length=t.sz∧(∀ u ∈ cs,u.oneCell'=true) ∧
    (done c=true→ab c=.tuple #[.agg cs.toArray,er]∧t.rep w (fun i=>B0≤i∧(done a=true→ab a≠.pointer (some ⟨i,0,none⟩))) cs m) ∧
    (done mv=true→ab mv=.tuple #[.agg cs.toArray,er])∧(done x0=true→ab x0=.agg cs.toArray)∧(done x1=true→ab x1=er) ∧
    (done a=true→∃ b,ab a=.pointer (some ⟨b,0,none⟩)∧B0≤b∧dh w b (if done s=true then cs else zc) T)
def dC (p c mv x0 x1 a s i:Nat):Bool:=Nat.beq i p || Nat.beq i c || Nat.beq i mv || Nat.beq i x0 || Nat.beq i x1 || Nat.beq i a || Nat.beq i s
theorem bd {l:List Nat} {i j:Nat} {a b:Nat} (h:l.Nodup) (hi:l[i]? = some a) (hj:l[j]? = some b) (hij:i≠j):a≠b:=by
  intro he
  subst he
  obtain ⟨h1,h1'⟩:=List.getElem?_eq_some_iff.1 hi
  obtain ⟨h2,h2'⟩:=List.getElem?_eq_some_iff.1 hj
  rcases Nat.lt_or_gt_of_ne hij with h3 | h3
  · exact List.pairwise_iff_getElem.1 h i j h1 h2 h3 (h1'.trans h2'.symm)
  · exact List.pairwise_iff_getElem.1 h j i h2 h1 h3 (h2'.trans h1'.symm)
section
variable {α β:Type} {t:Ty α} {m:α} {tp:Ty β} {xs:List β} {er:Value} {zc:List Value} {T:TypeId} {p c mv x0 x1 a s B0:Nat} {done:Nat→Bool} {ab:Nat→Value} {w w':World}
theorem CJ.on:tI (dC p c mv x0 x1 a s) (CJ t m tp xs er zc T p c mv x0 x1 a s B0):=by
  rintro done ab done' vals' w h ⟨h0,h1,cs,hl,ho,h2,h3,h4,h5,h6⟩
  obtain ⟨dp,vp⟩:=h p (by simp [dC])
  obtain ⟨dc,vc⟩:=h c (by simp [dC])
  obtain ⟨dm,vm⟩:=h mv (by simp [dC])
  obtain ⟨d0,v0⟩:=h x0 (by simp [dC])
  obtain ⟨d1,v1⟩:=h x1 (by simp [dC])
  obtain ⟨da,va⟩:=h a (by simp [dC])
  obtain ⟨ds,vs⟩:=h s (by simp [dC])
  refine ⟨h0,?_,cs,hl,ho,?_,?_,?_,?_,?_⟩
  · rw [← dp,← vp,← da,← va];exact h1
  · rw [← dc,← vc,← da,← va];exact h2
  · rw [← dm,← vm];exact h3
  · rw [← d0,← v0];exact h4
  · rw [← d1,← v1];exact h5
  · rw [← da,← va,← ds];exact h6
theorem CJ.start (t:Ty α) (hz:t.sz=zc.length) (hzo:∀ u ∈ zc,u.oneCell'=true) (hB:B0≤w.heap.size) (hp:p≠99→done p=false) (hc:done c=false) (hm:done mv=false) (h0:done x0=false) (h1:done x1=false) (ha:done a=false):CJ t m tp xs er zc T p c mv x0 x1 a s B0 done ab w:=by
  refine ⟨hB,?_,zc,hz.symm,hzo,?_,?_,?_,?_,?_⟩
  · intro h hq;rw [hp hq] at h;cases h
  · rw [hc];intro h;cases h
  · rw [hm];intro h;cases h
  · rw [h0];intro h;cases h
  · rw [h1];intro h;cases h
  · rw [ha];intro h;cases h
theorem CJ.call {cs':List Value} (j:CJ t m tp xs er zc T p c mv x0 x1 a s B0 done ab w) (hn:[p,c,mv,x0,x1,a,s].Nodup) (hm:done mv=false) (hx0:done x0=false) (hx1:done x1=false) (hs:done s=false) (e:aX w w')
    (hr:t.rep w' (fun i=>w.heap.size≤i) cs' m) (hl':cs'.length=t.sz) (ho':∀ u ∈ cs',u.oneCell'=true):CJ t m tp xs er zc T p c mv x0 x1 a s B0 (eT done c) (cA ab c (.tuple #[.agg cs'.toArray,er])) w':=by
  obtain ⟨h0,h1,cs,hl,ho,h2,h3,h4,h5,h6⟩:=j
  have n1:p≠c:=bd (i:=0) (j:=1) hn rfl rfl zq
  have n2:mv≠c:=bd (i:=2) (j:=1) hn rfl rfl zq
  have n3:x0≠c:=bd (i:=3) (j:=1) hn rfl rfl zq
  have n4:x1≠c:=bd (i:=4) (j:=1) hn rfl rfl zq
  have n5:a≠c:=bd (i:=5) (j:=1) hn rfl rfl zq
  have n6:s≠c:=bd (i:=6) (j:=1) hn rfl rfl zq
  simp only [CJ,eT,cA,if_neg n1,if_neg n2,if_neg n3,if_neg n4,if_neg n5,if_neg n6,if_true]
  refine ⟨Nat.le_trans h0 e.size,fun hd hq=>(h1 hd hq).ext e,cs',hl',ho',fun _=>⟨rfl,t.mono hr fun i hi hw=>⟨Nat.le_trans h0 hw,fun hd he=>?_⟩⟩,fun hd=>?_,fun hd=>?_,fun hd=>?_,fun hd=>?_⟩
  · obtain ⟨b,hb,_,hB⟩:=h6 hd
    rw [he] at hb;cases hb
    have:=hB.lt;omega
  · rw [hm] at hd;cases hd
  · rw [hx0] at hd;cases hd
  · rw [hx1] at hd;cases hd
  · obtain ⟨b,hb,hb0,hB⟩:=h6 hd
    rw [hs] at hB ⊢
    exact ⟨b,hb,hb0,hB.ext e⟩
theorem CJ.mvd (j:CJ t m tp xs er zc T p c mv x0 x1 a s B0 done ab w) (hn:[p,c,mv,x0,x1,a,s].Nodup) (hc:done c=true):∃ cs:List Value,ab c=.tuple #[.agg cs.toArray,er]∧CJ t m tp xs er zc T p c mv x0 x1 a s B0 (eT done mv) (cA ab mv (.tuple #[.agg cs.toArray,er])) w:=by
  obtain ⟨h0,h1,cs,hl,ho,h2,h3,h4,h5,h6⟩:=j
  have n1:p≠mv:=bd (i:=0) (j:=2) hn rfl rfl zq
  have n2:c≠mv:=bd (i:=1) (j:=2) hn rfl rfl zq
  have n3:x0≠mv:=bd (i:=3) (j:=2) hn rfl rfl zq
  have n4:x1≠mv:=bd (i:=4) (j:=2) hn rfl rfl zq
  have n5:a≠mv:=bd (i:=5) (j:=2) hn rfl rfl zq
  have n6:s≠mv:=bd (i:=6) (j:=2) hn rfl rfl zq
  refine ⟨cs,(h2 hc).1,?_⟩
  simp only [CJ,eT,cA,if_neg n1,if_neg n2,if_neg n3,if_neg n4,if_neg n5,if_neg n6,if_true]
  exact ⟨h0,h1,cs,hl,ho,h2,fun _=>rfl,h4,h5,h6⟩
theorem CJ.x0d (j:CJ t m tp xs er zc T p c mv x0 x1 a s B0 done ab w) (hn:[p,c,mv,x0,x1,a,s].Nodup) (hc:done mv=true):∃ cs:List Value,ab mv=.tuple #[.agg cs.toArray,er]∧CJ t m tp xs er zc T p c mv x0 x1 a s B0 (eT done x0) (cA ab x0 (.agg cs.toArray)) w:=by
  obtain ⟨h0,h1,cs,hl,ho,h2,h3,h4,h5,h6⟩:=j
  have n1:p≠x0:=bd (i:=0) (j:=3) hn rfl rfl zq
  have n2:c≠x0:=bd (i:=1) (j:=3) hn rfl rfl zq
  have n3:mv≠x0:=bd (i:=2) (j:=3) hn rfl rfl zq
  have n4:x1≠x0:=bd (i:=4) (j:=3) hn rfl rfl zq
  have n5:a≠x0:=bd (i:=5) (j:=3) hn rfl rfl zq
  have n6:s≠x0:=bd (i:=6) (j:=3) hn rfl rfl zq
  refine ⟨cs,h3 hc,?_⟩
  simp only [CJ,eT,cA,if_neg n1,if_neg n2,if_neg n3,if_neg n4,if_neg n5,if_neg n6,if_true]
  exact ⟨h0,h1,cs,hl,ho,h2,h3,fun _=>rfl,h5,h6⟩
theorem CJ.x1d (j:CJ t m tp xs er zc T p c mv x0 x1 a s B0 done ab w) (hn:[p,c,mv,x0,x1,a,s].Nodup) (hc:done mv=true):∃ cs:List Value,ab mv=.tuple #[.agg cs.toArray,er]∧CJ t m tp xs er zc T p c mv x0 x1 a s B0 (eT done x1) (cA ab x1 er) w:=by
  obtain ⟨h0,h1,cs,hl,ho,h2,h3,h4,h5,h6⟩:=j
  have n1:p≠x1:=bd (i:=0) (j:=4) hn rfl rfl zq
  have n2:c≠x1:=bd (i:=1) (j:=4) hn rfl rfl zq
  have n3:mv≠x1:=bd (i:=2) (j:=4) hn rfl rfl zq
  have n4:x0≠x1:=bd (i:=3) (j:=4) hn rfl rfl zq
  have n5:a≠x1:=bd (i:=5) (j:=4) hn rfl rfl zq
  have n6:s≠x1:=bd (i:=6) (j:=4) hn rfl rfl zq
  refine ⟨cs,h3 hc,?_⟩
  simp only [CJ,eT,cA,if_neg n1,if_neg n2,if_neg n3,if_neg n4,if_neg n5,if_neg n6,if_true]
  exact ⟨h0,h1,cs,hl,ho,h2,h3,h4,fun _=>trivial,h6⟩
theorem CJ.al {b:Nat} (j:CJ t m tp xs er zc T p c mv x0 x1 a s B0 done ab w) (hn:[p,c,mv,x0,x1,a,s].Nodup) (hs:done s=false) (hb:b=w.heap.size) (hB:dh w' b zc T) (e:aX w w'):CJ t m tp xs er zc T p c mv x0 x1 a s B0 (eT done a) (cA ab a (.pointer (some ⟨b,0,none⟩))) w':=by
  obtain ⟨h0,h1,cs,hl,ho,h2,h3,h4,h5,h6⟩:=j
  have n1:p≠a:=bd (i:=0) (j:=5) hn rfl rfl zq
  have n2:c≠a:=bd (i:=1) (j:=5) hn rfl rfl zq
  have n3:mv≠a:=bd (i:=2) (j:=5) hn rfl rfl zq
  have n4:x0≠a:=bd (i:=3) (j:=5) hn rfl rfl zq
  have n5:x1≠a:=bd (i:=4) (j:=5) hn rfl rfl zq
  have n6:s≠a:=bd (i:=6) (j:=5) hn rfl rfl zq
  simp only [CJ,eT,cA,if_neg n1,if_neg n2,if_neg n3,if_neg n4,if_neg n5,if_neg n6,if_true]
  refine ⟨Nat.le_trans h0 e.size,fun hd hq=>?_,cs,hl,ho,fun hd=>⟨(h2 hd).1,?_⟩,h3,h4,h5,fun _=>⟨b,rfl,by omega,by rw [hs];exact hB⟩⟩
  · refine ((h1 hd hq).mono (F':=fun i=>B0≤i∧i < w.heap.size) fun i hi h=>⟨h.1,hi⟩).ext e |>.mono fun i _ h=>⟨h.1,fun _ he=>?_⟩
    cases he;have:=h.2;omega
  · refine t.mono (t.keep (t.mono (h2 hd).2 (F':=fun i=>B0≤i∧i < w.heap.size) fun i hi h=>⟨h.1,hi⟩) e fun _ _ _ h=>h) fun i _ h=>⟨h.1,fun _ he=>?_⟩
    cases he;have:=h.2;omega
theorem CJ.st {b:Nat} {cs':List Value} (j:CJ t m tp xs er zc T p c mv x0 x1 a s B0 done ab w) (hn:[p,c,mv,x0,x1,a,s].Nodup) (hd0:done x0=true) (hda:done a=true) (hb:ab a=.pointer (some ⟨b,0,none⟩)) (hv:ab x0=.agg cs'.toArray) (hB:dh w' b cs' T) (k:ao (fun k=>k=b) w w'):CJ t m tp xs er zc T p c mv x0 x1 a s B0 (eT done s) (cA ab s undef) w':=by
  obtain ⟨h0,h1,cs,hl,ho,h2,h3,h4,h5,h6⟩:=j
  have n1:p≠s:=bd (i:=0) (j:=6) hn rfl rfl zq
  have n2:c≠s:=bd (i:=1) (j:=6) hn rfl rfl zq
  have n3:mv≠s:=bd (i:=2) (j:=6) hn rfl rfl zq
  have n4:x0≠s:=bd (i:=3) (j:=6) hn rfl rfl zq
  have n5:x1≠s:=bd (i:=4) (j:=6) hn rfl rfl zq
  have n6:a≠s:=bd (i:=5) (j:=6) hn rfl rfl zq
  have hcs:cs'=cs:=by
    have h7:=h4 hd0
    rw [hv] at h7
    simpa using h7
  subst hcs
  simp only [CJ,eT,cA,if_neg n1,if_neg n2,if_neg n3,if_neg n4,if_neg n5,if_neg n6,if_true]
  refine ⟨Nat.le_trans h0 k.size,fun hd hq=>(h1 hd hq).keep k fun i _ h he=>h.2 hda (by subst he;exact hb),cs',hl,ho,fun hd=>⟨(h2 hd).1,t.keep (h2 hd).2 k fun i _ h he=>h.2 hda (by subst he;exact hb)⟩,h3,h4,h5,fun _=>?_⟩
  obtain ⟨b',hb',hb0,_⟩:=h6 hda
  rw [hb] at hb';cases hb'
  exact ⟨b,hb,hb0,hB⟩
theorem CJ.seen (j:CJ t m tp xs er zc T p c mv x0 x1 a s B0 done ab w) (hd0:done x0=true) (hda:done a=true) (hs:done s=false):∃ (b:Nat) (cs:List Value),ab a=.pointer (some ⟨b,0,none⟩)∧ab x0=.agg cs.toArray∧B0≤b∧dh w b zc T∧cs.length=t.sz∧∀ u ∈ cs,u.oneCell'=true:=by
  obtain ⟨h0,h1,cs,hl,ho,h2,h3,h4,h5,h6⟩:=j
  obtain ⟨b,hb,hb0,hB⟩:=h6 hda
  rw [hs] at hB
  exact ⟨b,cs,hb,h4 hd0,hb0,hB,hl,ho⟩
theorem CJ.fin (j:CJ t m tp xs er zc T p c mv x0 x1 a s B0 (fun _=>true) ab w):∃ (b:Nat) (cs:List Value),ab c=.tuple #[.agg cs.toArray,er]∧ab mv=.tuple #[.agg cs.toArray,er]∧ab x0=.agg cs.toArray∧ab x1=er∧ab a=.pointer (some ⟨b,0,none⟩)∧B0≤b∧dh w b cs T∧aY t w (fun i=>B0≤i∧i≠b) (.agg cs.toArray) m∧(p≠99→bs tp w (fun i=>B0≤i∧i≠b) (ab p) xs):=by
  obtain ⟨h0,h1,cs,hl,ho,h2,h3,h4,h5,h6⟩:=j
  obtain ⟨b,hb,hb0,hB⟩:=h6 rfl
  refine ⟨b,cs,(h2 rfl).1,h3 rfl,h4 rfl,h5 rfl,hb,hb0,hB,⟨cs,rfl,t.mono (h2 rfl).2 fun i _ h=>⟨h.1,fun he=>h.2 rfl (by rw [he];exact hb)⟩⟩,fun hq=>(h1 rfl hq).mono fun i _ h=>⟨h.1,fun he=>h.2 rfl (by rw [he];exact hb)⟩⟩
end
end Go.Vc
namespace Go.Vc
end Go.Vc
namespace Go.Vc
def dZ (m:lz) (p:cO→Bool):Option Nat:=if cY m then m.2.findIdx? p else none
def dP:Option Nat→Int
  | some i=>i
  | none=>-1
def fV:cO:=([],[],false,0)
def oN:lz:=(0,[])
def kb (l:List cO):Option Nat→cO
  | some i=>l.getD i fV
  | none=>fV
def ge (k:List UInt8) (r:cO):Bool:=decide (r.1=k)
def mq (k:List UInt8) (r:cO):Bool:=rz r k
def ep (k:List UInt8):Bool:=decide (1≤k.length) && decide (k.length≤24)
def jE (e:Int) (rs:List cO):lz × Int:=if e=2147483647∨16 < rs.length then (oN,5) else ((e + 1,rs),0)
def gv (m:lz) (k:List UInt8):lz × Int:=
  if (cY m && ep k)=false then (oN,2) else if (dZ m (ge k)).isSome then (oN,7) else match dZ m (mq k) with
    | none=>(oN,0)
    | some i=>jE m.1 (m.2.take i ++ [((m.2.getD i fV).1,k,true,(m.2.getD i fV).2.2.2),(k,(m.2.getD i fV).2.1,(m.2.getD i fV).2.2.1,(m.2.getD i fV).2.2.2)] ++ m.2.drop (i + 1))
def fI (m:lz) (k:List UInt8):lz × Int:=
  if (cY m && ep k)=false then (oN,2) else match dZ m (ge k) with
    | none=>(oN,6)
    | some i=>if (m.2.getD i fV).2.2.2≠(m.2.getD (i - 1) fV).2.2.2 then (oN,9) else
      jE m.1 (m.2.take (i - 1) ++ [((m.2.getD (i - 1) fV).1,(m.2.getD i fV).2.1,(m.2.getD i fV).2.2.1,(m.2.getD (i - 1) fV).2.2.2)] ++ m.2.drop (i + 1))
def fx (m:lz) (k:List UInt8) (g:Int):lz × Int:=
  if (cY m && dJ g && decide (k.length≤24))=false then (oN,2) else match dZ m (ge k) with
    | none=>(oN,6)
    | some i=>if (m.2.getD i fV).2.2.2=g then (oN,9) else jE m.1 (m.2.set i ((m.2.getD i fV).1,(m.2.getD i fV).2.1,(m.2.getD i fV).2.2.1,g))
theorem cP {m:lz} (h:cY m=true):1≤m.1∧m.1≤2147483647∧1≤m.2.length∧m.2.length≤16∧(m.2.headD ([],[],false,0)).1=[]∧fl m.2=true:=by
  simp only [cY,Bool.and_eq_true,decide_eq_true_eq] at h
  exact ⟨h.1.1.1.1.1,h.1.1.1.1.2,h.1.1.1.2,h.1.1.2,List.isEmpty_iff.1 h.1.2,h.2⟩
theorem nl:∀ (l:List cO),fl l=true→(l.headD fV).1.length≤24→∀ r ∈ l,r.1.length≤24∧r.2.1.length≤24∧dJ r.2.2.2=true
  | [],_,_,r,hr=>by cases hr
  | [r0],h,h0,r,hr=>by
    simp only [List.mem_singleton] at hr;subst hr
    simp only [fl,Bool.and_eq_true] at h
    have:=List.isEmpty_iff.1 h.2
    exact ⟨h0,by rw [this];simp,h.1.1⟩
  | r0 :: s :: l,h,h0,r,hr=>by
    simp only [fl,Bool.and_eq_true,decide_eq_true_eq] at h
    rcases List.mem_cons.1 hr with rfl | hr
    · exact ⟨h0,h.1.1.1.2,h.1.1.1.1.1⟩
    · exact nl (s :: l) h.2 (by simp only [List.headD_cons];rw [← h.1.2];exact h.1.1.1.2) r hr
theorem eA {m:lz} (h:cY m=true):∀ r ∈ m.2,r.1.length≤24∧r.2.1.length≤24∧dJ r.2.2.2=true:=by
  obtain ⟨_,_,_,_,h5,h6⟩:=cP h
  exact nl m.2 h6 (by
    have:(m.2.headD fV).1=[]:=h5
    rw [this];simp)
theorem gF {n:Int} (h:dJ n=true):1≤n∧n < 5:=by
  simp only [dJ,Bool.and_eq_true,decide_eq_true_eq] at h;exact h
theorem oP {k:List UInt8}:∀ (l:List cO),fl l=true→l≠[]→¬ k < (l.headD fV).1→∃ r ∈ l,rz r k=true
  | [],_,h,_=>absurd rfl h
  | [r],h,_,h0=>by
    simp only [fl,Bool.and_eq_true] at h
    simp only [List.headD_cons] at h0
    refine ⟨r,List.mem_singleton.2 rfl,?_⟩
    have he:r.2.2.1=false:=by have:=h.1.2;revert this;cases r.2.2.1 <;> simp
    rw [rz,decide_eq_false h0,he];rfl
  | r :: s :: l,h,_,h0=>by
    simp only [fl,Bool.and_eq_true,decide_eq_true_eq] at h
    simp only [List.headD_cons] at h0
    by_cases hk:k < r.2.1
    · refine ⟨r,List.mem_cons_self,?_⟩
      rw [rz,decide_eq_false h0,decide_eq_true hk];cases r.2.2.1 <;> rfl
    · obtain ⟨q,hq,hh⟩:=oP (s :: l) h.2 (by simp) (by simp only [List.headD_cons];rw [← h.1.2];exact hk)
      exact ⟨q,List.mem_cons_of_mem _ hq,hh⟩
theorem pL (k:List UInt8):¬ k < []:=by simp
theorem sW {m:lz} (h:cY m=true) (k:List UInt8):∃ i,dZ m (mq k)=some i∧i < m.2.length:=by
  obtain ⟨_,_,h3,_,h5,h6⟩:=cP h
  obtain ⟨r,hr,hh⟩:=oP (k:=k) m.2 h6 (by intro h;rw [h] at h3;simp at h3) (by
    have:(m.2.headD fV).1=[]:=h5
    rw [this];exact pL k)
  rw [dZ,if_pos h]
  cases hf:m.2.findIdx? (mq k) with
  | none=>
    rw [List.findIdx?_eq_none_iff] at hf
    have:=hf r hr
    rw [mq,hh] at this;cases this
  | some i=>
    rw [List.findIdx?_eq_some_iff_getElem] at hf
    exact ⟨i,rfl,hf.1⟩
theorem ku {m:lz} {p:cO→Bool} {i:Nat} (h:dZ m p=some i):cY m=true∧i < m.2.length∧p (m.2.getD i fV)=true:=by
  unfold dZ at h
  split at h
  · rename_i hm
    rw [List.findIdx?_eq_some_iff_getElem] at h
    obtain ⟨h1,h2,_⟩:=h
    refine ⟨hm,h1,?_⟩
    have e1:m.2.getD i fV=m.2[i]:=by simp [h1]
    rw [e1];exact h2
  · cases h
theorem fR {l:List cO} {i:Nat} (h:i < l.length):l[i]? = some (l.getD i fV):=by
  simp [List.getD_eq_getElem?_getD,h]
theorem fX {l:List cO} {i:Nat} (h:i < l.length):l.getD i fV ∈ l:=List.mem_of_getElem? (fR h)
theorem us {m:lz} {k:List UInt8} {i:Nat} (h:dZ m (ge k)=some i) (hk:ep k=true):1≤i:=by
  obtain ⟨h1,h2,h3⟩:=ku h
  obtain ⟨_,_,_,_,h5,_⟩:=cP h1
  rcases Nat.eq_zero_or_pos i with rfl | h0
  · exfalso
    simp only [ge,decide_eq_true_eq] at h3
    have h6:m.2.getD 0 fV=m.2.headD fV:=by cases m.2 <;> rfl
    rw [h6] at h3
    have h7:(m.2.headD fV).1=[]:=h5
    rw [h7] at h3
    subst h3
    simp [ep] at hk
  · exact h0
theorem iW {o:Option Nat}:dP o < 0↔o=none:=by
  cases o with
  | none=>simp [dP]
  | some i=>simp [dP]
end Go.Vc
namespace Go.Vc
def qn (r:cO) (k:List UInt8):Bool:=dJ r.2.2.2 && r.2.2.1 && decide (r.2.1.length≤24) && decide (r.1 < r.2.1) && decide (r.2.1=k)
theorem mh (r s:cO) (l:List cO):fl (r :: s :: l)=(qn r s.1 && fl (s :: l)):=rfl
theorem oS {x y z:List UInt8} (h1:x < y) (h2:y < z):x < z:=List.lt_trans h1 h2
end Go.Vc

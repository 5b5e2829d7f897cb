/- Steps and lemmas for the walks. -/
import Derived.Test.YteehplloacefmaaGreatGa
import Derived.ProofKit
import Derived.OpenShut
import Derived.ShutString
import Derived.ChangeOld
import Derived.Below
import Derived.ChangeKeysEq
import Derived.Laws.ResultCell
import Derived.Laws.StructEq
set_option linter.unusedVariables false
set_option linter.unusedSimpArgs false
namespace Go.Vc
def fU (l:List Value) (o:Nat) (cs:List Value):List Value:=l.take o ++ cs ++ l.drop (o + cs.length)
theorem rA (cs arr:Array Value) (o:Nat) (h:o + cs.size≤arr.size):(cs.zipIdx.foldl (fun a (c,j)=>a.setIfInBounds (o + j) c) arr).toList=fU arr.toList o cs.toList:=by
  have key:∀ (l:List Value) (k:Nat) (a:Array Value),o + k + l.length≤a.size→((l.zipIdx k).foldl (fun a x=>a.setIfInBounds (o + x.2) x.1) a).toList=fU a.toList (o + k) l:=by
    intro l
    induction l with
    | nil=>intro k a _;simp [fU]
    | cons y l ih=>
      intro k a hk
      simp only [List.length_cons] at hk
      simp only [List.zipIdx_cons,List.foldl_cons]
      rw [ih (k + 1) _ (by simp;omega)]
      have ho:o + k < a.toList.length:=by simp;omega
      simp only [fU,Array.toList_setIfInBounds,List.length_cons]
      rw [show o + (k + 1)=(o + k) + 1 by omega]
      rw [List.take_set,List.drop_set]
      rw [if_pos zo]
      rw [List.take_succ_eq_append_getElem ho]
      rw [List.set_append_right _ _ (by simp;omega)]
      have e1:(o + k - (List.take (o + k) a.toList).length)=0:=by simp;omega
      rw [e1]
      simp only [List.set_cons_zero,List.append_assoc,List.cons_append,List.nil_append]
      rw [show o + k + 1 + l.length=o + k + (l.length + 1) by omega]
  rw [← Array.foldl_toList]
  have e3:cs.zipIdx.toList=cs.toList.zipIdx 0:=by simp
  rw [e3]
  have:=key cs.toList 0 arr (by simpa using h)
  rw [Nat.add_zero] at this
  exact this
def iG (place:Nat→Option (Nat × Nat)):List Value→List (Nat × Value)→Option (List Value)
  | l,[]=>some l
  | l,(i,v) :: ca=>match place i with
    | none=>none
    | some (off,size)=>if v.cells.toList.length=size∧off + size≤l.length then iG place (fU l off v.cells.toList) ca else none
theorem ju (place:Nat→Option (Nat × Nat)):∀ (ps:List (Nat × Value)) (l r:List Value),iG place l ps=some r→Instr.fill place l.toArray ps=some r.toArray
  | [],l,r,h=>by simp [iG] at h;subst h;rfl
  | (i,v) :: ca,l,r,h=>by
    simp only [iG] at h
    simp only [Instr.fill]
    cases hp:place i with
    | none=>simp [hp] at h
    | some os=>
      obtain ⟨off,size⟩:=os
      simp only [hp] at h ⊢
      split at h
      · rename_i hc
        have h1:v.cells.size=size:=by simpa using hc.1
        have h2:¬ (v.cells.size≠size || decide (off + v.cells.size > l.toArray.size))=true:=by
          have:=hc.2
          simp [h1];omega
        rw [if_neg h2]
        have hz:=rA v.cells l.toArray off (by rw [h1];simpa using hc.2)
        have:=ju place ca _ r h
        rw [show fU l off v.cells.toList=fU l.toArray.toList off v.cells.toList from rfl,← hz] at this
        simpa using this
      · cases h
def oL (P:Program) (t:TypeId):Option (List (Nat × Nat)):=match P.underlying t with
  | some (.struct fs)=>fs.toList.mapM fun f=>(P.info? f.type).map fun i=>(f.offset,i.size)
  | _=>none
theorem lP {P:Program}:∀ (l:List Field) (pl:List (Nat × Nat)) (w:World),l.mapM (fun f=>(P.info? f.type).map fun i=>(f.offset,i.size))=some pl→(l.mapM (fun f=>(do pure (f.offset,← sizeOf f.type):Sem (Nat × Nat)))).run P w=.ok pl w
  | [],pl,w,h=>by simp at h;subst h;rfl
  | f :: l,pl,w,h=>by
    simp only [List.mapM_cons] at h ⊢
    cases hi:P.info? f.type with
    | none=>simp [hi] at h
    | some i=>
      simp only [hi,Option.map_some] at h
      cases hl:l.mapM (fun f=>(P.info? f.type).map fun i=>(f.offset,i.size)) with
      | none=>simp [hl] at h
      | some pl'=>
        simp [hl] at h
        subst h
        have ih:=lP l pl' w hl
        simp only [Sem.run_bind,Sem.run_pure,sizeOf,typeInfo,hi,program,Sem.run,Result.andThen] at ih ⊢
        simp [sizeOf,typeInfo,hi,Sem.run] at ih ⊢
        rw [ih]
section
variable {P:Program} {d:Option Tmp} {ty:TypeId} {p:String} {af:Array Edge} {g:Option (Nat × Bool)} {e:Nat→Value} {w:World} {K:Value→World→Prop} {α:Type}
theorem aV {t:TypeId} {parts:Array (Nat × Operand)} {z:Value} {pl:List (Nat × Nat)} {zl cells:List Value} {ps:List (Nat × Value)} (hpl:oL P t=some pl) (hz:aE P t z) (hzl:z.cells.toList=zl) (hps:parts.toList.map (fun x=>(x.1,ev e x.2))=ps) (hf:iG (pl[·]?) zl ps=some cells) :
    aG P ⟨d,.build t parts,ty,p,af,g⟩ e w (.agg cells.toArray):=by
  unfold oL at hpl
  split at hpl
  · rename_i fs hu
    have hpr:=lP (P:=P) fs.toList pl w hpl
    have hfill:=ju _ _ _ _ hf
    subst hzl
    unfold aE at hz
    cases hi:P.info? t with
    | none=>simp [hi] at hz
    | some i=>
      simp [hi] at hz
      have hpa:(fs.mapM (fun f=>(do pure (f.offset,← sizeOf f.type):Sem (Nat × Nat)))).run P w=.ok pl.toArray w:=by
        rw [Array.mapM_eq_mapM_toList,Sem.run_map,hpr]
        rfl
      simp only [aG,execOp,Instr.build]
      simp [zeroValue,typeInfo,hi,hz,run_underlying hu]
      have hpa':=hpa
      simp at hpa'
      rw [hpa']
      simp
      rw [hps]
      have:Instr.fill (fun x=>pl[x]?) z.cells ps=some cells.toArray:=by simpa using hfill
      rw [this]
      rfl
  · cases hpl
def cQ (P:Program) (et n:Nat) (zl:List Value):Prop:=(P.info? et).bind (fun i=>i.zero.map fun z=>((Array.range (n * i.size)).map (z.cells[· % z.cells.size]!)).toList)=some zl
theorem ry {P:Program} {et n:Nat} {zl:List Value} (h:cQ P et n zl):∃ i z,P.info? et=some i∧i.zero=some z∧((Array.range (n * i.size)).map (z.cells[· % z.cells.size]!)).toList=zl:=by
  unfold cQ at h
  cases hi:P.info? et with
  | none=>simp [hi] at h
  | some i=>
    rw [hi] at h
    simp only [Option.bind_some] at h
    cases hz:i.zero with
    | none=>simp [hz] at h
    | some z=>rw [hz] at h;exact ⟨i,z,rfl,hz,Option.some.inj h⟩
theorem cz {t:Ty α} {T et bytes n:Nat} {parts:Array (Nat × Operand)} {ps:List (Nat × Value)} {zl cells:List Value} {F:Nat→Prop} {xs:List α} (hk:gj P T et t.sz bytes=true) (hn:0 < n) (hsz:n * t.sz≤16777216) (hz:cQ P et n zl)
    (hps:parts.toList.map (fun x=>(x.1,ev e x.2))=ps) (hf:iG (fun i=>some (i * t.sz,t.sz)) zl ps=some cells) (hlen:cells.length=n * t.sz) (hxs:xs.length=n) (hrep:∀ i x,xs[i]? = some x→t.rep w F ((cells.drop (i * t.sz)).take t.sz) x)
    (k:∀ b w',b=w.heap.size→ck t et w' b (fun b=>F b∧b < w.heap.size) (.slice (some ⟨b,0,none⟩) n n) xs→aX w w'→w'.heap.size=b + 1→K (.slice (some ⟨b,0,none⟩) n n) w') :
    bx P ⟨d,.buildSlice T n parts,ty,p,af,g⟩ e w K:=by
  obtain ⟨ht,i,z,hi,hzz,hzs,his,hib⟩:=fW hk
  obtain ⟨i',z',hi',hz',hzl⟩:=ry hz
  rw [hi] at hi';cases hi'
  rw [hzz] at hz';cases hz'
  have hfill:=ju _ _ _ _ hf
  have hpos:=t.pos
  have hr':(execOp (ev e) ⟨d,.buildSlice T n parts,ty,p,af,g⟩).run P w=.ok (.value (.slice (some ⟨w.heap.size,0,none⟩) n n)) (w.alloc (.cells cells.toArray et)):=by
    have hs2:¬ (n * t.sz=0):=by
      intro h0
      rcases Nat.mul_eq_zero.1 h0 with h | h <;> omega
    have hs1:¬ (16777216 < n * t.sz):=by omega
    simp only [execOp,Instr.buildSlice]
    simp [run_underlying ht,sizeOf,typeInfo,zeroValue,hi,hzz,his,hs1,hs2,newRow,newObj]
    rw [his] at hzl
    have hza:(Array.range (n * t.sz)).map (fun x=>z.cells[x % z.cells.size]!)=zl.toArray:=by rw [← hzl]
    rw [hza,hps,hfill]
    simp [Sem.run]
  unfold bx
  rw [hr']
  refine k _ _ rfl ⟨cells,⟨by rw [hlen,hxs],.inr ⟨w.heap.size,n,cells.toArray,by rw [hxs],Nat.le_refl _,heap_alloc_new w _,by rw [hxs];exact Nat.le_refl _,?_,by simp [hlen],?_⟩⟩,fun j y hy=>?_⟩ (aX.alloc _ _) (by simp)
  · have:n≤n * t.sz:=Nat.le_mul_of_pos_right n hpos
    simp only [maxLen];omega
  · rw [List.take_of_length_le];rw [hxs];simp [hlen]
  · refine t.mono (t.keep (K:=aP) (t.mono (hrep j y hy) fun b hb hF=>(⟨hF,hb⟩:F b∧b < w.heap.size)) (aX.alloc _ _) fun _ _ _ x=>x) fun b hb hF=>⟨hF,?_⟩
    simp only [Value.ownBlock]
    intro h
    have:=Option.some.inj h
    omega
theorem jp {t:Ty α} {T et bytes:Nat} (hk:gj P T et t.sz bytes=true)
    (k:∀ b w',b=w.heap.size→ck t et w' b aP (.slice (some ⟨b,0,none⟩) 0 0) []→aX w w'→w'.heap.size=b + 1→K (.slice (some ⟨b,0,none⟩) 0 0) w') :
    bx P ⟨d,.buildSlice T 0 #[],ty,p,af,g⟩ e w K:=by
  obtain ⟨ht,i,z,hi,hzz,hzs,his,hib⟩:=fW hk
  have hr':(execOp (ev e) ⟨d,.buildSlice T 0 #[],ty,p,af,g⟩).run P w=.ok (.value (.slice (some ⟨w.heap.size,0,none⟩) 0 0)) (w.alloc (.cells #[] et)):=by
    simp only [execOp,Instr.buildSlice]
    simp [run_underlying ht,sizeOf,typeInfo,zeroValue,hi,hzz,his,newRow,newObj,Instr.fill,Sem.run]
    congr 2
    apply Array.ext <;> simp
  unfold bx
  rw [hr']
  exact k _ _ rfl ⟨[],⟨by simp,.inr ⟨w.heap.size,0,#[],rfl,Nat.le_refl _,heap_alloc_new w _,Nat.le_refl _,by simp [maxLen],by simp,by simp⟩⟩,fun j y hy=>by simp at hy⟩ (aX.alloc _ _) (by simp)
end
end Go.Vc
namespace Go.Vc
section
variable {α:Type} {P:Program} {d:Option Tmp} {ty:TypeId} {p:String} {af:Array Edge} {g:Option (Nat × Bool)} {e:Nat→Value} {w:World} {x y c:Operand} {K:Value→World→Prop}
theorem ck.pv {t:Ty α} {et:TypeId} {B b n cc k:Nat} {F:Nat→Prop} {xs:List α} {xx:α} (h:ck t et w B F (.slice (some ⟨b,0,none⟩) n cc) xs) (hk:xs[k]? = some xx):∃ cs,Pv w ⟨b,k * t.sz,none⟩ cs∧t.rep w (fun b'=>F b'∧b≠b') cs xx:=by
  obtain ⟨cells,h1,h2⟩:=h
  refine ⟨_,fun j u hu=>?_,t.mono (h2 k xx hk) fun b' _ hb=>⟨hb.1,fun he=>hb.2 (by subst he;rfl)⟩⟩
  rcases h1.2 with ⟨he,_⟩ | ⟨g',cap,cur,he,hB,hg,h3,h4,h5,h6⟩
  · cases he
  · cases he
    rw [eE,cell_of_row w _ _ cur et (0,0) hg]
    have hjlt:j < t.sz:=by
      have:=(List.getElem?_eq_some_iff.1 hu).1
      simp at this;omega
    rw [List.getElem?_take,if_pos hjlt,List.getElem?_drop,← h6,List.getElem?_take] at hu
    split at hu
    · simpa using hu
    · cases hu
theorem ck.cell1 {et:TypeId} {B b n cc k:Nat} {F:Nat→Prop} {xs:List UInt8} {xx:UInt8} (h:ck cw et w B F (.slice (some ⟨b,0,none⟩) n cc) xs) (hk:xs[k]? = some xx):w.cell? ((⟨b,0,none⟩:Addr).add (k * 1))=some (.int .u8 xx.toNat):=by
  obtain ⟨cs,hp,hr⟩:=h.pv hk
  have:=qm hp hr
  rw [eE,Nat.zero_add]
  exact this
theorem hC {t:Ty α} {T et B b n cc k off:Nat} {F:Nat→Prop} {xs:List α} {x0 x1:α} {u:Value} {a:Addr} (hx:ev e x=.pointer (some a)) (ha:a=⟨b,k * t.sz + off,none⟩) (hoff:off < t.sz) (hy:ev e y=u) (h1:u.oneCell'=true) (hs:gQ P T 1=true)
    (hv:ck t et w B F (.slice (some ⟨b,0,none⟩) n cc) xs) (hk:xs[k]? = some x0) (hrep:∀ cs,t.rep w (fun b'=>F b'∧b≠b') cs x0→t.rep w (fun b'=>F b'∧b≠b') (cs.set off u) x1)
    (r:∀ w',ck t et w' B F (.slice (some ⟨b,0,none⟩) n cc) (xs.set k x1)→ao (fun k=>k=b) w w'→w'.heap.size=w.heap.size→K undef w'):bx P ⟨d,.store T x y,ty,p,af,g⟩ e w K:=by
  obtain ⟨cells,hown,hreps⟩:=hv
  rcases hown.2 with ⟨he,_⟩ | ⟨g',cap,cur,he,hB,hg,h3,h4,h5,h6⟩
  · cases he
  · simp only [Value.slice.injEq,Option.some.injEq,Addr.mk.injEq] at he
    obtain ⟨⟨rfl,_⟩,hnn,rfl⟩:=he
    have hklt:k < xs.length:=(List.getElem?_eq_some_iff.1 hk).1
    have hcl:cells.length=xs.length * t.sz:=hown.1
    have hb:dh w b cur.toList et:=by unfold dh;simpa using hg
    have hle:(k + 1) * t.sz≤xs.length * t.sz:=Nat.mul_le_mul_right _ hklt
    have hle2:xs.length * t.sz≤cc * t.sz:=Nat.mul_le_mul_right _ zo
    have hi:k * t.sz + off < cur.toList.length:=by
      rw [Nat.succ_mul] at hle
      simp;omega
    refine aR hx ha hy h1 hs hb hi fun w' hb' hk' hz'=>r w' ⟨cells.set (k * t.sz + off) u,⟨by simpa using hcl,.inr ⟨b,cc,(cur.toList.set (k * t.sz + off) u).toArray,?_,hB,hb',by simpa using h3,h4,by simpa using h5,?_⟩⟩,?_⟩ hk' hz'
    · simp only [List.length_set];rw [hnn]
    · simp only [List.length_set]
      rw [List.take_set,h6]
    · intro i y hy'
      have hcong:(fun b'=>F b'∧(Value.slice (some ⟨b,0,none⟩) n cc).ownBlock≠some b')=(fun b'=>F b'∧b≠b'):=by
        funext b'
        simp [Value.ownBlock]
      have hkeep:∀ cs z,t.rep w (fun b'=>F b'∧b≠b') cs z→t.rep w' (fun b'=>F b'∧b≠b') cs z:=fun cs z hr=>t.keep hr hk' fun b' _ hb he=>hb.2 he.symm
      rw [hcong] at hreps ⊢
      by_cases hik:i=k
      · subst hik
        rw [List.getElem?_set_self zo] at hy'
        cases hy'
        have hseg:((cells.set (i * t.sz + off) u).drop (i * t.sz)).take t.sz=((cells.drop (i * t.sz)).take t.sz).set off u:=by
          rw [List.drop_set,if_neg zo,Nat.add_sub_cancel_left,List.take_set]
        rw [hseg]
        exact hkeep _ _ (hrep _ (hreps i x0 hk))
      · rw [List.getElem?_set_ne zo] at hy'
        have hseg:((cells.set (k * t.sz + off) u).drop (i * t.sz)).take t.sz=(cells.drop (i * t.sz)).take t.sz:=by
          rw [List.drop_set]
          split
          · rfl
          · rename_i hlt
            rw [List.take_set]
            apply List.set_eq_of_length_le
            simp
            have:i < k:=by
              rcases Nat.lt_or_ge i k with h | h
              · exact h
              · exfalso
                have h7:k < i:=by omega
                have:=Nat.mul_le_mul_right t.sz (show k + 1≤i by omega)
                rw [Nat.succ_mul] at this
                omega
            have:=Nat.mul_le_mul_right t.sz (show i + 1≤k by omega)
            rw [Nat.succ_mul] at this
            omega
        rw [hseg]
        exact hkeep _ _ (hreps i y hy')
end
theorem aq {P:Program} {d:Option Tmp} {ty:TypeId} {p:String} {af:Array Edge} {g:Option (Nat × Bool)} {e:Nat→Value} {w:World} {x y:Operand} {K:Value→World→Prop}
    {t:TypeId} {b i n:Nat} {cs0:List Value} {T:TypeId} {cs:Array Value} {a:Addr} (hx:ev e x=.pointer (some a)) (ha:a=⟨b,i,none⟩) (hy:ev e y=.agg cs) (hs:gQ P t n=true) (hn:cs.toList.length=n) (h1:∀ u ∈ cs.toList,u.oneCell'=true) (hb:dh w b cs0 T) (hi:i + n≤cs0.length)
    (k:∀ w',dh w' b (fU cs0 i cs.toList) T→ao (fun k=>k=b) w w'→w'.heap.size=w.heap.size→K undef w'):bx P ⟨d,.store t x y,ty,p,af,g⟩ e w K:=by
  subst ha
  have hst:=run_storeCells_at P b i T cs.toList 0 cs0.toArray w hb (by simpa using (by omega:i + cs.toList.length≤cs0.length)) h1
  simp only [Nat.add_zero] at hst
  have hn':cs.size=n:=by simpa using hn
  have hr:(execOp (ev e) ⟨d,.store t x y,ty,p,af,g⟩).run P w=.ok .skip (w.setRow b (cs0.toArray.toList.take i ++ cs.toList ++ cs0.toArray.toList.drop (i + cs.toList.length)).toArray):=by
    simp only [execOp,hx,hy]
    simp [Instr.storeAt,Instr.sureAddr,storeVar,Value.cells,em hs,hn',hst]
  unfold bx
  rw [hr]
  exact k _ (setRow_heap w b cs0.toArray _ T _ hb) ⟨rfl,rfl,rfl,by simp [World.setRow],fun j _ hj=>setRow_other w b j _ hj⟩ (by simp [World.setRow])
theorem bs.at8 {w:World} {F:Nat→Prop} {a:Addr} {n c k:Nat} {l:List UInt8} {x:UInt8} (h:Bv w F (.slice (some a) n c) l) (hk:l[k]? = some x):w.cell? (a.add (k * 1))=some (.int .u8 x.toNat):=by
  obtain ⟨a',c',hv,h1,h2,h3,h4⟩:=h
  obtain ⟨q,cs,hq,hF,hp,hr⟩:=h4 k x hk
  simp only [Value.slice.injEq] at hv
  rw [hq] at hv
  have:=Option.some.inj hv.1
  subst this
  exact qm hp hr
theorem aG.as {P:Program} {o:Oper} {e:Nat→Value} {w:World} {b c:Bool} (h:aG P o e w (.bool c)) (hb:c=b):aG P o e w (.bool b):=by subst hb;exact h
section
variable {P:Program} {d:Option Tmp} {ty:TypeId} {p:String} {af:Array Edge} {g:Option (Nat × Bool)} {e:Nat→Value} {w:World} {x y c:Operand}
theorem r9 {q:Bool} (hc:ev e c=.bool false) (hy:ev e y=.bool q):aG P ⟨d,.pick c (.const (.bool true)) y,ty,p,af,g⟩ e w (.bool q):=nC hc rfl hy
theorem dn {q:Bool} (hc:ev e c=.bool true) (hy:ev e y=.bool q):aG P ⟨d,.pick c y (.const (.bool false)),ty,p,af,g⟩ e w (.bool q):=nC hc hy rfl
end
section
variable {P:Program} {N:Nat} {ops:Array Oper} {Q:Exit→Act→World→Prop} {K:Nat→Prop} {e0:Nat→Value} {w0:World} {l:List Oper} {k:Nat} {S:Nat→Value→World→Prop}
theorem sr {d:Option Tmp} {op:Op} {ty:TypeId} {p:String} {af:Array Edge} {g:Nat} {b:Bool} {tt:Tmp} (Sk:Value→World→Prop)
    (hs:∀ v w w',Sk v w→ao K w w'→Sk v w') (hg:(ops[g]?).bind (·.dst)=some tt)
    (hc:∀ ab w,(∀ j,bq ⟨d,op,ty,p,af,some (g,b)⟩ j=true→S j (ab j) w)→dF ops ab e0 k tt=.bool b)
    (h:∀ ab w,ao K w0 w→(∀ j,bq ⟨d,op,ty,p,af,some (g,b)⟩ j=true→S j (ab j) w)→bx P ⟨d,op,ty,p,af,some (g,b)⟩ (dF ops ab e0 k) w (fun v w'=>ao K w w'∧Sk v w'))
    (r:fN P N ops Q K e0 w0 l (k + 1) (eS S k Sk)):fN P N ops Q K e0 w0 (⟨d,op,ty,p,af,some (g,b)⟩ :: l) k S:=by
  refine ⟨Sk,hs,fun ab w hR hd=>?_,r⟩
  unfold kG
  rw [jm hg (hc ab w hd)]
  simp only [beq_self_eq_true,if_true]
  exact h ab w hR hd
theorem dw {d:Option Tmp} {op:Op} {ty:TypeId} {p:String} {af:Array Edge} {g:Nat} {b:Bool} {tt:Tmp} {t:Value} (hg:(ops[g]?).bind (·.dst)=some tt)
    (hc:∀ ab w,(∀ j,bq ⟨d,op,ty,p,af,some (g,b)⟩ j=true→S j (ab j) w)→dF ops ab e0 k tt=.bool b)
    (h:∀ ab w,ao K w0 w→(∀ j,bq ⟨d,op,ty,p,af,some (g,b)⟩ j=true→S j (ab j) w)→aG P ⟨d,op,ty,p,af,some (g,b)⟩ (dF ops ab e0 k) w t)
    (r:fN P N ops Q K e0 w0 l (k + 1) (eS S k (fun v _=>v=t))):fN P N ops Q K e0 w0 (⟨d,op,ty,p,af,some (g,b)⟩ :: l) k S:=
  sr _ (fun _ _ _ h _=>h) hg hc (fun ab w hR hd=>bx.of_v (h ab w hR hd) ⟨ao.refl _,rfl⟩) r
end
def bj:Nat→Prop:=fun _=>True
theorem bs.allB {α:Type} {t:Ty α} {w:World} {F:Nat→Prop} {v:Value} {xs:List α} (h:bs t w F v xs):bs t w bj v xs:=h.mono fun _ _ _=>trivial
theorem bG {N:Nat} {Q:Exit→Act→World→Prop} {S:Nat→Value→World→Prop} {k:Nat} {e:Nat→Value} {w:World} (h:Q .normal (Fr N e) w):pa N Q S [] k e w:=h
end Go.Vc
namespace Go.Vc
open Go.ChangeShapes Go.WideShapes Go.ChangeAt Go.RowKit
def kE (P:Program) (T:TypeId) {α:Type} (t:Ty α):Prop:=∀ {H:Type} (enc:TypeId × Value→H) (w:World) (base:Nat) (spare:Nat→Bool) (held:Bool) (fuel:Nat) (cs:List Value) (d:DataW H) (ps:List MemPlace),
  DataW.trod enc P w base spare held fuel T cs=some (d,ps)→∃ x,t.rep w (fun b=>b < w.heap.size) cs x
theorem gp {P:Program} {T:TypeId} {k:IntKind} (hu:P.underlying T=some (.int k)):kE P T (dL k):=by
  intro H enc w base spare held fuel cs d ps h
  obtain ⟨n,rfl,_,hw⟩:=DataW.trod_int hu h
  exact ⟨n,rfl,hw⟩
theorem jP {P:Program} {T:TypeId} (hu:P.underlying T=some .bool):kE P T j7:=by
  intro H enc w base spare held fuel cs d ps h
  obtain ⟨n,rfl,_⟩:=DataW.trod_bool hu h
  exact ⟨n,rfl⟩
theorem iX {P:Program} {T:TypeId} (hu:P.underlying T=some (.int .u8)):kE P T cw:=by
  intro H enc w base spare held fuel cs d ps h
  obtain ⟨n,rfl,_,hw⟩:=DataW.trod_int hu h
  simp [Lit.wf,IntKind.min,IntKind.max,IntKind.signed,IntKind.bits] at hw
  refine ⟨UInt8.ofNat n.toNat,?_⟩
  show [Value.int .u8 n]=[Value.int .u8 ((UInt8.ofNat n.toNat).toNat:Int)]
  have:((UInt8.ofNat n.toNat).toNat:Int)=n:=by
    simp [UInt8.toNat_ofNat'];omega
  rw [this]
theorem eK {P:Program} {T E:TypeId} {α:Type} {t:Ty α} (hu:P.underlying T=some (.slice E)) (hz:P.cellsOf E=t.sz) (h:kE P E t):kE P T (dB t):=by
  intro H enc w base spare held fuel cs d ps h1
  rcases DataW.trod_slice hu h1 with ⟨rfl,_⟩ | ⟨a,len,cap,elems,ca,n,rfl,rfl,_,hb,hl,hc,hlen,hel,_⟩
  · exact ⟨[],_,rfl,bs.nil _ _ _⟩
  · have key:∀ i,i < len→∃ x:α,∃ cs,Pv w (a.add (i * t.sz)) cs∧t.rep w (fun b=>b < w.heap.size) cs x:=by
      intro i hi
      have h2:=hel i hi
      have h3:elems[i]? = some elems[i]:=by simp [hlen,hi]
      rw [h3] at h2
      obtain ⟨c1,hc1,hc2⟩:=Option.bind_eq_some_iff.1 h2
      obtain ⟨x,hx⟩:=h enc w base spare held n c1 _ _ hc2
      obtain ⟨_,hl1,hc3⟩:=World.cells?_some hc1
      refine ⟨x,c1,fun j u hu=>?_,hx⟩
      have hj:j < P.cellsOf E:=by rw [← hl1];exact (List.getElem?_eq_some_iff.1 hu).1
      rw [← hz,hc3 j hj];exact hu
    let xs:List α:=List.ofFn fun i:Fin len=>(key i.1 i.2).choose
    have hxl:xs.length=len:=by simp [xs]
    refine ⟨xs,_,rfl,some a,cap,by rw [hxl],by omega,hc,by simp,fun i x hx=>?_⟩
    have hi:i < len:=by rw [← hxl];exact (List.getElem?_eq_some_iff.1 hx).1
    have hxi:x=(key i hi).choose:=by
      simp only [xs,List.getElem?_ofFn,hi,dif_pos] at hx
      exact (Option.some.inj hx).symm
    obtain ⟨c1,hp,hr⟩:=(key i hi).choose_spec
    rw [← hxi] at hr
    have hlt:=lS hp hr
    rw [au] at hlt
    exact ⟨a,c1,rfl,hlt,hp,hr⟩
def oe (P:Program) (fs:List (TypeId × Nat)) (off:Nat) {α:Type} (t:Ty α):Prop:=∀ {H:Type} (enc:TypeId × Value→H) (w:World) (base:Nat) (spare:Nat→Bool) (held:Bool) (fuel:Nat) (cs:List Value),
  cs.length=off + t.sz→(∀ f ∈ fs,∃ y,DataW.trod enc P w base spare held fuel f.1 ((cs.drop f.2).take (P.cellsOf f.1))=some y)→∃ x,t.rep w (fun b=>b < w.heap.size) (cs.drop off) x
theorem gA {P:Program} {T:TypeId} {off:Nat} {α:Type} {t:Ty α} (hz:P.cellsOf T=t.sz) (h:kE P T t):oe P [(T,off)] off t:=by
  intro H enc w base spare held fuel cs hl hf
  obtain ⟨y,hy⟩:=hf _ (List.mem_singleton.2 rfl)
  rw [List.take_of_length_le (by simp [hl,hz])] at hy
  exact h enc w base spare held fuel _ y.1 y.2 hy
theorem du {P:Program} {T:TypeId} {off:Nat} {fs:List (TypeId × Nat)} {α β:Type} {s:Ty α} {t:Ty β} (hz:P.cellsOf T=s.sz) (h:kE P T s) (h2:oe P fs (off + s.sz) t):oe P ((T,off) :: fs) off (bM s t):=by
  intro H enc w base spare held fuel cs hl hf
  obtain ⟨y,hy⟩:=hf _ List.mem_cons_self
  obtain ⟨x,hx⟩:=h enc w base spare held fuel _ y.1 y.2 hy
  obtain ⟨z,hzz⟩:=h2 enc w base spare held fuel cs (by rw [hl];show off + (s.sz + t.sz)=_;omega) (fun f hm=>hf f (List.mem_cons_of_mem _ hm))
  refine ⟨(x,z),_,_,?_,hx,hzz⟩
  simp only [hz]
  rw [← List.drop_drop]
  exact (List.take_append_drop _ _).symm
theorem fw {P:Program} {T:TypeId} {fs:Array Field} {l:List (TypeId × Nat)} {α:Type} {t:Ty α} (hu:P.underlying T=some (.struct fs)) (hf:fs.toList.map (fun f=>(f.type,f.offset))=l) (hz:P.cellsOf T=t.sz) (h:oe P l 0 t):kE P T t:=by
  intro H enc w base spare held fuel cs d ps h1
  obtain ⟨xs,n,rfl,_,hl,hxl,hx⟩:=DataW.trod_struct hu h1
  obtain ⟨x,hr⟩:=h enc w base spare held n cs (by rw [hl,hz];omega) (fun f hm=>by
    subst hf
    obtain ⟨g,hg,rfl⟩:=List.mem_map.1 hm
    obtain ⟨i,hi,rfl⟩:=List.mem_iff_getElem.1 hg
    have hi':i < fs.size:=by simpa using hi
    have:=hx i fs[i] (by simp [hi'])
    have h3:xs[i]? = some (xs[i]'zo):=by simp [hxl,hi']
    exact ⟨_,by rw [h3] at this;simpa using this⟩)
  exact ⟨x,by simpa using hr⟩
theorem nf {P:Program} {T:TypeId} {α:Type} {t:Ty α} (h:kE P T t) {H:Type} {enc:TypeId × Value→H} {w:World} {base:Nat} {spare:Nat→Bool} {held:Bool} {v:Value} {d:DataW H} {ps:List MemPlace} (k:DataW.Trod enc P w base spare held T v d ps) :
    ∃ x,t.rep w (fun b=>b < w.heap.size) v.cells.toList x:=by
  obtain ⟨n,hn⟩:=k
  exact h enc w base spare held n _ d ps hn
theorem oA {P:Program} {T:TypeId} {H:Type} {enc:TypeId × Value→H} {w:World} {base:Nat} {spare:Nat→Bool} {held:Bool} {v:Value} {d:DataW H} {ps:List MemPlace} (k:DataW.Trod enc P w base spare held T v d ps):∀ x ∈ ps,x.block < w.heap.size:=by
  obtain ⟨m,hm⟩:=k;exact DataW.trod_lt m _ _ _ hm
theorem rK {P:Program} {T E:TypeId} {α:Type} {t:Ty α} {w w':World} {F:Nat→Prop} {r:Reach} {base:Nat} {v:Value} {xs:List α} (hu:P.underlying T=some (.slice E)) (ho:Value.okWide P w' r base T v) (h:(dB t).rep w F v.cells.toList xs):bs t w F v xs:=by
  obtain ⟨a,l,c,rfl⟩:=okWide_slice hu ho
  obtain ⟨u,hu,h⟩:=h
  simp [Value.cells] at hu
  subst hu
  exact h
theorem cB {n:Int} (h:(Lit.int .i64 n).wf=true):-9223372036854775808≤n∧n≤9223372036854775807:=by
  simp [Lit.wf,IntKind.min,IntKind.max,IntKind.signed,IntKind.bits] at h;omega
end Go.Vc
namespace Go.Vc
def wN (u:Value) (b:Bool):Bool:=match u with
  | .bool c=>c == b
  | _=>false
section
variable {P:Program} {N:Nat} {ops:Array Oper} {Q:Exit→Act→World→Prop} {e:Nat→Value} {w:World} {ca:List Oper}
theorem nj {d:Option Tmp} {op:Op} {ty:TypeId} {p:String} {af:Array Edge} {g:Nat} {b:Bool} {t:Tmp} {u:Value} (hg:(ops[g]?).bind (·.dst)=some t) (hc:e t=u) (hb:wN u b=false):cb ops e ⟨d,op,ty,p,af,some (g,b)⟩=false:=by
  subst hc
  have hy:(eG ops e g == some b)=false:=by
    unfold eG
    rw [hg]
    simp only []
    unfold wN at hb
    split
    · rename_i c hcc;rw [hcc] at hb;simpa using hb
    · rfl
  simp only [cb,Region.wanted,hy]
theorem dz {d:Option Tmp} {op:Op} {ty:TypeId} {p:String} {af:Array Edge} {g:Nat} {b:Bool} {t:Tmp} {u:Value} (hg:(ops[g]?).bind (·.dst)=some t) (hc:e t=u) (hb:wN u b=false)
    (h:jl P N ops Q ca (fH e d undef) w):jl P N ops Q (⟨d,op,ty,p,af,some (g,b)⟩ :: ca) e w:=by
  unfold jl
  rw [nj hg hc hb]
  exact h
end
section
variable {P:Program} {N:Nat} {ops:Array Oper} {Q:Exit→Act→World→Prop} {K:Nat→Prop} {e0:Nat→Value} {w0:World} {l:List Oper} {k:Nat} {S:Nat→Value→World→Prop}
theorem bJ {d:Option Tmp} {op:Op} {ty:TypeId} {p:String} {af:Array Edge} {g:Nat} {b:Bool} {tt:Tmp} {u:Value} (hg:(ops[g]?).bind (·.dst)=some tt)
    (hc:∀ ab w,(∀ j,bq ⟨d,op,ty,p,af,some (g,b)⟩ j=true→S j (ab j) w)→dF ops ab e0 k tt=u) (hb:wN u b=false)
    (r:fN P N ops Q K e0 w0 l (k + 1) (eS S k (fun v _=>v=undef))):fN P N ops Q K e0 w0 (⟨d,op,ty,p,af,some (g,b)⟩ :: l) k S:=by
  refine ⟨_,fun _ _ _ h _=>h,fun ab w hR hd=>?_,r⟩
  unfold kG
  rw [nj hg (hc ab w hd) hb]
  exact ⟨ao.refl _,rfl⟩
end
section
variable {P:Program} {d:Option Tmp} {ty:TypeId} {p:String} {af:Array Edge} {g:Option (Nat × Bool)} {e:Nat→Value} {w:World} {x y c:Operand}
theorem uJ (hc:ev e c=.bool true):aG P ⟨d,.pick c (.const (.bool true)) y,ty,p,af,g⟩ e w (.bool true):=nC hc rfl rfl
theorem fG (hc:ev e c=.bool false):aG P ⟨d,.pick c y (.const (.bool false)),ty,p,af,g⟩ e w (.bool false):=nC hc rfl rfl
end
end Go.Vc
namespace Go.Vc
section
variable {P:Program} {d:Option Tmp} {ty:TypeId} {p:String} {af:Array Edge} {g:Option (Nat × Bool)} {e:Nat→Value} {w:World} {x y:Operand}
def ue (P:Program) (t et n sz:Nat):Bool:=(match P.underlying t with | some (.array m u)=>m == n && u == et | _=>false) && gQ P et sz
theorem qt {t et n sz:Nat} (h:ue P t et n sz=true):P.underlying t=some (.array n et)∧gQ P et sz=true:=by
  unfold ue at h
  rw [Bool.and_eq_true] at h
  refine ⟨?_,h.2⟩
  have h1:=h.1
  split at h1
  · rename_i m u hu
    simp at h1
    rw [hu,h1.1,h1.2]
  · cases h1
theorem pk {t et n sz:Nat} {parts:Array (Nat × Operand)} {z:Value} {zl cells:List Value} {ps:List (Nat × Value)} (hk:ue P t et n sz=true) (hz:aE P t z) (hzl:z.cells.toList=zl) (hps:parts.toList.map (fun x=>(x.1,ev e x.2))=ps) (hf:iG (fun i=>some (i * sz,sz)) zl ps=some cells) :
    aG P ⟨d,.build t parts,ty,p,af,g⟩ e w (.agg cells.toArray):=by
  obtain ⟨hu,hsz⟩:=qt hk
  have hfill:=ju _ _ _ _ hf
  subst hzl
  unfold aE at hz
  cases hi:P.info? t with
  | none=>simp [hi] at hz
  | some i=>
    simp [hi] at hz
    simp only [aG,execOp,Instr.build]
    simp [zeroValue,typeInfo,hi,hz,run_underlying hu,em hsz]
    rw [hps]
    have:Instr.fill (fun i=>some (i * sz,sz)) z.cells ps=some cells.toArray:=by simpa using hfill
    rw [this]
    rfl
end
section
variable {P:Program} {fn:Func} {N:Nat} {e:Nat→Value} {w:World} {R:Value→World→Prop}
theorem iu {t:TypeId} {n:Nat} {a:Addr} {cs:List Value} (hk:nT P t n=true) (hc:Pv w a cs) (hn:cs.length=n):(loadVar t a).run P w=.ok (.agg cs.toArray) w:=by
  have h1:=gV hk w
  have h2:=run_loadCells_list (P:=P) w a cs hc
  rw [hn] at h2
  simp [loadVar,h1.1,h1.2,h2]
theorem wk {t u:Tmp} {ty:TypeId} {n:Nat} {a:Addr} {cs:List Value} (hr:fn.results=#[.cell t ty,.tmp u]) (ht:t < N) (hu:u < N) (hp:e t=.pointer (some a)) (hk:nT P ty n=true) (hc:Pv w a cs) (hn:cs.length=n)
    (h:R (.tuple #[.agg cs.toArray,e u]) w):bodyPost P fn (mI R) .ret (Fr N e) w:=by
  have h1:(Fr N e).tmps.getD t undef=.pointer (some a):=by simp [Fr,Array.getD,ht,hp]
  have h2:(Fr N e).tmps.getD u undef=e u:=by simp [Fr,Array.getD,hu]
  refine ⟨rfl,.tuple #[.agg cs.toArray,e u],?_,_,rfl,h⟩
  rw [results_cell_tmp hr,h1,h2]
  have h3:(asAddr (.pointer (some a))).run P w=.ok a w:=rfl
  rw [h3]
  simp only [Result.andThen_ok]
  rw [iu hk hc hn]
  rfl
end
end Go.Vc
namespace Go.Vc
theorem nc {ro:Option Nat} {n:Nat} {ds:List Deferred} {P:Program} {N:Nat} {ops:Array Oper} {Q:Exit→Act→World→Prop} {e0:Nat→Value} {w0:World} {R:World→World→Prop} (S:Nat→Value→World→Prop) (J:(Nat→Bool)→(Nat→Value)→World→Prop)
    (hl:fC N ops=true) (hok:ni ops=true)
    (htr:∀ a b c,R a b→R b c→R a c) (h0:R w0 w0)
    (hst:∀ i v w w',S i v w→R w w'→S i v w')
    (hJ0:∀ ab,J (fun i=>!decide (i < ops.size)) ab w0)
    (hloc:∀ i o,ops[i]? = some o→∀ done ab w,R w0 w→(∀ j oj,done j=true→ops[j]? = some oj→∀ k,bq oj k=true→done k=true)→done i=false→J done ab w→(∀ j,bq o j=true→done j=true)→(∀ j,bq o j=true→S j (ab j) w)→kG P ops (cZ ops (fun _=>true) ab e0 i) o w (fun v w'=>R w w'∧S i v w'∧J (fun j=>if j=i then true else done j) (cA ab i v) w'))
    (hfin:∀ ab w,R w0 w→J (fun _=>true) ab w→(∀ i,i < ops.size→S i (ab i) w)→Q .normal (dg N (cZ ops (fun _=>true) ab e0 ops.size) ds) w) :
    ot ro n P ops Q (dg N e0 ds) w0:=by
  have main:∀ (fuel:Nat) (listed:Array Bool) (ab:Nat→Value) (w:World),mR (fun i=>!listed.getD i true) ops.size≤fuel→R w0 w→J (fun i=>listed.getD i true) ab w →
      (∀ j o,listed.getD j true=true→ops[j]? = some o→∀ e ∈ o.after,Region.binds .any e=true→listed.getD e.on false=true) →
      (∀ j,j < ops.size→listed.getD j true=true→S j (ab j) w)→listed.size=ops.size →
      wpAnyIn (Fw ro) n P .any ops Q fuel listed (dg N (cZ ops (fun i=>listed.getD i true) ab e0 ops.size) ds) w:=by
    intro fuel
    induction fuel with
    | zero=>
      intro listed ab w hc hR hJ hdc hS hsz
      have hall:=jd ops.size (Nat.le_zero.1 hc)
      have hall':∀ i,i < ops.size→listed.getD i true=true:=fun i hi=>by have:=hall i hi;simpa using this
      have hJt:(fun i=>listed.getD i true)=fun _=>true:=funext fun i=>by
        by_cases hi:i < ops.size
        · exact hall' i hi
        · simp [Array.getD,hsz,hi]
      rw [hJt] at hJ
      refine ⟨?_,?_⟩
      · cases hr:Region.ready .any ops listed with
        | nil=>rfl
        | cons i l=>
          have hi:i ∈ Region.ready .any ops listed:=by rw [hr];simp
          obtain ⟨hu,o,ho,_⟩:=mem_ready.1 hi
          rw [hall' i (Array.getElem?_eq_some_iff.1 ho).1] at hu;cases hu
      · rw [jc (ls':=fun _=>true) (vals':=ab) ops.size (fun k hk=>hall' k hk) (fun _ _ _=>rfl)]
        exact hfin ab w hR hJ fun i hi=>hS i hi (hall' i hi)
    | succ fuel ih=>
      intro listed ab w hc hR hJ hdc hS hsz
      refine ⟨fun hnil=>?_,fun i hi=>?_⟩
      · have hall':∀ i,i < ops.size→listed.getD i true=true:=by
          intro i hi
          cases hu:listed.getD i true with
          | true=>rfl
          | false=>
            obtain ⟨k,hk,hfk,hmin⟩:=oR (f:=fun i=>!listed.getD i true) ops.size ⟨i,hi,by simp only [hu];rfl⟩
            have hok':ops[k]? = some ops[k]:=by simp [hk]
            have:k ∈ Region.ready .any ops listed:=mem_ready.2 ⟨by simpa using hfk,ops[k],hok',fun e he hb=>by
              have hlt:=dD hok hok' e he hb
              have h1:=hmin e.on hlt
              have h2:listed.getD e.on true=true:=by simpa using h1
              have h3:e.on < listed.size:=by omega
              simp only [Array.getD,h3,dif_pos] at h2 ⊢
              exact h2⟩
            rw [hnil] at this;cases this
        have hJt:(fun i=>listed.getD i true)=fun _=>true:=funext fun i=>by
          by_cases hi:i < ops.size
          · exact hall' i hi
          · simp [Array.getD,hsz,hi]
        rw [hJt] at hJ
        rw [jc (ls':=fun _=>true) (vals':=ab) ops.size (fun k hk=>hall' k hk) (fun _ _ _=>rfl)]
        exact hfin ab w hR hJ fun i hi=>hS i hi (hall' i hi)
      · obtain ⟨hu,o,ho,hdeps⟩:=mem_ready.1 hi
        have hilt:i < ops.size:=(Array.getElem?_eq_some_iff.1 ho).1
        have holt:=lX hl ho
        have hedge:∀ k,bq o k=true→listed.getD k false=true:=by
          intro k hk
          obtain ⟨e,he,hb⟩:=dG hk
          simp only [Bool.and_eq_true] at hb
          have:=hdeps e he hb.1
          rwa [Nat.eq_of_beq_eq_true hb.2] at this
        have toT:∀ k,listed.getD k false=true→listed.getD k true=true:=by
          intro k hk
          by_cases hlt:k < listed.size
          · simp only [Array.getD,hlt,dif_pos] at hk ⊢;exact hk
          · simp only [Array.getD,hlt,dif_neg,not_false_eq_true]
        have hsee:∀ t,t ∈ o.looksAt ops→cZ ops (fun i=>listed.getD i true) ab e0 ops.size t=cZ ops (fun _=>true) ab e0 i t:=by
          intro t ht
          rw [ib (i:=i) ops.size zo (fun k h1 h2 h3 hd=>?_),kQ i (fun k hk hku hd=>?_)]
          ·
            obtain ⟨ok,hok'⟩:∃ ok,ops[k]? = some ok:=⟨ops[k],by simp [show k < ops.size by omega]⟩
            have hne:bq o k=false:=by
              cases hh:bq o k with
              | false=>rfl
              | true=>have:=toT k (hedge k hh);rw [hku] at this;cases this
            have hap:=gq hok ho hok' hk hne
            obtain ⟨a1,a2,a3⟩:=Oper.apart_spec hap
            simp only [fE,hok',Option.bind_some] at hd
            exact a1 t hd ht
          ·
            have hki:k≠i:=fun he=>by subst he;rw [hu] at h3;cases h3
            obtain ⟨ok,hok'⟩:∃ ok,ops[k]? = some ok:=⟨ops[k],by simp [h2]⟩
            have hne:bq ok i=false:=by
              cases hh:bq ok i with
              | false=>rfl
              | true=>
                obtain ⟨e,he,hb⟩:=dG hh
                simp only [Bool.and_eq_true] at hb
                have:=hdc k ok h3 hok' e he hb.1
                rw [Nat.eq_of_beq_eq_true hb.2] at this
                have:=toT i this
                rw [hu] at this;cases this
            have hap:=gq hok hok' ho zo hne
            obtain ⟨a1,a2,a3⟩:=Oper.apart_spec hap
            simp only [fE,hok',Option.bind_some] at hd
            exact a3 t hd ht
        have hw:cb ops (cZ ops (fun i=>listed.getD i true) ab e0 ops.size) o=cb ops (cZ ops (fun _=>true) ab e0 i) o:=jB hsee
        have hns:ix o.op=true:=by simp only [iN,Bool.and_eq_true] at holt;exact holt.2
        have hex:=jH (ops:=ops) hns hsee
        have hcl:∀ j oj,listed.getD j true=true→ops[j]? = some oj→∀ k,bq oj k=true→listed.getD k true=true:=by
          intro j oj hj hoj k hk
          obtain ⟨e,he,hb⟩:=dG hk
          simp only [Bool.and_eq_true] at hb
          have:=hdc j oj hj hoj e he hb.1
          rw [Nat.eq_of_beq_eq_true hb.2] at this
          exact toT k this
        have hL:=hloc i o ho (fun i=>listed.getD i true) ab w hR hcl hu hJ (fun j hj=>toT j (hedge j hj)) (fun j hj=>hS j (by
          obtain ⟨e,he,hb⟩:=dG hj
          simp only [Bool.and_eq_true] at hb
          have:=dD hok ho e he hb.1
          rw [Nat.eq_of_beq_eq_true hb.2] at this
          omega) (toT j (hedge j hj)))
        have next:∀ v w',R w w'→S i v w'→J (fun j=>if j=i then true else listed.getD j true) (cA ab i v) w'→wpAnyIn (Fw ro) n P .any ops Q fuel (listed.setIfInBounds i true) (dg N (fH (cZ ops (fun i=>listed.getD i true) ab e0 ops.size) o.dst v) ds) w':=by
          intro v w' hRw hSv hJv
          have hget:∀ j d,(listed.setIfInBounds i true).getD j d=if j=i then true else listed.getD j d:=by
            intro j d
            by_cases hji:j=i
            · subst hji
              have:j < listed.size:=by omega
              simp [Array.getD,this]
            · by_cases hlt:j < listed.size
              · simp [Array.getD,hlt,hji,Ne.symm hji]
              · simp [Array.getD,hlt,hji]
          have henv:fH (cZ ops (fun i=>listed.getD i true) ab e0 ops.size) o.dst v=cZ ops (fun j=>(listed.setIfInBounds i true).getD j true) (cA ab i v) e0 ops.size:=by
            have hdi:fE ops i=o.dst:=by simp [fE,ho]
            funext t
            by_cases hd:o.dst=some t
            · rw [ey hd]
              rw [ib (i:=i + 1) ops.size zo (fun k h1 h2 h3 hk=>?_)]
              · simp only [cZ]
                have:(listed.setIfInBounds i true).getD i true=true:=by rw [hget];simp
                rw [this,cond_true,ey (by rw [hdi];exact hd)]
                simp [cA]
              · obtain ⟨ok,hok'⟩:∃ ok,ops[k]? = some ok:=⟨ops[k],by simp [h2]⟩
                have hki:k≠i:=by omega
                rw [hget,if_neg hki] at h3
                have hne:bq ok i=false:=by
                  cases hh:bq ok i with
                  | false=>rfl
                  | true=>
                    obtain ⟨e,he,hb⟩:=dG hh
                    simp only [Bool.and_eq_true] at hb
                    have:=hdc k ok h3 hok' e he hb.1
                    rw [Nat.eq_of_beq_eq_true hb.2] at this
                    have:=toT i this
                    rw [hu] at this;cases this
                have hap:=gq hok hok' ho zo hne
                obtain ⟨a1,a2,a3⟩:=Oper.apart_spec hap
                simp only [fE,hok',Option.bind_some] at hk
                exact a2 t hd hk
            · rw [eX hd]
              have:∀ n,cZ ops (fun i=>listed.getD i true) ab e0 n t=cZ ops (fun j=>(listed.setIfInBounds i true).getD j true) (cA ab i v) e0 n t:=by
                intro n
                induction n with
                | zero=>rfl
                | succ n ihn=>
                  simp only [cZ]
                  by_cases hni:n=i
                  · subst hni
                    have e1:(listed.setIfInBounds n true).getD n true=true:=by rw [hget];simp
                    rw [hu,e1,cond_false,cond_true,eX (by rw [hdi];exact hd)]
                    exact ihn
                  · rw [hget,if_neg hni]
                    cases listed.getD n true with
                    | false=>simpa using ihn
                    | true=>
                      simp only [cond_true]
                      by_cases hdn:fE ops n=some t
                      · rw [ey hdn,ey hdn];simp [cA,hni]
                      · rw [eX hdn,eX hdn];exact ihn
              exact this _
          rw [henv]
          refine ih _ _ _ ?_ (htr _ _ _ hR hRw) (by rw [show (fun j=>(listed.setIfInBounds i true).getD j true)=fun j=>if j=i then true else listed.getD j true from funext fun j=>hget j true];exact hJv) ?_ ?_ (by simpa using hsz)
          · have:=mB (f:=fun i=>!listed.getD i true) (g:=fun j=>!(listed.setIfInBounds i true).getD j true) (i:=i) (fun j hj=>by
              rw [hget] at hj
              by_cases hji:j=i
              · simp [hji] at hj
              · simpa [hji] using hj) (by simp only [hu];rfl) (by rw [hget];simp) ops.size hilt
            omega
          · intro j oj hj hoj e he hb
            rw [hget] at hj ⊢
            by_cases hji:j=i
            · subst hji
              rw [ho] at hoj;cases hoj
              split
              · rfl
              · exact hdeps e he hb
            · rw [if_neg hji] at hj
              split
              · rfl
              · exact hdc j oj hj hoj e he hb
          · intro j hjs hj
            by_cases hji:j=i
            · subst hji;simpa [cA] using hSv
            · rw [hget,if_neg hji] at hj
              simp only [cA,if_neg hji]
              exact hst j _ _ _ (hS j hjs hj) hRw
        unfold wpOpIn
        rw [ho]
        simp only []
        rw [gL hl]
        unfold kG at hL
        rw [← hw] at hL
        split
        · rename_i hwt
          have hwt':cb ops (cZ ops (fun i=>listed.getD i true) ab e0 ops.size) o=true:=hwt
          rw [if_pos hwt'] at hL
          have hL':bx P o (cZ ops (fun i=>listed.getD i true) ab e0 ops.size) w (fun v w'=>R w w'∧S i v w'∧J (fun j=>if j=i then true else listed.getD j true) (cA ab i v) w'):=by
            unfold bx at hL ⊢
            rw [hex];exact hL
          exact (bx.wpIn holt hL' fun v w' hv=>next v w' hv.1 hv.2.1 hv.2.2)
        · rename_i hwt
          have hwt':¬ cb ops (cZ ops (fun i=>listed.getD i true) ab e0 ops.size) o=true:=hwt
          rw [if_neg hwt'] at hL
          have hd:iH N o.dst=true:=by simp only [iN,Bool.and_eq_true] at holt;exact holt.1.2
          rw [eu hd]
          exact ⟨fun f _=>jh ro f,next _ _ hL.1 hL.2.1 hL.2.2⟩
  have:=main ops.size (Array.replicate ops.size false) (fun _=>undef) w0 (by
    have h:∀ n,mR (fun i=>!(Array.replicate ops.size false).getD i true) n≤n:=by
      intro n
      induction n with
      | zero=>simp [mR]
      | succ n ih=>simp only [mR];split <;> omega
    exact h _) h0 (by
      rw [show (fun i=>(Array.replicate ops.size false).getD i true)=fun i=>!decide (i < ops.size) from funext fun i=>by
        by_cases hi:i < ops.size
        · simp [Array.getD,hi]
        · simp [Array.getD,hi]]
      exact hJ0 _) (by
      intro j o hj ho
      have:j < ops.size:=(Array.getElem?_eq_some_iff.1 ho).1
      simp [Array.getD,this] at hj) (by
      intro j hj hl
      simp [Array.getD,hj] at hl) (by simp)
  have e1:cZ ops (fun i=>(Array.replicate ops.size false).getD i true) (fun _=>undef) e0 ops.size=e0:=by
    have:∀ n,n≤ops.size→cZ ops (fun i=>(Array.replicate ops.size false).getD i true) (fun _=>undef) e0 n=e0:=by
      intro n
      induction n with
      | zero=>intro _;rfl
      | succ n ih=>
        intro hn
        have hlt:n < ops.size:=by omega
        have hf:(Array.replicate ops.size false).getD n true=false:=by simp [Array.getD,hlt]
        simp only [cZ]
        rw [hf,cond_false]
        exact ih zo
    exact this _ (Nat.le_refl _)
  rw [e1] at this
  exact this
theorem sA {ro:Option Nat} {n:Nat} {ds:List Deferred} {P:Program} {N id:Nat} {ops:Array Oper} {Q:Exit→Act→World→Prop} {e0:Nat→Value} {w0:World} {R:World→World→Prop} (S:Nat→Value→World→Prop) (J:(Nat→Bool)→(Nat→Value)→World→Prop)
    (hm:P.follows .mixedOrders=true) (hl:fC N ops=true) (hok:ni ops=true)
    (htr:∀ a b c,R a b→R b c→R a c) (h0:R w0 { w0 with drawn:=w0.drawn + 1 }) (hr:R { w0 with drawn:=w0.drawn + 1 } { w0 with drawn:=w0.drawn + 1 })
    (hst:∀ i v w w',S i v w→R w w'→S i v w')
    (hJ0:∀ ab,J (fun i=>!decide (i < ops.size)) ab { w0 with drawn:=w0.drawn + 1 })
    (hloc:∀ i o,ops[i]? = some o→∀ done ab w,R w0 w→(∀ j oj,done j=true→ops[j]? = some oj→∀ k,bq oj k=true→done k=true)→done i=false→J done ab w→(∀ j,bq o j=true→done j=true)→(∀ j,bq o j=true→S j (ab j) w)→kG P ops (cZ ops (fun _=>true) ab e0 i) o w (fun v w'=>R w w'∧S i v w'∧J (fun j=>if j=i then true else done j) (cA ab i v) w'))
    (hfin:∀ ab w,R w0 w→J (fun _=>true) ab w→(∀ i,i < ops.size→S i (ab i) w)→Q .normal (dg N (cZ ops (fun _=>true) ab e0 ops.size) ds) w) :
    (Code.region id ops true).wpIn (Fw ro) n P Q (dg N e0 ds) w0:=
  wpIn_region_any hm (nc (w0:={ w0 with drawn:=w0.drawn + 1 }) S J hl hok htr hr hst hJ0 (fun i o ho done ab w hR=>hloc i o ho done ab w (htr _ _ _ h0 hR)) (fun ab w hR=>hfin ab w (htr _ _ _ h0 hR)))
def pb (N:Nat) (Q:Exit→Act→World→Prop) (S:Nat→Value→World→Prop) (ab:Nat→Value):List Oper→Nat→(Nat→Value)→World→Prop
  | [],_,e,w=>Q .normal (Fr N e) w
  | o :: l,k,e,w=>∀ v,v=ab k→S k v w→pb N Q S ab l (k + 1) (fH e o.dst v) w
def eT (done:Nat→Bool) (i:Nat):Nat→Bool:=fun j=>if j=i then true else done j
def gg (ops:Array Oper) (done:Nat→Bool):Prop:=∀ j oj,done j=true→ops[j]? = some oj→∀ k,bq oj k=true→done k=true
def iB (P:Program) (N:Nat) (ops:Array Oper) (Q:Exit→Act→World→Prop) (K:Nat→Prop) (J:(Nat→Bool)→(Nat→Value)→World→Prop) (e0:Nat→Value) (w0:World):List Oper→Nat→(Nat→Value→World→Prop)→Prop
  | [],k,S=>∀ ab w,ao K w0 w→J (fun _=>true) ab w→pb N Q S ab ops.toList 0 e0 w
  | o :: l,k,S=>∃ Sk:Value→World→Prop,(∀ v w w',Sk v w→ao K w w'→Sk v w') ∧
      (∀ done ab w,ao K w0 w→gg ops done→done k=false→J done ab w→(∀ j,bq o j=true→done j=true)→(∀ j,bq o j=true→S j (ab j) w)→kG P ops (dF ops ab e0 k) o w (fun v w'=>ao K w w'∧Sk v w'∧J (eT done k) (cA ab k v) w')) ∧
      iB P N ops Q K J e0 w0 l (k + 1) (eS S k Sk)
theorem kP {N:Nat} {Q:Exit→Act→World→Prop} {S:Nat→Value→World→Prop} {ops:Array Oper} {ab:Nat→Value} {e0:Nat→Value} {w:World}:∀ (l:List Oper) (k:Nat),(∀ j,l[j]? = ops[k + j]?) →
    pb N Q S ab l k (dF ops ab e0 k) w→(∀ i,i < k + l.length→S i (ab i) w)→Q .normal (Fr N (dF ops ab e0 (k + l.length))) w
  | [],k,_,h,_=>h
  | o :: l,k,hl,h,hS=>by
    have h0:ops[k]? = some o:=by simpa using (hl 0).symm
    have hk:=h (ab k) rfl (hS k (by simp))
    have he:fH (dF ops ab e0 k) o.dst (ab k)=dF ops ab e0 (k + 1):=by simp [dF,cZ,vI,fE,h0]
    rw [he] at hk
    have:=kP l (k + 1) (fun j=>by have:=hl (j + 1);simpa [Nat.add_assoc,Nat.add_comm 1 j] using this) hk (fun i hi=>hS i (by simp;omega))
    have e2:k + 1 + l.length=k + (o :: l).length:=by simp;omega
    rw [e2] at this
    exact this
theorem jM {P:Program} {N:Nat} {ops:Array Oper} {Q:Exit→Act→World→Prop} {K:Nat→Prop} {J:(Nat→Bool)→(Nat→Value)→World→Prop} {e0:Nat→Value} {w0:World} (hok:ni ops=true):∀ (l:List Oper) (k:Nat) (S:Nat→Value→World→Prop),(∀ j,l[j]? = ops[k + j]?)→iB P N ops Q K J e0 w0 l k S →
    (∀ i v w w',S i v w→ao K w w'→S i v w') →
    (∀ i o,i < k→ops[i]? = some o→∀ done ab w,ao K w0 w→gg ops done→done i=false→J done ab w→(∀ j,bq o j=true→done j=true)→(∀ j,bq o j=true→S j (ab j) w)→kG P ops (dF ops ab e0 i) o w (fun v w'=>ao K w w'∧S i v w'∧J (eT done i) (cA ab i v) w')) →
    ∃ S':Nat→Value→World→Prop,(∀ i v w w',S' i v w→ao K w w'→S' i v w') ∧
      (∀ i o,ops[i]? = some o→∀ done ab w,ao K w0 w→gg ops done→done i=false→J done ab w→(∀ j,bq o j=true→done j=true)→(∀ j,bq o j=true→S' j (ab j) w)→kG P ops (dF ops ab e0 i) o w (fun v w'=>ao K w w'∧S' i v w'∧J (eT done i) (cA ab i v) w')) ∧
      (∀ ab w,ao K w0 w→J (fun _=>true) ab w→pb N Q S' ab ops.toList 0 e0 w)
  | [],k,S,hl,h,hst,hlo=>by
    refine ⟨S,hst,fun i o hi=>?_,h⟩
    have hlt:i < ops.size:=(Array.getElem?_eq_some_iff.1 hi).1
    by_cases hik:i < k
    · exact hlo i o hik hi
    · have:=hl (i - k)
      rw [show k + (i - k)=i by omega,hi] at this
      simp at this
  | o :: l,k,S,hl,⟨Sk,hsk,hop,hrest⟩,hst,hlo=>by
    have h0:ops[k]? = some o:=by simpa using (hl 0).symm
    have hedge:∀ i oi,ops[i]? = some oi→∀ j,bq oi j=true→j < i:=by
      intro i oi hi j hj
      obtain ⟨e,he,hb⟩:=dG hj
      simp only [Bool.and_eq_true] at hb
      have:=dD hok hi e he hb.1
      rwa [Nat.eq_of_beq_eq_true hb.2] at this
    refine jM hok l (k + 1) (eS S k Sk) (fun j=>by have:=hl (j + 1);simpa [Nat.add_assoc,Nat.add_comm 1 j] using this) hrest ?_ ?_
    · intro i v w w' hs hkw
      by_cases hik:i=k
      · subst hik;rw [jq] at hs ⊢;exact hsk v w w' hs hkw
      · rw [gN hik] at hs ⊢;exact hst i v w w' hs hkw
    · intro i oi hi hoi done ab w hR hcl hdi hJ hdn hd
      by_cases hik:i=k
      · subst hik
        rw [h0] at hoi;cases hoi
        rw [jq]
        exact hop done ab w hR hcl hdi hJ hdn fun j hj=>by
          have hlt:=hedge i o h0 j hj
          have:=hd j hj
          rwa [gN zo] at this
      · rw [gN hik]
        exact hlo i oi zo hoi done ab w hR hcl hdi hJ hdn fun j hj=>by
          have hlt:=hedge i oi hoi j hj
          have:=hd j hj
          rwa [gN zo] at this
theorem eD {ro:Option Nat} {n:Nat} {ds:List Deferred} {P:Program} {N:Nat} {l:List Oper} {id:Nat} {Q:Exit→Act→World→Prop} {e:Nat→Value} {w:World} (K:Nat→Prop) (J:(Nat→Bool)→(Nat→Value)→World→Prop) (hm:P.follows .mixedOrders=true) (hl:fC N l.toArray=true) (hok:ni l.toArray=true)
    (hJ0:∀ ab done,(∀ i,i < l.length→done i=false)→J done ab { w with drawn:=w.drawn + 1 })
    (h:iB P N l.toArray (Qd ds Q) K J e w l 0 uR):(Code.region id l.toArray true).wpIn (Fw ro) n P Q (dg N e ds) w:=by
  obtain ⟨S,h1,h2,h3⟩:=jM hok l 0 uR (by simp) h (fun _ _ _ _ _ _=>trivial) (fun i o hi=>by omega)
  refine sA (R:=ao K) S J hm hl hok (fun _ _ _=>ao.trans) (ao.drawn _ _) (ao.refl _) h1 (fun ab=>hJ0 ab _ (fun i hi=>by simp [hi])) h2 fun ab w' hR hJ hS=>?_
  have h4:pb N (Qd ds Q) S ab l 0 (dF l.toArray ab e 0) w':=h3 ab w' hR hJ
  have:=kP (ops:=l.toArray) (ab:=ab) l 0 (by simp) h4 (fun i hi=>hS i (by simpa using hi))
  rw [Nat.zero_add] at this
  exact this
theorem eH {ro:Option Nat} {n:Nat} {ds:List Deferred} {P:Program} {N:Nat} {l:List Oper} {Q:Exit→Act→World→Prop} {e:Nat→Value} {w:World} (K:Nat→Prop) (J:(Nat→Bool)→(Nat→Value)→World→Prop) (hl:fC N l.toArray=true) (hok:ni l.toArray=true)
    (hJ0:∀ ab done,(∀ i,i < l.length→done i=false)→J done ab w)
    (h:iB P N l.toArray (Qd ds Q) K J e w l 0 uR):ot ro n P l.toArray Q (dg N e ds) w:=by
  obtain ⟨S,h1,h2,h3⟩:=jM hok l 0 uR (by simp) h (fun _ _ _ _ _ _=>trivial) (fun i o hi=>by omega)
  refine nc (R:=ao K) S J hl hok (fun _ _ _=>ao.trans) (ao.refl _) h1 (fun ab=>hJ0 ab _ (fun i hi=>by simp [hi])) h2 fun ab w' hR hJ hS=>?_
  have h4:pb N (Qd ds Q) S ab l 0 (dF l.toArray ab e 0) w':=h3 ab w' hR hJ
  have:=kP (ops:=l.toArray) (ab:=ab) l 0 (by simp) h4 (fun i hi=>hS i (by simpa using hi))
  rw [Nat.zero_add] at this
  exact this
end Go.Vc
namespace Go.Vc
def tI (D:Nat→Bool) (J:(Nat→Bool)→(Nat→Value)→World→Prop):Prop:=∀ done ab done' vals' w,(∀ i,D i=true→done i=done' i∧ab i=vals' i)→J done ab w→J done' vals' w
theorem tI.step {D:Nat→Bool} {J:(Nat→Bool)→(Nat→Value)→World→Prop} (h:tI D J) {k:Nat} (hk:D k=false) {done:Nat→Bool} {ab:Nat→Value} {v:Value} {w:World} (j:J done ab w):J (eT done k) (cA ab k v) w:=
  h _ _ _ _ w (fun i hi=>by
    have:i≠k:=fun he=>by subst he;rw [hk] at hi;cases hi
    simp [eT,cA,this]) j
section
variable {P:Program} {N:Nat} {ops:Array Oper} {Q:Exit→Act→World→Prop} {K:Nat→Prop} {J:(Nat→Bool)→(Nat→Value)→World→Prop} {D:Nat→Bool} {e0:Nat→Value} {w0:World} {l:List Oper} {k:Nat} {S:Nat→Value→World→Prop}
theorem dq (h:∀ ab w,ao K w0 w→J (fun _=>true) ab w→pb N Q S ab ops.toList 0 e0 w):iB P N ops Q K J e0 w0 [] k S:=h
theorem mV {d:Option Tmp} {op:Op} {ty:TypeId} {p:String} {af:Array Edge} {t:Value} (hD:tI D J) (hk:D k=false)
    (h:∀ done ab w,ao K w0 w→J done ab w→(∀ j,bq ⟨d,op,ty,p,af,none⟩ j=true→done j=true)→(∀ j,bq ⟨d,op,ty,p,af,none⟩ j=true→S j (ab j) w)→aG P ⟨d,op,ty,p,af,none⟩ (dF ops ab e0 k) w t)
    (r:iB P N ops Q K J e0 w0 l (k + 1) (eS S k (fun v _=>v=t))):iB P N ops Q K J e0 w0 (⟨d,op,ty,p,af,none⟩ :: l) k S:=by
  refine ⟨_,fun _ _ _ h _=>h,fun done ab w hR hcl hdk hJ hdn hd=>?_,r⟩
  simp only [kG,cb,Region.wanted,if_true]
  exact bx.of_v (h done ab w hR hJ hdn hd) ⟨ao.refl _,rfl,hD.step hk hJ⟩
theorem ea {d:Option Tmp} {op:Op} {ty:TypeId} {p:String} {af:Array Edge}
    (h:∀ done ab w,ao K w0 w→gg ops done→done k=false→J done ab w→(∀ j,bq ⟨d,op,ty,p,af,none⟩ j=true→done j=true)→(∀ j,bq ⟨d,op,ty,p,af,none⟩ j=true→S j (ab j) w)→bx P ⟨d,op,ty,p,af,none⟩ (dF ops ab e0 k) w (fun v w'=>ao K w w'∧J (eT done k) (cA ab k v) w'))
    (r:iB P N ops Q K J e0 w0 l (k + 1) (eS S k (fun _ _=>True))):iB P N ops Q K J e0 w0 (⟨d,op,ty,p,af,none⟩ :: l) k S:=by
  refine ⟨fun _ _=>True,fun _ _ _ h _=>h,fun done ab w hR hcl hdk hJ hdn hd=>?_,r⟩
  simp only [kG,cb,Region.wanted,if_true]
  exact (h done ab w hR hcl hdk hJ hdn hd).mono fun v w' hv=>⟨hv.1,trivial,hv.2⟩
end
def ln (v0:Value) (as:List Nat) (ab:Nat→Value):Nat→Value
  | 0=>v0
  | c + 1=>ab (as.getD c 0)
def jk {α:Type} (t:Ty α) (et:TypeId) (B0 B:Nat) (F G:Nat→Prop) (v0:Value) (l0:List α) (as:List Nat) (ps:List (Option Nat)) (xs:List (List α)) (done:Nat→Bool) (ab:Nat→Value) (w:World):Prop:=
  ∃ c,c≤as.length∧(∀ i a,as[i]? = some a→(done a=true↔i < c))∧ck t et w B F (ln v0 as ab c) (l0 ++ (xs.take c).flatten)∧(B≤w.heap.size∧B0≤w.heap.size∧∀ b,(ln v0 as ab c).ownBlock=some b→v0.ownBlock=some b∨B0≤b) ∧
    ∀ i p x,c≤i→ps[i]? = some (some p)→xs[i]? = some x→done p=true→bs t w (fun b=>G b∧(ln v0 as ab c).ownBlock≠some b∧b < w.heap.size) (ab p) x
def vU (as:List Nat) (ps:List (Option Nat)) (i:Nat):Bool:=as.any (Nat.beq i) || ps.any (fun p=>match p with | some j=>Nat.beq i j | none=>false)
theorem pP {as:List Nat} {ps:List (Option Nat)} {i a:Nat} (h:as[i]? = some a):vU as ps a=true:=by
  unfold vU
  rw [Bool.or_eq_true]
  exact .inl (List.any_eq_true.2 ⟨a,List.mem_of_getElem? h,by simp⟩)
theorem tk {as:List Nat} {ps:List (Option Nat)} {i p:Nat} (h:ps[i]? = some (some p)):vU as ps p=true:=by
  unfold vU
  rw [Bool.or_eq_true]
  exact .inr (List.any_eq_true.2 ⟨some p,List.mem_of_getElem? h,by simp⟩)
theorem qz {as:List Nat} {c:Nat} (h:c < as.length):as[c]? = some (as.getD c 0):=by simp [h]
theorem pX {v0:Value} {as:List Nat} {ab vals':Nat→Value} {c:Nat} (hc:c≤as.length) (h:∀ (i:Nat) (a:Nat),as[i]? = some a→ab a=vals' a):ln v0 as ab c=ln v0 as vals' c:=by
  cases c with
  | zero=>rfl
  | succ c=>exact h c _ (qz hc)
section
variable {α:Type} {t:Ty α} {et:TypeId} {B0 B:Nat} {F G:Nat→Prop} {v0:Value} {l0:List α} {as:List Nat} {ps:List (Option Nat)} {xs:List (List α)}
theorem jk.on:tI (vU as ps) (jk t et B0 B F G v0 l0 as ps xs):=by
  rintro done ab done' vals' w h ⟨c,hc,h1,h2,hB,h3⟩
  have hv:ln v0 as ab c=ln v0 as vals' c:=pX hc fun i a ha=>(h a (pP ha)).2
  refine ⟨c,hc,fun i a ha=>by rw [← (h a (pP ha)).1];exact h1 i a ha,by rw [← hv];exact h2,by rw [← hv];exact hB,fun i p x hi hp hx hd=>?_⟩
  have:=h p (tk hp)
  rw [← this.2,← hv]
  exact h3 i p x hi hp hx (by rw [this.1];exact hd)
theorem jk.start {w:World} {done:Nat→Bool} {ab:Nat→Value} (h:ck t et w B F v0 l0) (hB:B≤w.heap.size) (hB0:B0≤w.heap.size) (hd:∀ i,vU as ps i=true→done i=false):jk t et B0 B F G v0 l0 as ps xs done ab w:=
  ⟨0,Nat.zero_le _,fun i a ha=>by rw [hd a (pP ha)];simp,by rw [List.take_zero];simpa [ln] using h,⟨hB,hB0,fun b h=>.inl h⟩,fun i p x _ hp _ hdn=>by rw [hd p (tk hp)] at hdn;cases hdn⟩
theorem jk.at {w:World} {done:Nat→Bool} {ab:Nat→Value} {k n:Nat} (j:jk t et B0 B F G v0 l0 as ps xs done ab w) (hk:as[n]? = some k) (hd:done k=false) (hprev:∀ m,n=m + 1→∃ a,as[m]? = some a∧done a=true) :
    ck t et w B F (ln v0 as ab n) (l0 ++ (xs.take n).flatten)∧(∀ b,(ln v0 as ab n).ownBlock=some b→v0.ownBlock=some b∨B0≤b)∧(∀ p x,ps[n]? = some (some p)→xs[n]? = some x→done p=true→bs t w (fun b=>G b∧(ln v0 as ab n).ownBlock≠some b∧b < w.heap.size) (ab p) x):=by
  obtain ⟨c,hc,h1,h2,hB,h3⟩:=j
  have hcn:c=n:=by
    have h4:¬ n < c:=fun h=>by have:=(h1 n k hk).2 h;rw [hd] at this;cases this
    rcases Nat.lt_or_ge c n with h | h
    · obtain ⟨m,rfl⟩:∃ m,n=m + 1:=⟨n - 1,by omega⟩
      obtain ⟨a,ha,hda⟩:=hprev m rfl
      have:=(h1 m a ha).1 hda
      omega
    · omega
  subst hcn
  exact ⟨h2,hB.2.2,fun p x hp hx hd=>h3 c p x (Nat.le_refl _) hp hx hd⟩
theorem jk.fin {w:World} {ab:Nat→Value} (j:jk t et B0 B F G v0 l0 as ps xs (fun _=>true) ab w) (hl:xs.length≤as.length):ck t et w B F (ln v0 as ab as.length) (l0 ++ xs.flatten):=by
  obtain ⟨c,hc,h1,h2,hB,h3⟩:=j
  have:c=as.length:=by
    rcases Nat.lt_or_ge c as.length with h | h
    · have:=(h1 c _ (qz h)).1 rfl;omega
    · omega
  subst this
  rwa [List.take_of_length_le hl] at h2
end
def tQ (q:List (Nat × Nat)) (J:(Nat→Bool)→(Nat→Value)→World→Prop) (done:Nat→Bool) (ab:Nat→Value) (w:World):Prop:=
  J done ab w∧∀ k j,(k,j) ∈ q→done k=true→done j=true∧ab k=ab j
def dQ (q:List (Nat × Nat)) (D:Nat→Bool) (i:Nat):Bool:=D i || q.any (fun p=>Nat.beq i p.1 || Nat.beq i p.2)
theorem tQ.on {q:List (Nat × Nat)} {D:Nat→Bool} {J:(Nat→Bool)→(Nat→Value)→World→Prop} (h:tI D J):tI (dQ q D) (tQ q J):=by
  rintro done ab done' vals' w hd ⟨h1,h2⟩
  refine ⟨h _ _ _ _ w (fun i hi=>hd i (by simp [dQ,hi])) h1,fun k j hq hk=>?_⟩
  have e1:=hd k (by unfold dQ;rw [Bool.or_eq_true];exact .inr (List.any_eq_true.2 ⟨(k,j),hq,by simp⟩))
  have e2:=hd j (by unfold dQ;rw [Bool.or_eq_true];exact .inr (List.any_eq_true.2 ⟨(k,j),hq,by simp⟩))
  obtain ⟨a,b⟩:=h2 k j hq (by rw [e1.1];exact hk)
  exact ⟨by rw [← e2.1];exact a,by rw [← e1.2,← e2.2];exact b⟩
theorem tQ.start {q:List (Nat × Nat)} {J:(Nat→Bool)→(Nat→Value)→World→Prop} {done:Nat→Bool} {ab:Nat→Value} {w:World} (h:J done ab w) (hd:∀ k j,(k,j) ∈ q→done k=false):tQ q J done ab w:=
  ⟨h,fun k j hq hk=>by rw [hd k j hq] at hk;cases hk⟩
theorem tQ.step {q:List (Nat × Nat)} {J:(Nat→Bool)→(Nat→Value)→World→Prop} {done:Nat→Bool} {ab:Nat→Value} {w w':World} {i:Nat} {v:Value} (h:tQ q J done ab w) (hi:done i=false) (hq:∀ p ∈ q,p.1≠i) (h1:J (eT done i) (cA ab i v) w'):tQ q J (eT done i) (cA ab i v) w':=by
  refine ⟨h1,fun k j hm hk=>?_⟩
  have hki:k≠i:=hq _ hm
  simp only [eT,if_neg hki] at hk
  obtain ⟨a,b⟩:=h.2 k j hm hk
  have hji:j≠i:=fun he=>by subst he;rw [hi] at a;cases a
  simp only [eT,cA,if_neg hki,if_neg hji]
  exact ⟨a,b⟩
theorem tQ.mv {q:List (Nat × Nat)} {D:Nat→Bool} {J:(Nat→Bool)→(Nat→Value)→World→Prop} {done:Nat→Bool} {ab:Nat→Value} {w:World} {i j:Nat} (h:tQ q J done ab w) (hJ:tI D J) (hD:D i=false) (hi:done i=false) (hj:done j=true) (hq:∀ p ∈ q,p.1=i→p.2=j):tQ q J (eT done i) (cA ab i (ab j)) w:=by
  refine ⟨hJ.step hD h.1,fun k l hm hk=>?_⟩
  have hji:j≠i:=fun he=>by subst he;rw [hi] at hj;cases hj
  by_cases hki:k=i
  · have:=hq _ hm hki
    simp only at this
    subst this hki
    simp only [eT,cA,if_neg hji,if_true]
    exact ⟨hj,trivial⟩
  · simp only [eT,if_neg hki] at hk
    obtain ⟨a,b⟩:=h.2 k l hm hk
    have hli:l≠i:=fun he=>by subst he;rw [hi] at a;cases a
    simp only [eT,cA,if_neg hki,if_neg hli]
    exact ⟨a,b⟩
theorem ct {N:Nat} {Q:Exit→Act→World→Prop} {S:Nat→Value→World→Prop} {ab:Nat→Value} {k:Nat} {e:Nat→Value} {w:World} (h:Q .normal (Fr N e) w):pb N Q S ab [] k e w:=h
end Go.Vc
namespace Go.Vc
section
variable {P:Program} {N:Nat} {ops:Array Oper} {Q:Exit→Act→World→Prop} {e:Nat→Value} {w:World} {ca:List Oper}
theorem cI {d:Option Tmp} {op:Op} {ty:TypeId} {p:String} {af:Array Edge} {g:Nat} {b c:Bool} {tt:Tmp} {t:Value} (hg:(ops[g]?).bind (·.dst)=some tt) (hc:e tt=.bool c)
    (h:(c == b)=true→bx P ⟨d,op,ty,p,af,some (g,b)⟩ e w (fun v w'=>v=t∧aX w w')) (r:∀ w',aX w w'→jl P N ops Q ca (fH e d (bif (c == b) then t else undef)) w') :
    jl P N ops Q (⟨d,op,ty,p,af,some (g,b)⟩ :: ca) e w:=by
  unfold jl
  rw [jm hg hc]
  cases hcb:(c == b) with
  | true=>exact Or.inl ((h hcb).mono fun v w' hv=>by obtain ⟨rfl,k⟩:=hv;have:=r w' k;rw [hcb] at this;exact this)
  | false=>have:=r w (ao.refl _);rw [hcb] at this;exact this
theorem sS {d:Option Tmp} {op:Op} {ty:TypeId} {p:String} {af:Array Edge} {g:Nat} {b c G:Bool} {tt:Tmp} {t:Value} (hg:(ops[g]?).bind (·.dst)=some tt) (hc:e tt=bif G then .bool c else undef)
    (h:(G && (c == b))=true→bx P ⟨d,op,ty,p,af,some (g,b)⟩ e w (fun v w'=>v=t∧aX w w')) (r:∀ w',aX w w'→jl P N ops Q ca (fH e d (bif (G && (c == b)) then t else undef)) w') :
    jl P N ops Q (⟨d,op,ty,p,af,some (g,b)⟩ :: ca) e w:=by
  unfold jl
  rw [nB hg hc]
  cases hcb:(G && (c == b)) with
  | true=>exact Or.inl ((h hcb).mono fun v w' hv=>by obtain ⟨rfl,k⟩:=hv;have:=r w' k;rw [hcb] at this;exact this)
  | false=>have:=r w (ao.refl _);rw [hcb] at this;exact this
end
end Go.Vc
namespace Go.Vc
theorem zS:(∀ (a b:Value) (l:List Value),(a :: l).set 0 b=b :: l)∧(∀ (a b:Value) (l:List Value) (n:Nat),(a :: l).set (n + 1) b=a :: l.set n b)∧(∀ (l:List Value) (o:Nat) (c:List Value),fU l o c=l.take o ++ c ++ l.drop (o + c.length))∧(∀ (l:List Value),l.take 0=[])∧(∀ (a:Value) (l:List Value) (n:Nat),(a :: l).take (n + 1)=a :: l.take n)∧(∀ (l:List Value),l.drop 0=l)∧(∀ (a:Value) (l:List Value) (n:Nat),(a :: l).drop (n + 1)=l.drop n)∧(∀ (l:List Value),[] ++ l=l)∧(∀ (a:Value) (l m:List Value),(a :: l) ++ m=a :: (l ++ m))∧(∀ (l:List Value),l ++ []=l)∧(∀ (a:Value) (l:List Value),(a :: l).length=l.length + 1)∧([]:List Value).length=0:=
  ⟨fun _ _ _=>rfl,fun _ _ _ _=>rfl,fun _ _ _=>rfl,fun _=>rfl,fun _ _ _=>rfl,fun _=>rfl,fun _ _ _=>rfl,fun _=>rfl,fun _ _ _=>rfl,List.append_nil,fun _ _=>rfl,rfl⟩
end Go.Vc

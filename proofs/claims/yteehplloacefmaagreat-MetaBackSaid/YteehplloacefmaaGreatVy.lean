/- Steps and lemmas for the walks. -/
import Derived.Test.YteehplloacefmaaGreatGx
import Derived.Test.YteehplloacefmaaGreatGy
import Derived.Test.YteehplloacefmaaGreatGd
import Derived.Lib.ConvBytes
set_option linter.unusedVariables false
set_option linter.unusedSimpArgs false
namespace Go.Vc
theorem fY.le {B B':Nat} {w w':World} (h:fY B' w w') (hB:B≤B'):fY B w w':=by
  obtain ⟨K,k,hK⟩:=h
  exact ⟨K,k,fun b hb hk=>⟨Nat.le_trans hB (hK b hb hk).1,(hK b hb hk).2⟩⟩
theorem fY.refl (B:Nat) (w:World):fY B w w:=⟨aP,ao.refl _,fun _ _ h=>h.elim⟩
theorem aX.turn {B:Nat} {w w':World} (h:aX w w'):fY B w w':=⟨aP,h,fun _ _ h=>h.elim⟩
def vL {α:Type} (P:Program) (gf:Nat) (lb:Array Value) (encs:α→List Value) (Y:List α→α→World→Prop) (Kp:Nat→Prop) (S Sp:List α→Prop) (w0:World):Prop:=
  ∀ (l:Nat) (J Jx:List α→World→Prop) (W:World),aX w0 W→w0.heap.size + 2≤W.heap.size→(∀ s A B,fY W.heap.size A B→J s A→J s B)→(∀ s A B,fY W.heap.size A B→Jx s A→Jx s B) →
    (∀ pre x W1,J pre W1→Y pre x W1→YieldAt Fence.wide 0 P l (encs x).toArray W1 (fun en W'=>∃ v,en=.returned v∧((v=.bool true∧J (pre ++ [x]) W'∧ao Kp W1 W')∨(v=.bool false∧Jx (pre ++ [x]) W'∧ao Kp W1 W')))) →
    J [] W→ae P gf (#[.func (.yield l) #[] #[]] ++ lb) W (fun _ W'=>(∃ xs,S xs∧J xs W')∨∃ pre,Sp pre∧Jx pre W')
theorem vL.mono {α:Type} {P:Program} {gf:Nat} {lb:Array Value} {encs:α→List Value} {Y:List α→α→World→Prop} {Kp Kp':Nat→Prop} {S Sp:List α→Prop} {w0:World} (h:vL P gf lb encs Y Kp S Sp w0) (hk:∀ i,Kp' i→Kp i):vL P gf lb encs Y Kp' S Sp w0:=by
  intro l J Jx W hx hz hJ hJx hY h0
  refine h l J Jx W hx hz hJ hJx (fun pre x W1 hj hy=>(hY pre x W1 hj hy).mono fun en W' hR=>?_) h0
  obtain ⟨v,h1,h2⟩:=hR
  refine ⟨v,h1,?_⟩
  rcases h2 with ⟨h2,h3,h4⟩ | ⟨h2,h3,h4⟩
  · exact .inl ⟨h2,h3,h4.mono fun i _ hi=>hk i hi⟩
  · exact .inr ⟨h2,h3,h4.mono fun i _ hi=>hk i hi⟩
section
variable {n:Nat} {P:Program} {fn:Func} {N:Nat} {e:Nat→Value} {w:World} {R:Value→World→Prop}
end
end Go.Vc
namespace Go.Vc
theorem tW {l:List Value} {k sz:Nat} {u:Value} (hp:0 < sz) {j:Nat} (h:l[j]? = some u):u ∈ (l.drop (j / sz * sz)).take sz:=by
  have h1:j % sz < sz:=Nat.mod_lt _ hp
  have h2:j / sz * sz + j % sz=j:=by rw [Nat.mul_comm];exact Nat.div_add_mod j sz
  refine List.mem_of_getElem? (i:=j % sz) ?_
  rw [List.getElem?_take,if_pos h1,List.getElem?_drop,h2];exact h
section
variable {α:Type} {P:Program} {d:Option Tmp} {ty:TypeId} {p:String} {af:Array Edge} {g:Option (Nat × Bool)} {e:Nat→Value} {w:World} {x y:Operand} {K:Value→World→Prop}
theorem qU {t:Ty α} {T et bytes B:Nat} {F:Nat→Prop} {b n cap i:Nat} {xs:List α} (hk:gj P T et t.sz bytes=true) (hx:ev e x=.slice (some ⟨b,0,none⟩) i cap) (hv:ck t et w B F (.slice (some ⟨b,0,none⟩) n cap) xs) (hi:i < xs.length)
    (hy:ev e y=.slice (rS (some ⟨b,0,none⟩) cap (i + 1) t.sz) (n - (i + 1)) (cap - (i + 1)))
    (k:∀ w',ck t et w' B F (.slice (some ⟨b,0,none⟩) (n - 1) cap) (xs.eraseIdx i)→ao (fun q=>q=b) w w'→w'.heap.size=w.heap.size→K (.slice (some ⟨b,0,none⟩) (n - 1) cap) w') :
    bx P ⟨d,.call { callee:=.builtin .append,args:=#[x,y],argTypes:=#[T,T] },ty,p,af,g⟩ e w K:=by
  obtain ⟨ht,ii,z,hii,hz,hzs,his,hib⟩:=fW hk
  obtain ⟨cells,hown,hreps⟩:=hv
  have hcl:=hown.1
  have hcell:=hown.cells (g:=b) rfl
  rcases hown.2 with ⟨h,_⟩ | ⟨g',cap',cur,hv',hbg,hg,hnc,hcm,hcs,htake⟩
  · cases h
  cases hv'
  have hp:=t.pos
  obtain ⟨m,hm⟩:∃ m,xs.length=i + 1 + m:=⟨xs.length - (i + 1),by omega⟩
  have hnl:(cells.drop ((i + 1) * t.sz)).length=m * t.sz:=by
    rw [List.length_drop,hcl,hm,Nat.add_mul];omega
  obtain ⟨q,hq,hqc⟩:∃ q,rS (some (⟨b,0,none⟩:Addr)) cap (i + 1) t.sz=some q∧∀ j u,(cells.drop ((i + 1) * t.sz))[j]? = some u→w.cell? (q.add j)=some u:=by
    unfold rS
    split
    · refine ⟨_,rfl,fun j u hu=>?_⟩
      have:m=0:=by omega
      subst this
      have:=(List.getElem?_eq_some_iff.1 hu).1
      omega
    · refine ⟨_,rfl,fun j u hu=>?_⟩
      rw [List.getElem?_drop] at hu
      have h1:=hcell _ u hu
      have h2:((⟨b,0,none⟩:Addr).add ((i + 1) * t.sz)).add j=(⟨b,0,none⟩:Addr).add ((i + 1) * t.sz + j):=by simp [eE]
      rw [h2];exact h1
  have hone:∀ u ∈ cells.drop ((i + 1) * t.sz),u.oneCell'=true:=by
    intro u hu
    obtain ⟨j,hj⟩:=List.mem_iff_getElem?.1 (List.mem_of_mem_drop hu)
    have hjl:=(List.getElem?_eq_some_iff.1 hj).1
    have hk2:j / t.sz < xs.length:=by rw [hcl] at hjl;exact Nat.div_lt_of_lt_mul (by rw [Nat.mul_comm];exact hjl)
    exact t.one (hreps (j / t.sz) _ (List.getElem?_eq_getElem hk2)) u (tW (k:=0) hp hj)
  have hfit:i * ii.size + (cells.drop ((i + 1) * t.sz)).length≤cur.size:=by
    rw [his,hnl,hcs,← Nat.add_mul];exact Nat.mul_le_mul_right _ zo
  have hr:=run_append_room (P:=P) w T ty et ii ht hii b i cap cur hg q m (cap - (i + 1)) (cells.drop ((i + 1) * t.sz)) (by rw [his];exact hnl) hqc hone zo hfit
  have e1:xs.length - (i + 1)=m:=by omega
  have e2:i + m=xs.length - 1:=by omega
  have hr':(execOp (ev e) ⟨d,.call { callee:=.builtin .append,args:=#[x,y],argTypes:=#[T,T] },ty,p,af,g⟩).run P w=.ok (.value (.slice (some ⟨b,0,none⟩) (xs.length - 1) cap)) (w.setRow b (cur.toList.take (i * ii.size) ++ cells.drop ((i + 1) * t.sz) ++ cur.toList.drop (i * ii.size + (cells.drop ((i + 1) * t.sz)).length)).toArray):=by
    simp only [execOp,resolve,invoke,builtin,Sem.run_bind,Sem.run_pure,Result.andThen_ok,List.map_toArray,List.map_cons,List.map_nil,hx,hy,hq,e1,hr,e2]
  unfold bx
  rw [hr']
  have hkeep:ao (fun q=>q=b) w (w.setRow b (cur.toList.take (i * ii.size) ++ cells.drop ((i + 1) * t.sz) ++ cur.toList.drop (i * ii.size + (cells.drop ((i + 1) * t.sz)).length)).toArray):=⟨rfl,rfl,rfl,by simp,fun j _ hj=>setRow_other w b j _ hj⟩
  refine k _ ⟨cells.take (i * t.sz) ++ cells.drop ((i + 1) * t.sz),⟨?_,.inr ⟨b,cap,_,?_,hbg,setRow_heap w b cur _ et _ hg,by rw [List.length_eraseIdx_of_lt hi];omega,hcm,?_,?_⟩⟩,fun j u hu=>?_⟩ hkeep (by simp)
  · rw [List.length_append,hnl,List.length_take,List.length_eraseIdx_of_lt hi,hcl,hm]
    have:i * t.sz≤(i + 1 + m) * t.sz:=Nat.mul_le_mul_right _ zo
    rw [Nat.min_eq_left this,← Nat.add_mul];congr 1;omega
  · rw [List.length_eraseIdx_of_lt hi]
  · simp only [List.size_toArray,List.length_append,List.length_take,List.length_drop,Array.length_toList]
    rw [List.length_drop] at hfit
    omega
  · rw [his]
    have h1:cur.toList.take (i * t.sz)=cells.take (i * t.sz):=by
      rw [← htake,List.take_take,Nat.min_eq_left (Nat.mul_le_mul_right _ zo)]
    have h2:(xs.eraseIdx i).length * t.sz=(cells.take (i * t.sz) ++ cells.drop ((i + 1) * t.sz)).length:=by
      rw [List.length_append,hnl,List.length_take,List.length_eraseIdx_of_lt hi,hcl,hm]
      have:i * t.sz≤(i + 1 + m) * t.sz:=Nat.mul_le_mul_right _ zo
      rw [Nat.min_eq_left this,← Nat.add_mul];congr 1;omega
    simp only []
    rw [h1,h2,List.take_left']
    rfl
  · have hil:i * t.sz≤cells.length:=by rw [hcl];exact Nat.mul_le_mul_right _ zo
    have htl:(cells.take (i * t.sz)).length=i * t.sz:=by rw [List.length_take,Nat.min_eq_left hil]
    have key:∃ j',xs[j']? = some u∧((cells.take (i * t.sz) ++ cells.drop ((i + 1) * t.sz)).drop (j * t.sz)).take t.sz=(cells.drop (j' * t.sz)).take t.sz:=by
      rw [List.getElem?_eraseIdx] at hu
      split at hu
      · rename_i hji
        refine ⟨j,hu,?_⟩
        have hle:j * t.sz + t.sz≤i * t.sz:=by rw [← Nat.succ_mul];exact Nat.mul_le_mul_right _ hji
        rw [List.drop_append_of_le_length zo,List.take_append_of_le_length (by rw [List.length_drop];omega),List.drop_take,List.take_take,Nat.min_eq_left zo]
      · rename_i hji
        refine ⟨j + 1,hu,?_⟩
        obtain ⟨r,rfl⟩:∃ r,j=i + r:=⟨j - i,by omega⟩
        rw [List.drop_append,htl,List.drop_eq_nil_of_le (by rw [htl];exact Nat.mul_le_mul_right _ zo),List.nil_append,List.drop_drop]
        congr 2
        rw [← Nat.sub_mul,← Nat.add_mul];congr 1;omega
    obtain ⟨j',h1,h2⟩:=key
    rw [h2]
    exact t.keep (hreps j' u h1) hkeep (fun c _ hc hcb=>hc.2 (by rw [hcb];rfl))
theorem se {t:Ty α} {T et bytes B:Nat} {F:Nat→Prop} {b n cap c2 m j:Nat} {xs:List α} (hk:gj P T et t.sz bytes=true) (hv:ck t et w B F (.slice (some ⟨b,0,none⟩) n cap) xs) (hn:n=xs.length) (hj:n≤j) (hjm:j + m≤cap)
    (hjc:j < cap) (hx:ev e x=.slice (rS (some ⟨b,0,none⟩) cap j t.sz) m c2) (hz1:∀ z,aE P et z→z.cells.all (·.oneCell')=true)
    (k:∀ w',ck t et w' B F (.slice (some ⟨b,0,none⟩) n cap) xs→ao (fun q=>q=b) w w'→w'.heap.size=w.heap.size→K (.tuple #[]) w') :
    bx P ⟨d,.call { callee:=.builtin .clear,args:=#[x],argTypes:=#[T] },ty,p,af,g⟩ e w K:=by
  replace hx:ev e x=.slice (some ((⟨b,0,none⟩:Addr).add (j * t.sz))) m c2:=by rw [hx,rS,if_neg zo];rfl
  obtain ⟨ht,ii,z,hii,hz,hzs,his,hib⟩:=fW hk
  obtain ⟨cells,hown,hreps⟩:=hv
  have hcl:=hown.1
  rcases hown.2 with ⟨h,_⟩ | ⟨g',cap',cur,hv',hbg,hg,hnc,hcm,hcs,htake⟩
  · cases h
  cases hv'
  have hzc:z.cells.all (·.oneCell')=true:=hz1 z (by unfold aE;rw [hii];exact hz)
  rcases Nat.eq_zero_or_pos m with hm | hm
  · subst hm
    have hr':(execOp (ev e) ⟨d,.call { callee:=.builtin .clear,args:=#[x],argTypes:=#[T] },ty,p,af,g⟩).run P w=.ok (.value (.tuple #[])) w:=by
      simp [execOp,resolve,invoke,builtin,hx,Builtin.clear_,run_underlying ht]
    unfold bx
    rw [hr']
    exact k _ ⟨cells,hown,hreps⟩ (ao.refl _) rfl
  · have hzv:(zeroValue et).run P w=.ok z w:=by simp [zeroValue,typeInfo,hii,hz]
    obtain ⟨zc,hzc0⟩:∃ zc,zc=(Builtin.zeroCells z.cells m).toList:=⟨_,rfl⟩
    have hzl:zc.length=m * t.sz:=by rw [hzc0];simp [Builtin.zeroCells,hzs]
    have hzo:∀ u ∈ zc,u.oneCell'=true:=by
      intro u hu
      rw [hzc0] at hu
      simp only [Builtin.zeroCells,Array.toList_map,List.mem_map] at hu
      obtain ⟨q,_,rfl⟩:=hu
      have hlt:q % z.cells.size < z.cells.size:=Nat.mod_lt _ (by rw [hzs];exact t.pos)
      rw [show z.cells[q % z.cells.size]! = z.cells[q % z.cells.size] from getElem!_pos z.cells (q % z.cells.size) hlt]
      exact Array.all_eq_true.1 hzc _ hlt
    have hst:=run_storeCells_at P b (j * t.sz) et zc 0 cur w hg (by rw [hzl,hcs,Nat.add_zero,← Nat.add_mul];exact Nat.mul_le_mul_right _ hjm) hzo
    have hr':(execOp (ev e) ⟨d,.call { callee:=.builtin .clear,args:=#[x],argTypes:=#[T] },ty,p,af,g⟩).run P w=.ok (.value (.tuple #[])) (w.setRow b (cur.toList.take (j * t.sz + 0) ++ zc ++ cur.toList.drop (j * t.sz + 0 + zc.length)).toArray):=by
      obtain ⟨m',rfl⟩:∃ m',m=m' + 1:=⟨m - 1,by omega⟩
      rw [hzc0] at hst ⊢
      simp only [eE,Nat.zero_add] at hx
      simp [execOp,resolve,invoke,builtin,hx,Builtin.clear_,run_underlying ht,hzv,hst]
    unfold bx
    rw [hr']
    have hkeep:ao (fun q=>q=b) w (w.setRow b (cur.toList.take (j * t.sz + 0) ++ zc ++ cur.toList.drop (j * t.sz + 0 + zc.length)).toArray):=⟨rfl,rfl,rfl,by simp,fun j _ hj=>setRow_other w b j _ hj⟩
    have hle:xs.length * t.sz≤j * t.sz:=Nat.mul_le_mul_right _ zo
    have hjc:j * t.sz + m * t.sz≤cur.size:=by rw [hcs,← Nat.add_mul];exact Nat.mul_le_mul_right _ hjm
    refine k _ ⟨cells,⟨hcl,.inr ⟨b,cap,_,rfl,hbg,setRow_heap w b cur _ et _ hg,hnc,hcm,?_,?_⟩⟩,fun i u hu=>t.keep (hreps i u hu) hkeep (fun c _ hc hcb=>hc.2 (by rw [hcb];rfl))⟩ hkeep (by simp)
    · simp only [List.size_toArray,List.length_append,List.length_take,List.length_drop,Array.length_toList,hzl]
      omega
    · simp only [Nat.add_zero]
      have hq1:xs.length * t.sz≤(cur.toList.take (j * t.sz)).length:=by rw [List.length_take];exact Nat.le_min.2 ⟨hle,by rw [show cur.toList.length=cur.size from Array.length_toList];omega⟩
      rw [List.append_assoc,List.take_append_of_le_length hq1,List.take_take,Nat.min_eq_left hle,htake]
theorem qQ {T et sz n c l h m:Nat} {a:Option Addr} {k1 k2 k3:IntKind} {lo hi mx:Operand} (hk:gD P T et=true) (hs:gQ P et sz=true) (hx:ev e x=.slice a n c) (hl:ev e lo=.int k1 (l:Nat)) (hh:ev e hi=.int k2 (h:Nat)) (hm:ev e mx=.int k3 (m:Nat)) (hlh:l≤h) (hhm:h≤m) (hmc:m≤c) :
    aG P ⟨d,.slice T x (some lo) (some hi) (some mx),ty,p,af,g⟩ e w (.slice (rS a m l sz) (h - l) (m - l)):=by
  have h1:(Instr.sliceBound (.int k3 (m:Nat)) c .slice3Acap).run P w=.ok m w:=by
    simp [Instr.sliceBound,asIntOf];omega
  have h2:(Instr.sliceBound (.int k2 (h:Nat)) m .slice3B).run P w=.ok h w:=by
    simp [Instr.sliceBound,asIntOf];omega
  have h3:(Instr.sliceBound (.int k1 (l:Nat)) h .slice3C).run P w=.ok l w:=by
    simp [Instr.sliceBound,asIntOf];omega
  have hb:(Instr.sliceBounds true n c (some (.int k1 (l:Nat))) (some (.int k2 (h:Nat))) (some (.int k3 (m:Nat)))).run P w=.ok (l,h,m) w:=by
    simp [Instr.sliceBounds,h1,h2,h3]
  simp [aG,execOp,hx,hl,hh,hm,Instr.sliceAt,Instr.slice,run_underlying (eO hk),hb,em hs,rS]
end
end Go.Vc
namespace Go.Vc
section
variable {P:Program} {d:Option Tmp} {ty:TypeId} {p:String} {af:Array Edge} {g:Option (Nat × Bool)} {e:Nat→Value} {w:World} {x y:Operand} {K:Value→World→Prop}
theorem u1 {src dst et:TypeId} {l:List UInt8} (hs:P.underlying src=some .string) (hd:gD P dst et=true) (he:P.underlying et=some (.int .u8)) (hx:ev e x=.string ⟨l.toArray⟩) (hl:l.length≤maxLen)
    (k:∀ b c w',b=w.heap.size→bs cw w' (fun i=>i=b) (.slice (some ⟨b,0,none⟩) l.length c) l→aX w w'→w'.heap.size=b + 1→K (.slice (some ⟨b,0,none⟩) l.length c) w'):bx P ⟨d,.convert src dst x,ty,p,af,g⟩ e w K:=by
  have hr:(execOp (ev e) ⟨d,.convert src dst x,ty,p,af,g⟩).run P w=.ok (.value (.slice (some ⟨w.heap.size,0,none⟩) (ByteArray.mk l.toArray).size (grownCap w (ByteArray.mk l.toArray).size 0 et))) (Lib.bytesWorld w et ⟨l.toArray⟩):=by
    have h:=Lib.run_convert_string_bytes (P:=P) w src dst et ⟨l.toArray⟩ hs (eO hd) he
    simp only [execOp,hx,Sem.run_bind,h,Result.andThen_ok,Sem.run_pure]
  unfold bx
  rw [hr]
  have hsz:(ByteArray.mk l.toArray).size=l.length:=by simp [ByteArray.size]
  rw [hsz]
  have hE:aX w (Lib.bytesWorld w et ⟨l.toArray⟩):=by
    have h1:aX w (w.drew.alloc (.cells (Lib.bytesCells w et ⟨l.toArray⟩) et)):=(ao.drawn w _).trans (aX.alloc _ _)
    exact h1.step (oW _ _ _).1 fun i hi h=>by have h:i=w.heap.size:=h;omega
  refine k _ _ _ rfl ⟨some ⟨w.heap.size,0,none⟩,_,rfl,grownCap_ge w _ 0 et,grownCap_le_maxLen w _ 0 et hl,(fun h=>by cases h),fun i u hu=>?_⟩ hE (Lib.bytesWorld_size w et _)
  have hil:=(List.getElem?_eq_some_iff.1 hu).1
  refine ⟨_,[.int .u8 u.toNat],rfl,rfl,fun j v hv=>?_,rfl⟩
  have hj:j=0:=by
    rcases j with _ | j
    · rfl
    · simp at hv
  subst hj
  obtain rfl:v=.int .u8 u.toNat:=by simpa using hv.symm
  have h2:=Lib.bytesWorld_cell w et ⟨l.toArray⟩ i (by rw [hsz];exact hil)
  have h3:((ByteArray.mk l.toArray).data.toList.getD i 0)=u:=by
    show l.getD i 0=u
    rw [List.getD_eq_getElem?_getD,hu];rfl
  rw [h3] at h2
  have e1:(((⟨w.heap.size,0,none⟩:Addr).add (i * cw.sz)).add 0)=⟨w.heap.size,i,none⟩:=by simp [eE,cw]
  rw [e1];exact h2
end
end Go.Vc

/- Steps and lemmas for the walks. -/
import Derived.Test.YteehplloacefmaaGreatCd
import Derived.Test.YteehplloacefmaaGreatCy
import Derived.Test.YteehplloacefmaaGreatCz
set_option linter.unusedVariables false
set_option linter.unusedSimpArgs false
set_option maxRecDepth 100000
namespace Go.Proofs.YteehplloacefmaaGreat
open Go.Vc
def cm0:List Value:=[.int .i64 0,.int .i64 0,.int .i64 0,.int .i64 0,.slice none 0 0,.slice none 0 0,.slice none 0 0,.slice none 0 0,.bool false,.int .i64 0,.int .i64 0,.slice none 0 0,.slice none 0 0,.bool false,.int .i64 0,.int .i64 0,.slice none 0 0,.slice none 0 0,.slice none 0 0,.int .i64 0]
theorem wn {w:World} {b2 b3:Nat} {cs2:List Value} {e0:Value} (HB2:dh w b2 cs2 49) (hl2:cs2.length=20) (HB3:dh w b3 [e0] 31) (hne:b2≠b3) :
    CallsDIn (Fw none) 0 Tryz.prog 67 #[.pointer (some ⟨b2,0,none⟩),.pointer (some ⟨b3,0,none⟩)] (.panicking l8) w (fun en u' w'=>en=.returned (.tuple #[])∧u'=.panicking [{ v:=.iface 118 (.agg #[]),recovered:=true }]∧dh w' b2 cm0 49∧dh w' b3 [.int .i64 4] 31∧ao (fun k=>k=b2∨k=b3) w w'):=by
  have zl2:=HB2.lt
  have zl3:=HB3.lt
  refine tg (l:=[.pointer (some ⟨b2,0,none⟩),.pointer (some ⟨b3,0,none⟩)]) 11 0 Tryz.func67 rfl rfl (by simp) fun c₀ cs hu=>?_
  refine wpSIn_seq (wpSIn_region ?_)
  show wpOpsSIn _ _ _ _ _ [0,1,2,3,4,5,6,7] _ _ _
  refine rW (v:=.iface 118 (.agg #[])) (cs':={ c₀ with mode:=.panicking [{ v:=.iface 118 (.agg #[]),recovered:=true }] } :: cs) rfl rfl rfl ⟨_,rfl⟩ (by simp [recoverD,hu]) ?_
  refine fo rfl zd rfl (hT (vW zk rfl) ?_)
  refine fo rfl zd rfl (hT (dY rfl) ?_)
  refine fo rfl zd rfl (hT (ai (t:=.agg _) rfl rfl) ?_)
  refine fo rfl zd rfl (hT (ai (t:=.bool _) rfl rfl) ?_)
  refine fo rfl zd rfl (nh (aD (z:=.agg #[]) (by unfold aE;kernel_rfl) fun b4 w4 zb4 HB4 e4 z4=>?_))
  have hb4:b2 < b4∧b3 < b4:=by omega
  refine fo rfl zd rfl (js (aq (n:=0) rfl rfl rfl zk rfl (eo (by rfl)) HB4 (Nat.le_refl _) fun w5 HB5 k5 z5=>?_))
  refine fo rfl zd rfl (hT (dl rfl) ?_)
  have HC2:=(HB2.ext e4).keep k5 (by intro h;omega)
  have HC3:=(HB3.ext e4).keep k5 (by intro h;omega)
  refine lD ?_
  show (Code.seq _ _).wpSIn _ _ _ _ _ _ _
  refine wpSIn_seq (wpSIn_region ?_)
  show wpOpsSIn _ _ _ _ _ [0] _ _ _
  refine fo rfl zd rfl (hT (bH rfl) ?_)
  refine lD ?_
  show (Code.cond _ _ _).wpSIn _ _ _ _ _ _ _
  refine wpSIn_cond (t:=true) ?_ ?_
  · exact gG (x:=.tmp 9) zq
  rw [if_pos rfl]
  refine wpSIn_region ?_
  show wpOpsSIn _ _ _ _ _ [0,1,2] _ _ _
  refine fo rfl zd rfl (hT (aV (pl:=[(0,1),(1,9),(10,6),(16,1),(17,1),(18,1),(19,1)]) (z:=.agg #[.int .i64 0,.int .i64 0,.int .i64 0,.int .i64 0,.slice none 0 0,.slice none 0 0,.slice none 0 0,.slice none 0 0,.bool false,.int .i64 0,.int .i64 0,.slice none 0 0,.slice none 0 0,.bool false,.int .i64 0,.int .i64 0,.slice none 0 0,.slice none 0 0,.slice none 0 0,.int .i64 0]) (zl:=[.int .i64 0,.int .i64 0,.int .i64 0,.int .i64 0,.slice none 0 0,.slice none 0 0,.slice none 0 0,.slice none 0 0,.bool false,.int .i64 0,.int .i64 0,.slice none 0 0,.slice none 0 0,.bool false,.int .i64 0,.int .i64 0,.slice none 0 0,.slice none 0 0,.slice none 0 0,.int .i64 0]) zk (by unfold aE;kernel_rfl) rfl rfl (cells:=[_,_,_,_,_,_,_,_,_,_,_,_,_,_,_,_,_,_,_,_]) rfl) ?_)
  refine fo rfl zd rfl (js (aq (n:=20) rfl rfl rfl zk rfl (eo (by rfl)) HC2 (by rw [hl2];exact Nat.le_refl _) fun w6 HB6 k6 z6=>?_))
  have HC3:=HC3.keep k6 (by intro h;exact hne h.symm)
  refine fo rfl zd rfl (js (aR rfl rfl rfl rfl zk HC3 (by simp) fun w7 HB7 k7 z7=>?_))
  have HC6:=HB6.keep k7 (by intro h;exact hne h)
  refine lD ⟨rfl,_,rfl,.tuple #[],?_,rfl,rfl,?_,HB7,?_⟩
  · rw [results_none rfl]
  · have h9:fU cs2 0 (#[.int .i64 0,.int .i64 0,.int .i64 0,.int .i64 0,.slice none 0 0,.slice none 0 0,.slice none 0 0,.slice none 0 0,.bool false,.int .i64 0,.int .i64 0,.slice none 0 0,.slice none 0 0,.bool false,.int .i64 0,.int .i64 0,.slice none 0 0,.slice none 0 0,.slice none 0 0,.int .i64 0]:Array Value).toList=cm0:=by
      rw [jr (by rw [hl2];rfl)];rfl
    rw [h9] at HC6
    exact HC6
  · exact (((aX.keep e4).step k5 fun i hi h=>by omega).trans (k6.mono fun i _ h=>.inl h)).trans (k7.mono fun i _ h=>.inr h)
theorem wm {w:World} {b2 b3:Nat}:CallsDIn (Fw none) 0 Tryz.prog 67 #[.pointer (some ⟨b2,0,none⟩),.pointer (some ⟨b3,0,none⟩)] .returning w (fun en u' w'=>en=.returned (.tuple #[])∧u'=.returning∧aX w w'):=by
  refine tg (l:=[.pointer (some ⟨b2,0,none⟩),.pointer (some ⟨b3,0,none⟩)]) 11 0 Tryz.func67 rfl rfl (by simp) fun c₀ cs hu=>?_
  refine wpSIn_seq (wpSIn_region ?_)
  show wpOpsSIn _ _ _ _ _ [0,1,2,3,4,5,6,7] _ _ _
  refine rW (v:=.nilIface) (cs':=c₀ :: cs) rfl rfl rfl ⟨_,rfl⟩ (by simp [recoverD,hu]) ?_
  refine fo rfl zd rfl (hT (vX (z:=.agg #[]) zk (by unfold aE;kernel_rfl) rfl) ?_)
  refine fo rfl zd rfl (hT (dY rfl) ?_)
  refine fo rfl zd rfl (hT (ai (t:=.agg _) rfl rfl) ?_)
  refine fo rfl zd rfl (hT (ai (t:=.bool _) rfl rfl) ?_)
  refine fo rfl zd rfl (nh (aD (z:=.agg #[]) (by unfold aE;kernel_rfl) fun b4 w4 zb4 HB4 e4 z4=>?_))
  refine fo rfl zd rfl (js (aq (n:=0) rfl rfl rfl zk rfl (eo (by rfl)) HB4 (Nat.le_refl _) fun w5 HB5 k5 z5=>?_))
  refine fo rfl zd rfl (hT (dl rfl) ?_)
  refine lD ?_
  show (Code.seq _ _).wpSIn _ _ _ _ _ _ _
  refine wpSIn_seq (wpSIn_region ?_)
  show wpOpsSIn _ _ _ _ _ [0] _ _ _
  refine fo rfl zd rfl (hT (bH rfl) ?_)
  refine lD ?_
  show (Code.cond _ _ _).wpSIn _ _ _ _ _ _ _
  refine wpSIn_cond (t:=false) ?_ ?_
  · exact gG (x:=.tmp 9) zq
  rw [if_neg zq]
  refine wpSIn_of_wpIn rfl (wpIn_skip ?_)
  refine ⟨rfl,.returning,?_,.tuple #[],?_,rfl,rfl,?_⟩
  · cases c₀;simp_all
  · rw [results_none rfl]
  · exact e4.step k5 fun i hi h=>by omega
end Go.Proofs.YteehplloacefmaaGreat
namespace Go.Proofs.YteehplloacefmaaGreat
open Go.Vc
theorem uw {w:World} {b:Nat} {F:Nat→Prop} {l:List UInt8} {a:mN} {r:List UInt8} (HR:Rd ef w b F l) (hF:∀ k,F k→k < b) (hl:l.length≤1000000) (h:gH l=some (a,r)) :
    ae Tryz.prog 69 #[.pointer (some ⟨b,0,none⟩)] w (fun o w'=>aY nH w' (fun i=>w.heap.size≤i) o a∧Rd ef w' b F r∧ao (fun k=>k=b) w w'):=
  (qK HR hF hl).r (fun v w' ⟨a',r',h',h1⟩=>by rw [h] at h';cases h';exact h1) (fun ch w' h'=>by rw [h] at h';cases h'.1)
theorem uv {w:World} {b:Nat} {F:Nat→Prop} {l:List UInt8} (HR:Rd ef w b F l) (hF:∀ k,F k→k < b) (hl:l.length≤1000000) (h:gH l=none) :
    bt Tryz.prog 69 #[.pointer (some ⟨b,0,none⟩)] w (fun ch w'=>ch=l8∧ao (fun k=>k=b) w w'):=
  (qK HR hF hl).p (fun v w' ⟨a',r',h',h1⟩=>by rw [h] at h';cases h') (fun ch w' h'=>h'.2)
theorem kD {w:World} {b:Nat} {F:Nat→Prop} {l:List UInt8} {a:iJ} {r:List UInt8} (HR:Rd ef w b F l) (hF:∀ k,F k→k < b) (hl:l.length≤1000000) (h:gn l=some (a,r)) :
    ae Tryz.prog 70 #[.pointer (some ⟨b,0,none⟩)] w (fun o w'=>aY jU w' (fun i=>w.heap.size≤i) o a∧Rd ef w' b F r∧ao (fun k=>k=b) w w'):=
  (qL HR hF hl).r (fun v w' ⟨a',r',h',h1⟩=>by rw [h] at h';cases h';exact h1) (fun ch w' h'=>by rw [h] at h';cases h'.1)
theorem kC {w:World} {b:Nat} {F:Nat→Prop} {l:List UInt8} (HR:Rd ef w b F l) (hF:∀ k,F k→k < b) (hl:l.length≤1000000) (h:gn l=none) :
    bt Tryz.prog 70 #[.pointer (some ⟨b,0,none⟩)] w (fun ch w'=>ch=l8∧ao (fun k=>k=b) w w'):=
  (qL HR hF hl).p (fun v w' ⟨a',r',h',h1⟩=>by rw [h] at h';cases h') (fun ch w' h'=>h'.2)
theorem iv {l:List UInt8} {a:iJ} {r:List UInt8} (h:gn l=some (a,r)):l=hU a ++ r∧r.length≤l.length∧cH a.1:=by
  rw [gn] at h
  rcases h0:eF 2147483647 l with _ | ⟨n,l1⟩
  · rw [h0] at h;cases h
  rw [h0] at h;simp only [] at h
  rcases h1:dU 24 l1 with _ | ⟨f,l2⟩
  · rw [h1] at h;cases h
  rw [h1] at h;simp only [] at h
  rcases h2:dM l2 with _ | ⟨e,l3⟩
  · rw [h2] at h;cases h
  rw [h2] at h;simp only [] at h
  rcases h3:dU 24 l3 with _ | ⟨t,l4⟩
  · rw [h3] at h;cases h
  rw [h3] at h;simp only [] at h
  rcases h4:eF 5 l4 with _ | ⟨og,l5⟩
  · rw [h4] at h;cases h
  rw [h4] at h;simp only [] at h
  rcases h5:eF 5 l5 with _ | ⟨g,l6⟩
  · rw [h5] at h;cases h
  rw [h5] at h;cases h
  have b0:=dy h0;have b1:=cW h1;have b2:=hQ h2;have b3:=cW h3;have b4:=dy h4;have b5:=dy h5
  refine ⟨?_,by omega,by dsimp only;omega,by dsimp only;omega⟩
  rw [b0.1,b1.1,b2.1,b3.1,b4.1,b5.1];simp [hU]
theorem hO {a:iJ} {r:List UInt8} (h:di a=true):gn (hU a ++ r)=some (a,r):=by
  obtain ⟨n,f,t,e,og,g⟩:=a
  obtain ⟨g1,g2,g3,g4,g5,g6,g7,g8⟩:=km h
  obtain ⟨n,rfl⟩:=Int.eq_ofNat_of_zero_le (show 0≤n by omega)
  obtain ⟨og,rfl⟩:=Int.eq_ofNat_of_zero_le (show 0≤og by omega)
  obtain ⟨g,rfl⟩:=Int.eq_ofNat_of_zero_le (show 0≤g by omega)
  simp only [hU,List.append_assoc,Int.toNat_natCast]
  rw [gn,cM zo zo];simp only []
  rw [ez g3 zq];simp only []
  rw [iS];simp only []
  rw [ez g4 zq];simp only []
  rw [cM zo zo];simp only []
  rw [cM zo zo]
theorem qk {l:List UInt8} {a:mN} {r:List UInt8} (h:gH l=some (a,r)):l=mS a ++ r∧r.length≤l.length:=by
  rw [gH] at h
  rcases h0:eF 5 l with _ | ⟨k,l1⟩
  · rw [h0] at h;cases h
  rw [h0] at h;simp only [] at h
  rcases h1:dU 24 l1 with _ | ⟨key,l2⟩
  · rw [h1] at h;cases h
  rw [h1] at h;simp only [] at h
  rcases h2:(if (dR k).2.1=true then dU 24 l2 else some ([],l2)) with _ | ⟨to,l3⟩
  · rw [h2] at h;cases h
  rw [h2] at h;simp only [] at h
  rcases h3:(if (dR k).2.2.1=true then dU 40 l3 else some ([],l3)) with _ | ⟨val,l4⟩
  · rw [h3] at h;cases h
  rw [h3] at h;simp only [] at h
  rcases h4:(if (dR k).2.2.2.1=true then dU 40 l4 else some ([],l4)) with _ | ⟨was,l5⟩
  · rw [h4] at h;cases h
  rw [h4] at h;simp only [] at h
  rcases h5:(if (dR k).2.2.2.1=true then dM l5 else some (false,l5)) with _ | ⟨no,l6⟩
  · rw [h5] at h;cases h
  rw [h5] at h;simp only [] at h
  rcases h6:(if (dR k).2.2.2.2=true then eF 32 l6 else some (0,l6)) with _ | ⟨most,l7⟩
  · rw [h6] at h;cases h
  rw [h6] at h;cases h
  have b0:=dy h0;have b1:=cW h1
  have q2:l2=de (dR k).2.1 (az to) ++ l3∧l3.length≤l2.length:=by
    unfold de;split at h2
    · next hc=>rw [if_pos hc];exact ⟨(cW h2).1,(cW h2).2.2⟩
    · next hc=>rw [if_neg hc];cases h2;exact ⟨rfl,Nat.le_refl _⟩
  have q3:l3=de (dR k).2.2.1 (az val) ++ l4∧l4.length≤l3.length:=by
    unfold de;split at h3
    · next hc=>rw [if_pos hc];exact ⟨(cW h3).1,(cW h3).2.2⟩
    · next hc=>rw [if_neg hc];cases h3;exact ⟨rfl,Nat.le_refl _⟩
  have q4:l4=de (dR k).2.2.2.1 (az was ++ dk no) ++ l6∧l6.length≤l4.length:=by
    unfold de;split at h4
    · next hc=>
      rw [if_pos hc] at h5 ⊢
      have c1:=cW h4;have c2:=hQ h5
      refine ⟨?_,by omega⟩
      rw [c1.1,c2.1];simp
    · next hc=>rw [if_neg hc] at h5 ⊢;cases h4;cases h5;exact ⟨rfl,Nat.le_refl _⟩
  have q6:l6=de (dR k).2.2.2.2 (aT most) ++ r∧r.length≤l6.length:=by
    unfold de;split at h6
    · next hc=>rw [if_pos hc];exact ⟨(dy h6).1,(dy h6).2.2⟩
    · next hc=>rw [if_neg hc];cases h6;exact ⟨rfl,Nat.le_refl _⟩
  refine ⟨?_,by omega⟩
  rw [b0.1,b1.1,q2.1,q3.1,q4.1,q6.1];simp [mS]
theorem rl {a:mN} {r:List UInt8} (h:fD a=true):gH (mS a ++ r)=some (a,r):=by
  obtain ⟨k,key,to,val,was,no,most⟩:=a
  obtain ⟨g1,g2,g3,g4,g5,g6,g7,g8⟩:=qs h
  obtain ⟨k,rfl⟩:=Int.eq_ofNat_of_zero_le (show 0≤k by omega)
  obtain ⟨most,rfl⟩:=Int.eq_ofNat_of_zero_le (show 0≤most by omega)
  have le:∀ (l:List UInt8),l.isEmpty=decide (l.length=0):=fun l=>by cases l <;> simp
  have hz:((dR k).2.1=false→to=[])∧((dR k).2.2.1=false→val=[])∧((dR k).2.2.2.1=false→was=[]∧no=false)∧((dR k).2.2.2.2=false→most=0):=by
    have hl:∀ {l:List UInt8},l.length=0→l=[]:=fun {l} h=>by cases l <;> simp_all
    have h1:k=1∨k=2∨k=3∨k=4∨k=5:=by omega
    rcases h1 with rfl | rfl | rfl | rfl | rfl <;> simp [fD,le,ep] at h <;> refine ⟨?_,?_,?_,?_⟩ <;> intro hn <;> simp [dR] at hn <;> simp_all
  rw [gH]
  simp only [mS,List.append_assoc,Int.toNat_natCast]
  rw [cM zo zo];simp only []
  rw [ez g3 zq];simp only []
  have e2:(if (dR k).2.1=true then dU 24 (de (dR k).2.1 (az to) ++ (de (dR k).2.2.1 (az val) ++ (de (dR k).2.2.2.1 (az was ++ dk no) ++ (de (dR k).2.2.2.2 (aT most) ++ r)))) else some ([],de (dR k).2.1 (az to) ++ (de (dR k).2.2.1 (az val) ++ (de (dR k).2.2.2.1 (az was ++ dk no) ++ (de (dR k).2.2.2.2 (aT most) ++ r)))))=some (to,de (dR k).2.2.1 (az val) ++ (de (dR k).2.2.2.1 (az was ++ dk no) ++ (de (dR k).2.2.2.2 (aT most) ++ r))):=by
    cases hc:(dR k).2.1 with
    | true=>rw [if_pos rfl,de,if_pos rfl,ez g4 zq]
    | false=>rw [if_neg zq,de,if_neg zq,hz.1 hc];rfl
  rw [e2];simp only []
  have e3:(if (dR k).2.2.1=true then dU 40 (de (dR k).2.2.1 (az val) ++ (de (dR k).2.2.2.1 (az was ++ dk no) ++ (de (dR k).2.2.2.2 (aT most) ++ r))) else some ([],de (dR k).2.2.1 (az val) ++ (de (dR k).2.2.2.1 (az was ++ dk no) ++ (de (dR k).2.2.2.2 (aT most) ++ r))))=some (val,de (dR k).2.2.2.1 (az was ++ dk no) ++ (de (dR k).2.2.2.2 (aT most) ++ r)):=by
    cases hc:(dR k).2.2.1 with
    | true=>rw [if_pos rfl,de,if_pos rfl,ez g5 zq]
    | false=>rw [if_neg zq,de,if_neg zq,hz.2.1 hc];rfl
  rw [e3];simp only []
  have e6:(if (dR k).2.2.2.2=true then eF 32 (de (dR k).2.2.2.2 (aT most) ++ r) else some (0,de (dR k).2.2.2.2 (aT most) ++ r))=some (most,r):=by
    cases hc:(dR k).2.2.2.2 with
    | true=>rw [if_pos rfl,de,if_pos rfl,cM zo zo]
    | false=>rw [if_neg zq,de,if_neg zq,hz.2.2.2 hc];rfl
  cases hc:(dR k).2.2.2.1 with
  | true=>
    simp only [if_true,de,List.append_assoc]
    rw [ez g6 zq];simp only []
    rw [iS];simp only []
    have:=e6;simp only [de] at this
    rw [this]
  | false=>
    obtain ⟨rfl,rfl⟩:=hz.2.2.1 hc
    simp only [Bool.false_eq_true,if_false,de,List.nil_append]
    have:=e6;simp only [de] at this
    rw [this]
def dt (L:Nat) (l:List UInt8):Option (iq × List UInt8):=match eF 10 l with
  | none=>none
  | some (k,l1)=>
    if k=2 then (match eF 4 l1 with
      | none=>none
      | some (c,l2)=>match eF 2147483647 l2 with
        | none=>none
        | some (n,l3)=>match gH l3 with
          | none=>none
          | some (a,l4)=>some ((2,((c:Int),(n:Int),a),jF,[],[],[],0),l4))
    else if k=3∨k=5∨k=9∨k=10 then (match gn l1 with
      | none=>none
      | some (m,l2)=>some (((k:Int),gm,m,[],[],[],0),l2))
    else if k=4 then (match gn l1 with
      | none=>none
      | some (m,l2)=>match dU L l2 with
        | none=>none
        | some (x,l3)=>match lm x with
          | none=>none
          | some en=>match dU 524288 l3 with
            | none=>none
            | some (an,l4)=>some ((4,gm,m,en,an,[],0),l4))
    else if k=6∨k=7 then (match dU 24 l1 with
      | none=>none
      | some (key,l2)=>some (((k:Int),gm,jF,[],[],key,0),l2))
    else if k=8 then (match dU 24 l1 with
      | none=>none
      | some (key,l2)=>match eF 5 l2 with
        | none=>none
        | some (g,l3)=>some ((8,gm,jF,[],[],key,(g:Int)),l3))
    else some (((k:Int),gm,jF,[],[],[],0),l1)
def bY (l:List UInt8):Option iq:=match dt l.length l with
  | some (c,[])=>if eh c=true then some c else none
  | _=>none
theorem pA {m:Nat} {x r:List UInt8} (h:x.length≤m) (hx:x.length < 18446744073709551616):dU m (az x ++ r)=some (x,r):=by
  unfold dU
  rw [br,bR,az,List.append_assoc,dr hx]
  simp only [h,if_true]
  rw [fa,if_pos (by simp)]
  simp
theorem t1 {L:Nat} {l:List UInt8} {c:iq} {r:List UInt8} (h:dt L l=some (c,r)):l=eY c ++ r:=by
  rw [dt] at h
  rcases h0:eF 10 l with _ | ⟨k,l1⟩
  · rw [h0] at h;cases h
  rw [h0] at h;simp only [] at h
  have b0:=(dy h0).1
  split at h
  · next hk=>
    subst hk
    rcases h1:eF 4 l1 with _ | ⟨rc,l2⟩
    · rw [h1] at h;cases h
    rw [h1] at h;simp only [] at h
    rcases h2:eF 2147483647 l2 with _ | ⟨rn,l3⟩
    · rw [h2] at h;cases h
    rw [h2] at h;simp only [] at h
    rcases h3:gH l3 with _ | ⟨a,l4⟩
    · rw [h3] at h;cases h
    rw [h3] at h;cases h
    rw [b0,(dy h1).1,(dy h2).1,(qk h3).1];simp [eY]
  · next hk2=>
    split at h
    · next hk=>
      rcases h1:gn l1 with _ | ⟨m,l2⟩
      · rw [h1] at h;cases h
      rw [h1] at h;cases h
      rw [b0,(iv h1).1]
      rcases hk with rfl | rfl | rfl | rfl <;> simp [eY]
    · next hk3=>
      split at h
      · next hk=>
        subst hk
        rcases h1:gn l1 with _ | ⟨m,l2⟩
        · rw [h1] at h;cases h
        rw [h1] at h;simp only [] at h
        rcases h2:dU L l2 with _ | ⟨x,l3⟩
        · rw [h2] at h;cases h
        rw [h2] at h;simp only [] at h
        rcases h3:lm x with _ | en
        · rw [h3] at h;cases h
        rw [h3] at h;simp only [] at h
        rcases h4:dU 524288 l3 with _ | ⟨an,l4⟩
        · rw [h4] at h;cases h
        rw [h4] at h;cases h
        rw [b0,(iv h1).1,(cW h2).1,(cW h4).1,← (tY h3).2.2];simp [eY]
      · next hk4=>
        split at h
        · next hk=>
          rcases h1:dU 24 l1 with _ | ⟨key,l2⟩
          · rw [h1] at h;cases h
          rw [h1] at h;cases h
          rw [b0,(cW h1).1]
          rcases hk with rfl | rfl <;> simp [eY]
        · next hk6=>
          split at h
          · next hk=>
            subst hk
            rcases h1:dU 24 l1 with _ | ⟨key,l2⟩
            · rw [h1] at h;cases h
            rw [h1] at h;simp only [] at h
            rcases h2:eF 5 l2 with _ | ⟨g,l3⟩
            · rw [h2] at h;cases h
            rw [h2] at h;cases h
            rw [b0,(cW h1).1,(dy h2).1];simp [eY]
          · next hk8=>
            cases h
            rw [b0]
            have e1:¬ ((k:Int)=2):=by omega
            have e2:¬ ((k:Int)=3∨(k:Int)=5∨(k:Int)=9∨(k:Int)=10):=by omega
            have e3:¬ ((k:Int)=4):=by omega
            have e4:¬ ((k:Int)=6∨(k:Int)=7):=by omega
            have e5:¬ ((k:Int)=8):=by omega
            simp only [eY,if_neg e1,if_neg e2,if_neg e3,if_neg e4,if_neg e5,List.append_nil,Int.toNat_natCast]
theorem sF {l:List UInt8} {c:iq} (h:bY l=some c):eh c=true∧eY c=l:=by
  rw [bY] at h
  split at h
  · next c' hq=>
    split at h
    · next hm=>cases h;exact ⟨hm,by rw [t1 hq,List.append_nil]⟩
    · cases h
  · cases h
theorem pC {c:iq} (hm:eh c=true):bY (eY c)=some c:=by
  have key:dt (eY c).length (eY c)=some (c,[]):=by
    obtain ⟨k,⟨rc,rn,ra⟩,mv,en,an,key,g⟩:=c
    obtain ⟨m1,m2,mrq,mmv,min,mke,mgr⟩:=qr hm
    have hz:(gI (k,(rc,rn,ra),mv,en,an,key,g)).1=(k,(rc,rn,ra),mv,en,an,key,g):=by
      have:=(Bool.and_eq_true _ _ ▸ hm:_∧_).2
      simpa using this
    generalize hL:(eY (k,(rc,rn,ra),mv,en,an,key,g)).length=L
    obtain ⟨k,rfl⟩:=Int.eq_ofNat_of_zero_le (show 0≤k by omega)
    have hk:k=1∨k=2∨(k=3∨k=5∨k=9∨k=10)∨k=4∨(k=6∨k=7)∨k=8:=by omega
    rcases hk with rfl | rfl | hk | rfl | hk | rfl
    · simp [gI] at hz
      obtain ⟨h1,h2,h3,h4,h5,h6⟩:=hz
      rw [← h1,← h2,h3,h4,h5,← h6]
      simp only [eY]
      rw [dt,show (if ((1:Nat):Int)=2 then aT gm.1.toNat ++ aT gm.2.1.toNat ++ mS gm.2.2 else if ((1:Nat):Int)=3∨((1:Nat):Int)=5∨((1:Nat):Int)=9∨((1:Nat):Int)=10 then hU jF else if ((1:Nat):Int)=4 then hU jF ++ az (bQ jV []) ++ az [] else if ((1:Nat):Int)=6∨((1:Nat):Int)=7 then az [] else if ((1:Nat):Int)=8 then az [] ++ aT (0:Int).toNat else [])=[] from rfl,Int.toNat_natCast,cM zo zo]
      rfl
    · simp [gI] at hz
      obtain ⟨h2,h3,h4,h5,h6⟩:=hz
      have hq:=mrq rfl
      simp only [oO,t8,Bool.and_eq_true,decide_eq_true_eq] at hq
      obtain ⟨⟨⟨r1,r2⟩,r3,r4⟩,r5⟩:=hq
      obtain ⟨rc,rfl⟩:=Int.eq_ofNat_of_zero_le (show 0≤rc by omega)
      obtain ⟨rn,rfl⟩:=Int.eq_ofNat_of_zero_le (show 0≤rn by omega)
      rw [← h2,h3,h4,h5,← h6]
      have hw:eY (((2:Nat):Int),((rc:Int),(rn:Int),ra),jF,[],[],[],0)=aT 2 ++ (aT rc ++ (aT rn ++ (mS ra ++ []))):=by simp [eY]
      rw [hw,dt,cM zo zo];simp only []
      rw [if_pos zq,cM zo zo];simp only []
      rw [cM zo zo];simp only []
      rw [rl r5]
      rfl
    · have hmv:=mmv zo
      rcases hk with rfl | rfl | rfl | rfl
      · simp [gI] at hz
        obtain ⟨h1,h3,h4,h5,h6⟩:=hz
        rw [← h1,h3,h4,h5,← h6]
        have hw:eY (((3:Nat):Int),gm,mv,[],[],[],0)=aT 3 ++ (hU mv ++ []):=by simp [eY]
        rw [hw,dt,cM zo zo];simp only []
        rw [if_neg zq,if_pos zq,hO hmv]
      · simp [gI] at hz
        obtain ⟨h1,h3,h4,h5,h6⟩:=hz
        rw [← h1,h3,h4,h5,← h6]
        have hw:eY (((5:Nat):Int),gm,mv,[],[],[],0)=aT 5 ++ (hU mv ++ []):=by simp [eY]
        rw [hw,dt,cM zo zo];simp only []
        rw [if_neg zq,if_pos zq,hO hmv]
      · simp [gI] at hz
        obtain ⟨h1,h3,h4,h5,h6⟩:=hz
        rw [← h1,h3,h4,h5,← h6]
        have hw:eY (((9:Nat):Int),gm,mv,[],[],[],0)=aT 9 ++ (hU mv ++ []):=by simp [eY]
        rw [hw,dt,cM zo zo];simp only []
        rw [if_neg zq,if_pos zq,hO hmv]
      · simp [gI] at hz
        obtain ⟨h1,h3,h4,h5,h6⟩:=hz
        rw [← h1,h3,h4,h5,← h6]
        have hw:eY (((10:Nat):Int),gm,mv,[],[],[],0)=aT 10 ++ (hU mv ++ []):=by simp [eY]
        rw [hw,dt,cM zo zo];simp only []
        rw [if_neg zq,if_pos zq,hO hmv]
    · obtain ⟨hmv,hre,hel,hal⟩:=min rfl
      simp [gI] at hz
      obtain ⟨h1,h5,h6⟩:=hz
      rw [← h1,h5,← h6] at hL ⊢
      have hw:eY (((4:Nat):Int),gm,mv,en,an,[],0)=aT 4 ++ (hU mv ++ (az (bQ jV en) ++ (az an ++ []))):=by simp [eY]
      have hem:=oF hre
      have hlw:=pK hem hel
      have hLx:(bQ jV en).length≤L:=by
        rw [hw] at hL
        simp only [List.length_append,az] at hL
        omega
      rw [hw,dt,cM zo zo];simp only []
      rw [if_neg zq,if_neg zq,if_pos zq,hO hmv];simp only []
      rw [pA hLx zo];simp only []
      rw [re hem hel];simp only []
      rw [ez hal zq]
      rfl
    · obtain ⟨hk1,hk2⟩:=mke zo
      rcases hk with rfl | rfl
      · simp [gI] at hz
        obtain ⟨h1,h2,h3,h4,h6⟩:=hz
        rw [← h1,← h2,h3,h4,← h6]
        have hw:eY (((6:Nat):Int),gm,jF,[],[],key,0)=aT 6 ++ (az key ++ []):=by simp [eY]
        rw [hw,dt,cM zo zo];simp only []
        rw [if_neg zq,if_neg zq,if_neg zq,if_pos zq,ez hk2 zq]
      · simp [gI] at hz
        obtain ⟨h1,h2,h3,h4,h6⟩:=hz
        rw [← h1,← h2,h3,h4,← h6]
        have hw:eY (((7:Nat):Int),gm,jF,[],[],key,0)=aT 7 ++ (az key ++ []):=by simp [eY]
        rw [hw,dt,cM zo zo];simp only []
        rw [if_neg zq,if_neg zq,if_neg zq,if_pos zq,ez hk2 zq]
    · obtain ⟨hk1,hg1,hg2⟩:=mgr rfl
      simp [gI] at hz
      obtain ⟨h1,h2,h3,h4⟩:=hz
      obtain ⟨g,rfl⟩:=Int.eq_ofNat_of_zero_le (show 0≤g by omega)
      rw [← h1,← h2,h3,h4]
      have hw:eY (((8:Nat):Int),gm,jF,[],[],key,(g:Int))=aT 8 ++ (az key ++ (aT g ++ [])):=by simp [eY]
      rw [hw,dt,cM zo zo];simp only []
      rw [if_neg zq,if_neg zq,if_neg zq,if_neg zq,if_pos zq,ez hk1 zq];simp only []
      rw [cM zo zo]
      rfl
  rw [bY,key]
  exact if_pos hm
end Go.Proofs.YteehplloacefmaaGreat

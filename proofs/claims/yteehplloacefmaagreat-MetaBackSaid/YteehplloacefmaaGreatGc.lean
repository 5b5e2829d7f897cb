/- Steps and lemmas for the walks. -/
import Derived.Test.YteehplloacefmaaGreatGb
set_option linter.unusedVariables false
namespace Go.Vc
def aT (n:Nat):List UInt8:=if h:n < 128 then [UInt8.ofNat n] else UInt8.ofNat (128 + n % 128) :: aT (n / 128)
termination_by n
decreasing_by omega
theorem jn {n:Nat} (h:n < 128):aT n=[UInt8.ofNat n]:=by unfold aT;simp [h]
theorem jX {n:Nat} (h:128≤n):aT n=UInt8.ofNat (128 + n % 128) :: aT (n / 128):=by rw [aT];simp [show ¬ n < 128 by omega]
theorem jW (n:Nat):1≤(aT n).length:=by
  by_cases h:n < 128
  · rw [jn h];simp
  · rw [jX zo];simp
theorem gY:∀ (k n:Nat),n < 128 ^ (k + 1)→(aT n).length≤k + 1
  | 0,n,h=>by rw [jn (by simpa using h)];simp
  | k + 1,n,h=>by
    by_cases hn:n < 128
    · rw [jn hn];simp
    · rw [jX zo]
      have:n / 128 < 128 ^ (k + 1):=by rw [Nat.div_lt_iff_lt_mul zo];rw [Nat.pow_succ] at h;exact h
      have:=gY k _ this
      simp;omega
theorem bA {n:Nat} (h:n < 18446744073709551616):(aT n).length≤10:=gY 9 n zo
def dk (b:Bool):List UInt8:=[if b then 1 else 0]
def az (l:List UInt8):List UInt8:=aT l.length ++ l
def Rd (eR:TypeId) (w:World) (b:Nat) (F:Nat→Prop) (l:List UInt8):Prop:=∃ a c,dh w b [.slice (some a) l.length c] eR∧Bv w F (.slice (some a) l.length c) l
theorem Rd.keep {eR:TypeId} {w w':World} {b:Nat} {F K:Nat→Prop} {l:List UInt8} (h:Rd eR w b F l) (k:ao K w w') (h1:¬ K b) (h2:∀ b,F b→¬ K b):Rd eR w' b F l:=by
  obtain ⟨a,c,hb,hv⟩:=h
  exact ⟨a,c,hb.keep k h1,hv.keep k fun b _ hb=>h2 b hb⟩
theorem Rd.ext {eR:TypeId} {w w':World} {b:Nat} {F:Nat→Prop} {l:List UInt8} (h:Rd eR w b F l) (k:aX w w'):Rd eR w' b F l:=h.keep k (fun x=>x) (fun _ _ x=>x)
def iM:Nat→List UInt8→Option (Nat × List UInt8)
  | _,[]=>none
  | i,c :: r=>if (i=9∧1 < c.toNat)∨(0 < i∧c.toNat=0) then none else if c.toNat < 128 then some (c.toNat,r) else
    match iM (i + 1) r with
    | some (n,r')=>some (c.toNat % 128 + 128 * n,r')
    | none=>none
def cK (l:List UInt8):Option (Nat × List UInt8):=iM 0 l
theorem ff:∀ (l:List UInt8) (i:Nat) {n:Nat} {r:List UInt8},iM i l=some (n,r)→∃ k,0 < k∧k≤l.length∧r=l.drop k
  | [],i,n,r,h=>by simp [iM] at h
  | c :: l,i,n,r,h=>by
    simp only [iM] at h
    split at h
    · cases h
    · split at h
      · cases h;exact ⟨1,by simp⟩
      · split at h
        · rename_i n' r' hr
          cases h
          obtain ⟨k,h1,h2,h3⟩:=ff l (i + 1) hr
          exact ⟨k + 1,by omega,by simp;omega,by simp [h3]⟩
        · cases h
theorem qj:∀ (l:List UInt8) (i:Nat) {n:Nat} {r:List UInt8},i≤9→iM i l=some (n,r)→n * 128 ^ i < 18446744073709551616
  | [],i,n,r,_,h=>by simp [iM] at h
  | c :: l,i,n,r,hi,h=>by
    simp only [iM] at h
    split at h
    · cases h
    · rename_i hc
      have hc':¬ (i=9∧1 < c.toNat):=fun x=>hc (.inl x)
      split at h
      · rename_i h128
        cases h
        rcases Nat.lt_or_ge i 9 with h9 | h9
        · have h1:128 ^ i≤128 ^ 8:=Nat.pow_le_pow_right zo zo
          calc c.toNat * 128 ^ i≤127 * 128 ^ 8:=Nat.mul_le_mul zo h1
            _ < 18446744073709551616:=by decide
        · have hi9:i=9:=by omega
          subst hi9
          have:c.toNat≤1:=by omega
          calc c.toNat * 128 ^ 9≤1 * 128 ^ 9:=Nat.mul_le_mul_right _ this
            _ < 18446744073709551616:=by decide
      · rename_i h128
        split at h
        · rename_i n' r' hr
          cases h
          have hi8:i + 1≤9:=by
            rcases Nat.lt_or_ge i 9 with h9 | h9
            · omega
            · exfalso;omega
          have ih:=qj l (i + 1) hi8 hr
          have e1:128 ^ (i + 1)=128 * 128 ^ i:=by rw [Nat.pow_succ];omega
          rw [e1] at ih
          have hdvd:∃ m,18446744073709551616=m * (128 * 128 ^ i):=by
            have:i≤8:=by omega
            refine ⟨2 ^ (64 - 7 * (i + 1)),?_⟩
            have e2:(128:Nat) * 128 ^ i=2 ^ (7 * (i + 1)):=by rw [← e1,Nat.pow_mul]
            rw [e2,← Nat.pow_add]
            rw [show 64 - 7 * (i + 1) + 7 * (i + 1)=64 by omega]
          obtain ⟨m,hm⟩:=hdvd
          have hpos:0 < 128 * 128 ^ i:=Nat.mul_pos zo (Nat.pow_pos zo)
          have hlt:n' < m:=by
            rw [hm] at ih
            exact Nat.lt_of_mul_lt_mul_right ih
          have:(c.toNat % 128 + 128 * n') * 128 ^ i < m * (128 * 128 ^ i):=by
            calc (c.toNat % 128 + 128 * n') * 128 ^ i < (128 + 128 * n') * 128 ^ i:=Nat.mul_lt_mul_of_pos_right zo (Nat.pow_pos zo)
              _=(n' + 1) * (128 * 128 ^ i):=by rw [show 128 + 128 * n'=(n' + 1) * 128 by omega,Nat.mul_assoc]
              _≤m * (128 * 128 ^ i):=Nat.mul_le_mul_right _ hlt
          rw [hm];exact this
        · cases h
theorem gy {l:List UInt8} {n:Nat} {r:List UInt8} (h:cK l=some (n,r)):n < 18446744073709551616:=by
  have:=qj l 0 zo h
  simpa using this
theorem ri:∀ (n i:Nat) (r:List UInt8),i≤9→n * 128 ^ i < 18446744073709551616→(0 < i→0 < n)→iM i (aT n ++ r)=some (n,r):=by
  intro n
  induction n using Nat.strongRecOn with
  | _ n ih=>
    intro i r hi hlt hpos
    by_cases hn:n < 128
    · rw [jn hn]
      have e1:(UInt8.ofNat n).toNat=n:=wL zo
      simp only [List.cons_append,List.nil_append,iM,e1]
      have h1:¬ ((i=9∧1 < n)∨(0 < i∧n=0)):=by
        rintro (⟨rfl,h⟩ | ⟨h,h'⟩)
        · have:2 * 128 ^ 9≤n * 128 ^ 9:=Nat.mul_le_mul_right _ h
          have e9:(2:Nat) * 128 ^ 9=18446744073709551616:=by decide
          omega
        · have:=hpos h;omega
      rw [if_neg h1,if_pos hn]
    · have hge:128≤n:=by omega
      rw [jX hge]
      have e1:(UInt8.ofNat (128 + n % 128)).toNat=128 + n % 128:=wL zo
      simp only [List.cons_append,iM,e1]
      have hi8:i + 1≤9:=by
        rcases Nat.lt_or_ge i 9 with h | h
        · exact h
        · exfalso
          have h9:i=9:=by omega
          subst h9
          have:128 * 128 ^ 9≤n * 128 ^ 9:=Nat.mul_le_mul_right _ hge
          have e9:(128:Nat) * 128 ^ 9=1180591620717411303424:=by decide
          omega
      rw [if_neg zo,if_neg zo]
      have hd:n / 128 * 128≤n:=Nat.div_mul_le_self n 128
      have h2:n / 128 * 128 ^ (i + 1) < 18446744073709551616:=by
        calc n / 128 * 128 ^ (i + 1)=n / 128 * 128 * 128 ^ i:=by rw [Nat.pow_succ,Nat.mul_comm (128 ^ i) 128,Nat.mul_assoc]
          _≤n * 128 ^ i:=Nat.mul_le_mul_right _ hd
          _ < _:=hlt
      rw [ih (n / 128) zo (i + 1) r hi8 h2 (fun _=>by omega)]
      have:(128 + n % 128) % 128 + 128 * (n / 128)=n:=by omega
      simp only [this]
theorem dr {n:Nat} (h:n < 18446744073709551616) (r:List UInt8):cK (aT n ++ r)=some (n,r):=ri n 0 r zo (by simpa using h) zo
def dM (l:List UInt8):Option (Bool × List UInt8):=match l with
  | []=>none
  | c :: r=>if 1 < c.toNat then none else some (decide (0 < c.toNat),r)
end Go.Vc
namespace Go.Vc
theorem nd:∀ (l:List UInt8) (i:Nat) {n:Nat} {r:List UInt8},iM i l=some (n,r)→l=aT n ++ r∧(0 < i→0 < n)
  | [],i,n,r,h=>by simp [iM] at h
  | c :: l,i,n,r,h=>by
    have hc256:c.toNat < 256:=UInt8.toNat_lt c
    simp only [iM] at h
    split at h
    · cases h
    · rename_i hno
      split at h
      · rename_i hlt
        cases h
        rw [jn hlt]
        refine ⟨by simp,fun hi=>?_⟩
        rcases Nat.eq_zero_or_pos c.toNat with h0 | h0
        · exact absurd (Or.inr ⟨hi,h0⟩) hno
        · exact h0
      · rename_i hge
        split at h
        · rename_i n' r' hr
          cases h
          obtain ⟨h1,h2⟩:=nd l (i + 1) hr
          have hp:0 < n':=h2 zo
          have hm:(c.toNat % 128 + 128 * n') % 128=c.toNat % 128:=by omega
          have hd:(c.toNat % 128 + 128 * n') / 128=n':=by omega
          rw [jX (n:=c.toNat % 128 + 128 * n') zo,hm,hd]
          refine ⟨?_,fun _=>by omega⟩
          have:UInt8.ofNat (128 + c.toNat % 128)=c:=by
            have:128 + c.toNat % 128=c.toNat:=by omega
            rw [this];simp
          rw [this,h1];rfl
        · cases h
theorem cX {l:List UInt8} {n:Nat} {r:List UInt8} (h:cK l=some (n,r)):l=aT n ++ r:=(nd l 0 h).1
end Go.Vc
namespace Go.Vc
theorem lq {α:Type} {sp:α→List UInt8} {k:Nat}:∀ (xs:List α),(∀ x ∈ xs,(sp x).length≤k)→(xs.map sp).flatten.length≤k * xs.length
  | [],_=>by simp
  | x :: xs,h=>by
    have h1:=lq xs (fun y hy=>h y (List.mem_cons_of_mem _ hy))
    have h2:=h x List.mem_cons_self
    simp only [List.map_cons,List.flatten_cons,List.length_append,List.length_cons]
    rw [Nat.mul_succ];omega
end Go.Vc
namespace Go.Vc
end Go.Vc

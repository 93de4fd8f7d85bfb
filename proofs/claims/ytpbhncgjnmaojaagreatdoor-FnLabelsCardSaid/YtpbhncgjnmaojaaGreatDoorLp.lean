/- Labels in plain Lean: codes, choices and their worth (layer 9). No program. -/
import Derived.Test.YtpbhncgjnmaojaaGreatDoorLab
import Derived.Test.YtpbhncgjnmaojaaGreatDoorPrf
import Derived.Test.YtpbhncgjnmaojaaGreatDoorMath
namespace Go.Proofs.YtpbhncgjnmaojaaGreatDoor
set_option linter.unusedVariables false
set_option linter.unusedSimpArgs false

/-- a tick as described -/
def okL (p : Int × Int × Int) : Bool := inB p.1 1000 9999 && inB p.2.1 0 100000 && inB p.2.2 0 4
theorem okL_iff {p : Int × Int × Int} : okL p = true ↔ (1000 ≤ p.1 ∧ p.1 ≤ 9999) ∧ (0 ≤ p.2.1 ∧ p.2.1 ≤ 100000) ∧ (0 ≤ p.2.2 ∧ p.2.2 ≤ 4) := by
  simp only [okL, Bool.and_eq_true, inB_iff]
  omega
/-- the code of ticks -/
def ckL (l : List (Int × Int × Int)) : Int := if 40 < l.length then 3 else if l.all okL = true then 0 else 2
theorem ckL_zero {l : List (Int × Int × Int)} (h : ckL l = 0) : l.length ≤ 40 ∧ ∀ p ∈ l, okL p = true := by
  unfold ckL at h
  split at h
  · cases h
  · split at h
    · rename_i h1 h2
      exact ⟨by omega, fun p hp => List.all_eq_true.1 h2 p hp⟩
    · cases h
theorem ckL_vals (l : List (Int × Int × Int)) : ckL l = 0 ∨ ckL l = 2 ∨ ckL l = 3 := by
  unfold ckL
  split
  · exact .inr (.inr rfl)
  · split
    · exact .inl rfl
    · exact .inr (.inl rfl)
/-- mark, place and height by number -/
def tkA (l : List (Int × Int × Int)) (i : Nat) : Int × Int × Int := l.getD i (0, 0, 0)
theorem tkA_at {l : List (Int × Int × Int)} {i : Nat} {p : Int × Int × Int} (h : l[i]? = some p) : tkA l i = p := by
  simp [tkA, List.getD, h]
def mkA (l : List (Int × Int × Int)) (i : Nat) : Nat := (tkA l i).1.toNat
def plA (l : List (Int × Int × Int)) (i : Nat) : Int := (tkA l i).2.1
def htA (l : List (Int × Int × Int)) (i : Nat) : Int := (tkA l i).2.2
def RL (l : List (Int × Int × Int)) (i : Nat) : Int := endR (mkA l i) (plA l i)
def LL (l : List (Int × Int × Int)) (i : Nat) : Int := endL (mkA l i) (plA l i)
def WL (l : List (Int × Int × Int)) (i : Nat) : Int := 1 + 10 * htA l i
/-- what is known of a tick with a number in range -/
theorem tk_facts {l : List (Int × Int × Int)} {n i : Nat} (hl : l.length = n) (h : ∀ p ∈ l, okL p = true) (hi : i < n) :
    tkA l i = ((mkA l i : Int), plA l i, htA l i) ∧ 1000 ≤ mkA l i ∧ mkA l i ≤ 9999 ∧ 0 ≤ plA l i ∧ plA l i ≤ 100000 ∧ 0 ≤ htA l i ∧ htA l i ≤ 4 := by
  have hx : l[i]? = some l[i] := List.getElem?_eq_getElem (by omega)
  have hk := okL_iff.1 (h _ (List.getElem_mem (l := l) (n := i) (by omega)))
  have e := tkA_at hx
  unfold mkA plA htA
  rw [e]
  refine ⟨?_, by omega, by omega, by omega, by omega, by omega, by omega⟩
  have : ((l[i].1.toNat : Nat) : Int) = l[i].1 := Int.toNat_of_nonneg (by omega)
  rw [this]
theorem decDigits_pos (n : Nat) : 1 ≤ (Lib.decDigits n).length := by
  by_cases h : n < 10
  · rw [dec_small h]; simp
  · rw [dec_more h]; simp
theorem labLen_pos (n : Nat) : 1 ≤ labLen n := decDigits_pos _
theorem LL_RL (l : List (Int × Int × Int)) (i : Nat) : LL l i < RL l i := by
  unfold LL RL endL endR
  have := labLen_pos (mkA l i)
  omega
def hitA (l : List (Int × Int × Int)) (a b : Nat) : Bool := hitB (mkA l a) (plA l a) (mkA l b) (plA l b)
theorem hitA_sym (l : List (Int × Int × Int)) (a b : Nat) : hitA l a b = hitA l b a := hitB_sym _ _ _ _
theorem hitA_iff (l : List (Int × Int × Int)) (a b : Nat) : hitA l a b = true ↔ LL l a < RL l b ∧ LL l b < RL l a := by
  simp [hitA, hitB, LL, RL]
/-- the choice's number at place i -/
def cA (ch : List Int) (i : Nat) : Int := ch.getD i 0
theorem cA_at {ch : List Int} {i : Nat} {x : Int} (h : ch[i]? = some x) : cA ch i = x := by simp [cA, List.getD, h]
/-- whether place i of a list is in range and behind the one before -/
def okAt (n : Nat) (ch : List Int) (i : Nat) : Bool := inB (cA ch i) 0 ((n : Int) - 1) && (decide (i = 0) || decide (cA ch (i - 1) < cA ch i))
def noHit (l : List (Int × Int × Int)) (ch : List Int) (i k : Nat) : Bool := (List.range k).all fun j => !hitA l (cA ch i).toNat (cA ch j).toNat
theorem noHit_next (l : List (Int × Int × Int)) (ch : List Int) (i k : Nat) : noHit l ch i (k + 1) = (noHit l ch i k && !hitA l (cA ch i).toNat (cA ch k).toNat) := by
  simp [noHit, List.range_succ, List.all_append]
def risesTo (n : Nat) (ch : List Int) (k : Nat) : Bool := (List.range k).all fun i => okAt n ch i
theorem risesTo_next (n : Nat) (ch : List Int) (k : Nat) : risesTo n ch (k + 1) = (risesTo n ch k && okAt n ch k) := by
  simp [risesTo, List.range_succ, List.all_append]
def apartTo (l : List (Int × Int × Int)) (ch : List Int) (k : Nat) : Bool := (List.range k).all fun i => noHit l ch i i
theorem apartTo_next (l : List (Int × Int × Int)) (ch : List Int) (k : Nat) : apartTo l ch (k + 1) = (apartTo l ch k && noHit l ch k k) := by
  simp [apartTo, List.range_succ, List.all_append]
/-- whether a list is a choice -/
def chB (l : List (Int × Int × Int)) (ch : List Int) : Bool := risesTo l.length ch ch.length && apartTo l ch ch.length
theorem all_range_false {f : Nat → Bool} {n i : Nat} (hi : i < n) (h : f i = false) : (List.range n).all f = false :=
  List.all_eq_false.2 ⟨i, List.mem_range.2 hi, by simp [h]⟩
theorem rises_false {n : Nat} {ch : List Int} {i : Nat} (hi : i < ch.length) (h : okAt n ch i = false) : risesTo n ch ch.length = false := all_range_false hi h
theorem apart_false {l : List (Int × Int × Int)} {ch : List Int} {i k : Nat} (hi : i < ch.length) (hk : k < i) (h : hitA l (cA ch i).toNat (cA ch k).toNat = true) : apartTo l ch ch.length = false :=
  all_range_false hi (all_range_false hk (by simp [h]))
theorem rises_at {n : Nat} {ch : List Int} {m : Nat} (h : risesTo n ch m = true) {i : Nat} (hi : i < m) : 0 ≤ cA ch i ∧ cA ch i < (n : Int) ∧ (i = 0 ∨ cA ch (i - 1) < cA ch i) := by
  have := List.all_eq_true.1 h i (List.mem_range.2 hi)
  simp only [okAt, Bool.and_eq_true, inB_iff, Bool.or_eq_true, decide_eq_true_eq] at this
  omega
theorem rises_ge {n : Nat} {ch : List Int} {m : Nat} (h : risesTo n ch m = true) : ∀ i, i < m → (i : Int) ≤ cA ch i
  | 0, hi => by have := rises_at h hi; omega
  | i + 1, hi => by
    have a := rises_at h hi
    have b := rises_ge h i (by omega)
    simp only [Nat.add_sub_cancel] at a
    omega
theorem rises_len {n : Nat} {ch : List Int} {m : Nat} (h : risesTo n ch m = true) : m ≤ n := by
  cases m with
  | zero => omega
  | succ m =>
    have a := rises_ge h m (by omega)
    have b := rises_at h (i := m) (by omega)
    omega
/-- what the first k of a choice are worth -/
def wrT (l : List (Int × Int × Int)) (ch : List Int) : Nat → Int
  | 0 => 0
  | k + 1 => wrT l ch k + WL l (cA ch k).toNat
theorem wrT_bd {l : List (Int × Int × Int)} {ch : List Int} {n : Nat} (hl : l.length = n) (h : ∀ p ∈ l, okL p = true) {m : Nat} (hr : risesTo n ch m = true) : ∀ k, k ≤ m → 0 ≤ wrT l ch k ∧ wrT l ch k ≤ 41 * (k : Int)
  | 0, _ => by simp [wrT]
  | k + 1, hk => by
    have a := wrT_bd hl h hr k (by omega)
    have b := rises_at hr (i := k) (by omega)
    have c := (tk_facts hl h (i := (cA ch k).toNat) (by omega)).2
    rw [wrT, WL]
    omega
def rChoice (l : List (Int × Int × Int)) (ch : List Int) : Bool × Int := if ckL l = 0 then (chB l ch, 0) else (false, ckL l)
def rWorth (l : List (Int × Int × Int)) (ch : List Int) : Int × Int := if ckL l = 0 then (if chB l ch = true then (wrT l ch ch.length, 0) else (0, 5)) else (0, ckL l)
end Go.Proofs.YtpbhncgjnmaojaaGreatDoor

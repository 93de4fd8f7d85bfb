/- Walks that use the list of marks: CountMarks, IsMark (layer 7). No condition. -/
import Derived.Test.YtibcbhphkafgjaaDoorMk
import Derived.BigQuiet
import Derived.Deep.QuietTactic
import Derived.Outline
namespace Go.Proofs.YtibcbhphkafgjaaDoor
open Go.RowKit
set_option linter.unusedVariables false

/-- one cell of a slice of int64 -/
theorem Sees.one {w : World} {B : Nat} {A : Option Addr} {l : List Int} (hs : Sees w B A (l.map (Value.int .i64))) {k : Nat} (hk : k < l.length) :
    ∃ b off x, A = some ⟨b, off, none⟩ ∧ b < B ∧ l[k]? = some x ∧ w.cell? ⟨b, off + k, none⟩ = some (.int .i64 x) := by
  obtain ⟨b, off, e, hb, hcell⟩ := hs.addr (by rw [List.length_map]; omega)
  exact ⟨b, off, l[k], e, hb, List.getElem?_eq_getElem hk, hcell k _ (by rw [List.getElem?_map, List.getElem?_eq_getElem hk]; rfl)⟩
/-- the first place of x, or -1 -/
def firstAt (x : Int) : List Int → Int → Int
  | [], _ => -1
  | y :: r, k => if y = x then k else firstAt x r (k + 1)
theorem firstAt_mem (x : Int) : ∀ (l : List Int) (k : Int), 0 ≤ k → (0 ≤ firstAt x l k ↔ x ∈ l)
  | [], k, h => by simp [firstAt]
  | y :: r, k, h => by
    rw [firstAt]
    by_cases hy : y = x
    · rw [if_pos hy]; simp [hy, h]
    · rw [if_neg hy, firstAt_mem x r (k + 1) (by omega)]
      simp [Ne.symm hy]
theorem firstAt_bd (x : Int) : ∀ (l : List Int) (k : Int), 0 ≤ k → -1 ≤ firstAt x l k ∧ firstAt x l k ≤ k + l.length
  | [], k, h => by simp [firstAt]; omega
  | y :: r, k, h => by
    rw [firstAt]
    have := firstAt_bd x r (k + 1) (by omega)
    split
    · simp; omega
    · simp; omega
set_option maxHeartbeats 400000 in
theorem index_any (A : Option Addr) (n c : Nat) (l : List Int) (x : Int) (w : World) (B : Nat) (hl : l.length = n) (hn : n ≤ 9223372036854775807) (hs : Sees w B A (l.map (Value.int .i64))) :
    Calls Tryd.prog 83 #[.slice A n c, .int .i64 x] w fun e w' => e = .returned (.int .i64 (firstAt x l 0)) ∧ w = w' := by
  go_enter Tryd.func83, Tryd.ntmps83
  go_wp2
  go_loop [8] (fun i => ∃ k : Nat, k ≤ n ∧ i = .int .i64 k ∧ firstAt x l 0 = firstAt x (l.drop k) k) (fun i => n - (intOf i).toNat)
  case atStart => exact ⟨0, Nat.zero_le _, rfl, rfl⟩
  case round =>
    obtain ⟨k, hk, rfl, hf⟩ := hrel
    have Hf := Lib.hid hf
    have Hl := Lib.hid hl
    clear hf
    by_cases hlt : k < n
    · obtain ⟨b, off, y, rfl, hb, hp, c0⟩ := hs.one (k := k) (by omega)
      have Hd := Lib.hid (show l.drop k = y :: l.drop (k + 1) by
        obtain ⟨hk', e⟩ := List.getElem?_eq_some_iff.1 hp
        rw [List.drop_eq_getElem_cons hk', e])
      clear hp hs hl
      by_cases hx : y = x
      · have Hr := Lib.hid (show firstAt x l 0 = k by rw [Hf.out, Hd.out, firstAt, if_pos hx])
        subst hx
        go_wp2
        go_ret
        exact ⟨endInt Hr.out.symm, rfl⟩
      · have Hr := Lib.hid (show firstAt x l 0 = firstAt x (l.drop (k + 1)) ((k : Int) + 1) by rw [Hf.out, Hd.out, firstAt, if_neg hx])
        have t : (x == y) = false := by simp; omega
        go_wp2
        go_round
        case rel => exact ⟨k + 1, by omega, by go_num, by rw [Hr.out]; simp⟩
        case measure => simp [intOf]; omega
    · obtain rfl : k = n := by omega
      have Hr := Lib.hid (show firstAt x l 0 = -1 by rw [Hf.out, List.drop_of_length_le (by omega), firstAt])
      clear hl
      go_wp2
      go_ret
      exact ⟨endInt Hr.out.symm, rfl⟩
set_option maxHeartbeats 400000 in
theorem contains_any (A : Option Addr) (n c : Nat) (l : List Int) (x : Int) (w : World) (B : Nat) (hl : l.length = n) (hn : n ≤ 9223372036854775807) (hs : Sees w B A (l.map (Value.int .i64))) :
    Calls Tryd.prog 73 #[.slice A n c, .int .i64 x] w fun e w' => e = .returned (.bool (decide (x ∈ l))) ∧ w = w' := by
  have hf := firstAt_mem x l 0 (by omega)
  have Hv := Lib.hid (show decide (x ∈ l) = decide (0 ≤ firstAt x l 0) by simp only [hf])
  have Hl := Lib.hid hl
  clear hf hl
  go_enter Tryd.func73, Tryd.ntmps73
  go_wp2_with (go_at_call 83; refine (index_any _ _ _ l _ _ B Hl.out hn hs).mono ?_; rintro e w' ⟨rfl, rfl⟩)
  go_ret
  exact ⟨endBool Hv.out.symm, rfl⟩

/-- how many marks -/
def stepsOf (p : Int × Int × Int) : Int := (p.2.1 - p.1) / p.2.2
def countOf : List (Int × Int × Int) → Int
  | [] => 0
  | p :: r => stepsOf p + countOf r
theorem upTo_count {to step : Int} (hs : 1 ≤ step) : ∀ (f : Nat) (n : Int), (to - n).toNat ≤ f → (to - n) % step = 0 → n ≤ to → ((upTo to step n).length : Int) = (to - n) / step
  | 0, n, h, _, hn => by
    have e : to = n := by omega
    subst e
    rw [upTo_end (Int.le_refl _)]
    simp
  | f + 1, n, h, hm, hn => by
    by_cases hlt : n < to
    · have hle : step ≤ to - n := by
        by_cases hc : to - n < step
        · rw [Int.emod_eq_of_lt (by omega) hc] at hm
          omega
        · omega
      have e : to - n = (to - (n + step)) + step := by omega
      have hm' : (to - (n + step)) % step = 0 := by
        rw [e, Int.add_emod_right] at hm
        exact hm
      rw [upTo_step hs hlt, List.length_cons, Int.natCast_add, upTo_count hs f (n + step) (by omega) hm' (by omega)]
      rw [e, Int.add_ediv_of_dvd_right (Int.dvd_refl _), Int.ediv_self (by omega)]
      rfl
    · have e : to = n := by omega
      subst e
      rw [upTo_end (Int.le_refl _)]
      simp
theorem marks_count : ∀ {l : List (Int × Int × Int)}, partsIn l → ((marks l).length : Int) = countOf l
  | [], _ => rfl
  | p :: r, h => by
    obtain ⟨h1, h2, h3, h4, h5⟩ := h p (List.mem_cons_self ..)
    have ih := marks_count (l := r) (fun q hq => h q (List.mem_cons_of_mem _ hq))
    have hp := upTo_count (to := p.2.1) h4 (p.2.1 - p.1).toNat p.1 (Nat.le_refl _) h5 (by omega)
    simp only [marks, List.flatMap_cons, List.length_append, countOf, stepsOf, marksP] at *
    omega
theorem stepsOf_bd {p : Int × Int × Int} (h : partIn p) : 0 ≤ stepsOf p ∧ stepsOf p ≤ 9000 := by
  obtain ⟨h1, h2, h3, h4, h5⟩ := h
  have e := upTo_count (to := p.2.1) h4 (p.2.1 - p.1).toNat p.1 (Nat.le_refl _) h5 (by omega)
  have hm := marksP_length ⟨h1, h2, h3, h4, h5⟩
  unfold marksP at hm
  unfold stepsOf
  omega
theorem countOf_bd : ∀ {l : List (Int × Int × Int)}, partsIn l → 0 ≤ countOf l ∧ countOf l ≤ 9000 * l.length
  | [], _ => by simp [countOf]
  | p :: r, h => by
    have h1 := stepsOf_bd (h p (List.mem_cons_self ..))
    have ih := countOf_bd (l := r) (fun q hq => h q (List.mem_cons_of_mem _ hq))
    simp only [countOf, List.length_cons]
    omega
def rCount (l : List (Int × Int × Int)) : Int × Int := if gradB l = true then (countOf l, 0) else (0, 1)

theorem upTo_mem {to step : Int} (hs : 1 ≤ step) (x : Int) : ∀ (f : Nat) (n : Int), (to - n).toNat ≤ f → (x ∈ upTo to step n ↔ n ≤ x ∧ x < to ∧ (x - n) % step = 0)
  | 0, n, h => by
    rw [upTo_end (by omega)]
    simp
    omega
  | f + 1, n, h => by
    by_cases hlt : n < to
    · rw [upTo_step hs hlt, List.mem_cons, upTo_mem hs x f (n + step) (by omega)]
      constructor
      · rintro (rfl | ⟨h1, h2, h3⟩)
        · exact ⟨Int.le_refl _, hlt, by simp⟩
        · refine ⟨by omega, h2, ?_⟩
          rw [show x - n = (x - (n + step)) + step by omega, Int.add_emod_right]
          exact h3
      · rintro ⟨h1, h2, h3⟩
        by_cases hx : x = n
        · exact .inl hx
        · right
          have hle : step ≤ x - n := by
            by_cases hc : x - n < step
            · rw [Int.emod_eq_of_lt (by omega) hc] at h3
              omega
            · omega
          refine ⟨by omega, h2, ?_⟩
          rw [show x - n = (x - (n + step)) + step by omega, Int.add_emod_right] at h3
          exact h3
    · rw [upTo_end (by omega)]
      simp
      omega
def inPart (x : Int) (p : Int × Int × Int) : Prop := p.1 ≤ x ∧ x < p.2.1 ∧ (x - p.1) % p.2.2 = 0
theorem marks_mem {l : List (Int × Int × Int)} (h : partsIn l) (x : Int) : x ∈ marks l ↔ ∃ p ∈ l, inPart x p := by
  simp only [marks, List.mem_flatMap]
  constructor
  · rintro ⟨p, hp, hx⟩
    exact ⟨p, hp, (upTo_mem (h p hp).2.2.2.1 x _ _ (Nat.le_refl _)).1 hx⟩
  · rintro ⟨p, hp, hx⟩
    exact ⟨p, hp, (upTo_mem (h p hp).2.2.2.1 x _ _ (Nat.le_refl _)).2 hx⟩
def rMark (l : List (Int × Int × Int)) (x : Int) : Bool × Int := if gradB l = true then (decide (x ∈ marks l), 0) else (false, 1)
end Go.Proofs.YtibcbhphkafgjaaDoor

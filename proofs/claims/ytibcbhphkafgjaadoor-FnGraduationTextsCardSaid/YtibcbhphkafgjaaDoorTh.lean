/- One number read (layer 1): the reference's l01Value and l01Signed. No condition. -/
import Derived.Test.YtibcbhphkafgjaaDoorTg
namespace Go.Proofs.YtibcbhphkafgjaaDoor
open Go.RowKit
set_option linter.unusedVariables false
set_option linter.unusedSimpArgs false

theorem endVal {p : Nat × Bool} {x : Nat} {y : Bool} (h : p = (x, y)) : Ending.returned (.tuple #[.int .i64 (x : Int), .bool y]) = .returned (.tuple #[.int .i64 (p.1 : Int), .bool p.2]) := by subst h; rfl
theorem endValZ {p : Nat × Bool} {y : Bool} (h : p = (0, y)) : Ending.returned (.tuple #[.int .i64 0, .bool y]) = .returned (.tuple #[.int .i64 (p.1 : Int), .bool p.2]) := by subst h; rfl
theorem pow_small {k : Nat} (h : k ≤ 13) : 10 ^ k ≤ 10000000000000 := by
  have : 10 ^ k ≤ 10 ^ 13 := Nat.pow_le_pow_right (by decide) h
  omega
theorem valR_bad {l : List UInt8} (h : ¬ (1 ≤ l.length ∧ l.length ≤ 13)) : valR l = (0, false) := by rw [valR, if_neg h]
theorem valR_nodig {l : List UInt8} (h : 1 ≤ l.length ∧ l.length ≤ 13) {k : Nat} {b : UInt8} (hb : l[k]? = some b) (hd : ¬ (48 ≤ b.toNat ∧ b.toNat ≤ 57)) : valR l = (0, false) := by
  rw [valR, if_pos h]
  cases hv : Lib.decFrom 0 l with
  | none => rfl
  | some n =>
    obtain ⟨d, e⟩ := Lib.digit_of_decFrom l 0 n hv k b hb
    rw [Lib.digitVal, if_neg hd] at e
    cases e
theorem valR_end {l : List UInt8} (h : 1 ≤ l.length ∧ l.length ≤ 13) {m : Nat} (hm : Lib.decFrom 0 l = some m) : valR l = (m, Lib.decDigits m == l) := by
  rw [valR, if_pos h, hm]
  by_cases e : Lib.decDigits m = l
  · simp [e]
  · simp [e]
theorem valR_step {l : List UInt8} {k m : Nat} {b : UInt8} (hm : Lib.decFrom 0 (l.take k) = some m) (hb : l[k]? = some b) (hd : 48 ≤ b.toNat ∧ b.toNat ≤ 57) : Lib.decFrom 0 (l.take (k + 1)) = some (m * 10 + (b.toNat - 48)) :=
  Lib.decFrom_take l k 0 m b (b.toNat - 48) hm hb (by rw [Lib.digitVal, if_pos hd])
theorem idxStr (s : ByteArray) (k : Nat) (b : UInt8) (hb : s.data.toList[k]? = some b) (W : World) : (Instr.index 9 (.string s) (.int .i64 (k : Int))).run Tryd.prog W = .ok (.int .u8 (b.toNat : Int)) W := by
  obtain ⟨hk, e⟩ := List.getElem?_eq_some_iff.1 hb
  have hk' : k < s.size := by rw [Lib.size_eq]; exact hk
  rw [run_index_string W 9 s .i64 (k : Int) Tryd.underlying9, dif_pos ⟨by omega, by omega⟩]
  have : s[(k : Int).toNat]'(by omega) = b := by
    rw [← e]
    simp [ByteArray.getElem_eq_getElem_data]
  rw [this]
set_option maxRecDepth 100000 in
set_option maxHeartbeats 2000000 in
theorem l01Value_any (s : ByteArray) (l : List UInt8) (w : World) (hsl : s.data.toList = l) (hlen : l.length ≤ 2000000) :
    Calls Tryd.prog 75 #[.string s] w fun e w' => e = .returned (.tuple #[.int .i64 ((valR l).1 : Int), .bool (valR l).2]) ∧ Below w.heap.size w w' := by
  have hsz : s.size = l.length := by rw [← hsl, Lib.size_eq]
  by_cases h : 1 ≤ l.length ∧ l.length ≤ 13
  · have hdone := Lib.hid (fun (m : Nat) => valR_end (m := m) h)
    have hnod := Lib.hid (fun (k : Nat) (b : UInt8) => valR_nodig (k := k) (b := b) h)
    have n1 : ¬ (s.size : Int) < 1 := by omega
    have n2 : ¬ 13 < (s.size : Int) := by omega
    have n13 : s.size ≤ 13 := by omega
    have htl : s.toList = l := by rw [ByteArray.toList_eq, hsl]
    have HSL := Lib.hid hsl
    have HSZ := Lib.hid hsz
    clear hsl hsz h hlen
    go_enter Tryd.func75, Tryd.ntmps75
    go_wp2_with fail
    go_loopw [4, 5] (fun v i wr => ∃ (k m : Nat), k ≤ s.size ∧ i = .int .i64 k ∧ v = .int .i64 (m : Int) ∧ Lib.decFrom 0 (l.take k) = some m ∧ m < 10 ^ k ∧ wr = w) (fun _ i _ => s.size - (intOf i).toNat)
    case atStart => exact ⟨0, 0, Nat.zero_le _, rfl, rfl, rfl, by simp, rfl⟩
    case round =>
      obtain ⟨k, m, hk, rfl, rfl, hm, hm9, rfl⟩ := hrel
      have HM := Lib.hid hm
      clear hm
      by_cases hlt : k < s.size
      · obtain ⟨b, hb⟩ : ∃ b, l[k]? = some b := ⟨_, List.getElem?_eq_getElem (by have := HSZ.out; omega)⟩
        have ki := idxStr s k b (by rw [HSL.out]; exact hb)
        have hp := pow_small (k := k) (by omega)
        have HP := Lib.hid (show m < 10 ^ k from hm9)
        have hm8 : m < 10000000000000 := by omega
        have k12 : 10 ^ (k + 1) = 10 * 10 ^ k := by rw [Nat.pow_succ]; omega
        have hp2 : 10 ^ k ≤ 1000000000000 := by
          have : 10 ^ k ≤ 10 ^ 12 := Nat.pow_le_pow_right (by decide) (by omega)
          omega
        have hm7 : m < 1000000000000 := by omega
        by_cases hd : 48 ≤ b.toNat ∧ b.toNat ≤ 57
        · have HX := Lib.hid (valR_step HM.out hb hd)
          obtain ⟨hd1, hd2⟩ := hd
          obtain ⟨d, hd3⟩ : ∃ d, b.toNat = 48 + d := ⟨b.toNat - 48, by omega⟩
          have hd9 : d ≤ 9 := by omega
          rw [hd3] at ki
          have HY := Lib.hid (show Lib.decFrom 0 (l.take (k + 1)) = some (m * 10 + d) by rw [HX.out, hd3]; congr 1; omega)
          have HZ := Lib.hid (show m * 10 + d < 10 ^ (k + 1) by have := HP.out; omega)
          clear hb hd1 hd2 hd3 hp hp2 k12 hm9
          go_wp2_with fail
          go_roundw
          case rel => exact ⟨k + 1, m * 10 + d, by omega, by go_num, by go_num, HY.out, HZ.out, trivial⟩
          case measure => simp [intOf]; omega
        · have Hv := Lib.hid (hnod.out k b hb hd)
          have hd' : b.toNat < 48 ∨ 57 < b.toNat := by omega
          obtain ⟨c, hc⟩ : ∃ c : Nat, b.toNat = c := ⟨_, rfl⟩
          rw [hc] at ki hd'
          clear hb hd hc hp hp2 k12 hm9
          rcases hd' with h1 | h1
          · have h2 : (c : Int) < 48 := by omega
            go_wp2_with fail
            go_ret2
            exact ⟨endValZ Hv.out, Below.refl _ _⟩
          · have h2 : 57 < (c : Int) := by omega
            have h3 : ¬ (c : Int) < 48 := by omega
            go_wp2_with fail
            go_ret2
            exact ⟨endValZ Hv.out, Below.refl _ _⟩
      · obtain rfl : k = s.size := by omega
        have Hv := Lib.hid (hdone.out m (by have := HM.out; rwa [HSZ.out, List.take_length] at this))
        have hp := pow_small (k := s.size) n13
        have C := fun W => l01Dec_any m m W (Nat.le_refl _) (by omega)
        clear hp hm9
        go_wp2_with fail
        refine (C _).mono ?_
        rintro e w1 ⟨rfl, hb1⟩
        go_wp2_with fail
        go_ret2
        exact ⟨endVal (by rw [Hv.out]), hb1⟩
  · have Hv := Lib.hid (valR_bad h)
    rw [← hsz] at h
    clear hsl hsz hlen
    by_cases h1 : (s.size : Int) < 1
    · go_enter Tryd.func75, Tryd.ntmps75
      go_wp2_with fail
      go_ret2
      exact ⟨endValZ Hv.out, Below.refl _ _⟩
    · have h2 : 13 < (s.size : Int) := by omega
      go_enter Tryd.func75, Tryd.ntmps75
      go_wp2_with fail
      go_ret2
      exact ⟨endValZ Hv.out, Below.refl _ _⟩
theorem decFrom_lt : ∀ (l : List UInt8) (acc n k : Nat), acc < 10 ^ k → Lib.decFrom acc l = some n → n < 10 ^ (k + l.length)
  | [], acc, n, k, h, e => by simp [Lib.decFrom] at e; subst e; exact h
  | b :: r, acc, n, k, h, e => by
    rw [Lib.decFrom] at e
    cases hd : Lib.digitVal b with
    | none => rw [hd] at e; cases e
    | some d =>
      rw [hd] at e
      have hd9 : d ≤ 9 := by
        unfold Lib.digitVal at hd
        split at hd
        · simp at hd; omega
        · cases hd
      have := decFrom_lt r (acc * 10 + d) n (k + 1) (by rw [Nat.pow_succ]; omega) e
      rwa [List.length_cons, show k + (r.length + 1) = k + 1 + r.length by omega]
theorem valR_lt (l : List UInt8) : (valR l).1 < 10000000000000 := by
  unfold valR
  split
  · rename_i h
    cases hd : Lib.decFrom 0 l with
    | none => show (0 : Nat) < _; omega
    | some n =>
      have := decFrom_lt l 0 n 0 (by simp) hd
      have h2 := pow_small (k := 0 + l.length) (by omega)
      show n < _
      omega
  · show (0 : Nat) < _; omega
theorem sgnR_minus {r : List UInt8} {m : Nat} {b : Bool} (h : valR r = (m, b)) : sgnR (45 :: r) = (-(m : Int), b && decide (0 < m)) := by
  rw [sgnR, if_pos (show (45 :: r).head? = some 45 from rfl)]
  show (-((valR r).1 : Int), (valR r).2 && decide (0 < (valR r).1)) = _
  rw [h]
theorem sgnR_plain {l : List UInt8} {m : Nat} {b : Bool} (hh : ¬ l.head? = some 45) (h : valR l = (m, b)) : sgnR l = ((m : Int), b) := by
  rw [sgnR, if_neg hh, h]
set_option maxRecDepth 100000 in
set_option maxHeartbeats 2000000 in
theorem l01Signed_any (l : List UInt8) (w : World) (hlen : l.length ≤ 2000000) :
    Calls Tryd.prog 60 #[.string ⟨l.toArray⟩] w fun e w' => e = .returned (.tuple #[.int .i64 (sgnR l).1, .bool (sgnR l).2]) ∧ Below w.heap.size w w' := by
  obtain ⟨s, hs⟩ : ∃ s : ByteArray, s = ⟨l.toArray⟩ := ⟨_, rfl⟩
  have hsl : s.data.toList = l := by rw [hs]
  have hsz : s.size = l.length := by rw [← hsl, Lib.size_eq]
  rw [← hs]
  clear hs
  by_cases hh : l.head? = some 45
  · obtain ⟨r, rfl⟩ : ∃ r, l = 45 :: r := by
      cases l with
      | nil => cases hh
      | cons b r => simp at hh; subst hh; exact ⟨r, rfl⟩
    obtain ⟨⟨m, ok⟩, HV⟩ : ∃ p, Hid (valR r = p) := ⟨_, Lib.hid rfl⟩
    have hm : m < 10000000000000 := by have := valR_lt r; rw [HV.out] at this; exact this
    have Hv := Lib.hid (sgnR_minus HV.out)
    have hz : s.size = r.length + 1 := by rw [hsz]; rfl
    have n0 : 0 < (s.size : Int) := by omega
    have n1 : 1 ≤ (s.size : Int) := by omega
    have ki : ∀ W, (Instr.index 9 (.string s) (.int .i64 0)).run Tryd.prog W = .ok (.int .u8 45) W := fun W => idxStr s 0 45 (by rw [hsl]; rfl) W
    have C := fun W => l01Value_any (s.extract 1 s.size) r W (by rw [Lib.extract_to_end, hsl]; rfl) (by simp at hlen; omega)
    rw [HV.out] at C
    have hw : IntKind.i64.wrap (-(m : Int)) = -(m : Int) := IntWalk.i64_in _ (by omega)
    clear hsl hsz hz hlen hh
    cases ok with
    | true =>
      by_cases h0 : 0 < m
      · have h0' : 0 < (m : Int) := by omega
        have hd : decide (0 < m) = true := by simp [h0]
        rw [hd] at Hv
        clear hd
        go_enter Tryd.func60, Tryd.ntmps60
        go_wp2_with fail
        refine (C _).mono ?_
        rintro e w1 ⟨rfl, hb1⟩
        go_wp2_with fail
        go_ret2
        exact ⟨endNum Hv.out, hb1⟩
      · have h0' : ¬ 0 < (m : Int) := by omega
        have hd : decide (0 < m) = false := by simp [h0]
        rw [hd] at Hv
        clear hd
        go_enter Tryd.func60, Tryd.ntmps60
        go_wp2_with fail
        refine (C _).mono ?_
        rintro e w1 ⟨rfl, hb1⟩
        go_wp2_with fail
        go_ret2
        exact ⟨endNum Hv.out, hb1⟩
    | false =>
      go_enter Tryd.func60, Tryd.ntmps60
      go_wp2_with fail
      refine (C _).mono ?_
      rintro e w1 ⟨rfl, hb1⟩
      go_wp2_with fail
      go_ret2
      exact ⟨endNum Hv.out, hb1⟩
  · obtain ⟨⟨m, ok⟩, HV⟩ : ∃ p, Hid (valR l = p) := ⟨_, Lib.hid rfl⟩
    have Hv := Lib.hid (sgnR_plain hh HV.out)
    have C := fun W => l01Value_any s l W hsl hlen
    rw [HV.out] at C
    cases l with
    | nil =>
      have n0 : ¬ 0 < (s.size : Int) := by rw [hsz]; simp
      clear hsl hsz hlen hh
      go_enter Tryd.func60, Tryd.ntmps60
      go_wp2_with fail
      refine (C _).mono ?_
      rintro e w1 ⟨rfl, hb1⟩
      go_wp2_with fail
      go_ret2
      exact ⟨endNum Hv.out, hb1⟩
    | cons b r =>
      have hz : s.size = r.length + 1 := by rw [hsz]; rfl
      have n0 : 0 < (s.size : Int) := by omega
      have hb : ¬ b.toNat = 45 := fun e => hh (by
        have : b = 45 := UInt8.toNat_inj.1 e
        rw [this]; rfl)
      have ki : ∀ W, (Instr.index 9 (.string s) (.int .i64 0)).run Tryd.prog W = .ok (.int .u8 (b.toNat : Int)) W := fun W => idxStr s 0 b (by rw [hsl]; rfl) W
      obtain ⟨x, hx⟩ : ∃ x : Nat, b.toNat = x := ⟨_, rfl⟩
      rw [hx] at ki hb
      have hb' : ¬ (x : Int) = 45 := by omega
      clear hsl hsz hlen hh hz hx
      go_enter Tryd.func60, Tryd.ntmps60
      go_wp2_with fail
      refine (C _).mono ?_
      rintro e w1 ⟨rfl, hb1⟩
      go_wp2_with fail
      go_ret2
      exact ⟨endNum Hv.out, hb1⟩
end Go.Proofs.YtibcbhphkafgjaaDoor

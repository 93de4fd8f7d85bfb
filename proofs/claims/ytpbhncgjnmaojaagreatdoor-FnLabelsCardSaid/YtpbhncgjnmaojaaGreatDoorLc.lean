/- Labels: the codes of ticks, the reference's text, ends and collisions (layer 9). No condition but the table. -/
import Derived.Test.YtpbhncgjnmaojaaGreatDoorLe
import Derived.Test.YtpbhncgjnmaojaaGreatDoorLp
import Derived.Test.YtpbhncgjnmaojaaGreatDoorDc
import Derived.Test.YtpbhncgjnmaojaaGreatDoorTk
import Derived.BigQuiet
namespace Go.Proofs.YtpbhncgjnmaojaaGreatDoor
open Go.RowKit
set_option linter.unusedVariables false
set_option linter.unusedSimpArgs false

/-- on the way to the number without zeros -/
def StripI (m j : Nat) : Prop := 1 ≤ j ∧ ∃ f, ((f = 4 ∧ j ≤ 9999) ∨ (f = 3 ∧ j ≤ 999) ∨ (f = 2 ∧ j ≤ 99) ∨ (f = 1 ∧ j ≤ 9)) ∧ strip f j = stripped m
theorem stripI_start {m : Nat} (h0 : 1 ≤ m) (h1 : m ≤ 9999) : StripI m m := ⟨h0, 4, by omega, rfl⟩
theorem stripI_bd {m j : Nat} (h : StripI m j) : 1 ≤ j ∧ j ≤ 9999 := by
  obtain ⟨h0, f, hf, _⟩ := h
  omega
theorem stripI_step {m j : Nat} (h : StripI m j) (hz : j % 10 = 0) : StripI m (j / 10) := by
  obtain ⟨h0, f, hf, e⟩ := h
  match f, hf, e with
  | 0, hf, _ => omega
  | f + 1, hf, e =>
    rw [strip, if_pos hz] at e
    exact ⟨by omega, f, by omega, e⟩
theorem stripI_end {m j : Nat} (h : StripI m j) (hz : ¬ j % 10 = 0) : j = stripped m := by
  obtain ⟨h0, f, hf, e⟩ := h
  match f, hf, e with
  | 0, hf, _ => omega
  | f + 1, hf, e =>
    rw [strip, if_neg hz] at e
    exact e
set_option maxHeartbeats 400000 in
theorem l09Is_any (a b c : Int) (w : World) :
    Calls Tryz.prog 48 #[.agg #[.int .i64 a, .int .i64 b, .int .i64 c]] w fun e w' => e = .returned (.bool (okL (a, b, c))) ∧ (w.alloc (.cells #[.int .i64 a, .int .i64 b, .int .i64 c] 49)) = w' := by
  go_enter Tryz.func48, Tryz.ntmps48
  go_wp2_with (go_at_call 69; refine (l01In_any _ _ _ _).mono ?_; rintro e w' ⟨rfl, rfl⟩)
  all_goals go_ret
  all_goals (refine ⟨endBool ?_, rfl⟩)
  all_goals simp_all [okL]
set_option maxRecDepth 100000 in
set_option maxHeartbeats 2000000 in
theorem l09Code_any (A : Option Addr) (n c : Nat) (l : List (Int × Int × Int)) (w : World) (hl : l.length = n) (hn : n ≤ 1048576) (hs : Sees w w.heap.size A (cells3 l)) :
    Calls Tryz.prog 24 #[.slice A n c] w fun e w' => e = .returned (.int .i64 (ckL l)) ∧ Below w.heap.size w w' := by
  by_cases hbig : 40 < n
  · have Hv := Lib.hid (show ckL l = 3 by rw [ckL, if_pos (by omega)])
    clear hl
    go_enter Tryz.func24, Tryz.ntmps24
    go_wp2_with fail
    go_ret
    exact ⟨endInt Hv.out.symm, Below.refl _ _⟩
  · have Hv := Lib.hid (show ckL l = if l.all okL = true then 0 else 2 by rw [ckL, if_neg (by omega)])
    go_enter Tryz.func24, Tryz.ntmps24
    go_wp2_with fail
    go_loopw [3] (fun i wr => ∃ k : Nat, k ≤ n ∧ i = .int .i64 k ∧ (l.take k).all okL = true ∧ Below w.heap.size w wr) (fun i _ => n - (intOf i).toNat)
    case atStart => exact ⟨0, Nat.zero_le _, rfl, rfl, Below.refl _ _⟩
    case round =>
      obtain ⟨k, hk, rfl, hok, hB⟩ := hrel
      have Hok := Lib.hid hok
      have Hl := Lib.hid hl
      have hz := hB.size
      clear hok
      by_cases hlt : k < n
      · obtain ⟨b, off, p, rfl, hb, hp, c0, c1, c2⟩ := (hs.over hB).three (k := k) (by omega)
        have Hp := Lib.hid hp
        have hbr : b < wr.heap.size := by omega
        have k0 : (0 : Int) ≤ (k : Int) := by omega
        have k1 : (k : Int) < (n : Int) := by omega
        clear hp hs hl
        have C := fun W => l09Is_any p.1 p.2.1 p.2.2 W
        by_cases hv : okL p = true
        · have HX := Lib.hid (all_next Hp.out hv Hok.out)
          rw [show okL (p.1, p.2.1, p.2.2) = true from hv] at C
          clear hv
          go_wp2_with (go_at_call 48; (with_reducible refine (C _).mono ?_); rintro e w2 ⟨rfl, rfl⟩)
          go_roundw
          case rel => exact ⟨k + 1, by omega, by go_num, HX.out, by repeat' (first | (with_reducible exact Below.refl _ _) | (with_reducible assumption) | (with_reducible refine Below.alloc ?_ ?_ _) | (with_reducible refine Below.drew ?_) | (with_reducible refine belowDraws ?_ _) | (with_reducible refine Below.setCell ?_ ?_ _) | omega | (simp; done) | (simp; omega))⟩
          case measure => simp [intOf]; omega
        · have HX := Lib.hid (all_at Hp.out (show okL p = false by simpa using hv))
          rw [show okL (p.1, p.2.1, p.2.2) = false by simpa using hv] at C
          clear hv
          go_wp2_with (go_at_call 48; (with_reducible refine (C _).mono ?_); rintro e w2 ⟨rfl, rfl⟩)
          go_ret
          exact ⟨endInt (by rw [Hv.out, if_neg (by rw [HX.out]; simp)]), by repeat' (first | (with_reducible exact Below.refl _ _) | (with_reducible assumption) | (with_reducible refine Below.alloc ?_ ?_ _) | (with_reducible refine Below.drew ?_) | (with_reducible refine belowDraws ?_ _) | (with_reducible refine Below.setCell ?_ ?_ _) | omega | (simp; done) | (simp; omega))⟩
      · obtain rfl : k = n := by omega
        clear hl hs
        go_wp2_with fail
        go_ret
        refine ⟨endInt ?_, hB⟩
        have e : l.all okL = true := by have := Hok.out; rwa [List.take_of_length_le (by have := Hl.out; omega)] at this
        rw [Hv.out, if_pos e]
set_option maxRecDepth 100000 in
set_option maxHeartbeats 2000000 in
theorem checkLabels_any (A : Option Addr) (n c : Nat) (l : List (Int × Int × Int)) (w : World) (hl : l.length = n) (hn : n ≤ 1048576) (hs : Sees w w.heap.size A (cells3 l)) :
    Calls Tryz.prog 20 #[.slice A n c] w fun e w' => e = .returned (.int .i64 (ckL l)) ∧ Below w.heap.size w w' := by
  by_cases hbig : 40 < n
  · have Hv := Lib.hid (show ckL l = 3 by rw [ckL, if_pos (by omega)])
    clear hl
    go_enter Tryz.func20, Tryz.ntmps20
    go_wp2_with fail
    go_ret
    exact ⟨endInt Hv.out.symm, Below.refl _ _⟩
  · have Hv := Lib.hid (show ckL l = if l.all okL = true then 0 else 2 by rw [ckL, if_neg (by omega)])
    go_enter Tryz.func20, Tryz.ntmps20
    go_wp2_with fail
    go_loopw [10] (fun i wr => ∃ k : Nat, k ≤ n ∧ i = .int .i64 k ∧ (l.take k).all okL = true ∧ Below w.heap.size w wr) (fun i _ => n - (intOf i).toNat)
    case atStart => exact ⟨0, Nat.zero_le _, rfl, rfl, Below.refl _ _⟩
    case round =>
      obtain ⟨k, hk, rfl, hok, hB⟩ := hrel
      have Hok := Lib.hid hok
      have Hl := Lib.hid hl
      have hz := hB.size
      clear hok
      by_cases hlt : k < n
      · obtain ⟨b, off, p, rfl, hb, hp, c0, c1, c2⟩ := (hs.over hB).three (k := k) (by omega)
        have Hp := Lib.hid hp
        have hbr : b < wr.heap.size := by omega
        have k0 : (0 : Int) ≤ (k : Int) := by omega
        have k1 : (k : Int) < (n : Int) := by omega
        clear hp hs hl
        by_cases g1 : inB p.1 1000 9999 = true
        · by_cases g2 : inB p.2.1 0 100000 = true
          · by_cases g3 : inB p.2.2 0 4 = true
            · have HX := Lib.hid (all_next Hp.out (show okL p = true by simp [okL, g1, g2, g3]) Hok.out)
              go_wp2_with (first
          | (go_at_call 39; (with_reducible refine (isDigits_any _ _).mono ?_); rintro e w2 ⟨rfl, rfl⟩)
          | (go_at_call 40; (with_reducible refine (within_any _ _ _ _).mono ?_); rintro e w2 ⟨rfl, rfl⟩))
              go_roundw
              case rel => exact ⟨k + 1, by omega, by go_num, HX.out, by repeat' (first | (with_reducible exact Below.refl _ _) | (with_reducible assumption) | (with_reducible refine Below.alloc ?_ ?_ _) | (with_reducible refine Below.drew ?_) | (with_reducible refine belowDraws ?_ _) | (with_reducible refine Below.setCell ?_ ?_ _) | omega | (simp; done) | (simp; omega))⟩
              case measure => simp [intOf]; omega
            · replace g3 : inB p.2.2 0 4 = false := by simpa using g3
              have HX := Lib.hid (all_at Hp.out (show okL p = false by simp [okL, g3]))
              go_wp2_with (first
              | (go_at_call 39; (with_reducible refine (isDigits_any _ _).mono ?_); rintro e w2 ⟨rfl, rfl⟩)
              | (go_at_call 40; (with_reducible refine (within_any _ _ _ _).mono ?_); rintro e w2 ⟨rfl, rfl⟩))
              go_ret
              exact ⟨endInt (by rw [Hv.out, if_neg (by rw [HX.out]; simp)]), by repeat' (first | (with_reducible exact Below.refl _ _) | (with_reducible assumption) | (with_reducible refine Below.alloc ?_ ?_ _) | (with_reducible refine Below.drew ?_) | (with_reducible refine belowDraws ?_ _) | (with_reducible refine Below.setCell ?_ ?_ _) | omega | (simp; done) | (simp; omega))⟩
          · replace g2 : inB p.2.1 0 100000 = false := by simpa using g2
            have HX := Lib.hid (all_at Hp.out (show okL p = false by simp [okL, g2]))
            go_wp2_with (first
            | (go_at_call 39; (with_reducible refine (isDigits_any _ _).mono ?_); rintro e w2 ⟨rfl, rfl⟩)
            | (go_at_call 40; (with_reducible refine (within_any _ _ _ _).mono ?_); rintro e w2 ⟨rfl, rfl⟩))
            go_ret
            exact ⟨endInt (by rw [Hv.out, if_neg (by rw [HX.out]; simp)]), by repeat' (first | (with_reducible exact Below.refl _ _) | (with_reducible assumption) | (with_reducible refine Below.alloc ?_ ?_ _) | (with_reducible refine Below.drew ?_) | (with_reducible refine belowDraws ?_ _) | (with_reducible refine Below.setCell ?_ ?_ _) | omega | (simp; done) | (simp; omega))⟩
        · replace g1 : inB p.1 1000 9999 = false := by simpa using g1
          have HX := Lib.hid (all_at Hp.out (show okL p = false by simp [okL, g1]))
          go_wp2_with (first
          | (go_at_call 39; (with_reducible refine (isDigits_any _ _).mono ?_); rintro e w2 ⟨rfl, rfl⟩)
          | (go_at_call 40; (with_reducible refine (within_any _ _ _ _).mono ?_); rintro e w2 ⟨rfl, rfl⟩))
          go_ret
          exact ⟨endInt (by rw [Hv.out, if_neg (by rw [HX.out]; simp)]), by repeat' (first | (with_reducible exact Below.refl _ _) | (with_reducible assumption) | (with_reducible refine Below.alloc ?_ ?_ _) | (with_reducible refine Below.drew ?_) | (with_reducible refine belowDraws ?_ _) | (with_reducible refine Below.setCell ?_ ?_ _) | omega | (simp; done) | (simp; omega))⟩
      · obtain rfl : k = n := by omega
        clear hl hs
        go_wp2_with fail
        go_ret
        refine ⟨endInt ?_, hB⟩
        have e : l.all okL = true := by have := Hok.out; rwa [List.take_of_length_le (by have := Hl.out; omega)] at this
        rw [Hv.out, if_pos e]
set_option maxHeartbeats 2000000 in
theorem l09Text_any (m : Nat) (p h : Int) (w : World) (h0 : 1 ≤ m) (h1 : m ≤ 9999) :
    Calls Tryz.prog 70 #[.agg #[.int .i64 (m : Int), .int .i64 p, .int .i64 h]] w fun e w' => e = .returned (.string ⟨(labN m).toArray⟩) ∧ Below w.heap.size w w' := by
  go_enter Tryz.func70, Tryz.ntmps70
  go_wp2_with fail
  go_loop [3] (fun i => ∃ j : Nat, i = .int .i64 (j : Int) ∧ StripI m j) (fun i => (intOf i).toNat)
  case atStart => exact ⟨m, rfl, stripI_start h0 h1⟩
  case round =>
    obtain ⟨j, rfl, hj⟩ := hrel
    have hb := stripI_bd hj
    obtain ⟨j0, j1⟩ := hb
    have HJ := Lib.hid hj
    clear hj
    by_cases hz : j % 10 = 0
    · have HN := Lib.hid (stripI_step HJ.out hz)
      have t0 : ((j : Int) % 10 == 0) = true := by rw [beq_iff_eq]; omega
      have hlt : j / 10 < j := by omega
      clear hz
      go_wp2_with fail
      go_round
      case rel => exact ⟨j / 10, congrArg (Value.int .i64) (by omega), HN.out⟩
      case measure => simp [intOf]; omega
    · have HE := Lib.hid (stripI_end HJ.out hz)
      have t0 : ((j : Int) % 10 == 0) = false := by rw [beq_eq_false_iff_ne]; omega
      have D := fun W => l01Dec_any j j W (Nat.le_refl _) (by omega)
      clear hz
      go_wp2_with fail
      refine (D _).mono ?_
      rintro e w2 ⟨rfl, hb2⟩
      go_wp2_with fail
      go_ret
      exact ⟨by rw [labN, ← HE.out]; rfl, (Below.alloc (Below.refl _ _) (Nat.le_refl _) _).trans (hb2.mono (by simp))⟩
set_option maxHeartbeats 2000000 in
theorem l09Ends_any (m : Nat) (p h : Int) (w : World) (h0 : 1 ≤ m) (h1 : m ≤ 9999) (p0 : 0 ≤ p) (p1 : p ≤ 100000) :
    Calls Tryz.prog 49 #[.agg #[.int .i64 (m : Int), .int .i64 p, .int .i64 h]] w fun e w' => e = .returned (.tuple #[.int .i64 (endL m p), .int .i64 (endR m p)]) ∧ Below w.heap.size w w' := by
  have D := fun W => l09Text_any m p h W h0 h1
  have lb := labLen_bd h0 h1
  have hsz : (ByteArray.mk (labN m).toArray).size = labLen m := by simp [ByteArray.size, labLen]
  have HE := Lib.hid (show endL m p = p - 120 * (labLen m : Int) / 2 ∧ endR m p = p - 120 * (labLen m : Int) / 2 + 120 * (labLen m : Int) from ⟨rfl, rfl⟩)
  generalize endL m p = eL at *
  generalize endR m p = eR at *
  generalize labLen m = L at *
  have e1 : IntKind.i64.wrap (p - 120 * (L : Int) / 2) = p - 120 * (L : Int) / 2 := IntWalk.i64_in _ (by omega)
  have e2 : IntKind.i64.wrap (p - 120 * (L : Int) / 2 + 120 * (L : Int)) = p - 120 * (L : Int) / 2 + 120 * (L : Int) := IntWalk.i64_in _ (by omega)
  go_enter Tryz.func49, Tryz.ntmps49
  go_wp2_with fail
  refine (D _).mono ?_
  rintro e w1 ⟨rfl, hb1⟩
  have q0 : w1.cell? ⟨w.heap.size, 0, none⟩ = some (.int .i64 (m : Int)) := (by rw [hb1.cell (by simp)]; simp [go_sem])
  have q1 : w1.cell? ⟨w.heap.size, 1, none⟩ = some (.int .i64 p) := (by rw [hb1.cell (by simp)]; simp [go_sem])
  have B1 : Below w.heap.size w w1 := (Below.alloc (Below.refl _ _) (Nat.le_refl _) _).trans (hb1.mono (by simp))
  clear hb1
  go_wp2_with fail
  go_quiet (fail)
  clear e1 e2
  go_wp2_with fail
  go_ret2
  exact ⟨endTwo (p := (eL, eR)) (by rw [HE.out.1, HE.out.2]), belowDraws B1 _⟩
set_option maxHeartbeats 2000000 in
theorem l09Collide_any (m : Nat) (p h : Int) (m' : Nat) (p' h' : Int) (w : World) (h0 : 1 ≤ m) (h1 : m ≤ 9999) (p0 : 0 ≤ p) (p1 : p ≤ 100000) (h0' : 1 ≤ m') (h1' : m' ≤ 9999) (p0' : 0 ≤ p') (p1' : p' ≤ 100000) :
    Calls Tryz.prog 31 #[.agg #[.int .i64 (m : Int), .int .i64 p, .int .i64 h], .agg #[.int .i64 (m' : Int), .int .i64 p', .int .i64 h']] w fun e w' => e = .returned (.bool (hitB m p m' p')) ∧ Below w.heap.size w w' := by
  have C1 := fun W => l09Ends_any m p h W h0 h1 p0 p1
  have C2 := fun W => l09Ends_any m' p' h' W h0' h1' p0' p1'
  have HH := Lib.hid (hit_max m p m' p' (labLen_bd h0 h1).1 (labLen_bd h0' h1').1)
  generalize hitB m p m' p' = hb at *
  generalize endL m p = a at *
  generalize endR m p = b at *
  generalize endL m' p' = c at *
  generalize endR m' p' = d at *
  have BA : Below w.heap.size w ((w.alloc (.cells #[.int .i64 (m : Int), .int .i64 p, .int .i64 h] 49)).alloc (.cells #[.int .i64 (m' : Int), .int .i64 p', .int .i64 h'] 49)) := ((Below.refl _ _).alloc (Nat.le_refl _) _).alloc (by simp) _
  go_enter Tryz.func31, Tryz.ntmps31
  go_wp2_with fail
  refine (C1 _).mono ?_
  rintro e w1 ⟨rfl, hb1⟩
  have q0 : w1.cell? ⟨w.heap.size + 1, 0, none⟩ = some (.int .i64 (m' : Int)) := (by rw [hb1.cell (by simp)]; simp [go_sem])
  have q1 : w1.cell? ⟨w.heap.size + 1, 1, none⟩ = some (.int .i64 p') := (by rw [hb1.cell (by simp)]; simp [go_sem])
  have q2 : w1.cell? ⟨w.heap.size + 1, 2, none⟩ = some (.int .i64 h') := (by rw [hb1.cell (by simp)]; simp [go_sem])
  have B1 : Below w.heap.size w w1 := BA.trans (hb1.mono (by simp; omega))
  clear hb1
  go_wp2_with fail
  refine (C2 _).mono ?_
  rintro e w2 ⟨rfl, hb2⟩
  have B2 : Below w.heap.size w w2 := B1.trans (hb2.mono B1.size)
  go_wp2_with fail
  all_goals go_ret
  all_goals exact ⟨endBool (by rw [← HH.out]; first | done | exact decide_eq_decide.2 (by omega)), B2⟩
end Go.Proofs.YtpbhncgjnmaojaaGreatDoor

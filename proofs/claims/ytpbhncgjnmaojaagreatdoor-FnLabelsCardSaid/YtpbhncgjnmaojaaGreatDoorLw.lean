/- IsChoice and WorthOf: the walks and the laws (layer 9). No condition but the table. -/
import Derived.Test.YtpbhncgjnmaojaaGreatDoorLch
import Derived.Test.YtpbhncgjnmaojaaGreatDoorRule3
import Derived.Test.YtpbhncgjnmaojaaGreatDoorLawG
namespace Go.Proofs.YtpbhncgjnmaojaaGreatDoor
open Go.RowKit
set_option linter.unusedVariables false
set_option linter.unusedSimpArgs false

set_option maxHeartbeats 400000 in
theorem worth_any (a b c : Int) (w : World) (h1 : 0 ≤ c) (h2 : c ≤ 4) :
    Calls Tryz.prog 34 #[.agg #[.int .i64 a, .int .i64 b, .int .i64 c]] w fun e w' => e = .returned (.int .i64 (1 + 10 * c)) ∧ Below w.heap.size w w' := by
  go_enter Tryz.func34, Tryz.ntmps34
  go_wp2
  go_ret
  exact ⟨rfl, by repeat' (first | exact Below.refl _ _ | assumption | refine Below.alloc ?_ (by first | omega | (simp; done) | (simp; omega)) _ | refine Below.drew ?_ | refine Below.setCell ?_ (by first | omega | (simp; done) | (simp; omega)) _)⟩
set_option maxHeartbeats 400000 in
theorem l09Worth_any (a b c : Int) (w : World) (h1 : 0 ≤ c) (h2 : c ≤ 4) :
    Calls Tryz.prog 36 #[.agg #[.int .i64 a, .int .i64 b, .int .i64 c]] w fun e w' => e = .returned (.int .i64 (1 + 10 * c)) ∧ Below w.heap.size w w' := by
  go_enter Tryz.func36, Tryz.ntmps36
  go_wp2
  go_ret
  exact ⟨rfl, by repeat' (first | exact Below.refl _ _ | assumption | refine Below.alloc ?_ (by first | omega | (simp; done) | (simp; omega)) _ | refine Below.drew ?_ | refine Below.setCell ?_ (by first | omega | (simp; done) | (simp; omega)) _)⟩
set_option maxHeartbeats 4000000 in
theorem iIsChoice_any (A : Option Addr) (n c : Nat) (l : List (Int × Int × Int)) (C : Option Addr) (m cc : Nat) (ch : List Int) (w : World) (hl : l.length = n) (hn : n ≤ 1048576) (hs : Sees w w.heap.size A (cells3 l)) (hm : ch.length = m) (hmc : m ≤ cc) (hm1 : m ≤ 1048576) (hcc : cc ≤ 9223372036854775807) (hsc : Sees w w.heap.size C (ch.map (Value.int .i64))) (hT : Tab w) :
    Calls Tryz.prog 15 #[.slice A n c, .slice C m cc] w fun e w' => e = .returned (.tuple #[.bool (rChoice l ch).1, .int .i64 (rChoice l ch).2]) ∧ Below w.heap.size w w' := by
  have CK := checkLabels_any A n c l w hl hn hs
  by_cases h0 : ckL l = 0
  · obtain ⟨hn40, hok⟩ := ckL_zero h0
    have Hv := Lib.hid (show rChoice l ch = (chB l ch, 0) by rw [rChoice, if_pos h0])
    have CH := fun W (b1 : Below w.heap.size w W) => isChoice_any A n c l C m cc ch W hl (by omega) hok ((hs.over b1).wider b1.size) hm hmc hm1 hcc ((hsc.over b1).wider b1.size) (hT.over b1)
    rw [h0] at CK
    generalize chB l ch = cb at *
    clear h0 hl hok hs hsc hm
    go_enter Tryz.func15, Tryz.ntmps15
    go_wp2_with fail
    refine CK.mono ?_
    rintro e w1 ⟨rfl, b1⟩
    go_wp2_with fail
    refine (CH _ b1).mono ?_
    rintro e w2 ⟨rfl, b2⟩
    go_wp2_with fail
    go_ret2
    exact ⟨endBoolInt Hv.out, b1.trans (b2.mono b1.size)⟩
  · have Hv := Lib.hid (show rChoice l ch = (false, ckL l) by rw [rChoice, if_neg h0])
    generalize ckL l = ck at *
    have t1 : (ck != 0) = true := by simpa using h0
    clear hl hs hsc hm h0
    go_enter Tryz.func15, Tryz.ntmps15
    go_wp2_with fail
    refine CK.mono ?_
    rintro e w1 ⟨rfl, b1⟩
    go_wp2_with fail
    go_ret2
    exact ⟨endBoolInt Hv.out, b1⟩
set_option maxRecDepth 100000 in
set_option maxHeartbeats 8000000 in
theorem iWorthOf_any (A : Option Addr) (n c : Nat) (l : List (Int × Int × Int)) (C : Option Addr) (m cc : Nat) (ch : List Int) (w : World) (hl : l.length = n) (hn : n ≤ 1048576) (hs : Sees w w.heap.size A (cells3 l)) (hm : ch.length = m) (hmc : m ≤ cc) (hm1 : m ≤ 1048576) (hcc : cc ≤ 9223372036854775807) (hsc : Sees w w.heap.size C (ch.map (Value.int .i64))) (hT : Tab w) :
    Calls Tryz.prog 13 #[.slice A n c, .slice C m cc] w fun e w' => e = .returned (.tuple #[.int .i64 (rWorth l ch).1, .int .i64 (rWorth l ch).2]) ∧ Below w.heap.size w w' := by
  have CK := checkLabels_any A n c l w hl hn hs
  by_cases h0 : ckL l = 0
  · obtain ⟨hn40, hok⟩ := ckL_zero h0
    have CH := fun W (b1 : Below w.heap.size w W) => isChoice_any A n c l C m cc ch W hl (by omega) hok ((hs.over b1).wider b1.size) hm hmc hm1 hcc ((hsc.over b1).wider b1.size) (hT.over b1)
    rw [h0] at CK
    have HL := Lib.hid hl
    have HOK := Lib.hid hok
    by_cases hc : chB l ch = true
    · have Hv := Lib.hid (show rWorth l ch = (wrT l ch ch.length, 0) by rw [rWorth, if_pos h0, if_pos hc])
      have HRM := Lib.hid (show risesTo n ch m = true by
        have h := hc
        rw [chB, Bool.and_eq_true, hl, hm] at h
        exact h.1)
      have hmn := rises_len HRM.out
      have WB := Lib.hid (show ∀ k, k ≤ m → 0 ≤ wrT l ch k ∧ wrT l ch k ≤ 1640 from fun k hk => by
        have := wrT_bd hl hok HRM.out k hk
        omega)
      rw [hc] at CH
      clear h0 hl hok hc
      go_enter Tryz.func13, Tryz.ntmps13
      go_wp2_with fail
      refine CK.mono ?_
      rintro e w1 ⟨rfl, b1⟩
      clear CK
      go_wp2_with fail
      refine (CH _ b1).mono ?_
      rintro e w2 ⟨rfl, b2⟩
      have hB2 := b1.trans (b2.mono b1.size)
      clear CH b2
      go_wp2_with fail
      go_loopw [7, 21] (fun v u wr => ∃ k : Nat, k ≤ m ∧ u = .int .i64 (k : Int) ∧ v = .int .i64 (wrT l ch k) ∧ Below w.heap.size w wr) (fun _ u _ => m - (intOf u).toNat)
      case atStart => exact ⟨0, Nat.zero_le _, rfl, rfl, hB2⟩
      case round =>
        obtain ⟨k, hk, rfl, rfl, hBr⟩ := hrel
        have zr := hBr.size
        have hwb := WB.out k hk
        by_cases hlt : k < m
        · obtain ⟨x, hx⟩ : ∃ x, ch[k]? = some x := ⟨_, List.getElem?_eq_getElem (by omega)⟩
          have hxb := rises_at HRM.out (i := k) (by omega)
          rw [cA_at hx] at hxb
          obtain ⟨a, rfl⟩ : ∃ a : Nat, x = (a : Int) := ⟨x.toNat, by omega⟩
          have han : a < n := by omega
          obtain ⟨cb, coff, rfl, hcb, HCH⟩ := intAll hsc (by omega)
          obtain ⟨tb, tof, rfl, htb, HTK⟩ := tickAll hs HL.out HOK.out (by omega)
          have c0 := HCH.out wr hBr k _ hx
          obtain ⟨t0, t1, t2⟩ := HTK.out wr hBr a han
          obtain ⟨_, p1, p2, p3, p4, p5, p6⟩ := tk_facts HL.out HOK.out han
          have hwn := WB.out (k + 1) hlt
          have HE := Lib.hid (show wrT l ch (k + 1) = wrT l ch k + (1 + 10 * htA l a) by rw [wrT, cA_at hx, Int.toNat_natCast]; rfl)
          rw [HE.out] at hwn
          have WO := fun W => worth_any (mkA l a) (plA l a) (htA l a) W p5 p6
          have k0 : (0 : Int) ≤ (k : Int) := by omega
          have k1 : (k : Int) < (m : Int) := by omega
          have a0 : (0 : Int) ≤ (a : Int) := by omega
          have a1 : (a : Int) < (n : Int) := by omega
          have htr : tb < wr.heap.size := by omega
          have hcr : cb < wr.heap.size := by omega
          generalize wrT l ch k = s0 at *
          clear hx hxb hs hsc
          go_wp2_with fail
          refine (WO _).mono ?_
          rintro e w4 ⟨rfl, hb4⟩
          have hB4 := hBr.trans (hb4.mono zr)
          go_wp2_with fail
          go_roundw
          case rel => exact ⟨k + 1, by omega, by go_num, by rw [HE.out], hB4⟩
          case measure => simp [intOf]; omega
        · have hke : ¬ (k : Int) < (m : Int) := by omega
          have HE := Lib.hid (show rWorth l ch = (wrT l ch k, 0) by rw [Hv.out, show k = ch.length by omega])
          generalize wrT l ch k = s0 at *
          clear hs hsc hm
          go_wp2_with fail
          go_ret2
          exact ⟨endTwo HE.out, hBr⟩
    · have Hv := Lib.hid (show rWorth l ch = (0, 5) by rw [rWorth, if_pos h0, if_neg hc])
      rw [show chB l ch = false by simpa using hc] at CH
      clear h0 hl hok hc hs hsc hm
      go_enter Tryz.func13, Tryz.ntmps13
      go_wp2_with fail
      refine CK.mono ?_
      rintro e w1 ⟨rfl, b1⟩
      go_wp2_with fail
      refine (CH _ b1).mono ?_
      rintro e w2 ⟨rfl, b2⟩
      have hB2 := b1.trans (b2.mono b1.size)
      go_wp2_with fail
      go_ret2
      exact ⟨endTwo Hv.out, hB2⟩
  · have Hv := Lib.hid (show rWorth l ch = (0, ckL l) by rw [rWorth, if_neg h0])
    generalize ckL l = ck at *
    have t0 : (ck == 0) = false := by simpa using h0
    have t1 : (ck != 0) = true := by simpa using h0
    clear hl hs hsc hm h0
    go_enter Tryz.func13, Tryz.ntmps13
    go_wp2_with fail
    refine CK.mono ?_
    rintro e w1 ⟨rfl, b1⟩
    go_wp2_with fail
    go_ret2
    exact ⟨endTwo Hv.out, b1⟩
set_option maxHeartbeats 4000000 in
theorem sIsChoice_any (A : Option Addr) (n c : Nat) (l : List (Int × Int × Int)) (C : Option Addr) (m cc : Nat) (ch : List Int) (w : World) (hl : l.length = n) (hn : n ≤ 1048576) (hs : Sees w w.heap.size A (cells3 l)) (hm : ch.length = m) (hmc : m ≤ cc) (hm1 : m ≤ 1048576) (hcc : cc ≤ 9223372036854775807) (hsc : Sees w w.heap.size C (ch.map (Value.int .i64))) :
    Calls Tryz.prog 16 #[.slice A n c, .slice C m cc] w fun e w' => e = .returned (.tuple #[.bool (rChoice l ch).1, .int .i64 (rChoice l ch).2]) ∧ Below w.heap.size w w' := by
  have CK := l09Code_any A n c l w hl hn hs
  by_cases h0 : ckL l = 0
  · obtain ⟨hn40, hok⟩ := ckL_zero h0
    have Hv := Lib.hid (show rChoice l ch = (chB l ch, 0) by rw [rChoice, if_pos h0])
    have CH := fun W (b1 : Below w.heap.size w W) => l09Choice_any A n c l C m cc ch W hl (by omega) hok ((hs.over b1).wider b1.size) hm hmc hm1 hcc ((hsc.over b1).wider b1.size)
    rw [h0] at CK
    generalize chB l ch = cb at *
    clear h0 hl hok hs hsc hm
    go_enter Tryz.func16, Tryz.ntmps16
    go_wp2_with fail
    refine CK.mono ?_
    rintro e w1 ⟨rfl, b1⟩
    go_wp2_with fail
    refine (CH _ b1).mono ?_
    rintro e w2 ⟨rfl, b2⟩
    go_wp2_with fail
    go_ret2
    exact ⟨endBoolInt Hv.out, b1.trans (b2.mono b1.size)⟩
  · have Hv := Lib.hid (show rChoice l ch = (false, ckL l) by rw [rChoice, if_neg h0])
    generalize ckL l = ck at *
    have t1 : (ck != 0) = true := by simpa using h0
    clear hl hs hsc hm h0
    go_enter Tryz.func16, Tryz.ntmps16
    go_wp2_with fail
    refine CK.mono ?_
    rintro e w1 ⟨rfl, b1⟩
    go_wp2_with fail
    go_ret2
    exact ⟨endBoolInt Hv.out, b1⟩
set_option maxRecDepth 100000 in
set_option maxHeartbeats 8000000 in
theorem sWorthOf_any (A : Option Addr) (n c : Nat) (l : List (Int × Int × Int)) (C : Option Addr) (m cc : Nat) (ch : List Int) (w : World) (hl : l.length = n) (hn : n ≤ 1048576) (hs : Sees w w.heap.size A (cells3 l)) (hm : ch.length = m) (hmc : m ≤ cc) (hm1 : m ≤ 1048576) (hcc : cc ≤ 9223372036854775807) (hsc : Sees w w.heap.size C (ch.map (Value.int .i64))) :
    Calls Tryz.prog 14 #[.slice A n c, .slice C m cc] w fun e w' => e = .returned (.tuple #[.int .i64 (rWorth l ch).1, .int .i64 (rWorth l ch).2]) ∧ Below w.heap.size w w' := by
  have CK := l09Code_any A n c l w hl hn hs
  by_cases h0 : ckL l = 0
  · obtain ⟨hn40, hok⟩ := ckL_zero h0
    have CH := fun W (b1 : Below w.heap.size w W) => l09Choice_any A n c l C m cc ch W hl (by omega) hok ((hs.over b1).wider b1.size) hm hmc hm1 hcc ((hsc.over b1).wider b1.size)
    rw [h0] at CK
    have HL := Lib.hid hl
    have HOK := Lib.hid hok
    by_cases hc : chB l ch = true
    · have Hv := Lib.hid (show rWorth l ch = (wrT l ch ch.length, 0) by rw [rWorth, if_pos h0, if_pos hc])
      have HRM := Lib.hid (show risesTo n ch m = true by
        have h := hc
        rw [chB, Bool.and_eq_true, hl, hm] at h
        exact h.1)
      have hmn := rises_len HRM.out
      have WB := Lib.hid (show ∀ k, k ≤ m → 0 ≤ wrT l ch k ∧ wrT l ch k ≤ 1640 from fun k hk => by
        have := wrT_bd hl hok HRM.out k hk
        omega)
      rw [hc] at CH
      clear h0 hl hok hc
      go_enter Tryz.func14, Tryz.ntmps14
      go_wp2_with fail
      refine CK.mono ?_
      rintro e w1 ⟨rfl, b1⟩
      clear CK
      go_wp2_with fail
      refine (CH _ b1).mono ?_
      rintro e w2 ⟨rfl, b2⟩
      have hB2 := b1.trans (b2.mono b1.size)
      clear CH b2
      go_wp2_with fail
      go_loopw [7, 8] (fun v u wr => ∃ k : Nat, k ≤ m ∧ u = .int .i64 (k : Int) ∧ v = .int .i64 (wrT l ch k) ∧ Below w.heap.size w wr) (fun _ u _ => m - (intOf u).toNat)
      case atStart => exact ⟨0, Nat.zero_le _, rfl, rfl, hB2⟩
      case round =>
        obtain ⟨k, hk, rfl, rfl, hBr⟩ := hrel
        have zr := hBr.size
        have hwb := WB.out k hk
        by_cases hlt : k < m
        · obtain ⟨x, hx⟩ : ∃ x, ch[k]? = some x := ⟨_, List.getElem?_eq_getElem (by omega)⟩
          have hxb := rises_at HRM.out (i := k) (by omega)
          rw [cA_at hx] at hxb
          obtain ⟨a, rfl⟩ : ∃ a : Nat, x = (a : Int) := ⟨x.toNat, by omega⟩
          have han : a < n := by omega
          obtain ⟨cb, coff, rfl, hcb, HCH⟩ := intAll hsc (by omega)
          obtain ⟨tb, tof, rfl, htb, HTK⟩ := tickAll hs HL.out HOK.out (by omega)
          have c0 := HCH.out wr hBr k _ hx
          obtain ⟨t0, t1, t2⟩ := HTK.out wr hBr a han
          obtain ⟨_, p1, p2, p3, p4, p5, p6⟩ := tk_facts HL.out HOK.out han
          have hwn := WB.out (k + 1) hlt
          have HE := Lib.hid (show wrT l ch (k + 1) = wrT l ch k + (1 + 10 * htA l a) by rw [wrT, cA_at hx, Int.toNat_natCast]; rfl)
          rw [HE.out] at hwn
          have WO := fun W => l09Worth_any (mkA l a) (plA l a) (htA l a) W p5 p6
          have k0 : (0 : Int) ≤ (k : Int) := by omega
          have k1 : (k : Int) < (m : Int) := by omega
          have a0 : (0 : Int) ≤ (a : Int) := by omega
          have a1 : (a : Int) < (n : Int) := by omega
          have htr : tb < wr.heap.size := by omega
          have hcr : cb < wr.heap.size := by omega
          generalize wrT l ch k = s0 at *
          clear hx hxb hs hsc
          go_wp2_with fail
          refine (WO _).mono ?_
          rintro e w4 ⟨rfl, hb4⟩
          have hB4 := hBr.trans (hb4.mono zr)
          go_wp2_with fail
          go_roundw
          case rel => exact ⟨k + 1, by omega, by go_num, by rw [HE.out], hB4⟩
          case measure => simp [intOf]; omega
        · have hke : ¬ (k : Int) < (m : Int) := by omega
          have HE := Lib.hid (show rWorth l ch = (wrT l ch k, 0) by rw [Hv.out, show k = ch.length by omega])
          generalize wrT l ch k = s0 at *
          clear hs hsc hm
          go_wp2_with fail
          go_ret2
          exact ⟨endTwo HE.out, hBr⟩
    · have Hv := Lib.hid (show rWorth l ch = (0, 5) by rw [rWorth, if_pos h0, if_neg hc])
      rw [show chB l ch = false by simpa using hc] at CH
      clear h0 hl hok hc hs hsc hm
      go_enter Tryz.func14, Tryz.ntmps14
      go_wp2_with fail
      refine CK.mono ?_
      rintro e w1 ⟨rfl, b1⟩
      go_wp2_with fail
      refine (CH _ b1).mono ?_
      rintro e w2 ⟨rfl, b2⟩
      have hB2 := b1.trans (b2.mono b1.size)
      go_wp2_with fail
      go_ret2
      exact ⟨endTwo Hv.out, hB2⟩
  · have Hv := Lib.hid (show rWorth l ch = (0, ckL l) by rw [rWorth, if_neg h0])
    generalize ckL l = ck at *
    have t0 : (ck == 0) = false := by simpa using h0
    have t1 : (ck != 0) = true := by simpa using h0
    clear hl hs hsc hm h0
    go_enter Tryz.func14, Tryz.ntmps14
    go_wp2_with fail
    refine CK.mono ?_
    rintro e w1 ⟨rfl, b1⟩
    go_wp2_with fail
    go_ret2
    exact ⟨endTwo Hv.out, b1⟩
end Go.Proofs.YtpbhncgjnmaojaaGreatDoor

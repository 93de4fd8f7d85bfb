/- Reading a stock: the program's closures (layer 11). No condition. -/
import Derived.Test.YthnjiiodpjielaaStk0
import Derived.Test.YthnjiiodpjielaaCf
namespace Go.Proofs.Ythnjiiodpjielaa
open Go.RowKit
set_option linter.unusedVariables false
set_option linter.unusedSimpArgs false

theorem num_of {a t s0 i : Int} (ha : a = 9000 * t + (s0 - 1000)) (h0 : 1000 ≤ s0 + i) (h1 : s0 + i ≤ 9999) : nD (a + i) = s0 + i ∧ nT (a + i) = t := by
  unfold nD nT
  omega
theorem sp_num {s a t s0 i : Int} (ha : a = 9000 * t + (s0 - 1000)) (h0 : 1000 ≤ s0 + i) (h1 : s0 + i ≤ 9999) : ptOf s (s0 + i) t = sp s (a + i) := by
  obtain ⟨e1, e2⟩ := num_of ha h0 h1
  rw [sp, e1, e2]
set_option maxRecDepth 100000 in
set_option maxHeartbeats 2000000 in
theorem fig2_any (i t s0 : Int) (bg bn sb so cap : Nat) (w : World) (h0 : 1000 ≤ s0 + i) (h1 : s0 + i ≤ 9999) (c0 : w.cell? ⟨bg, 0, none⟩ = some (.slice (some ⟨sb, so, none⟩) 2 cap)) (c1 : w.cell? ⟨sb, so, none⟩ = some (.int .i64 s0)) (c2 : w.cell? ⟨bn, 0, none⟩ = some (.int .i64 t)) :
    Calls Try.prog 177 #[.int .i64 i, .pointer (some ⟨bg, 0, none⟩), .pointer (some ⟨bn, 0, none⟩)] w fun e w' => e = .returned (.agg #[.int .i64 (s0 + i), .int .i64 t]) ∧ Below w.heap.size w w' := by
  have l_bg : bg < w.heap.size := World.block_lt_of_cell? w _ c0
  have l_sb : sb < w.heap.size := World.block_lt_of_cell? w _ c1
  have l_bn : bn < w.heap.size := World.block_lt_of_cell? w _ c2
  have e0 : IntKind.i64.wrap (s0 + i) = s0 + i := IntWalk.i64_in _ (by omega)
  go_enter Try.func177, Try.ntmps177
  go_wp2_with fail
  go_region_with (fail)
  all_goals go_wp2_with fail
  all_goals (refine bodyPost_ret (v := .agg #[.int .i64 (s0 + i), .int .i64 t]) ?_ rfl ?_; (focus (simp [results, Try.results177, go_sem, *])); exact ⟨rfl, by repeat' (first | (with_reducible exact Below.refl _ _) | (with_reducible assumption) | (with_reducible refine Below.alloc ?_ ?_ _) | (with_reducible refine Below.drew ?_) | (with_reducible refine belowDraws ?_ _) | (with_reducible refine Below.setCell ?_ ?_ _) | omega | (simp; done) | (simp; omega))⟩)
set_option maxRecDepth 100000 in
set_option maxHeartbeats 4000000 in
theorem reach3_any (s n i a t s0 : Int) (bs bq bf bg bn sb so cap : Nat) (w : World) (s1 : 0 ≤ s) (s2 : s ≤ 4) (ha : a = 9000 * t + (s0 - 1000)) (t1 : -1000 ≤ t) (t2 : t ≤ 1000) (h0 : 1000 ≤ s0 + i) (h1 : s0 + i ≤ 9999) (c0 : w.cell? ⟨bf, 0, none⟩ = some (.func (.func 177) #[] #[.pointer (some ⟨bg, 0, none⟩), .pointer (some ⟨bn, 0, none⟩)])) (c1 : w.cell? ⟨bg, 0, none⟩ = some (.slice (some ⟨sb, so, none⟩) 2 cap)) (c2 : w.cell? ⟨sb, so, none⟩ = some (.int .i64 s0)) (c3 : w.cell? ⟨bn, 0, none⟩ = some (.int .i64 t)) (d0 : w.cell? ⟨bs, 0, none⟩ = some (.int .i64 s)) (d1 : w.cell? ⟨bq, 0, none⟩ = some (.int .i64 n)) :
    Calls Try.prog 180 #[.int .i64 i, .pointer (some ⟨bs, 0, none⟩), .pointer (some ⟨bf, 0, none⟩), .pointer (some ⟨bq, 0, none⟩)] w fun e w' => e = .returned (.bool (reach s n (a + i))) ∧ Below w.heap.size w w' := by
  have l_bf : bf < w.heap.size := World.block_lt_of_cell? w _ c0
  have l_bg : bg < w.heap.size := World.block_lt_of_cell? w _ c1
  have l_sb : sb < w.heap.size := World.block_lt_of_cell? w _ c2
  have l_bn : bn < w.heap.size := World.block_lt_of_cell? w _ c3
  have l_bs : bs < w.heap.size := World.block_lt_of_cell? w _ d0
  have l_bq : bq < w.heap.size := World.block_lt_of_cell? w _ d1
  have PT := fun W => pointOf_any s (s0 + i) t W ⟨h0, h1⟩ (by omega) (by omega)
  rw [sp_num ha h0 h1] at PT
  have HR := Lib.hid (show reach s n (a + i) = if s = 3 then decide (sp s (a + i) ≤ n) else decide (n ≤ sp s (a + i)) from rfl)
  generalize reach s n (a + i) = r at *
  generalize sp s (a + i) = p at *
  clear ha
  by_cases h3 : s = 3
  · have HV := Lib.hid (HR.out.trans (if_pos h3))
    have b3 : (s == 3) = true := beq_iff_eq.2 h3
    clear HR h3
    go_enter Try.func180, Try.ntmps180
    go_wp2_with fail
    go_region_held3 (fun w' => w'.cell? ⟨bf, 0, none⟩ = some (.func (.func 177) #[] #[.pointer (some ⟨bg, 0, none⟩), .pointer (some ⟨bn, 0, none⟩)]) ∧ w'.cell? ⟨bg, 0, none⟩ = some (.slice (some ⟨sb, so, none⟩) 2 cap) ∧ w'.cell? ⟨sb, so, none⟩ = some (.int .i64 s0) ∧ w'.cell? ⟨bn, 0, none⟩ = some (.int .i64 t) ∧ w'.cell? ⟨bs, 0, none⟩ = some (.int .i64 s) ∧ w'.cell? ⟨bq, 0, none⟩ = some (.int .i64 n)) (first | (go_keep; done) | (refine ⟨?_, ?_, ?_, ?_, ?_, ?_⟩ <;> simp [go_sem, *])) (first
      | (go_at_call 177; (with_reducible refine (fig2_any _ t s0 bg bn sb so cap _ (by omega) (by omega) (by simp [go_sem, *]) (by simp [go_sem, *]) (by simp [go_sem, *])).mono ?_); rintro e w1 ⟨rfl, hb1⟩; have hB1 : Below w.heap.size w w1 := Below.trans (by repeat' (first | (with_reducible exact Below.refl _ _) | (with_reducible assumption) | (with_reducible refine Below.alloc ?_ ?_ _) | (with_reducible refine Below.drew ?_) | (with_reducible refine belowDraws ?_ _) | (with_reducible refine Below.setCell ?_ ?_ _) | omega | (simp; done) | (simp; omega))) (hb1.mono (by first | omega | (simp; done) | (simp; omega))); have hz1 := hB1.size; have q1_0 : w1.cell? ⟨bf, 0, none⟩ = some (.func (.func 177) #[] #[.pointer (some ⟨bg, 0, none⟩), .pointer (some ⟨bn, 0, none⟩)]) := (by rw [hb1.cell (by first | omega | (simp; done) | (simp; omega))]; simp [go_sem, *]); have q1_1 : w1.cell? ⟨bg, 0, none⟩ = some (.slice (some ⟨sb, so, none⟩) 2 cap) := (by rw [hb1.cell (by first | omega | (simp; done) | (simp; omega))]; simp [go_sem, *]); have q1_2 : w1.cell? ⟨sb, so, none⟩ = some (.int .i64 s0) := (by rw [hb1.cell (by first | omega | (simp; done) | (simp; omega))]; simp [go_sem, *]); have q1_3 : w1.cell? ⟨bn, 0, none⟩ = some (.int .i64 t) := (by rw [hb1.cell (by first | omega | (simp; done) | (simp; omega))]; simp [go_sem, *]); have q1_4 : w1.cell? ⟨bs, 0, none⟩ = some (.int .i64 s) := (by rw [hb1.cell (by first | omega | (simp; done) | (simp; omega))]; simp [go_sem, *]); have q1_5 : w1.cell? ⟨bq, 0, none⟩ = some (.int .i64 n) := (by rw [hb1.cell (by first | omega | (simp; done) | (simp; omega))]; simp [go_sem, *]); clear hb1)
      | (go_at_call 175; (with_reducible refine (PT _).mono ?_); rintro e w2 ⟨rfl, hb2⟩; have hB2 : Below w.heap.size w w2 := Below.trans (by repeat' (first | (with_reducible exact Below.refl _ _) | (with_reducible assumption) | (with_reducible refine Below.alloc ?_ ?_ _) | (with_reducible refine Below.drew ?_) | (with_reducible refine belowDraws ?_ _) | (with_reducible refine Below.setCell ?_ ?_ _) | omega | (simp; done) | (simp; omega))) (hb2.mono (by first | omega | (simp; done) | (simp; omega))); have hz2 := hB2.size; have q2_0 : w2.cell? ⟨bf, 0, none⟩ = some (.func (.func 177) #[] #[.pointer (some ⟨bg, 0, none⟩), .pointer (some ⟨bn, 0, none⟩)]) := (by rw [hb2.cell (by first | omega | (simp; done) | (simp; omega))]; simp [go_sem, *]); have q2_1 : w2.cell? ⟨bg, 0, none⟩ = some (.slice (some ⟨sb, so, none⟩) 2 cap) := (by rw [hb2.cell (by first | omega | (simp; done) | (simp; omega))]; simp [go_sem, *]); have q2_2 : w2.cell? ⟨sb, so, none⟩ = some (.int .i64 s0) := (by rw [hb2.cell (by first | omega | (simp; done) | (simp; omega))]; simp [go_sem, *]); have q2_3 : w2.cell? ⟨bn, 0, none⟩ = some (.int .i64 t) := (by rw [hb2.cell (by first | omega | (simp; done) | (simp; omega))]; simp [go_sem, *]); have q2_4 : w2.cell? ⟨bs, 0, none⟩ = some (.int .i64 s) := (by rw [hb2.cell (by first | omega | (simp; done) | (simp; omega))]; simp [go_sem, *]); have q2_5 : w2.cell? ⟨bq, 0, none⟩ = some (.int .i64 n) := (by rw [hb2.cell (by first | omega | (simp; done) | (simp; omega))]; simp [go_sem, *]); clear hb2))
    all_goals go_wp2_with fail
    all_goals go_ret
    all_goals exact ⟨endBool (by rw [HV.out]), by repeat' (first | (with_reducible exact Below.refl _ _) | (with_reducible assumption) | (with_reducible refine Below.alloc ?_ ?_ _) | (with_reducible refine Below.drew ?_) | (with_reducible refine belowDraws ?_ _) | (with_reducible refine Below.setCell ?_ ?_ _) | omega | (simp; done) | (simp; omega))⟩
  · have HV := Lib.hid (HR.out.trans (if_neg h3))
    have b3 : (s == 3) = false := by simpa using h3
    clear HR h3
    go_enter Try.func180, Try.ntmps180
    go_wp2_with fail
    go_region_held3 (fun w' => w'.cell? ⟨bf, 0, none⟩ = some (.func (.func 177) #[] #[.pointer (some ⟨bg, 0, none⟩), .pointer (some ⟨bn, 0, none⟩)]) ∧ w'.cell? ⟨bg, 0, none⟩ = some (.slice (some ⟨sb, so, none⟩) 2 cap) ∧ w'.cell? ⟨sb, so, none⟩ = some (.int .i64 s0) ∧ w'.cell? ⟨bn, 0, none⟩ = some (.int .i64 t) ∧ w'.cell? ⟨bs, 0, none⟩ = some (.int .i64 s) ∧ w'.cell? ⟨bq, 0, none⟩ = some (.int .i64 n)) (first | (go_keep; done) | (refine ⟨?_, ?_, ?_, ?_, ?_, ?_⟩ <;> simp [go_sem, *])) (first
      | (go_at_call 177; (with_reducible refine (fig2_any _ t s0 bg bn sb so cap _ (by omega) (by omega) (by simp [go_sem, *]) (by simp [go_sem, *]) (by simp [go_sem, *])).mono ?_); rintro e w1 ⟨rfl, hb1⟩; have hB1 : Below w.heap.size w w1 := Below.trans (by repeat' (first | (with_reducible exact Below.refl _ _) | (with_reducible assumption) | (with_reducible refine Below.alloc ?_ ?_ _) | (with_reducible refine Below.drew ?_) | (with_reducible refine belowDraws ?_ _) | (with_reducible refine Below.setCell ?_ ?_ _) | omega | (simp; done) | (simp; omega))) (hb1.mono (by first | omega | (simp; done) | (simp; omega))); have hz1 := hB1.size; have q1_0 : w1.cell? ⟨bf, 0, none⟩ = some (.func (.func 177) #[] #[.pointer (some ⟨bg, 0, none⟩), .pointer (some ⟨bn, 0, none⟩)]) := (by rw [hb1.cell (by first | omega | (simp; done) | (simp; omega))]; simp [go_sem, *]); have q1_1 : w1.cell? ⟨bg, 0, none⟩ = some (.slice (some ⟨sb, so, none⟩) 2 cap) := (by rw [hb1.cell (by first | omega | (simp; done) | (simp; omega))]; simp [go_sem, *]); have q1_2 : w1.cell? ⟨sb, so, none⟩ = some (.int .i64 s0) := (by rw [hb1.cell (by first | omega | (simp; done) | (simp; omega))]; simp [go_sem, *]); have q1_3 : w1.cell? ⟨bn, 0, none⟩ = some (.int .i64 t) := (by rw [hb1.cell (by first | omega | (simp; done) | (simp; omega))]; simp [go_sem, *]); have q1_4 : w1.cell? ⟨bs, 0, none⟩ = some (.int .i64 s) := (by rw [hb1.cell (by first | omega | (simp; done) | (simp; omega))]; simp [go_sem, *]); have q1_5 : w1.cell? ⟨bq, 0, none⟩ = some (.int .i64 n) := (by rw [hb1.cell (by first | omega | (simp; done) | (simp; omega))]; simp [go_sem, *]); clear hb1)
      | (go_at_call 175; (with_reducible refine (PT _).mono ?_); rintro e w2 ⟨rfl, hb2⟩; have hB2 : Below w.heap.size w w2 := Below.trans (by repeat' (first | (with_reducible exact Below.refl _ _) | (with_reducible assumption) | (with_reducible refine Below.alloc ?_ ?_ _) | (with_reducible refine Below.drew ?_) | (with_reducible refine belowDraws ?_ _) | (with_reducible refine Below.setCell ?_ ?_ _) | omega | (simp; done) | (simp; omega))) (hb2.mono (by first | omega | (simp; done) | (simp; omega))); have hz2 := hB2.size; have q2_0 : w2.cell? ⟨bf, 0, none⟩ = some (.func (.func 177) #[] #[.pointer (some ⟨bg, 0, none⟩), .pointer (some ⟨bn, 0, none⟩)]) := (by rw [hb2.cell (by first | omega | (simp; done) | (simp; omega))]; simp [go_sem, *]); have q2_1 : w2.cell? ⟨bg, 0, none⟩ = some (.slice (some ⟨sb, so, none⟩) 2 cap) := (by rw [hb2.cell (by first | omega | (simp; done) | (simp; omega))]; simp [go_sem, *]); have q2_2 : w2.cell? ⟨sb, so, none⟩ = some (.int .i64 s0) := (by rw [hb2.cell (by first | omega | (simp; done) | (simp; omega))]; simp [go_sem, *]); have q2_3 : w2.cell? ⟨bn, 0, none⟩ = some (.int .i64 t) := (by rw [hb2.cell (by first | omega | (simp; done) | (simp; omega))]; simp [go_sem, *]); have q2_4 : w2.cell? ⟨bs, 0, none⟩ = some (.int .i64 s) := (by rw [hb2.cell (by first | omega | (simp; done) | (simp; omega))]; simp [go_sem, *]); have q2_5 : w2.cell? ⟨bq, 0, none⟩ = some (.int .i64 n) := (by rw [hb2.cell (by first | omega | (simp; done) | (simp; omega))]; simp [go_sem, *]); clear hb2))
    all_goals go_wp2_with fail
    all_goals go_ret
    all_goals exact ⟨endBool (by rw [HV.out]), by repeat' (first | (with_reducible exact Below.refl _ _) | (with_reducible assumption) | (with_reducible refine Below.alloc ?_ ?_ _) | (with_reducible refine Below.drew ?_) | (with_reducible refine belowDraws ?_ _) | (with_reducible refine Below.setCell ?_ ?_ _) | omega | (simp; done) | (simp; omega))⟩
set_option maxRecDepth 100000 in
set_option maxHeartbeats 4000000 in
theorem search3_any (s n a t s0 m : Int) (bs bq bf bg bn sb so cap : Nat) (w : World) (s1 : 0 ≤ s) (s2 : s ≤ 4) (ha : a = 9000 * t + (s0 - 1000)) (t1 : -1000 ≤ t) (t2 : t ≤ 1000) (m0 : 0 ≤ m) (h0 : 1000 ≤ s0) (h1 : s0 + m ≤ 10000) (c0 : w.cell? ⟨bf, 0, none⟩ = some (.func (.func 177) #[] #[.pointer (some ⟨bg, 0, none⟩), .pointer (some ⟨bn, 0, none⟩)])) (c1 : w.cell? ⟨bg, 0, none⟩ = some (.slice (some ⟨sb, so, none⟩) 2 cap)) (c2 : w.cell? ⟨sb, so, none⟩ = some (.int .i64 s0)) (c3 : w.cell? ⟨bn, 0, none⟩ = some (.int .i64 t)) (d0 : w.cell? ⟨bs, 0, none⟩ = some (.int .i64 s)) (d1 : w.cell? ⟨bq, 0, none⟩ = some (.int .i64 n)) :
    Calls Try.prog 179 #[.int .i64 m, .func (.func 180) #[] #[.pointer (some ⟨bs, 0, none⟩), .pointer (some ⟨bf, 0, none⟩), .pointer (some ⟨bq, 0, none⟩)]] w fun e w' => ∃ k, e = .returned (.int .i64 k) ∧ Cut s n a (a + m) (a + k) ∧ Below w.heap.size w w' := by
  have l_bf : bf < w.heap.size := World.block_lt_of_cell? w _ c0
  have l_bg : bg < w.heap.size := World.block_lt_of_cell? w _ c1
  have l_sb : sb < w.heap.size := World.block_lt_of_cell? w _ c2
  have l_bn : bn < w.heap.size := World.block_lt_of_cell? w _ c3
  have l_bs : bs < w.heap.size := World.block_lt_of_cell? w _ d0
  have l_bq : bq < w.heap.size := World.block_lt_of_cell? w _ d1
  have HA := Lib.hid ha
  clear ha
  go_enter Try.func179, Try.ntmps179
  go_wp2_with fail
  go_loopw [5, 6] (fun u v wr => ∃ i j : Int, u = .int .i64 i ∧ v = .int .i64 j ∧ 0 ≤ i ∧ i ≤ j ∧ j ≤ m ∧ (i = 0 ∨ reach s n (a + i - 1) = false) ∧ (j = m ∨ reach s n (a + j) = true) ∧ Below w.heap.size w wr) (fun u v _ => (intOf v - intOf u).toNat)
  case atStart => exact ⟨0, m, rfl, rfl, by omega, by omega, by omega, .inl rfl, .inl rfl, Below.refl _ _⟩
  case round =>
    obtain ⟨i, j, rfl, rfl, hi, hij, hj, hI, hJ, hB⟩ := hrel
    have HI := Lib.hid hI
    have HJ := Lib.hid hJ
    have hz := hB.size
    clear hI hJ
    by_cases hlt : i < j
    · have hm1 : i ≤ (i + j) / 2 := by omega
      have hm2 : (i + j) / 2 < j := by omega
      have C0 := reach3_any s n ((i + j) / 2) a t s0 bs bq bf bg bn sb so cap wr s1 s2 HA.out t1 t2 (by omega) (by omega) ((hB.cell (p := ⟨bf, 0, none⟩) l_bf).trans c0) ((hB.cell (p := ⟨bg, 0, none⟩) l_bg).trans c1) ((hB.cell (p := ⟨sb, so, none⟩) l_sb).trans c2) ((hB.cell (p := ⟨bn, 0, none⟩) l_bn).trans c3) ((hB.cell (p := ⟨bs, 0, none⟩) l_bs).trans d0) ((hB.cell (p := ⟨bq, 0, none⟩) l_bq).trans d1)
      have C := fun (_ : True) => C0
      clear C0
      cases hp : reach s n (a + (i + j) / 2) with
      | true =>
        have HP := Lib.hid hp
        rw [hp] at C
        clear hp
        go_wp2_with (go_at_call 180; refine (C trivial).mono ?_; rintro e w2 ⟨rfl, hb⟩)
        go_roundw
        case rel => exact ⟨i, (i + j) / 2, rfl, rfl, hi, hm1, by omega, HI.out, .inr HP.out, hB.trans (hb.mono hz)⟩
        case measure => simp [intOf]; omega
      | false =>
        have HP := Lib.hid hp
        rw [hp] at C
        clear hp
        go_wp2_with (go_at_call 180; refine (C trivial).mono ?_; rintro e w2 ⟨rfl, hb⟩)
        go_roundw
        case rel => exact ⟨(i + j) / 2 + 1, j, rfl, rfl, by omega, by omega, hj, .inr (by rw [show a + ((i + j) / 2 + 1) - 1 = a + (i + j) / 2 by omega]; exact HP.out), HJ.out, hB.trans (hb.mono hz)⟩
        case measure => simp [intOf]; omega
    · obtain rfl : i = j := by omega
      have HC := Lib.hid (show Cut s n a (a + m) (a + i) from ⟨by omega, by omega, HI.out.imp (fun h => by omega) id, HJ.out.imp (fun h => by omega) id⟩)
      go_wp2_with fail
      go_ret
      exact ⟨_, rfl, HC.out, hB⟩
set_option maxRecDepth 100000 in
set_option maxHeartbeats 4000000 in
theorem first3_any (s n a t s0 m : Int) (bz bs bf bg bn sb so cap : Nat) (w : World) (s1 : 0 ≤ s) (s2 : s ≤ 4) (ha : a = 9000 * t + (s0 - 1000)) (t1 : -1000 ≤ t) (t2 : t ≤ 1000) (m0 : 0 ≤ m) (h0 : 1000 ≤ s0) (h1 : s0 + m ≤ 10000) (c0 : w.cell? ⟨bf, 0, none⟩ = some (.func (.func 177) #[] #[.pointer (some ⟨bg, 0, none⟩), .pointer (some ⟨bn, 0, none⟩)])) (c1 : w.cell? ⟨bg, 0, none⟩ = some (.slice (some ⟨sb, so, none⟩) 2 cap)) (c2 : w.cell? ⟨sb, so, none⟩ = some (.int .i64 s0)) (c3 : w.cell? ⟨bn, 0, none⟩ = some (.int .i64 t)) (d0 : w.cell? ⟨bs, 0, none⟩ = some (.int .i64 s)) (d2 : w.cell? ⟨bz, 0, none⟩ = some (.int .i64 m)) :
    Calls Try.prog 178 #[.int .i64 n, .pointer (some ⟨bz, 0, none⟩), .pointer (some ⟨bs, 0, none⟩), .pointer (some ⟨bf, 0, none⟩)] w fun e w' => ∃ k, e = .returned (.int .i64 k) ∧ Cut s n a (a + m) (a + k) ∧ Below w.heap.size w w' := by
  have l_bf : bf < w.heap.size := World.block_lt_of_cell? w _ c0
  have l_bg : bg < w.heap.size := World.block_lt_of_cell? w _ c1
  have l_sb : sb < w.heap.size := World.block_lt_of_cell? w _ c2
  have l_bn : bn < w.heap.size := World.block_lt_of_cell? w _ c3
  have l_bs : bs < w.heap.size := World.block_lt_of_cell? w _ d0
  have l_bz : bz < w.heap.size := World.block_lt_of_cell? w _ d2
  have HA := Lib.hid ha
  clear ha
  go_enter Try.func178, Try.ntmps178
  go_wp2_with (go_at_call 179; (with_reducible refine (search3_any s n a t s0 m bs w.heap.size bf bg bn sb so cap _ s1 s2 HA.out t1 t2 m0 h0 h1 (by simp [go_sem, *]) (by simp [go_sem, *]) (by simp [go_sem, *]) (by simp [go_sem, *]) (by simp [go_sem, *]) (by simp [go_sem, *])).mono ?_); rintro e w1 ⟨k, rfl, hC, hb1⟩)
  go_ret
  exact ⟨_, rfl, hC, Below.trans (by repeat' (first | (with_reducible exact Below.refl _ _) | (with_reducible assumption) | (with_reducible refine Below.alloc ?_ ?_ _) | (with_reducible refine Below.drew ?_) | (with_reducible refine belowDraws ?_ _) | (with_reducible refine Below.setCell ?_ ?_ _) | omega | (simp; done) | (simp; omega))) (hb1.mono (by first | omega | (simp; done) | (simp; omega)))⟩
/-- only two old blocks may have changed -/
structure Two (w v : World) (g h : Nat) : Prop where
  os : v.os = w.os
  tape : v.tape = w.tape
  output : v.output = w.output
  size : w.heap.size ≤ v.heap.size
  block : ∀ k, k < w.heap.size → k ≠ g → k ≠ h → v.heap[k]? = w.heap[k]?
namespace Two
variable {w v x : World} {g h : Nat}
theorem refl (w : World) (g h : Nat) : Two w w g h := ⟨rfl, rfl, rfl, Nat.le_refl _, fun _ _ _ _ => rfl⟩
theorem trans (a : Two w v g h) (b : Two v x g h) : Two w x g h := ⟨b.os.trans a.os, b.tape.trans a.tape, b.output.trans a.output, Nat.le_trans a.size b.size, fun k hk h1 h2 => (b.block k (Nat.lt_of_lt_of_le hk a.size) h1 h2).trans (a.block k hk h1 h2)⟩
theorem bel (a : Two w v g h) (b : Below v.heap.size v x) : Two w x g h := a.trans ⟨b.os, b.tape, b.output, b.size, fun k hk _ _ => b.block k hk⟩
theorem below {B : Nat} (a : Two w v g h) (b : Below B v x) (hB : w.heap.size ≤ B) : Two w x g h := ⟨b.os.trans a.os, b.tape.trans a.tape, b.output.trans a.output, Nat.le_trans a.size b.size, fun k hk h1 h2 => (b.block k (by omega)).trans (a.block k hk h1 h2)⟩
theorem alloc (a : Two w v g h) (o : Obj) : Two w (v.alloc o) g h := a.bel (Below.alloc (Below.refl _ _) (Nat.le_refl _) o)
theorem drew (a : Two w v g h) : Two w v.drew g h := ⟨a.os, a.tape, a.output, a.size, a.block⟩
theorem drewN (a : Two w v g h) (k : Nat) : Two w (v.drewN k) g h := ⟨a.os, a.tape, a.output, a.size, a.block⟩
theorem set (a : Two w v g h) {p : Addr} (hp : p.block = g ∨ p.block = h ∨ w.heap.size ≤ p.block) (u : Value) : Two w (v.setCell p u) g h :=
  ⟨a.os, a.tape, a.output, by have := a.size; simpa [World.setCell] using this, fun k hk h1 h2 => (Below.heap_setCell v p u k (fun e => by rcases hp with hp | hp | hp; exact h1 (by rw [e, hp]); exact h2 (by rw [e, hp]); omega)).trans (a.block k hk h1 h2)⟩
theorem cell (a : Two w v g h) {b o : Nat} (hb : b < w.heap.size) (h1 : b ≠ g) (h2 : b ≠ h) : v.cell? ⟨b, o, none⟩ = w.cell? ⟨b, o, none⟩ := World.cell?_of_block (a := ⟨b, o, none⟩) (a.block b hb h1 h2)
theorem frozen (a : Two w v g h) {b o : Nat} (hb : b < w.heap.size) (h1 : b ≠ g) (h2 : b ≠ h) : v.frozen? ⟨b, o, none⟩ = w.frozen? ⟨b, o, none⟩ := World.frozen?_of_block (a := ⟨b, o, none⟩) (a.block b hb h1 h2)
theorem toBelow (a : Two w v g h) {B : Nat} (h1 : B ≤ g) (h2 : B ≤ h) (h3 : B ≤ w.heap.size) : Below B w v := ⟨a.os, a.tape, a.output, a.size, fun k hk => a.block k (by omega) (by omega) (by omega)⟩
end Two
theorem cmp_num {n m : Int} : orV (cmpV (nT n) (nT m)) (cmpV (nD n) (nD m)) < 0 ↔ n < m := by
  unfold orV cmpV nT nD
  split <;> (try split) <;> omega
def TryIs (s tg n : Int) (p : Int × Int) (bl bb : Nat) (w : World) (e : Ending) (w' : World) : Prop :=
  e = .returned (.tuple #[]) ∧ Two w w' bl bb ∧ w'.cell? ⟨bl, 0, none⟩ = some (.int .i64 (tr (off s tg) n p).2) ∧ w'.cell? ⟨bb, 0, none⟩ = some (.int .i64 (nD (tr (off s tg) n p).1)) ∧ w'.cell? ⟨bb, 1, none⟩ = some (.int .i64 (nT (tr (off s tg) n p).1)) ∧ w'.frozen? ⟨bl, 0, none⟩ = false ∧ w'.frozen? ⟨bb, 0, none⟩ = false ∧ w'.frozen? ⟨bb, 1, none⟩ = false
set_option maxRecDepth 100000 in
set_option maxHeartbeats 8000000 in
theorem try3_any (s tg n m x u v : Int) (bs bt bl bb : Nat) (w : World) (s1 : 0 ≤ s) (s2 : s ≤ 4) (n0 : 0 ≤ n) (n1 : n ≤ 100000) (g1 : -2097152 ≤ tg) (g2 : tg ≤ 2097152) (hx : x = -1 ∨ (0 ≤ x ∧ u = nD m ∧ v = nT m)) (c0 : w.cell? ⟨bs, 0, none⟩ = some (.int .i64 s)) (c1 : w.cell? ⟨bt, 0, none⟩ = some (.int .i64 tg)) (c2 : w.cell? ⟨bl, 0, none⟩ = some (.int .i64 x)) (c3 : w.cell? ⟨bb, 0, none⟩ = some (.int .i64 u)) (c4 : w.cell? ⟨bb, 1, none⟩ = some (.int .i64 v)) (f0 : w.frozen? ⟨bl, 0, none⟩ = false) (f1 : w.frozen? ⟨bb, 0, none⟩ = false) (f2 : w.frozen? ⟨bb, 1, none⟩ = false) (hne : bl ≠ bb) :
    Calls Try.prog 174 #[.agg #[.int .i64 (nD n), .int .i64 (nT n)], .pointer (some ⟨bs, 0, none⟩), .pointer (some ⟨bt, 0, none⟩), .pointer (some ⟨bl, 0, none⟩), .pointer (some ⟨bb, 0, none⟩)] w (TryIs s tg n (m, x) bl bb w) := by
  have l_bs : bs < w.heap.size := World.block_lt_of_cell? w _ c0
  have l_bt : bt < w.heap.size := World.block_lt_of_cell? w _ c1
  have l_bl : bl < w.heap.size := World.block_lt_of_cell? w _ c2
  have l_bb : bb < w.heap.size := World.block_lt_of_cell? w _ c3
  have hne' : bb ≠ bl := fun h => hne h.symm
  have hd := nD_dig n
  have PT := fun W => pointOf_any s (nD n) (nT n) W hd (by unfold nT; omega) (by unfold nT; omega)
  rw [show ptOf s (nD n) (nT n) = sp s n from rfl] at PT
  have bp : -1 ≤ sp s n ∧ sp s n ≤ 2097152 := by
    have := p_bd (s := s) (t := nT n) hd
    unfold sp ptOf
    omega
  have hg := Lib.hid (show off s tg n = max (sp s n - tg) (-(sp s n - tg)) from rfl)
  have hnn := off_nn s tg n
  have CM := fun W => compareFigs_any (nD n) (nT n) u v W
  have HCM : x = -1 ∨ (0 ≤ x ∧ (orV (cmpV (nT n) v) (cmpV (nD n) u) < 0 ↔ n < m) ∧ u = nD m ∧ v = nT m) := by
    rcases hx with h | ⟨h, rfl, rfl⟩
    · exact .inl h
    · exact .inr ⟨h, cmp_num, rfl, rfl⟩
  unfold TryIs
  generalize off s tg = g at *
  generalize sp s n = p at *
  have DI := fun W => distance_any p tg W (by omega) (by omega) (by omega) (by omega)
  rw [← hg.out] at DI
  generalize orV (cmpV (nT n) v) (cmpV (nD n) u) = o at *
  obtain ⟨y, hy⟩ : ∃ y, g n = y := ⟨_, rfl⟩
  rw [hy] at DI hnn
  have HY := Lib.hid hy
  clear hy hg hx hd
  -- what the try gives, in four ways
  have take : (x < 0 ∨ y < x ∨ (y = x ∧ n < m)) → tr g n (m, x) = (n, y) := by
    intro h
    rw [tr, if_pos (by rw [HY.out]; exact h), HY.out]
  have stay : ¬ (x < 0 ∨ y < x ∨ (y = x ∧ n < m)) → tr g n (m, x) = (m, x) := by
    intro h
    rw [tr, if_neg (by rw [HY.out]; exact h)]
  have HTK := Lib.hid take
  have HST := Lib.hid stay
  clear take stay HY
  go_enter Try.func174, Try.ntmps174
  go_wp2_with fail
  go_region_held3 (fun w' => w'.cell? ⟨bs, 0, none⟩ = some (.int .i64 s) ∧ w'.cell? ⟨bt, 0, none⟩ = some (.int .i64 tg) ∧ w'.cell? ⟨w.heap.size, 0, none⟩ = some (.int .i64 (nD n)) ∧ w'.cell? ⟨w.heap.size, 1, none⟩ = some (.int .i64 (nT n))) (first | (go_keep; done) | (refine ⟨?_, ?_, ?_, ?_⟩ <;> simp [go_sem, *])) (first
    | (go_at_call 175; (with_reducible refine (PT _).mono ?_); rintro e w1 ⟨rfl, hb1⟩; have T1 : Two w w1 bl bb := Two.bel (by repeat' (first | (with_reducible exact Two.refl _ _ _) | (with_reducible assumption) | (with_reducible refine Two.alloc ?_ _) | (with_reducible refine Two.drew ?_) | (with_reducible refine Two.drewN ?_ _) | (with_reducible refine Two.set ?_ ?_ _) | (left; with_reducible rfl) | (right; left; with_reducible rfl) | (right; right; first | omega | (simp; done) | (simp; omega)) | (with_reducible refine Two.bel ?_ (by with_reducible assumption)))) hb1; have hz1 := T1.size; have lf1 : w.heap.size < w1.heap.size := Nat.lt_of_lt_of_le (by first | omega | (simp; done) | (simp; omega)) hb1.size; have q1_0 : w1.cell? ⟨bs, 0, none⟩ = some (.int .i64 s) := (by rw [hb1.cell (by first | omega | (simp; done) | (simp; omega))]; simp [go_sem, *]); have q1_1 : w1.cell? ⟨bt, 0, none⟩ = some (.int .i64 tg) := (by rw [hb1.cell (by first | omega | (simp; done) | (simp; omega))]; simp [go_sem, *]); have q1_2 : w1.cell? ⟨bl, 0, none⟩ = some (.int .i64 x) := (by rw [hb1.cell (by first | omega | (simp; done) | (simp; omega))]; simp [go_sem, *]); have q1_3 : w1.cell? ⟨bb, 0, none⟩ = some (.int .i64 u) := (by rw [hb1.cell (by first | omega | (simp; done) | (simp; omega))]; simp [go_sem, *]); have q1_4 : w1.cell? ⟨bb, 1, none⟩ = some (.int .i64 v) := (by rw [hb1.cell (by first | omega | (simp; done) | (simp; omega))]; simp [go_sem, *]); have q1_5 : w1.cell? ⟨w.heap.size, 0, none⟩ = some (.int .i64 (nD n)) := (by rw [hb1.cell (by first | omega | (simp; done) | (simp; omega))]; simp [go_sem, *]); have q1_6 : w1.cell? ⟨w.heap.size, 1, none⟩ = some (.int .i64 (nT n)) := (by rw [hb1.cell (by first | omega | (simp; done) | (simp; omega))]; simp [go_sem, *]); have r1_0 : w1.frozen? ⟨bl, 0, none⟩ = false := (by rw [hb1.frozen (by first | omega | (simp; done) | (simp; omega))]; simp [go_sem, *]); have r1_1 : w1.frozen? ⟨bb, 0, none⟩ = false := (by rw [hb1.frozen (by first | omega | (simp; done) | (simp; omega))]; simp [go_sem, *]); have r1_2 : w1.frozen? ⟨bb, 1, none⟩ = false := (by rw [hb1.frozen (by first | omega | (simp; done) | (simp; omega))]; simp [go_sem, *]); clear hb1)
    | (go_at_call 133; (with_reducible refine (DI _).mono ?_); rintro e w' ⟨rfl, rfl⟩))
  all_goals skip
  by_cases h1 : x < 0
  · have HT := Lib.hid (HTK.out (.inl h1))
    clear HTK HST HCM
    go_wp2_with fail
    go_end0
    exact ⟨rfl, by repeat' (first | (with_reducible exact Two.refl _ _ _) | (with_reducible assumption) | (with_reducible refine Two.alloc ?_ _) | (with_reducible refine Two.drew ?_) | (with_reducible refine Two.drewN ?_ _) | (with_reducible refine Two.set ?_ ?_ _) | (left; with_reducible rfl) | (right; left; with_reducible rfl) | (right; right; first | omega | (simp; done) | (simp; omega)) | (with_reducible refine Two.bel ?_ (by with_reducible assumption))), (by rw [HT.out]; simp [go_sem, *]), (by rw [HT.out]; simp [go_sem, *]), (by rw [HT.out]; simp [go_sem, *]), (by simp [go_sem, *]), (by simp [go_sem, *]), (by simp [go_sem, *])⟩
  · obtain ⟨x0, hcm, hu, hv⟩ := HCM.resolve_left (by omega)
    have HU := Lib.hid (And.intro hu hv)
    clear hu hv HCM
    by_cases h2 : y < x
    · have HT := Lib.hid (HTK.out (.inr (.inl h2)))
      clear HTK HST hcm
      go_wp2_with fail
      go_end0
      exact ⟨rfl, by repeat' (first | (with_reducible exact Two.refl _ _ _) | (with_reducible assumption) | (with_reducible refine Two.alloc ?_ _) | (with_reducible refine Two.drew ?_) | (with_reducible refine Two.drewN ?_ _) | (with_reducible refine Two.set ?_ ?_ _) | (left; with_reducible rfl) | (right; left; with_reducible rfl) | (right; right; first | omega | (simp; done) | (simp; omega)) | (with_reducible refine Two.bel ?_ (by with_reducible assumption))), (by rw [HT.out]; simp [go_sem, *]), (by rw [HT.out]; simp [go_sem, *]), (by rw [HT.out]; simp [go_sem, *]), (by simp [go_sem, *]), (by simp [go_sem, *]), (by simp [go_sem, *])⟩
    · by_cases h3 : y = x
      · have t3 : (y == x) = true := beq_iff_eq.2 h3
        by_cases h4 : n < m
        · have HT := Lib.hid (HTK.out (.inr (.inr ⟨h3, h4⟩)))
          have ho : o < 0 := hcm.2 h4
          clear HTK HST hcm h3 h4
          go_wp2_with (first
            | (go_at_call 143; (with_reducible refine (CM _).mono ?_); rintro e w3 ⟨rfl, hb3⟩; have T3 : Two w w3 bl bb := Two.bel (by repeat' (first | (with_reducible exact Two.refl _ _ _) | (with_reducible assumption) | (with_reducible refine Two.alloc ?_ _) | (with_reducible refine Two.drew ?_) | (with_reducible refine Two.drewN ?_ _) | (with_reducible refine Two.set ?_ ?_ _) | (left; with_reducible rfl) | (right; left; with_reducible rfl) | (right; right; first | omega | (simp; done) | (simp; omega)) | (with_reducible refine Two.bel ?_ (by with_reducible assumption)))) hb3; have hz3 := T3.size; have lf3 : w.heap.size < w3.heap.size := Nat.lt_of_lt_of_le (by first | omega | (simp; done) | (simp; omega)) hb3.size; have q3_0 : w3.cell? ⟨bs, 0, none⟩ = some (.int .i64 s) := (by rw [hb3.cell (by first | omega | (simp; done) | (simp; omega))]; simp [go_sem, *]); have q3_1 : w3.cell? ⟨bt, 0, none⟩ = some (.int .i64 tg) := (by rw [hb3.cell (by first | omega | (simp; done) | (simp; omega))]; simp [go_sem, *]); have q3_2 : w3.cell? ⟨bl, 0, none⟩ = some (.int .i64 x) := (by rw [hb3.cell (by first | omega | (simp; done) | (simp; omega))]; simp [go_sem, *]); have q3_3 : w3.cell? ⟨bb, 0, none⟩ = some (.int .i64 u) := (by rw [hb3.cell (by first | omega | (simp; done) | (simp; omega))]; simp [go_sem, *]); have q3_4 : w3.cell? ⟨bb, 1, none⟩ = some (.int .i64 v) := (by rw [hb3.cell (by first | omega | (simp; done) | (simp; omega))]; simp [go_sem, *]); have q3_5 : w3.cell? ⟨w.heap.size, 0, none⟩ = some (.int .i64 (nD n)) := (by rw [hb3.cell (by first | omega | (simp; done) | (simp; omega))]; simp [go_sem, *]); have q3_6 : w3.cell? ⟨w.heap.size, 1, none⟩ = some (.int .i64 (nT n)) := (by rw [hb3.cell (by first | omega | (simp; done) | (simp; omega))]; simp [go_sem, *]); have r3_0 : w3.frozen? ⟨bl, 0, none⟩ = false := (by rw [hb3.frozen (by first | omega | (simp; done) | (simp; omega))]; simp [go_sem, *]); have r3_1 : w3.frozen? ⟨bb, 0, none⟩ = false := (by rw [hb3.frozen (by first | omega | (simp; done) | (simp; omega))]; simp [go_sem, *]); have r3_2 : w3.frozen? ⟨bb, 1, none⟩ = false := (by rw [hb3.frozen (by first | omega | (simp; done) | (simp; omega))]; simp [go_sem, *]); clear hb3))
          go_end0
          exact ⟨rfl, by repeat' (first | (with_reducible exact Two.refl _ _ _) | (with_reducible assumption) | (with_reducible refine Two.alloc ?_ _) | (with_reducible refine Two.drew ?_) | (with_reducible refine Two.drewN ?_ _) | (with_reducible refine Two.set ?_ ?_ _) | (left; with_reducible rfl) | (right; left; with_reducible rfl) | (right; right; first | omega | (simp; done) | (simp; omega)) | (with_reducible refine Two.bel ?_ (by with_reducible assumption))), (by rw [HT.out]; simp [go_sem, *]), (by rw [HT.out]; simp [go_sem, *]), (by rw [HT.out]; simp [go_sem, *]), (by simp [go_sem, *]), (by simp [go_sem, *]), (by simp [go_sem, *])⟩
        · have HT := Lib.hid (HST.out (by omega))
          have ho : ¬ o < 0 := fun h => h4 (hcm.1 h)
          clear HTK HST hcm h3 h4
          go_wp2_with (first
            | (go_at_call 143; (with_reducible refine (CM _).mono ?_); rintro e w3 ⟨rfl, hb3⟩; have T3 : Two w w3 bl bb := Two.bel (by repeat' (first | (with_reducible exact Two.refl _ _ _) | (with_reducible assumption) | (with_reducible refine Two.alloc ?_ _) | (with_reducible refine Two.drew ?_) | (with_reducible refine Two.drewN ?_ _) | (with_reducible refine Two.set ?_ ?_ _) | (left; with_reducible rfl) | (right; left; with_reducible rfl) | (right; right; first | omega | (simp; done) | (simp; omega)) | (with_reducible refine Two.bel ?_ (by with_reducible assumption)))) hb3; have hz3 := T3.size; have lf3 : w.heap.size < w3.heap.size := Nat.lt_of_lt_of_le (by first | omega | (simp; done) | (simp; omega)) hb3.size; have q3_0 : w3.cell? ⟨bs, 0, none⟩ = some (.int .i64 s) := (by rw [hb3.cell (by first | omega | (simp; done) | (simp; omega))]; simp [go_sem, *]); have q3_1 : w3.cell? ⟨bt, 0, none⟩ = some (.int .i64 tg) := (by rw [hb3.cell (by first | omega | (simp; done) | (simp; omega))]; simp [go_sem, *]); have q3_2 : w3.cell? ⟨bl, 0, none⟩ = some (.int .i64 x) := (by rw [hb3.cell (by first | omega | (simp; done) | (simp; omega))]; simp [go_sem, *]); have q3_3 : w3.cell? ⟨bb, 0, none⟩ = some (.int .i64 u) := (by rw [hb3.cell (by first | omega | (simp; done) | (simp; omega))]; simp [go_sem, *]); have q3_4 : w3.cell? ⟨bb, 1, none⟩ = some (.int .i64 v) := (by rw [hb3.cell (by first | omega | (simp; done) | (simp; omega))]; simp [go_sem, *]); have q3_5 : w3.cell? ⟨w.heap.size, 0, none⟩ = some (.int .i64 (nD n)) := (by rw [hb3.cell (by first | omega | (simp; done) | (simp; omega))]; simp [go_sem, *]); have q3_6 : w3.cell? ⟨w.heap.size, 1, none⟩ = some (.int .i64 (nT n)) := (by rw [hb3.cell (by first | omega | (simp; done) | (simp; omega))]; simp [go_sem, *]); have r3_0 : w3.frozen? ⟨bl, 0, none⟩ = false := (by rw [hb3.frozen (by first | omega | (simp; done) | (simp; omega))]; simp [go_sem, *]); have r3_1 : w3.frozen? ⟨bb, 0, none⟩ = false := (by rw [hb3.frozen (by first | omega | (simp; done) | (simp; omega))]; simp [go_sem, *]); have r3_2 : w3.frozen? ⟨bb, 1, none⟩ = false := (by rw [hb3.frozen (by first | omega | (simp; done) | (simp; omega))]; simp [go_sem, *]); clear hb3))
          go_end0
          exact ⟨rfl, by repeat' (first | (with_reducible exact Two.refl _ _ _) | (with_reducible assumption) | (with_reducible refine Two.alloc ?_ _) | (with_reducible refine Two.drew ?_) | (with_reducible refine Two.drewN ?_ _) | (with_reducible refine Two.set ?_ ?_ _) | (left; with_reducible rfl) | (right; left; with_reducible rfl) | (right; right; first | omega | (simp; done) | (simp; omega)) | (with_reducible refine Two.bel ?_ (by with_reducible assumption))), (by rw [HT.out]; simp [go_sem, *]), (by rw [HT.out]; show _ = some (Value.int .i64 (nD m)); rw [← HU.out.1]; simp [go_sem, *]), (by rw [HT.out]; show _ = some (Value.int .i64 (nT m)); rw [← HU.out.2]; simp [go_sem, *]), (by simp [go_sem, *]), (by simp [go_sem, *]), (by simp [go_sem, *])⟩
      · have t3 : (y == x) = false := by simpa using h3
        have HT := Lib.hid (HST.out (by omega))
        clear HTK HST hcm h3
        go_wp2_with fail
        go_end0
        exact ⟨rfl, by repeat' (first | (with_reducible exact Two.refl _ _ _) | (with_reducible assumption) | (with_reducible refine Two.alloc ?_ _) | (with_reducible refine Two.drew ?_) | (with_reducible refine Two.drewN ?_ _) | (with_reducible refine Two.set ?_ ?_ _) | (left; with_reducible rfl) | (right; left; with_reducible rfl) | (right; right; first | omega | (simp; done) | (simp; omega)) | (with_reducible refine Two.bel ?_ (by with_reducible assumption))), (by rw [HT.out]; simp [go_sem, *]), (by rw [HT.out]; show _ = some (Value.int .i64 (nD m)); rw [← HU.out.1]; simp [go_sem, *]), (by rw [HT.out]; show _ = some (Value.int .i64 (nT m)); rw [← HU.out.2]; simp [go_sem, *]), (by simp [go_sem, *]), (by simp [go_sem, *]), (by simp [go_sem, *])⟩
end Go.Proofs.Ythnjiiodpjielaa

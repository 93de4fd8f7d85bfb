/- The reference's ticks (layer 8): a tick put into ticks that are in order. No condition. -/
import Derived.Test.YtkblmcpklpmobaaApp
import Derived.Test.YtkblmcpklpmobaaStab
import Derived.Test.YtkblmcpklpmobaaMkP
import Derived.Test.YtkblmcpklpmobaaTick
namespace Go.Proofs.Ytkblmcpklpmobaa
open Go.RowKit
set_option linter.unusedVariables false
set_option linter.unusedSimpArgs false

theorem infoTickT : (Try.prog.info? 51).map (fun i => (i.zero, i.size, i.bytes)) = some (some (.agg #[.int .i64 0, .int .i64 0, .int .i64 0]), 3, 24) := by kernel_rfl
/-- the place of a tick -/
def plcOf (t : Int × Int × Int) : Int := t.2.1
theorem cells3_drop : ∀ (L : List (Int × Int × Int)) (k : Nat), (cells3 L).drop (k * 3) = cells3 (L.drop k)
  | [], k => by simp [cells3]
  | q :: r, 0 => by simp [cells3]
  | q :: r, k + 1 => by
    rw [show (k + 1) * 3 = k * 3 + 1 + 1 + 1 by omega, cells3, List.drop_succ_cons, List.drop_succ_cons, List.drop_succ_cons, cells3_drop r k]; rfl
theorem cells3_takeT : ∀ (L : List (Int × Int × Int)) (k : Nat), (cells3 L).take (k * 3) = cells3 (L.take k)
  | [], k => by simp [cells3]
  | q :: r, 0 => by simp [cells3]
  | q :: r, k + 1 => by
    rw [show (k + 1) * 3 = k * 3 + 1 + 1 + 1 by omega, cells3, List.take_succ_cons, List.take_succ_cons, List.take_succ_cons, cells3_takeT r k]; rfl
set_option maxHeartbeats 400000 in
theorem l08Before_later (m p h m2 p2 h2 : Int) (w : World) (hm : m2 < m) :
    Calls Try.prog 106 #[.agg #[.int .i64 m, .int .i64 p, .int .i64 h], .agg #[.int .i64 m2, .int .i64 p2, .int .i64 h2]] w fun e w' => e = .returned (.bool (decide (p < p2))) ∧ Below w.heap.size w w' := by
  have g1 : ¬ (m < m2) := by omega
  by_cases h1 : p < p2
  · go_enter Try.func106, Try.ntmps106
    go_wp2
    go_ret
    exact ⟨rfl, by repeat' (first | exact Below.refl _ _ | assumption | refine Below.alloc ?_ (by first | omega | (simp; done) | (simp; omega)) _ | refine Below.drew ?_ | refine Below.setCell ?_ (by first | omega | (simp; done) | (simp; omega)) _)⟩
  · by_cases h2 : p = p2
    · subst h2
      go_enter Try.func106, Try.ntmps106
      go_wp2
      go_ret
      exact ⟨endBool (by simp), by repeat' (first | exact Below.refl _ _ | assumption | refine Below.alloc ?_ (by first | omega | (simp; done) | (simp; omega)) _ | refine Below.drew ?_ | refine Below.setCell ?_ (by first | omega | (simp; done) | (simp; omega)) _)⟩
    · go_enter Try.func106, Try.ntmps106
      go_wp2
      go_ret
      exact ⟨endBool (by simp [h1]), by repeat' (first | exact Below.refl _ _ | assumption | refine Below.alloc ?_ (by first | omega | (simp; done) | (simp; omega)) _ | refine Below.drew ?_ | refine Below.setCell ?_ (by first | omega | (simp; done) | (simp; omega)) _)⟩
/-- what Put gives -/
def GivesPut (base : Nat) (L : List (Int × Int × Int)) (t : Int × Int × Int) (w : World) (e : Ending) (w' : World) : Prop :=
  ∃ v' L', e = .returned v' ∧ Stab plcOf (L ++ [t]) L' ∧ Srt plcOf L' 0 L'.length ∧ w'.ownsRow base 51 3 v' L'.length (cells3 L') ∧ Below w.heap.size w w'
theorem fullMadeT (w : World) (t : TypeId) (cs : Array Value) : Full (w.alloc (.cells cs t)).drew w.heap.size t cs := Full.made w t cs
theorem fullNew {w : World} {g : Nat} {t : TypeId} {cs : Array Value} (h : w.heap.size = g) : Full (w.alloc (.cells cs t)) g t cs := by subst h; exact Full.made w t cs
theorem fullDrew {w : World} {g : Nat} {t : TypeId} {cs : Array Value} (h : Full w g t cs) : Full w.drew g t cs := h
theorem ownDrew {w : World} {base n size : Nat} {e : TypeId} {x : Value} {xs : List Value} (h : w.ownsRow base e size x n xs) : w.drew.ownsRow base e size x n xs := h
theorem insAt_length {L : List (Int × Int × Int)} {t : Int × Int × Int} {k : Nat} (hk : k ≤ L.length) : (insAt L t k).length = L.length + 1 := by rw [insAt, List.length_append, List.length_take, List.length_cons, List.length_drop]; omega
theorem putEnd {w : World} {base k : Nat} {e : TypeId} {v : Value} {L : List (Int × Int × Int)} {m p hh : Int} (hk : k ≤ L.length) (o : w.ownsRow base e 3 v (0 + k + 1 + (L.length - k)) ([] ++ (cells3 L).take (k * 3) ++ [.int .i64 m, .int .i64 p, .int .i64 hh] ++ (cells3 L).drop (k * 3))) : w.ownsRow base e 3 v (insAt L (m, p, hh) k).length (cells3 (insAt L (m, p, hh) k)) := by
  rw [insAt_length hk, insAt, cells3_append, ← cells3_takeT, cells3, ← cells3_drop]
  rw [show 0 + k + 1 + (L.length - k) = L.length + 1 by omega] at o
  simpa using o
set_option maxRecDepth 100000 in
set_option maxHeartbeats 4000000 in
theorem l08Put_any (v : Value) (base : Nat) (L : List (Int × Int × Int)) (m p hh : Int) (w : World) (hN : L.length ≤ 1000) (hown : w.ownsRow base 51 3 v L.length (cells3 L)) (hbase : base ≤ w.heap.size) (hm : ∀ q ∈ L, q.1 < m) (hsrt : Srt plcOf L 0 L.length) :
    Calls Try.prog 87 #[v, .agg #[.int .i64 m, .int .i64 p, .int .i64 hh]] w (GivesPut base L (m, p, hh) w) := by
  obtain ⟨i0, hi, hz0, hz1, hz2⟩ := info_parts infoTickT
  obtain ⟨n, hl⟩ : ∃ n, L.length = n := ⟨_, rfl⟩
  rw [hl] at hown hN
  have Hl := Lib.hid hl
  clear hl
  obtain ⟨A, c, rfl⟩ := ownShape hown
  have hS := Sees.ofOwn hown
  have HSRT := Lib.hid hsrt
  have HM := Lib.hid hm
  clear hsrt hm
  go_enter Try.func87, Try.ntmps87
  go_wp2_with fail
  go_loopw [5] (fun av wr => ∃ (k : Nat) (z : Int), av = .int .i64 z ∧ z = (k : Int) ∧ k ≤ n ∧ Hid (∀ q y, k ≤ q → L[q]? = some y → p < y.2.1) ∧ wr.cell? ⟨w.heap.size, 0, none⟩ = some (.int .i64 m) ∧ wr.cell? ⟨w.heap.size, 1, none⟩ = some (.int .i64 p) ∧ wr.cell? ⟨w.heap.size, 2, none⟩ = some (.int .i64 hh) ∧ w.heap.size < wr.heap.size ∧ Below w.heap.size w wr) (fun av _ => (intOf av).toNat)
  case atStart => exact ⟨n, n, rfl, rfl, Nat.le_refl _, (fun q y hq hy => absurd (List.getElem?_eq_some_iff.1 hy).1 (by have := Hl.out; omega)), by simp [go_sem], by simp [go_sem], by simp [go_sem], by simp, by repeat' (first | exact Below.refl _ _ | assumption | refine Below.alloc ?_ (by first | omega | (simp; done) | (simp; omega)) _ | refine Below.drew ?_ | refine Below.setCell ?_ (by first | omega | (simp; done) | (simp; omega)) _)⟩
  case round =>
    obtain ⟨k, z, rfl, hz0', hk, HG, x0, x1, x2, hz, hB⟩ := hrel
    have rest : ∀ (wr : World) (q : Nat), True := fun _ _ => trivial
    by_cases hk0 : k = 0
    · subst hk0
      obtain rfl : z = 0 := by omega
      clear hz0'
      have t0 : decide ((0 : Int) < 0) = false := by decide
      have hmz := HG
      rcases ownRow hown with ⟨hv, hn0, _⟩ | ⟨g, cap, cur, hv, hbg, _, hmc, hcm, _, _⟩
      · injection hv with hA _ hc
        subst hA hc
        subst hn0
        clear hk HM hS hown
        go_wp2_with fail
        go_quiet (fail)
        have a0 : (wr.drewN nq).cell? ⟨w.heap.size, 0, none⟩ = some (.int .i64 m) := x0
        have a1 : (wr.drewN nq).cell? ⟨w.heap.size, 1, none⟩ = some (.int .i64 p) := x1
        have a2 : (wr.drewN nq).cell? ⟨w.heap.size, 2, none⟩ = some (.int .i64 hh) := x2
        have hBB : Below w.heap.size w (wr.drewN nq) := belowDraws hB nq
        have zB : w.heap.size < (wr.drewN nq).heap.size := hz
        clear x0 x1 x2 hB hz
        generalize wr.drewN nq = WB at *
        go_wp2_with fail
        go_region_held3 (fun w' => w'.cell? ⟨w.heap.size, 0, none⟩ = some (.int .i64 m) ∧ w'.cell? ⟨w.heap.size, 1, none⟩ = some (.int .i64 p) ∧ w'.cell? ⟨w.heap.size, 2, none⟩ = some (.int .i64 hh)) (first | go_keep | (go_split_ands; refine ⟨?_, ?_, ?_⟩ <;> (first | (rw [hgr3.cell_far _ (by first | omega | (simp; done) | (simp; omega)) (by intro e; simp [Value.ownBlock] at e <;> omega)]; assumption) | (rw [hgr4.cell_far _ (by first | omega | (simp; done) | (simp; omega)) (fun e => absurd (o3.lt w.heap.size e.symm).1 (by omega))]; assumption) | (rw [hgr5.cell_far _ (by first | omega | (simp; done) | (simp; omega)) (fun e => absurd (o4.lt w.heap.size e.symm).1 (by omega))]; assumption)))) (first
          | (refine step_append_sees (by rfl) (.tmp 21) (.tmp 24) 40 (by rfl) (w.heap.size + 1) 51 i0 _ 3 24 Try.underlying40 hi hz0 hz1 hz2 rfl (by omega) (.slice (some ⟨_, 0, none⟩) 0 0) 0 [] (by rfl) (ownEmpty (by repeat' (first | (with_reducible assumption) | (with_reducible refine fullNew ?_) | (with_reducible refine Full.block ?_ _) | (with_reducible refine fullDrew ?_) | (simp; done))) (by first | omega | (simp; done) | (simp; omega))) _ _ _ _ [] (by rfl) (by simp) (Sees.empty (B := w.heap.size)) (fun u hu => by cases hu) (by unfold maxLen; omega) (by omega) (by first | omega | (simp; done) | (simp; omega)) ?_; intro v3 w3 o3 hgr3 hat3; have y3 := hgr3.size; have B3 : Below w.heap.size w w3 := Below.grown (by repeat' (first | (with_reducible exact Below.refl _ _) | (with_reducible assumption) | (with_reducible refine Below.alloc ?_ ?_ _) | (with_reducible refine Below.drew ?_) | (with_reducible refine belowDraws ?_ _) | (with_reducible refine Below.setCell ?_ ?_ _) | omega | (simp; done) | (simp; omega))) hgr3 (by first | omega | (simp; done) | (simp; omega)) (by intro q hq; simp [Value.ownBlock] at hq; omega); have z3 := B3.size; have s3 : w.heap.size < w3.heap.size := Nat.lt_of_lt_of_le (by first | omega | (simp; done) | (simp; omega)) y3; have K27 := fun (q : Nat) (cs : Array Value) (h : Full _ q 51 cs) hne => Full.grow h hgr3 hne)
          | (refine step_append_sees (by rfl) (.tmp 25) (.tmp 27) 40 (by rfl) (w.heap.size + 1) 51 i0 _ 3 24 Try.underlying40 hi hz0 hz1 hz2 rfl (by omega) v3 (0 + 0) ([] ++ []) (by rfl) (by repeat' (first | (with_reducible assumption) | (with_reducible refine World.ownsRow.alloc ?_ _) | (with_reducible refine ownDrew ?_))) _ _ 1 _ [.int .i64 m, .int .i64 p, .int .i64 hh] (by rfl) (rfl) (Full.sees (xs := [.int .i64 m, .int .i64 p, .int .i64 hh]) (by repeat' (first | (with_reducible assumption) | (with_reducible refine K27 _ _ ?_ ?_) | (with_reducible refine fullNew ?_) | (with_reducible refine Full.block ?_ _) | (with_reducible refine fullDrew ?_) | (simp; done) | (intro e; simp [Value.ownBlock] at e <;> omega)))) (by simp [Value.oneCell']) (by unfold maxLen; omega) (by omega) (by first | omega | (simp; done) | (simp; omega)) ?_; intro v4 w4 o4 hgr4 hat4; have y4 := hgr4.size; have B4 : Below w.heap.size w w4 := Below.grown (by repeat' (first | (with_reducible exact Below.refl _ _) | (with_reducible assumption) | (with_reducible refine Below.alloc ?_ ?_ _) | (with_reducible refine Below.drew ?_) | (with_reducible refine belowDraws ?_ _) | (with_reducible refine Below.setCell ?_ ?_ _) | omega | (simp; done) | (simp; omega))) hgr4 (by first | omega | (simp; done) | (simp; omega)) (by intro q hq; have := (o3.lt q hq).1; omega); have z4 := B4.size; have s4 : w.heap.size < w4.heap.size := Nat.lt_of_lt_of_le (by first | omega | (simp; done) | (simp; omega)) y4)
          | (refine step_append_sees (by rfl) (.tmp 28) (.tmp 31) 40 (by rfl) (w.heap.size + 1) 51 i0 _ 3 24 Try.underlying40 hi hz0 hz1 hz2 rfl (by omega) v4 (0 + 0 + 1) ([] ++ [] ++ [.int .i64 m, .int .i64 p, .int .i64 hh]) (by rfl) (by repeat' (first | (with_reducible assumption) | (with_reducible refine World.ownsRow.alloc ?_ _) | (with_reducible refine ownDrew ?_))) _ _ _ _ [] (by rfl) (by simp) (Sees.empty (B := w.heap.size)) (fun u hu => by cases hu) (by unfold maxLen; omega) (by omega) (by first | omega | (simp; done) | (simp; omega)) ?_; intro v5 w5 o5 hgr5 hat5; have y5 := hgr5.size; have B5 : Below w.heap.size w w5 := Below.grown (by repeat' (first | (with_reducible exact Below.refl _ _) | (with_reducible assumption) | (with_reducible refine Below.alloc ?_ ?_ _) | (with_reducible refine Below.drew ?_) | (with_reducible refine belowDraws ?_ _) | (with_reducible refine Below.setCell ?_ ?_ _) | omega | (simp; done) | (simp; omega))) hgr5 (by first | omega | (simp; done) | (simp; omega)) (by intro q hq; have := (o4.lt q hq).1; omega)))
        all_goals go_wp2_with fail
        all_goals go_ret
        all_goals (refine ⟨v5, insAt L (m, p, hh) 0, rfl, insAt_stab (fun q y hq hy => HG.out q y (by omega) hy), insAt_srt (by have := Hl.out; omega) HSRT.out (.inl rfl) (fun q y hq hy => HG.out q y (by omega) hy), ownLower (putEnd (by have := Hl.out; omega) (by rw [Hl.out]; exact (by have e := List.eq_nil_of_length_eq_zero Hl.out; subst e; simpa [cells3] using o5))) (by omega), by repeat' (first | (with_reducible exact Below.refl _ _) | (with_reducible assumption) | (with_reducible refine Below.alloc ?_ ?_ _) | (with_reducible refine Below.drew ?_) | (with_reducible refine belowDraws ?_ _) | (with_reducible refine Below.setCell ?_ ?_ _) | omega | (simp; done) | (simp; omega))⟩)
      · injection hv with hA _ hc
        subst hA hc
        go_wp2_with fail
        go_quiet (fail)
        have a0 : (wr.drewN nq).cell? ⟨w.heap.size, 0, none⟩ = some (.int .i64 m) := x0
        have a1 : (wr.drewN nq).cell? ⟨w.heap.size, 1, none⟩ = some (.int .i64 p) := x1
        have a2 : (wr.drewN nq).cell? ⟨w.heap.size, 2, none⟩ = some (.int .i64 hh) := x2
        have hBB : Below w.heap.size w (wr.drewN nq) := belowDraws hB nq
        have zB : w.heap.size < (wr.drewN nq).heap.size := hz
        have m6_ : (n : Int) ≤ (c : Int) := by omega
        have m5_ : (0 : Int) ≤ (c : Int) := by omega
        have m4_ : (0 : Int) ≤ (n : Int) := by omega
        clear x0 x1 x2 hB hz HM
        generalize wr.drewN nq = WB at *
        go_wp2_with fail
        go_region_held3 (fun w' => w'.cell? ⟨w.heap.size, 0, none⟩ = some (.int .i64 m) ∧ w'.cell? ⟨w.heap.size, 1, none⟩ = some (.int .i64 p) ∧ w'.cell? ⟨w.heap.size, 2, none⟩ = some (.int .i64 hh)) (first | go_keep | (go_split_ands; refine ⟨?_, ?_, ?_⟩ <;> (first | (rw [hgr3.cell_far _ (by first | omega | (simp; done) | (simp; omega)) (by intro e; simp [Value.ownBlock] at e <;> omega)]; assumption) | (rw [hgr4.cell_far _ (by first | omega | (simp; done) | (simp; omega)) (fun e => absurd (o3.lt w.heap.size e.symm).1 (by omega))]; assumption) | (rw [hgr5.cell_far _ (by first | omega | (simp; done) | (simp; omega)) (fun e => absurd (o4.lt w.heap.size e.symm).1 (by omega))]; assumption)))) (first
          | (refine step_append_sees (by rfl) (.tmp 21) (.tmp 24) 40 (by rfl) (w.heap.size + 1) 51 i0 _ 3 24 Try.underlying40 hi hz0 hz1 hz2 rfl (by omega) (.slice (some ⟨_, 0, none⟩) 0 0) 0 [] (by rfl) (ownEmpty (by repeat' (first | (with_reducible assumption) | (with_reducible refine fullNew ?_) | (with_reducible refine Full.block ?_ _) | (with_reducible refine fullDrew ?_) | (simp; done))) (by first | omega | (simp; done) | (simp; omega))) _ _ _ _ ((cells3 L).take (0 * 3)) (by rfl) (by rw [List.length_take, cells3_length, Hl.out]; omega) ((hS.over (by repeat' (first | (with_reducible exact Below.refl _ _) | (with_reducible assumption) | (with_reducible refine Below.alloc ?_ ?_ _) | (with_reducible refine Below.drew ?_) | (with_reducible refine belowDraws ?_ _) | (with_reducible refine Below.setCell ?_ ?_ _) | omega | (simp; done) | (simp; omega)))).front _) (fun u hu => cells3_one u (List.mem_of_mem_take hu)) (by unfold maxLen; omega) (by omega) (by first | omega | (simp; done) | (simp; omega)) ?_; intro v3 w3 o3 hgr3 hat3; have y3 := hgr3.size; have B3 : Below w.heap.size w w3 := Below.grown (by repeat' (first | (with_reducible exact Below.refl _ _) | (with_reducible assumption) | (with_reducible refine Below.alloc ?_ ?_ _) | (with_reducible refine Below.drew ?_) | (with_reducible refine belowDraws ?_ _) | (with_reducible refine Below.setCell ?_ ?_ _) | omega | (simp; done) | (simp; omega))) hgr3 (by first | omega | (simp; done) | (simp; omega)) (by intro q hq; simp [Value.ownBlock] at hq; omega); have z3 := B3.size; have s3 : w.heap.size < w3.heap.size := Nat.lt_of_lt_of_le (by first | omega | (simp; done) | (simp; omega)) y3; have K27 := fun (q : Nat) (cs : Array Value) (h : Full _ q 51 cs) hne => Full.grow h hgr3 hne)
          | (refine step_append_sees (by rfl) (.tmp 25) (.tmp 27) 40 (by rfl) (w.heap.size + 1) 51 i0 _ 3 24 Try.underlying40 hi hz0 hz1 hz2 rfl (by omega) v3 (0 + 0) ([] ++ ((cells3 L).take (0 * 3))) (by rfl) (by repeat' (first | (with_reducible assumption) | (with_reducible refine World.ownsRow.alloc ?_ _) | (with_reducible refine ownDrew ?_))) _ _ 1 _ [.int .i64 m, .int .i64 p, .int .i64 hh] (by rfl) (rfl) (Full.sees (xs := [.int .i64 m, .int .i64 p, .int .i64 hh]) (by repeat' (first | (with_reducible assumption) | (with_reducible refine K27 _ _ ?_ ?_) | (with_reducible refine fullNew ?_) | (with_reducible refine Full.block ?_ _) | (with_reducible refine fullDrew ?_) | (simp; done) | (intro e; simp [Value.ownBlock] at e <;> omega)))) (by simp [Value.oneCell']) (by unfold maxLen; omega) (by omega) (by first | omega | (simp; done) | (simp; omega)) ?_; intro v4 w4 o4 hgr4 hat4; have y4 := hgr4.size; have B4 : Below w.heap.size w w4 := Below.grown (by repeat' (first | (with_reducible exact Below.refl _ _) | (with_reducible assumption) | (with_reducible refine Below.alloc ?_ ?_ _) | (with_reducible refine Below.drew ?_) | (with_reducible refine belowDraws ?_ _) | (with_reducible refine Below.setCell ?_ ?_ _) | omega | (simp; done) | (simp; omega))) hgr4 (by first | omega | (simp; done) | (simp; omega)) (by intro q hq; have := (o3.lt q hq).1; omega); have z4 := B4.size; have s4 : w.heap.size < w4.heap.size := Nat.lt_of_lt_of_le (by first | omega | (simp; done) | (simp; omega)) y4)
          | (refine step_append_sees (by rfl) (.tmp 28) (.tmp 31) 40 (by rfl) (w.heap.size + 1) 51 i0 _ 3 24 Try.underlying40 hi hz0 hz1 hz2 rfl (by omega) v4 (0 + 0 + 1) ([] ++ ((cells3 L).take (0 * 3)) ++ [.int .i64 m, .int .i64 p, .int .i64 hh]) (by rfl) (by repeat' (first | (with_reducible assumption) | (with_reducible refine World.ownsRow.alloc ?_ _) | (with_reducible refine ownDrew ?_))) _ _ _ _ ((cells3 L).drop (0 * 3)) (by rfl) (by rw [List.length_drop, cells3_length, Hl.out]; omega) ((show Sees _ w.heap.size (some ⟨g, 0 * 3, none⟩) ((cells3 L).drop (0 * 3)) from by have := (hS.over B4).cut (0 * 3); rw [Nat.zero_add] at this; exact this)) (fun u hu => cells3_one u (List.mem_of_mem_drop hu)) (by unfold maxLen; omega) (by omega) (by first | omega | (simp; done) | (simp; omega)) ?_; intro v5 w5 o5 hgr5 hat5; have y5 := hgr5.size; have B5 : Below w.heap.size w w5 := Below.grown (by repeat' (first | (with_reducible exact Below.refl _ _) | (with_reducible assumption) | (with_reducible refine Below.alloc ?_ ?_ _) | (with_reducible refine Below.drew ?_) | (with_reducible refine belowDraws ?_ _) | (with_reducible refine Below.setCell ?_ ?_ _) | omega | (simp; done) | (simp; omega))) hgr5 (by first | omega | (simp; done) | (simp; omega)) (by intro q hq; have := (o4.lt q hq).1; omega)))
        all_goals go_wp2_with fail
        all_goals go_ret
        all_goals (refine ⟨v5, insAt L (m, p, hh) 0, rfl, insAt_stab (fun q y hq hy => HG.out q y (by omega) hy), insAt_srt (by have := Hl.out; omega) HSRT.out (.inl rfl) (fun q y hq hy => HG.out q y (by omega) hy), ownLower (putEnd (by have := Hl.out; omega) (by rw [Hl.out]; exact o5)) (by omega), by repeat' (first | (with_reducible exact Below.refl _ _) | (with_reducible assumption) | (with_reducible refine Below.alloc ?_ ?_ _) | (with_reducible refine Below.drew ?_) | (with_reducible refine belowDraws ?_ _) | (with_reducible refine Below.setCell ?_ ?_ _) | omega | (simp; done) | (simp; omega))⟩)
    · obtain ⟨k, rfl⟩ : ∃ j, k = j + 1 := ⟨k - 1, by omega⟩
      obtain rfl : z = (k : Int) + 1 := by omega
      clear hz0'
      obtain ⟨b, off, y, rfl, hb, hy, c0, c1, c2⟩ := (hS.over hB).three (k := k) (by have := Hl.out; omega)
      have hm2 := HM.out y (List.mem_of_getElem? hy)
      have Hy := Lib.hid hy
      clear hy
      obtain ⟨y0, y1, y2⟩ := y
      simp only at c0 c1 c2 hm2
      have i0' : (0 : Int) ≤ (k : Int) := by omega
      have i1 : (k : Int) < (n : Int) := by omega
      have n0 : ((k : Int) + 1).toNat = k + 1 := by omega
      have e0 : (k : Int) + 1 - 1 = (k : Int) := by omega
      have e1 : IntKind.i64.wrap ((k : Int) + 1 - 1) = (k : Int) := (IntWalk.i64_in _ (by omega)).trans e0
      have e2 : IntKind.i64.wrap (k : Int) = (k : Int) := IntWalk.i64_in _ (by omega)
      have t0 : decide ((0 : Int) < (k : Int) + 1) = true := decide_eq_true (by omega)
      have hbr : b < wr.heap.size := by have := hB.size; omega
      by_cases hlt : p < y1
      · have tb : decide (p < y1) = true := decide_eq_true hlt
        go_wp2_with fail
        go_region_held3 (fun w' => w'.cell? ⟨w.heap.size, 0, none⟩ = some (.int .i64 m) ∧ w'.cell? ⟨w.heap.size, 1, none⟩ = some (.int .i64 p) ∧ w'.cell? ⟨w.heap.size, 2, none⟩ = some (.int .i64 hh) ∧ w'.cell? ⟨b, off + k * 3, none⟩ = some (.int .i64 y0) ∧ w'.cell? ⟨b, off + k * 3 + 1, none⟩ = some (.int .i64 y1) ∧ w'.cell? ⟨b, off + k * 3 + 2, none⟩ = some (.int .i64 y2)) (go_keep) (first
          | (go_at_call 106; (with_reducible refine (l08Before_later _ _ _ _ _ _ _ hm2).mono ?_); rintro e w2 ⟨rfl, hb2⟩; have hB2 : Below wr.heap.size wr w2 := Below.trans (by repeat' (first | (with_reducible exact Below.refl _ _) | (with_reducible assumption) | (with_reducible refine Below.alloc ?_ ?_ _) | (with_reducible refine Below.drew ?_) | (with_reducible refine belowDraws ?_ _) | (with_reducible refine Below.setCell ?_ ?_ _) | omega | (simp; done) | (simp; omega))) (hb2.mono (by simp)); have hz2 := hB2.size; have a0 := (hB2.cell (p := ⟨w.heap.size, 0, none⟩) hz).trans x0; have a1 := (hB2.cell (p := ⟨w.heap.size, 1, none⟩) hz).trans x1; have a2 := (hB2.cell (p := ⟨w.heap.size, 2, none⟩) hz).trans x2; have b0 := (hB2.cell (p := ⟨b, off + k * 3, none⟩) hbr).trans c0; have b1 := (hB2.cell (p := ⟨b, off + k * 3 + 1, none⟩) hbr).trans c1; have b2 := (hB2.cell (p := ⟨b, off + k * 3 + 2, none⟩) hbr).trans c2; clear hb2))
        go_wp2_with fail
        go_roundw
        case rel => exact ⟨k, k, rfl, rfl, by omega, Lib.hid (fun q yy hq hyy => by
          by_cases e : q = k
          · subst e; rw [Hy.out] at hyy; injection hyy with hyy; subst hyy; exact hlt
          · exact HG.out q yy (by omega) hyy), a0, a1, a2, by omega, hB.trans (hB2.mono (by omega))⟩
        case measure => simp [intOf]
      · have tb : decide (p < y1) = false := decide_eq_false hlt
        go_wp2_with fail
        go_region_held3 (fun w' => w'.cell? ⟨w.heap.size, 0, none⟩ = some (.int .i64 m) ∧ w'.cell? ⟨w.heap.size, 1, none⟩ = some (.int .i64 p) ∧ w'.cell? ⟨w.heap.size, 2, none⟩ = some (.int .i64 hh) ∧ w'.cell? ⟨b, off + k * 3, none⟩ = some (.int .i64 y0) ∧ w'.cell? ⟨b, off + k * 3 + 1, none⟩ = some (.int .i64 y1) ∧ w'.cell? ⟨b, off + k * 3 + 2, none⟩ = some (.int .i64 y2)) (go_keep) (first
          | (go_at_call 106; (with_reducible refine (l08Before_later _ _ _ _ _ _ _ hm2).mono ?_); rintro e w2 ⟨rfl, hb2⟩; have hB2 : Below wr.heap.size wr w2 := Below.trans (by repeat' (first | (with_reducible exact Below.refl _ _) | (with_reducible assumption) | (with_reducible refine Below.alloc ?_ ?_ _) | (with_reducible refine Below.drew ?_) | (with_reducible refine belowDraws ?_ _) | (with_reducible refine Below.setCell ?_ ?_ _) | omega | (simp; done) | (simp; omega))) (hb2.mono (by simp)); have hz2 := hB2.size; have a0 := (hB2.cell (p := ⟨w.heap.size, 0, none⟩) hz).trans x0; have a1 := (hB2.cell (p := ⟨w.heap.size, 1, none⟩) hz).trans x1; have a2 := (hB2.cell (p := ⟨w.heap.size, 2, none⟩) hz).trans x2; have b0 := (hB2.cell (p := ⟨b, off + k * 3, none⟩) hbr).trans c0; have b1 := (hB2.cell (p := ⟨b, off + k * 3 + 1, none⟩) hbr).trans c1; have b2 := (hB2.cell (p := ⟨b, off + k * 3 + 2, none⟩) hbr).trans c2; clear hb2))
        have hBB : Below w.heap.size w w2 := hB.trans (hB2.mono (by omega))
        have zB : w.heap.size < w2.heap.size := by omega
        rcases ownRow hown with ⟨_, hn0, _⟩ | ⟨g, cap, cur, hv, hbg, _, hmc, hcm, _, _⟩
        · omega
        injection hv with hA _ hc
        injection hA with hA
        injection hA with hA1 hA2
        subst hA1 hA2 hc
        have m2_ : (k : Int) + 1 ≤ (c : Int) := by omega
        have m3_ : (k : Int) + 1 ≤ (n : Int) := by omega
        have m5_ : (0 : Int) ≤ (k : Int) + 1 := by omega
        have m6_ : (n : Int) ≤ (c : Int) := by omega
        obtain ⟨WB, rfl⟩ : ∃ WB : World, WB = w2 := ⟨_, rfl⟩
        clear b0 b1 b2 c0 c1 c2 x0 x1 x2 hB2 hz2 HM
        by_cases hfull : k + 1 = n
        · have hd : (cells3 L).drop ((k + 1) * 3) = [] := List.drop_of_length_le (by rw [cells3_length, Hl.out]; omega)
          have HD := Lib.hid hd
          have HFL := Lib.hid hfull
          clear hfull hd
          go_wp2_with fail
          go_region_held3 (fun w' => w'.cell? ⟨w.heap.size, 0, none⟩ = some (.int .i64 m) ∧ w'.cell? ⟨w.heap.size, 1, none⟩ = some (.int .i64 p) ∧ w'.cell? ⟨w.heap.size, 2, none⟩ = some (.int .i64 hh)) (first | go_keep | (go_split_ands; refine ⟨?_, ?_, ?_⟩ <;> (first | (rw [hgr3.cell_far _ (by first | omega | (simp; done) | (simp; omega)) (by intro e; simp [Value.ownBlock] at e <;> omega)]; assumption) | (rw [hgr4.cell_far _ (by first | omega | (simp; done) | (simp; omega)) (fun e => absurd (o3.lt w.heap.size e.symm).1 (by omega))]; assumption) | (rw [hgr5.cell_far _ (by first | omega | (simp; done) | (simp; omega)) (fun e => absurd (o4.lt w.heap.size e.symm).1 (by omega))]; assumption)))) (first
            | (refine step_append_sees (by rfl) (.tmp 21) (.tmp 24) 40 (by rfl) (w.heap.size + 1) 51 i0 _ 3 24 Try.underlying40 hi hz0 hz1 hz2 rfl (by omega) (.slice (some ⟨_, 0, none⟩) 0 0) 0 [] (by rfl) (ownEmpty (by repeat' (first | (with_reducible assumption) | (with_reducible refine fullNew ?_) | (with_reducible refine Full.block ?_ _) | (with_reducible refine fullDrew ?_) | (simp; done))) (by first | omega | (simp; done) | (simp; omega))) _ _ _ _ ((cells3 L).take ((k + 1) * 3)) (by rfl) (by rw [List.length_take, cells3_length, Hl.out]; omega) ((hS.over (by repeat' (first | (with_reducible exact Below.refl _ _) | (with_reducible assumption) | (with_reducible refine Below.alloc ?_ ?_ _) | (with_reducible refine Below.drew ?_) | (with_reducible refine belowDraws ?_ _) | (with_reducible refine Below.setCell ?_ ?_ _) | omega | (simp; done) | (simp; omega)))).front _) (fun u hu => cells3_one u (List.mem_of_mem_take hu)) (by unfold maxLen; omega) (by omega) (by first | omega | (simp; done) | (simp; omega)) ?_; intro v3 w3 o3 hgr3 hat3; have y3 := hgr3.size; have B3 : Below w.heap.size w w3 := Below.grown (by repeat' (first | (with_reducible exact Below.refl _ _) | (with_reducible assumption) | (with_reducible refine Below.alloc ?_ ?_ _) | (with_reducible refine Below.drew ?_) | (with_reducible refine belowDraws ?_ _) | (with_reducible refine Below.setCell ?_ ?_ _) | omega | (simp; done) | (simp; omega))) hgr3 (by first | omega | (simp; done) | (simp; omega)) (by intro q hq; simp [Value.ownBlock] at hq; omega); have z3 := B3.size; have s3 : w.heap.size < w3.heap.size := Nat.lt_of_lt_of_le (by first | omega | (simp; done) | (simp; omega)) y3; have K27 := fun (q : Nat) (cs : Array Value) (h : Full _ q 51 cs) hne => Full.grow h hgr3 hne)
            | (refine step_append_sees (by rfl) (.tmp 25) (.tmp 27) 40 (by rfl) (w.heap.size + 1) 51 i0 _ 3 24 Try.underlying40 hi hz0 hz1 hz2 rfl (by omega) v3 (0 + (k + 1)) ([] ++ ((cells3 L).take ((k + 1) * 3))) (by rfl) (by repeat' (first | (with_reducible assumption) | (with_reducible refine World.ownsRow.alloc ?_ _) | (with_reducible refine ownDrew ?_))) _ _ 1 _ [.int .i64 m, .int .i64 p, .int .i64 hh] (by rfl) (rfl) (Full.sees (xs := [.int .i64 m, .int .i64 p, .int .i64 hh]) (by repeat' (first | (with_reducible assumption) | (with_reducible refine K27 _ _ ?_ ?_) | (with_reducible refine fullNew ?_) | (with_reducible refine Full.block ?_ _) | (with_reducible refine fullDrew ?_) | (simp; done) | (intro e; simp [Value.ownBlock] at e <;> omega)))) (by simp [Value.oneCell']) (by unfold maxLen; omega) (by omega) (by first | omega | (simp; done) | (simp; omega)) ?_; intro v4 w4 o4 hgr4 hat4; have y4 := hgr4.size; have B4 : Below w.heap.size w w4 := Below.grown (by repeat' (first | (with_reducible exact Below.refl _ _) | (with_reducible assumption) | (with_reducible refine Below.alloc ?_ ?_ _) | (with_reducible refine Below.drew ?_) | (with_reducible refine belowDraws ?_ _) | (with_reducible refine Below.setCell ?_ ?_ _) | omega | (simp; done) | (simp; omega))) hgr4 (by first | omega | (simp; done) | (simp; omega)) (by intro q hq; have := (o3.lt q hq).1; omega); have z4 := B4.size; have s4 : w.heap.size < w4.heap.size := Nat.lt_of_lt_of_le (by first | omega | (simp; done) | (simp; omega)) y4)
            | (refine step_append_sees (by rfl) (.tmp 28) (.tmp 31) 40 (by rfl) (w.heap.size + 1) 51 i0 _ 3 24 Try.underlying40 hi hz0 hz1 hz2 rfl (by omega) v4 (0 + (k + 1) + 1) ([] ++ ((cells3 L).take ((k + 1) * 3)) ++ [.int .i64 m, .int .i64 p, .int .i64 hh]) (by rfl) (by repeat' (first | (with_reducible assumption) | (with_reducible refine World.ownsRow.alloc ?_ _) | (with_reducible refine ownDrew ?_))) _ _ _ _ [] (by rfl) (by have := HFL.out; simp only [List.length_nil]; omega) (Sees.empty (B := w.heap.size)) (fun u hu => by cases hu) (by unfold maxLen; omega) (by omega) (by first | omega | (simp; done) | (simp; omega)) ?_; intro v5 w5 o5 hgr5 hat5; have y5 := hgr5.size; have B5 : Below w.heap.size w w5 := Below.grown (by repeat' (first | (with_reducible exact Below.refl _ _) | (with_reducible assumption) | (with_reducible refine Below.alloc ?_ ?_ _) | (with_reducible refine Below.drew ?_) | (with_reducible refine belowDraws ?_ _) | (with_reducible refine Below.setCell ?_ ?_ _) | omega | (simp; done) | (simp; omega))) hgr5 (by first | omega | (simp; done) | (simp; omega)) (by intro q hq; have := (o4.lt q hq).1; omega)))
          all_goals go_wp2_with fail
          all_goals go_ret
          all_goals (refine ⟨v5, insAt L (m, p, hh) (k + 1), rfl, insAt_stab (fun q y hq hy => HG.out q y (by omega) hy), insAt_srt (by have := Hl.out; omega) HSRT.out (.inr ⟨k, _, rfl, Hy.out, by show y1 ≤ p; omega⟩) (fun q y hq hy => HG.out q y (by omega) hy), ownLower (putEnd (by have := Hl.out; omega) (by rw [Hl.out]; exact (by rw [HD.out]; exact o5))) (by omega), by repeat' (first | (with_reducible exact Below.refl _ _) | (with_reducible assumption) | (with_reducible refine Below.alloc ?_ ?_ _) | (with_reducible refine Below.drew ?_) | (with_reducible refine belowDraws ?_ _) | (with_reducible refine Below.setCell ?_ ?_ _) | omega | (simp; done) | (simp; omega))⟩)
        · have m4_ : k + 1 < c := by omega
          have m7_ : ¬ c = k + 1 := by omega
          go_wp2_with fail
          go_region_held3 (fun w' => w'.cell? ⟨w.heap.size, 0, none⟩ = some (.int .i64 m) ∧ w'.cell? ⟨w.heap.size, 1, none⟩ = some (.int .i64 p) ∧ w'.cell? ⟨w.heap.size, 2, none⟩ = some (.int .i64 hh)) (first | go_keep | (go_split_ands; refine ⟨?_, ?_, ?_⟩ <;> (first | (rw [hgr3.cell_far _ (by first | omega | (simp; done) | (simp; omega)) (by intro e; simp [Value.ownBlock] at e <;> omega)]; assumption) | (rw [hgr4.cell_far _ (by first | omega | (simp; done) | (simp; omega)) (fun e => absurd (o3.lt w.heap.size e.symm).1 (by omega))]; assumption) | (rw [hgr5.cell_far _ (by first | omega | (simp; done) | (simp; omega)) (fun e => absurd (o4.lt w.heap.size e.symm).1 (by omega))]; assumption)))) (first
            | (refine step_append_sees (by rfl) (.tmp 21) (.tmp 24) 40 (by rfl) (w.heap.size + 1) 51 i0 _ 3 24 Try.underlying40 hi hz0 hz1 hz2 rfl (by omega) (.slice (some ⟨_, 0, none⟩) 0 0) 0 [] (by rfl) (ownEmpty (by repeat' (first | (with_reducible assumption) | (with_reducible refine fullNew ?_) | (with_reducible refine Full.block ?_ _) | (with_reducible refine fullDrew ?_) | (simp; done))) (by first | omega | (simp; done) | (simp; omega))) _ _ _ _ ((cells3 L).take ((k + 1) * 3)) (by rfl) (by rw [List.length_take, cells3_length, Hl.out]; omega) ((hS.over (by repeat' (first | (with_reducible exact Below.refl _ _) | (with_reducible assumption) | (with_reducible refine Below.alloc ?_ ?_ _) | (with_reducible refine Below.drew ?_) | (with_reducible refine belowDraws ?_ _) | (with_reducible refine Below.setCell ?_ ?_ _) | omega | (simp; done) | (simp; omega)))).front _) (fun u hu => cells3_one u (List.mem_of_mem_take hu)) (by unfold maxLen; omega) (by omega) (by first | omega | (simp; done) | (simp; omega)) ?_; intro v3 w3 o3 hgr3 hat3; have y3 := hgr3.size; have B3 : Below w.heap.size w w3 := Below.grown (by repeat' (first | (with_reducible exact Below.refl _ _) | (with_reducible assumption) | (with_reducible refine Below.alloc ?_ ?_ _) | (with_reducible refine Below.drew ?_) | (with_reducible refine belowDraws ?_ _) | (with_reducible refine Below.setCell ?_ ?_ _) | omega | (simp; done) | (simp; omega))) hgr3 (by first | omega | (simp; done) | (simp; omega)) (by intro q hq; simp [Value.ownBlock] at hq; omega); have z3 := B3.size; have s3 : w.heap.size < w3.heap.size := Nat.lt_of_lt_of_le (by first | omega | (simp; done) | (simp; omega)) y3; have K27 := fun (q : Nat) (cs : Array Value) (h : Full _ q 51 cs) hne => Full.grow h hgr3 hne)
            | (refine step_append_sees (by rfl) (.tmp 25) (.tmp 27) 40 (by rfl) (w.heap.size + 1) 51 i0 _ 3 24 Try.underlying40 hi hz0 hz1 hz2 rfl (by omega) v3 (0 + (k + 1)) ([] ++ ((cells3 L).take ((k + 1) * 3))) (by rfl) (by repeat' (first | (with_reducible assumption) | (with_reducible refine World.ownsRow.alloc ?_ _) | (with_reducible refine ownDrew ?_))) _ _ 1 _ [.int .i64 m, .int .i64 p, .int .i64 hh] (by rfl) (rfl) (Full.sees (xs := [.int .i64 m, .int .i64 p, .int .i64 hh]) (by repeat' (first | (with_reducible assumption) | (with_reducible refine K27 _ _ ?_ ?_) | (with_reducible refine fullNew ?_) | (with_reducible refine Full.block ?_ _) | (with_reducible refine fullDrew ?_) | (simp; done) | (intro e; simp [Value.ownBlock] at e <;> omega)))) (by simp [Value.oneCell']) (by unfold maxLen; omega) (by omega) (by first | omega | (simp; done) | (simp; omega)) ?_; intro v4 w4 o4 hgr4 hat4; have y4 := hgr4.size; have B4 : Below w.heap.size w w4 := Below.grown (by repeat' (first | (with_reducible exact Below.refl _ _) | (with_reducible assumption) | (with_reducible refine Below.alloc ?_ ?_ _) | (with_reducible refine Below.drew ?_) | (with_reducible refine belowDraws ?_ _) | (with_reducible refine Below.setCell ?_ ?_ _) | omega | (simp; done) | (simp; omega))) hgr4 (by first | omega | (simp; done) | (simp; omega)) (by intro q hq; have := (o3.lt q hq).1; omega); have z4 := B4.size; have s4 : w.heap.size < w4.heap.size := Nat.lt_of_lt_of_le (by first | omega | (simp; done) | (simp; omega)) y4)
            | (refine step_append_sees (by rfl) (.tmp 28) (.tmp 31) 40 (by rfl) (w.heap.size + 1) 51 i0 _ 3 24 Try.underlying40 hi hz0 hz1 hz2 rfl (by omega) v4 (0 + (k + 1) + 1) ([] ++ ((cells3 L).take ((k + 1) * 3)) ++ [.int .i64 m, .int .i64 p, .int .i64 hh]) (by rfl) (by repeat' (first | (with_reducible assumption) | (with_reducible refine World.ownsRow.alloc ?_ _) | (with_reducible refine ownDrew ?_))) _ _ _ _ ((cells3 L).drop ((k + 1) * 3)) (by rfl) (by rw [List.length_drop, cells3_length, Hl.out]; omega) ((show Sees _ w.heap.size (some ⟨b, (k + 1) * 3, none⟩) ((cells3 L).drop ((k + 1) * 3)) from by have := (hS.over B4).cut ((k + 1) * 3); rw [Nat.zero_add] at this; exact this)) (fun u hu => cells3_one u (List.mem_of_mem_drop hu)) (by unfold maxLen; omega) (by omega) (by first | omega | (simp; done) | (simp; omega)) ?_; intro v5 w5 o5 hgr5 hat5; have y5 := hgr5.size; have B5 : Below w.heap.size w w5 := Below.grown (by repeat' (first | (with_reducible exact Below.refl _ _) | (with_reducible assumption) | (with_reducible refine Below.alloc ?_ ?_ _) | (with_reducible refine Below.drew ?_) | (with_reducible refine belowDraws ?_ _) | (with_reducible refine Below.setCell ?_ ?_ _) | omega | (simp; done) | (simp; omega))) hgr5 (by first | omega | (simp; done) | (simp; omega)) (by intro q hq; have := (o4.lt q hq).1; omega)))
          all_goals go_wp2_with fail
          all_goals go_ret
          all_goals (refine ⟨v5, insAt L (m, p, hh) (k + 1), rfl, insAt_stab (fun q y hq hy => HG.out q y (by omega) hy), insAt_srt (by have := Hl.out; omega) HSRT.out (.inr ⟨k, _, rfl, Hy.out, by show y1 ≤ p; omega⟩) (fun q y hq hy => HG.out q y (by omega) hy), ownLower (putEnd (by have := Hl.out; omega) (by rw [Hl.out]; exact o5)) (by omega), by repeat' (first | (with_reducible exact Below.refl _ _) | (with_reducible assumption) | (with_reducible refine Below.alloc ?_ ?_ _) | (with_reducible refine Below.drew ?_) | (with_reducible refine belowDraws ?_ _) | (with_reducible refine Below.setCell ?_ ?_ _) | omega | (simp; done) | (simp; omega))⟩)

end Go.Proofs.Ytkblmcpklpmobaa

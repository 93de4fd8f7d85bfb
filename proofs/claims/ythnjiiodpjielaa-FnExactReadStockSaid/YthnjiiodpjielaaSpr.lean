/- Figures below and above a logarithm, spans, SpreadFigure (layers 4 and 10). No condition. -/
import Derived.Test.YthnjiiodpjielaaSpm
import Derived.Test.YthnjiiodpjielaaMay
namespace Go.Proofs.Ythnjiiodpjielaa
open Go.RowKit
set_option linter.unusedVariables false
set_option linter.unusedSimpArgs false

theorem ivLowS (a b : Int) (w : World) : Sem.run Try.prog (Instr.field 53 (.agg #[.int .i64 a, .int .i64 b]) 0) w = .ok (.int .i64 a) w := by kernel_rfl
theorem ivHighS (a b : Int) (w : World) : Sem.run Try.prog (Instr.field 53 (.agg #[.int .i64 a, .int .i64 b]) 1) w = .ok (.int .i64 b) w := by kernel_rfl
attribute [local go_sem] ivLowS ivHighS
set_option maxRecDepth 100000 in
set_option maxHeartbeats 2000000 in
theorem below1_any (i t u : Int) (b1 b2 : Nat) (w : World) (i0 : 0 ≤ i) (i1 : i < 9000) (t1 : -1000 ≤ t) (t2 : t ≤ 1000) (c0 : w.cell? ⟨b1, 0, none⟩ = some (.int .i64 t)) (c1 : w.cell? ⟨b2, 0, none⟩ = some (.int .i64 u)) :
    Calls Try.prog 187 #[.int .i64 i, .pointer (some ⟨b1, 0, none⟩), .pointer (some ⟨b2, 0, none⟩)] w fun e w' => e = .returned (.bool (decide (u < fU (1000 + i) t))) ∧ Below w.heap.size w w' := by
  have hd : Dig (1000 + i) := ⟨by omega, by omega⟩
  have L := fun W => figureLog_any (1000 + i) t W hd (by omega) (by omega)
  have hb1 := World.block_lt_of_cell? w _ c0
  have hb2 := World.block_lt_of_cell? w _ c1
  have hb1' : b1 < w.heap.size := hb1
  have hb2' : b2 < w.heap.size := hb2
  clear hb1 hb2
  have e0 : IntKind.i64.wrap (1000 + i) = 1000 + i := IntWalk.i64_in _ (by omega)
  generalize hx : fL (1000 + i) t = x at *
  generalize hy : fU (1000 + i) t = y at *
  have HX := Lib.hid hx
  have HY := Lib.hid hy
  clear hx hy
  go_enter Try.func187, Try.ntmps187
  go_wp2_with fail
  go_region_held3 (fun w' => w'.cell? ⟨b1, 0, none⟩ = some (.int .i64 t) ∧ w'.cell? ⟨b2, 0, none⟩ = some (.int .i64 u)) (go_keep) (first
    | (go_at_call 107; refine (L _).mono ?_; rintro e w2 ⟨rfl, hb2⟩; have hB2 : Below w.heap.size w w2 := Below.trans (by repeat' (first | exact Below.refl _ _ | assumption | refine Below.alloc ?_ (by first | omega | (simp; done) | (simp; omega)) _ | refine Below.drew ?_ | refine Below.setCell ?_ (by first | omega | (simp; done) | (simp; omega)) _)) (hb2.mono (by first | omega | (simp; done) | (simp; omega))); have hz2 := hB2.size; have hl2_0 : b1 < w2.heap.size := Nat.lt_of_lt_of_le (by first | omega | (simp; done) | (simp; omega)) hb2.size; have q2_00 : w2.cell? ⟨b1, 0, none⟩ = some (.int .i64 t) := (by rw [hb2.cell (by first | omega | (simp; done) | (simp; omega))]; simp [go_sem, *]); have hl2_1 : b2 < w2.heap.size := Nat.lt_of_lt_of_le (by first | omega | (simp; done) | (simp; omega)) hb2.size; have q2_10 : w2.cell? ⟨b2, 0, none⟩ = some (.int .i64 u) := (by rw [hb2.cell (by first | omega | (simp; done) | (simp; omega))]; simp [go_sem, *]); clear hb2))
  all_goals go_wp2_with fail
  all_goals go_ret
  all_goals exact ⟨rfl, by repeat' (first | exact Below.refl _ _ | assumption | refine Below.alloc ?_ (by first | omega | (simp; done) | (simp; omega)) _ | refine Below.drew ?_ | refine Below.setCell ?_ (by first | omega | (simp; done) | (simp; omega)) _)⟩
set_option maxRecDepth 100000 in
set_option maxHeartbeats 2000000 in
theorem above1_any (i t u : Int) (b1 b2 : Nat) (w : World) (i0 : 0 ≤ i) (i1 : i < 9000) (t1 : -1000 ≤ t) (t2 : t ≤ 1000) (c0 : w.cell? ⟨b1, 0, none⟩ = some (.int .i64 t)) (c1 : w.cell? ⟨b2, 0, none⟩ = some (.int .i64 u)) :
    Calls Try.prog 188 #[.int .i64 i, .pointer (some ⟨b1, 0, none⟩), .pointer (some ⟨b2, 0, none⟩)] w fun e w' => e = .returned (.bool (decide (u ≤ fL (1000 + i) t))) ∧ Below w.heap.size w w' := by
  have hd : Dig (1000 + i) := ⟨by omega, by omega⟩
  have L := fun W => figureLog_any (1000 + i) t W hd (by omega) (by omega)
  have hb1 := World.block_lt_of_cell? w _ c0
  have hb2 := World.block_lt_of_cell? w _ c1
  have hb1' : b1 < w.heap.size := hb1
  have hb2' : b2 < w.heap.size := hb2
  clear hb1 hb2
  have e0 : IntKind.i64.wrap (1000 + i) = 1000 + i := IntWalk.i64_in _ (by omega)
  generalize hx : fL (1000 + i) t = x at *
  generalize hy : fU (1000 + i) t = y at *
  have HX := Lib.hid hx
  have HY := Lib.hid hy
  clear hx hy
  go_enter Try.func188, Try.ntmps188
  go_wp2_with fail
  go_region_held3 (fun w' => w'.cell? ⟨b1, 0, none⟩ = some (.int .i64 t) ∧ w'.cell? ⟨b2, 0, none⟩ = some (.int .i64 u)) (go_keep) (first
    | (go_at_call 107; refine (L _).mono ?_; rintro e w2 ⟨rfl, hb2⟩; have hB2 : Below w.heap.size w w2 := Below.trans (by repeat' (first | exact Below.refl _ _ | assumption | refine Below.alloc ?_ (by first | omega | (simp; done) | (simp; omega)) _ | refine Below.drew ?_ | refine Below.setCell ?_ (by first | omega | (simp; done) | (simp; omega)) _)) (hb2.mono (by first | omega | (simp; done) | (simp; omega))); have hz2 := hB2.size; have hl2_0 : b1 < w2.heap.size := Nat.lt_of_lt_of_le (by first | omega | (simp; done) | (simp; omega)) hb2.size; have q2_00 : w2.cell? ⟨b1, 0, none⟩ = some (.int .i64 t) := (by rw [hb2.cell (by first | omega | (simp; done) | (simp; omega))]; simp [go_sem, *]); have hl2_1 : b2 < w2.heap.size := Nat.lt_of_lt_of_le (by first | omega | (simp; done) | (simp; omega)) hb2.size; have q2_10 : w2.cell? ⟨b2, 0, none⟩ = some (.int .i64 u) := (by rw [hb2.cell (by first | omega | (simp; done) | (simp; omega))]; simp [go_sem, *]); clear hb2))
  all_goals go_wp2_with fail
  all_goals go_ret
  all_goals exact ⟨rfl, by repeat' (first | exact Below.refl _ _ | assumption | refine Below.alloc ?_ (by first | omega | (simp; done) | (simp; omega)) _ | refine Below.drew ?_ | refine Below.setCell ?_ (by first | omega | (simp; done) | (simp; omega)) _)⟩
set_option maxRecDepth 100000 in
set_option maxHeartbeats 2000000 in
theorem searchBelow_any (t u : Int) (b1 b2 : Nat) (w : World) (t1 : -1000 ≤ t) (t2 : t ≤ 1000) (c0 : w.cell? ⟨b1, 0, none⟩ = some (.int .i64 t)) (c1 : w.cell? ⟨b2, 0, none⟩ = some (.int .i64 u)) :
    Calls Try.prog 179 #[.int .i64 9000, .func (.func 187) #[] #[.pointer (some ⟨b1, 0, none⟩), .pointer (some ⟨b2, 0, none⟩)]] w fun e w' => ∃ i, e = .returned (.int .i64 i) ∧ SFound (fun j => decide (u < fU (1000 + j) t)) 9000 i ∧ Below w.heap.size w w' := by
  have hb1 : b1 < w.heap.size := World.block_lt_of_cell? w _ c0
  have hb2 : b2 < w.heap.size := World.block_lt_of_cell? w _ c1
  go_enter Try.func179, Try.ntmps179
  go_wp2_with fail
  go_loopw [5, 6] (fun a b wr => ∃ i j : Int, a = .int .i64 i ∧ b = .int .i64 j ∧ 0 ≤ i ∧ i ≤ j ∧ j ≤ 9000 ∧ (i = 0 ∨ (fun j => decide (u < fU (1000 + j) t)) (i - 1) = false) ∧ (j = 9000 ∨ (fun j => decide (u < fU (1000 + j) t)) j = true) ∧ Below w.heap.size w wr) (fun a b _ => (intOf b - intOf a).toNat)
  case atStart => exact ⟨0, 9000, rfl, rfl, by omega, by omega, by omega, .inl rfl, .inl rfl, Below.refl _ _⟩
  case round =>
    obtain ⟨i, j, rfl, rfl, hi, hij, hj, hI, hJ, hB⟩ := hrel
    have HI := Lib.hid hI
    have HJ := Lib.hid hJ
    have hz := hB.size
    have d0 := (hB.cell (p := ⟨b1, 0, none⟩) hb1).trans c0
    have d1 := (hB.cell (p := ⟨b2, 0, none⟩) hb2).trans c1
    clear hI hJ
    by_cases hlt : i < j
    · have C := fun W d0 d1 => below1_any ((i + j) / 2) t u b1 b2 W (by omega) (by omega) t1 t2 d0 d1
      have hm1 : i ≤ (i + j) / 2 := by omega
      have hm2 : (i + j) / 2 < j := by omega
      have HP := Lib.hid (show (fun j => decide (u < fU (1000 + j) t)) ((i + j) / 2) = decide (u < fU (1000 + (i + j) / 2) t) from rfl)
      by_cases hp : (fun j => decide (u < fU (1000 + j) t)) ((i + j) / 2) = true
      · have HPt := Lib.hid hp
        have hq : decide (u < fU (1000 + (i + j) / 2) t) = true := hp
        rw [hq] at C
        clear hp hq HP
        go_wp2_with (go_at_call 187; refine (C _ d0 d1).mono ?_; rintro e w2 ⟨rfl, hb⟩)
        go_roundw
        case rel => exact ⟨i, (i + j) / 2, rfl, rfl, hi, hm1, by omega, HI.out, .inr HPt.out, hB.trans (hb.mono hz)⟩
        case measure => simp [intOf]; omega
      · have hp : (fun j => decide (u < fU (1000 + j) t)) ((i + j) / 2) = false := by simpa using hp
        have HPt := Lib.hid hp
        have hq : decide (u < fU (1000 + (i + j) / 2) t) = false := hp
        rw [hq] at C
        clear hp hq HP
        go_wp2_with (go_at_call 187; refine (C _ d0 d1).mono ?_; rintro e w2 ⟨rfl, hb⟩)
        go_roundw
        case rel => exact ⟨(i + j) / 2 + 1, j, rfl, rfl, by omega, by omega, hj, .inr (by rw [Int.add_sub_cancel]; exact HPt.out), HJ.out, hB.trans (hb.mono hz)⟩
        case measure => simp [intOf]; omega
    · obtain rfl : i = j := by omega
      go_wp2_with fail
      go_ret
      exact ⟨_, rfl, ⟨hi, hj, HI.out, HJ.out⟩, hB⟩
set_option maxRecDepth 100000 in
set_option maxHeartbeats 2000000 in
theorem searchAbove_any (t u : Int) (b1 b2 : Nat) (w : World) (t1 : -1000 ≤ t) (t2 : t ≤ 1000) (c0 : w.cell? ⟨b1, 0, none⟩ = some (.int .i64 t)) (c1 : w.cell? ⟨b2, 0, none⟩ = some (.int .i64 u)) :
    Calls Try.prog 179 #[.int .i64 9000, .func (.func 188) #[] #[.pointer (some ⟨b1, 0, none⟩), .pointer (some ⟨b2, 0, none⟩)]] w fun e w' => ∃ i, e = .returned (.int .i64 i) ∧ SFound (fun j => decide (u ≤ fL (1000 + j) t)) 9000 i ∧ Below w.heap.size w w' := by
  have hb1 : b1 < w.heap.size := World.block_lt_of_cell? w _ c0
  have hb2 : b2 < w.heap.size := World.block_lt_of_cell? w _ c1
  go_enter Try.func179, Try.ntmps179
  go_wp2_with fail
  go_loopw [5, 6] (fun a b wr => ∃ i j : Int, a = .int .i64 i ∧ b = .int .i64 j ∧ 0 ≤ i ∧ i ≤ j ∧ j ≤ 9000 ∧ (i = 0 ∨ (fun j => decide (u ≤ fL (1000 + j) t)) (i - 1) = false) ∧ (j = 9000 ∨ (fun j => decide (u ≤ fL (1000 + j) t)) j = true) ∧ Below w.heap.size w wr) (fun a b _ => (intOf b - intOf a).toNat)
  case atStart => exact ⟨0, 9000, rfl, rfl, by omega, by omega, by omega, .inl rfl, .inl rfl, Below.refl _ _⟩
  case round =>
    obtain ⟨i, j, rfl, rfl, hi, hij, hj, hI, hJ, hB⟩ := hrel
    have HI := Lib.hid hI
    have HJ := Lib.hid hJ
    have hz := hB.size
    have d0 := (hB.cell (p := ⟨b1, 0, none⟩) hb1).trans c0
    have d1 := (hB.cell (p := ⟨b2, 0, none⟩) hb2).trans c1
    clear hI hJ
    by_cases hlt : i < j
    · have C := fun W d0 d1 => above1_any ((i + j) / 2) t u b1 b2 W (by omega) (by omega) t1 t2 d0 d1
      have hm1 : i ≤ (i + j) / 2 := by omega
      have hm2 : (i + j) / 2 < j := by omega
      have HP := Lib.hid (show (fun j => decide (u ≤ fL (1000 + j) t)) ((i + j) / 2) = decide (u ≤ fL (1000 + (i + j) / 2) t) from rfl)
      by_cases hp : (fun j => decide (u ≤ fL (1000 + j) t)) ((i + j) / 2) = true
      · have HPt := Lib.hid hp
        have hq : decide (u ≤ fL (1000 + (i + j) / 2) t) = true := hp
        rw [hq] at C
        clear hp hq HP
        go_wp2_with (go_at_call 188; refine (C _ d0 d1).mono ?_; rintro e w2 ⟨rfl, hb⟩)
        go_roundw
        case rel => exact ⟨i, (i + j) / 2, rfl, rfl, hi, hm1, by omega, HI.out, .inr HPt.out, hB.trans (hb.mono hz)⟩
        case measure => simp [intOf]; omega
      · have hp : (fun j => decide (u ≤ fL (1000 + j) t)) ((i + j) / 2) = false := by simpa using hp
        have HPt := Lib.hid hp
        have hq : decide (u ≤ fL (1000 + (i + j) / 2) t) = false := hp
        rw [hq] at C
        clear hp hq HP
        go_wp2_with (go_at_call 188; refine (C _ d0 d1).mono ?_; rintro e w2 ⟨rfl, hb⟩)
        go_roundw
        case rel => exact ⟨(i + j) / 2 + 1, j, rfl, rfl, by omega, by omega, hj, .inr (by rw [Int.add_sub_cancel]; exact HPt.out), HJ.out, hB.trans (hb.mono hz)⟩
        case measure => simp [intOf]; omega
    · obtain rfl : i = j := by omega
      go_wp2_with fail
      go_ret
      exact ⟨_, rfl, ⟨hi, hj, HI.out, HJ.out⟩, hB⟩
theorem cell_new2 (W : World) (b : Nat) (hb : W.heap.size = b) (T : TypeId) (cs : Array Value) (o : Obj) (i : Nat) : ((W.alloc (.cells cs T)).alloc o).drew.cell? ⟨b, i, none⟩ = cs[i]? := by
  subst hb
  exact ((Full.made W T cs).block o).at_ i
def belB (u : Int) : Bool := figB (nD (bel u - 1)) (nT (bel u - 1))
def belD (u : Int) : Int := if figB (nD (bel u - 1)) (nT (bel u - 1)) = true then nD (bel u - 1) else 0
def belT (u : Int) : Int := if figB (nD (bel u - 1)) (nT (bel u - 1)) = true then nT (bel u - 1) else 0
def unitsB (u : Int) : Bool := inB u (-31457280) 31457280
theorem below_low {u : Int} (h1 : -31457280 ≤ u) (h2 : u ≤ 31457280) (h : (u - 1) / 1048576 < -30) : nT (bel u - 1) < -30 := by
  have e := (bel_edge h1 h2).1.2
  rcases Int.lt_or_le (nT (bel u - 1)) (-30) with hc | hc
  · exact hc
  · have := hiN_bd (bel u - 1)
    simp only [hiP, decide_eq_false_iff_not] at e
    omega
theorem nT_bd {n : Int} (h1 : -270001 ≤ n) (h2 : n ≤ 279000) : -31 ≤ nT n ∧ nT n ≤ 31 := by unfold nT; omega
theorem figB_n (n : Int) : figB (nD n) (nT n) = inB (nT n) (-30) 30 := by
  have := nD_dig n
  unfold figB
  rw [show inB (nD n) 1000 9999 = true from inB_iff.2 this]
  rfl
/-- two figures and a code -/
def end2F (p : (Int × Int) × (Int × Int) × Int) : Value := .tuple #[.agg #[.int .i64 p.1.1, .int .i64 p.1.2], .agg #[.int .i64 p.2.1.1, .int .i64 p.2.1.2], .int .i64 p.2.2]
theorem end2F_of {p : (Int × Int) × (Int × Int) × Int} {a b c d z : Int} (h : p = ((a, b), (c, d), z)) : Ending.returned (.tuple #[.agg #[.int .i64 a, .int .i64 b], .agg #[.int .i64 c, .int .i64 d], .int .i64 z]) = .returned (end2F p) := by subst h; rfl
def rSpan (u v : Int) : (Int × Int) × (Int × Int) × Int := if (unitsB u && unitsB v) = true then (if (figB (nD (bel u - 1)) (nT (bel u - 1)) && figB (nD (abv v)) (nT (abv v))) = true then ((nD (bel u - 1), nT (bel u - 1)), (nD (abv v), nT (abv v)), 0) else ((0, 0), (0, 0), 4)) else ((0, 0), (0, 0), 2)
def rSpread (d t un : Int) : (Int × Int) × (Int × Int) × Int := if figB d t = true then (if inB un 0 1048576 = true then rSpan (fL d t - un) (fU d t + un) else ((0, 0), (0, 0), 2)) else ((0, 0), (0, 0), 1)
theorem endFB {a b c d : Int} {p q : Bool} (h1 : a = c) (h2 : b = d) (h3 : p = q) : Ending.returned (.tuple #[.agg #[.int .i64 a, .int .i64 b], .bool p]) = .returned (.tuple #[.agg #[.int .i64 c, .int .i64 d], .bool q]) := by subst h1 h2 h3; rfl
set_option maxHeartbeats 400000 in
theorem isUnits_any (u : Int) (w : World) :
    Calls Try.prog 152 #[.int .i64 u] w fun e w' => e = .returned (.bool (unitsB u)) ∧ w = w' := by
  go_enter Try.func152, Try.ntmps152
  go_wp2_with (go_at_call 66; refine (within_any _ _ _ _).mono ?_; rintro e w' ⟨rfl, rfl⟩)
  go_ret
  exact ⟨rfl, rfl⟩
set_option maxHeartbeats 400000 in
theorem l04Units_any (u : Int) (w : World) :
    Calls Try.prog 189 #[.int .i64 u] w fun e w' => e = .returned (.bool (unitsB u)) ∧ w = w' := by
  go_enter Try.func189, Try.ntmps189
  go_wp2_with (go_at_call 70; refine (l01In_any _ _ _ _).mono ?_; rintro e w' ⟨rfl, rfl⟩)
  go_ret
  exact ⟨rfl, rfl⟩
set_option maxRecDepth 100000 in
set_option maxHeartbeats 2000000 in
theorem figureBelow_any (u : Int) (w : World) (u1 : -31457280 ≤ u) (u2 : u ≤ 31457280) :
    Calls Try.prog 153 #[.int .i64 u] w fun e w' => e = .returned (.tuple #[.agg #[.int .i64 (belD u), .int .i64 (belT u)], .bool (belB u)]) ∧ Below w.heap.size w w' := by
  have D := fun W => down_any (u - 1) 1048576 W (by omega) (by omega) (by omega) (by omega)
  by_cases ht : (u - 1) / 1048576 < -30
  · have hf : figB (nD (bel u - 1)) (nT (bel u - 1)) = false := by rw [figB_n]; exact inB_false.2 (.inl (below_low u1 u2 ht))
    have HE := Lib.hid (show Ending.returned (.tuple #[.agg #[.int .i64 0, .int .i64 0], .bool false]) = Ending.returned (.tuple #[.agg #[.int .i64 (belD u), .int .i64 (belT u)], .bool (belB u)]) by unfold belD belT belB; rw [hf]; rfl)
    clear hf
    generalize (u - 1) / 1048576 = t at *
    go_enter Try.func153, Try.ntmps153
    go_wp2_with (go_at_call 141; refine (D _).mono ?_; rintro e w' ⟨rfl, rfl⟩)
    exact bodyPost_ret (v := .tuple #[.agg #[.int .i64 0, .int .i64 0], .bool false]) (by simp [results, Try.results153, go_sem]) rfl ⟨HE.out, by repeat' (first | exact Below.refl _ _ | assumption | refine Below.alloc ?_ (by first | omega | (simp; done) | (simp; omega)) _ | refine Below.drew ?_ | refine Below.setCell ?_ (by first | omega | (simp; done) | (simp; omega)) _)⟩
  · have HB := Lib.hid (fun i => below_found (u := u) (i := i) u1 u2)
    have ht2 : -31 ≤ (u - 1) / 1048576 ∧ (u - 1) / 1048576 ≤ 30 := by omega
    generalize (u - 1) / 1048576 = t at *
    have SB := fun b1 b2 W h1 h2 => searchBelow_any t u b1 b2 W (by omega) (by omega) h1 h2
    go_enter Try.func153, Try.ntmps153
    go_wp2_with (go_at_call 141; refine (D _).mono ?_; rintro e w' ⟨rfl, rfl⟩)
    refine (SB (w.heap.size + 2) w.heap.size _ (by simp [go_sem]) (by simp [go_sem])).mono ?_
    rintro e w1 ⟨i, rfl, hi, b1⟩
    have HF := Lib.hid hi
    obtain ⟨h3, h4, -, -⟩ := hi
    obtain ⟨h5, h6, h7, h8⟩ := HB.out i HF.out
    obtain ⟨e1, e2⟩ := n_of (t := t) (i := i - 1) (by omega) (by omega)
    have eb : bel u - 1 = 9000 * t + (i - 1) := by omega
    have hf : figB (nD (bel u - 1)) (nT (bel u - 1)) = true := by rw [figB_n, eb, e2]; exact inB_iff.2 ⟨by omega, by omega⟩
    have HE := Lib.hid (show Ending.returned (.tuple #[.agg #[.int .i64 (999 + i), .int .i64 t], .bool true]) = Ending.returned (.tuple #[.agg #[.int .i64 (belD u), .int .i64 (belT u)], .bool (belB u)]) by unfold belD belT belB; rw [hf, eb, e1, e2]; exact endFB (by rw [if_pos rfl]; omega) (by rw [if_pos rfl]) rfl)
    clear h5 eb e1 e2 hf
    have hB1 : Below w.heap.size w w1 := Below.trans (by repeat' (first | exact Below.refl _ _ | assumption | refine Below.alloc ?_ (by first | omega | (simp; done) | (simp; omega)) _ | refine Below.drew ?_ | refine Below.setCell ?_ (by first | omega | (simp; done) | (simp; omega)) _)) (b1.mono (by simp; omega))
    have q0 : w1.cell? ⟨w.heap.size + 2, 0, none⟩ = some (.int .i64 t) := (by rw [b1.cell (by first | omega | (simp; done) | (simp; omega))]; simp [go_sem])
    have q1 : w1.cell? ⟨w.heap.size + 1, 0, none⟩ = some (.int .i64 0) := (by rw [b1.cell (by first | omega | (simp; done) | (simp; omega))]; simp [go_sem])
    have q2 : w1.cell? ⟨w.heap.size + 1, 1, none⟩ = some (.int .i64 0) := (by rw [b1.cell (by first | omega | (simp; done) | (simp; omega))]; simp [go_sem])
    have r1 : w1.frozen? ⟨w.heap.size + 1, 0, none⟩ = false := (by rw [b1.frozen (by first | omega | (simp; done) | (simp; omega))]; simp [go_sem])
    have r2 : w1.frozen? ⟨w.heap.size + 1, 1, none⟩ = false := (by rw [b1.frozen (by first | omega | (simp; done) | (simp; omega))]; simp [go_sem])
    have hz1 := hB1.size
    have hl1 : w.heap.size + 2 < w1.heap.size := Nat.lt_of_lt_of_le (by simp) b1.size
    clear b1 SB D
    go_wp2_with fail
    exact bodyPost_ret (v := .tuple #[.agg #[.int .i64 (999 + i), .int .i64 t], .bool true]) (by simp [results, Try.results153, go_sem, *]) rfl ⟨HE.out, by repeat' (first | exact Below.refl _ _ | assumption | refine Below.alloc ?_ (by first | omega | (simp; done) | (simp; omega)) _ | refine Below.drew ?_ | refine Below.setCell ?_ (by first | omega | (simp; done) | (simp; omega)) _)⟩
def abvD (u : Int) : Int := nD (abv u)
def abvT (u : Int) : Int := nT (abv u)
set_option maxRecDepth 100000 in
set_option maxHeartbeats 2000000 in
theorem figureAbove_any (u : Int) (w : World) (u1 : -31457280 ≤ u) (u2 : u ≤ 31457280) :
    Calls Try.prog 154 #[.int .i64 u] w fun e w' => e = .returned (.tuple #[.agg #[.int .i64 (abvD u), .int .i64 (abvT u)], .bool (figB (abvD u) (abvT u))]) ∧ Below w.heap.size w w' := by
  have D := fun W => down_any u 1048576 W (by omega) (by omega) (by omega) (by omega)
  have HB := Lib.hid (fun i => above_found (u := u) (i := i) u1 u2)
  have ht2 : -31 ≤ u / 1048576 ∧ u / 1048576 ≤ 30 := by omega
  generalize u / 1048576 = t at *
  have SB := fun b1 b2 W h1 h2 => searchAbove_any t u b1 b2 W (by omega) (by omega) h1 h2
  have triv : True := trivial
  rcases triv with -
  · skip
    go_enter Try.func154, Try.ntmps154
    go_wp2_with (go_at_call 141; refine (D _).mono ?_; rintro e w' ⟨rfl, rfl⟩)
    refine (SB (w.heap.size + 2) w.heap.size _ (by simp [go_sem]) (by simp [go_sem])).mono ?_
    rintro e w1 ⟨i, rfl, hi, b1⟩
    have HF := Lib.hid hi
    obtain ⟨h3, h4, -, -⟩ := hi
    obtain ⟨h5, h6, h7⟩ := HB.out i HF.out
    have hB1 : Below w.heap.size w w1 := Below.trans (by repeat' (first | exact Below.refl _ _ | assumption | refine Below.alloc ?_ (by first | omega | (simp; done) | (simp; omega)) _ | refine Below.drew ?_ | refine Below.setCell ?_ (by first | omega | (simp; done) | (simp; omega)) _)) (b1.mono (by first | omega | (simp; done) | (simp; omega)))
    have q0 : w1.cell? ⟨w.heap.size + 2, 0, none⟩ = some (.int .i64 t) := (by rw [b1.cell (by first | omega | (simp; done) | (simp; omega))]; simp [go_sem])
    have q1 : w1.cell? ⟨w.heap.size + 1, 0, none⟩ = some (.int .i64 0) := (by rw [b1.cell (by first | omega | (simp; done) | (simp; omega))]; simp [go_sem])
    have q2 : w1.cell? ⟨w.heap.size + 1, 1, none⟩ = some (.int .i64 0) := (by rw [b1.cell (by first | omega | (simp; done) | (simp; omega))]; simp [go_sem])
    have r1 : w1.frozen? ⟨w.heap.size + 1, 0, none⟩ = false := (by rw [b1.frozen (by first | omega | (simp; done) | (simp; omega))]; simp [go_sem])
    have r2 : w1.frozen? ⟨w.heap.size + 1, 1, none⟩ = false := (by rw [b1.frozen (by first | omega | (simp; done) | (simp; omega))]; simp [go_sem])
    have hz1 := hB1.size
    have hl1 : w.heap.size + 2 < w1.heap.size := Nat.lt_of_lt_of_le (by simp) b1.size
    have hl2 : w.heap.size + 1 < w1.heap.size := by omega
    have hn1 : w.heap.size + 1 ≠ w1.heap.size := by omega
    have hn2 : w1.heap.size ≠ w.heap.size + 1 := by omega
    have hw1 : w.heap.size + 1 < w1.heap.size + 1 := by omega
    clear b1 SB D
    by_cases h9 : i = 9000
    · have HE := Lib.hid (show (abvD u, abvT u) = (1000, (t + 1)) by
        unfold abvD abvT
        rw [h5]
        subst h9; unfold nD nT; exact Prod.ext (by simp only; omega) (by simp only; omega))
      have hd9 : (i == 9000) = true := by simp; omega
      clear h9
      clear h5
      go_wp2_with fail
      go_region_held3 (fun w' => w'.cell? ⟨w1.heap.size, 0, none⟩ = some (.int .i64 1000) ∧ w'.cell? ⟨w1.heap.size, 1, none⟩ = some (.int .i64 (t + 1))) (first | (go_keep; done) | (refine ⟨?_, ?_⟩ <;> exact (cell_new2 _ _ (by simp) _ _ _ _).trans rfl)) (first
        | (go_at_call 104; (with_reducible refine (iIsFigure_any _ _ _).mono ?_); rintro e w' ⟨rfl, rfl⟩))
      all_goals go_wp2_with fail
      all_goals refine bodyPost_ret (v := .tuple #[.agg #[.int .i64 1000, .int .i64 (t + 1)], .bool (figB 1000 (t + 1))]) (by simp [results, Try.results154, go_sem, *]) rfl ⟨?_, by repeat' (first | exact Below.refl _ _ | assumption | refine Below.alloc ?_ (by first | omega | (simp; done) | (simp; omega)) _ | refine Below.drew ?_ | refine Below.setCell ?_ (by first | omega | (simp; done) | (simp; omega)) _)⟩
      all_goals (have := HE.out; injection this with x1 x2; rw [x1, x2])
    · have HE := Lib.hid (show (abvD u, abvT u) = ((1000 + i), t) by
        unfold abvD abvT
        rw [h5]
        obtain ⟨e1, e2⟩ := n_of (t := t) (i := i) h3 (by omega); rw [e1, e2])
      have hd9 : (i == 9000) = false := by simp; omega
      skip
      clear h5
      go_wp2_with fail
      go_region_held3 (fun w' => w'.cell? ⟨w1.heap.size, 0, none⟩ = some (.int .i64 (1000 + i)) ∧ w'.cell? ⟨w1.heap.size, 1, none⟩ = some (.int .i64 t)) (first | (go_keep; done) | (refine ⟨?_, ?_⟩ <;> exact (cell_new2 _ _ (by simp) _ _ _ _).trans rfl)) (first
        | (go_at_call 104; (with_reducible refine (iIsFigure_any _ _ _).mono ?_); rintro e w' ⟨rfl, rfl⟩))
      all_goals go_wp2_with fail
      all_goals refine bodyPost_ret (v := .tuple #[.agg #[.int .i64 (1000 + i), .int .i64 t], .bool (figB (1000 + i) t)]) (by simp [results, Try.results154, go_sem, *]) rfl ⟨?_, by repeat' (first | exact Below.refl _ _ | assumption | refine Below.alloc ?_ (by first | omega | (simp; done) | (simp; omega)) _ | refine Below.drew ?_ | refine Below.setCell ?_ (by first | omega | (simp; done) | (simp; omega)) _)⟩
      all_goals (have := HE.out; injection this with x1 x2; rw [x1, x2])
set_option maxHeartbeats 400000 in
theorem l04At_any (n : Int) (w : World) (h1 : -1000000000 ≤ n) (h2 : n ≤ 1000000000) :
    Calls Try.prog 196 #[.int .i64 n] w fun e w' => e = .returned (.agg #[.int .i64 (nD (n)), .int .i64 (nT (n))]) ∧ Below w.heap.size w w' := by
  have M := fun W => l01Mod_any n 9000 W (by omega) (by omega)
  have Q := fun W => l01Floor_any n 9000 W (by omega) (by omega) (by omega) (by omega)
  have e1 := Lib.hid (show nD n = 1000 + n % 9000 from rfl)
  have e2 := Lib.hid (show nT n = n / 9000 from rfl)
  have b1 : 0 ≤ n % 9000 ∧ n % 9000 < 9000 := by omega
  generalize n % 9000 = a at *
  generalize n / 9000 = b at *
  go_enter Try.func196, Try.ntmps196
  go_wp2_with (first
    | (go_at_call 145; refine (M _).mono ?_; rintro e w' ⟨rfl, rfl⟩)
    | (go_at_call 144; refine (Q _).mono ?_; rintro e w' ⟨rfl, rfl⟩))
  exact bodyPost_ret (v := .agg #[.int .i64 (1000 + a), .int .i64 b]) (by simp [results, Try.results196, go_sem, *]) rfl ⟨by rw [e1.out, e2.out], by repeat' (first | exact Below.refl _ _ | assumption | refine Below.alloc ?_ (by first | omega | (simp; done) | (simp; omega)) _ | refine Below.drew ?_ | refine Below.setCell ?_ (by first | omega | (simp; done) | (simp; omega)) _)⟩
set_option maxHeartbeats 400000 in
theorem holdsHi_any (n u : Int) (w : World) (h1 : -1000000000 ≤ n) (h2 : n ≤ 1000000000) :
    Calls Try.prog 198 #[.agg #[.int .i64 (nD (n)), .int .i64 (nT (n))], .int .i64 u, .bool true] w fun e w' => e = .returned (.bool (hiP u n)) ∧ Below w.heap.size w w' := by
  have hd := nD_dig n
  have L := fun W => l03Figure_any (nD n) (nT n) W hd (by unfold nT; omega) (by unfold nT; omega)
  have HP := Lib.hid (show hiP u n = decide (u < fU (nD n) (nT n)) from rfl)
  generalize fL (nD n) (nT n) = x at *
  generalize fU (nD n) (nT n) = y at *
  generalize nD n = d at *
  generalize nT n = t at *
  go_enter Try.func198, Try.ntmps198
  go_wp2_with (go_at_call 156; refine (L _).mono ?_; rintro e w1 ⟨rfl, hb1⟩; have hB1 : Below w.heap.size w w1 := Below.trans (by repeat' (first | exact Below.refl _ _ | assumption | refine Below.alloc ?_ (by first | omega | (simp; done) | (simp; omega)) _ | refine Below.drew ?_ | refine Below.setCell ?_ (by first | omega | (simp; done) | (simp; omega)) _)) (hb1.mono (by first | omega | (simp; done) | (simp; omega))); have hz1 := hB1.size; clear hb1)
  go_ret
  exact ⟨endBool HP.out.symm, by repeat' (first | exact Below.refl _ _ | assumption | refine Below.alloc ?_ (by first | omega | (simp; done) | (simp; omega)) _ | refine Below.drew ?_ | refine Below.setCell ?_ (by first | omega | (simp; done) | (simp; omega)) _)⟩
set_option maxHeartbeats 400000 in
theorem holdsLo_any (n u : Int) (w : World) (h1 : -1000000000 ≤ n) (h2 : n ≤ 1000000000) :
    Calls Try.prog 198 #[.agg #[.int .i64 (nD (n)), .int .i64 (nT (n))], .int .i64 u, .bool false] w fun e w' => e = .returned (.bool (loP u n)) ∧ Below w.heap.size w w' := by
  have hd := nD_dig n
  have L := fun W => l03Figure_any (nD n) (nT n) W hd (by unfold nT; omega) (by unfold nT; omega)
  have HP := Lib.hid (show loP u n = decide (u ≤ fL (nD n) (nT n)) from rfl)
  generalize fL (nD n) (nT n) = x at *
  generalize fU (nD n) (nT n) = y at *
  generalize nD n = d at *
  generalize nT n = t at *
  go_enter Try.func198, Try.ntmps198
  go_wp2_with (go_at_call 156; refine (L _).mono ?_; rintro e w1 ⟨rfl, hb1⟩; have hB1 : Below w.heap.size w w1 := Below.trans (by repeat' (first | exact Below.refl _ _ | assumption | refine Below.alloc ?_ (by first | omega | (simp; done) | (simp; omega)) _ | refine Below.drew ?_ | refine Below.setCell ?_ (by first | omega | (simp; done) | (simp; omega)) _)) (hb1.mono (by first | omega | (simp; done) | (simp; omega))); have hz1 := hB1.size; clear hb1)
  go_ret
  exact ⟨endBool HP.out.symm, by repeat' (first | exact Below.refl _ _ | assumption | refine Below.alloc ?_ (by first | omega | (simp; done) | (simp; omega)) _ | refine Below.drew ?_ | refine Below.setCell ?_ (by first | omega | (simp; done) | (simp; omega)) _)⟩
set_option maxRecDepth 100000 in
set_option maxHeartbeats 2000000 in
theorem firstHi_any (u : Int) (w : World) :
    Calls Try.prog 197 #[.int .i64 u, .bool true] w fun e w' => e = .returned (.int .i64 (bel u)) ∧ Below w.heap.size w w' := by
  have HB := Lib.hid (show bel u = srch (hiP u) 20 (-270001) 279000 from rfl)
  go_enter Try.func197, Try.ntmps197
  go_wp2_with fail
  go_loopw [5, 6] (fun a b wr => ∃ (k : Nat) (lo top : Int), a = .int .i64 lo ∧ b = .int .i64 top ∧ -270001 ≤ lo ∧ lo < top ∧ top ≤ 279000 ∧ top - lo ≤ 2 ^ k ∧ srch (hiP u) 20 (-270001) 279000 = srch (hiP u) k lo top ∧ Below w.heap.size w wr) (fun a b _ => (intOf b - intOf a).toNat)
  case atStart => exact ⟨20, -270001, 279000, rfl, rfl, by omega, by omega, by omega, by decide, rfl, Below.refl _ _⟩
  case round =>
    obtain ⟨k, lo, top, rfl, rfl, hlo, hlt, htop, hk, hf, hB⟩ := hrel
    have Hf := Lib.hid hf
    have Hk := Lib.hid hk
    have hz := hB.size
    clear hf hk
    by_cases hc : top - lo ≤ 1
    · have HV := Lib.hid (show bel u = top by
        rw [HB.out, Hf.out]
        match k with
        | 0 => rfl
        | k + 1 => rw [srch, if_pos hc])
      go_wp2_with fail
      go_ret
      exact ⟨endInt HV.out.symm, hB⟩
    · match k, Hk with
      | 0, Hk => exact absurd (Hk.out) (by simp; omega)
      | k + 1, Hk =>
        have HS := Lib.hid (show srch (hiP u) 20 (-270001) 279000 = if hiP u ((lo + top) / 2) = true then srch (hiP u) k lo ((lo + top) / 2) else srch (hiP u) k ((lo + top) / 2) top by rw [Hf.out, srch, if_neg hc])
        have Hk' := Lib.hid (show top - lo ≤ 2 * 2 ^ k by have := Hk.out; rw [Int.pow_succ] at this; omega)
        have C := fun W => holdsHi_any ((lo + top) / 2) u W (by omega) (by omega)
        have m1 : lo < (lo + top) / 2 := by omega
        have m2 : (lo + top) / 2 < top := by omega
        have m3 := Lib.hid (show (lo + top) / 2 - lo ≤ 2 ^ k by have := Hk'.out; omega)
        have m4 := Lib.hid (show top - (lo + top) / 2 ≤ 2 ^ k by have := Hk'.out; omega)
        generalize hmid : (lo + top) / 2 = mid at *
        have Hmid := Lib.hid hmid
        rw [← hmid] at C
        clear hmid
        by_cases hp : hiP u mid = true
        · have HS2 := Lib.hid (HS.out.trans (if_pos hp))
          have C2 : ∀ W, Calls Try.prog 198 #[.agg #[.int .i64 (nD (((lo + top) / 2))), .int .i64 (nT (((lo + top) / 2)))], .int .i64 u, .bool true] W fun e w' => e = .returned (.bool true) ∧ Below W.heap.size W w' := fun W => by have := C W; rw [Hmid.out, hp] at this; rw [Hmid.out]; exact this
          clear C
          go_wp2_with (first
            | (go_at_call 144; refine (l01Floor_any (lo + top) 2 _ (by omega) (by omega) (by omega) (by omega)).mono ?_; rintro e w' ⟨rfl, rfl⟩)
            | (go_at_call 196; refine (l04At_any _ _ (by omega) (by omega)).mono ?_; rintro e w1 ⟨rfl, hb1⟩; have hB1 := hB.trans (hb1.mono hz); have hz1 := hB1.size; clear hb1)
            | (go_at_call 198; refine (C2 _).mono ?_; rintro e w2 ⟨rfl, hb2⟩; have hB2 := hB1.trans (hb2.mono hz1); clear hb2))
          go_roundw
          case rel => exact ⟨k, lo, mid, rfl, congrArg (Value.int .i64) Hmid.out, by omega, m1, by omega, m3.out, HS2.out, hB2⟩
          case measure => have := Hmid.out; simp [intOf]; omega
        · have HS2 := Lib.hid (HS.out.trans (if_neg hp))
          have hp : hiP u mid = false := by simpa using hp
          have C2 : ∀ W, Calls Try.prog 198 #[.agg #[.int .i64 (nD (((lo + top) / 2))), .int .i64 (nT (((lo + top) / 2)))], .int .i64 u, .bool true] W fun e w' => e = .returned (.bool false) ∧ Below W.heap.size W w' := fun W => by have := C W; rw [Hmid.out, hp] at this; rw [Hmid.out]; exact this
          clear C
          go_wp2_with (first
            | (go_at_call 144; refine (l01Floor_any (lo + top) 2 _ (by omega) (by omega) (by omega) (by omega)).mono ?_; rintro e w' ⟨rfl, rfl⟩)
            | (go_at_call 196; refine (l04At_any _ _ (by omega) (by omega)).mono ?_; rintro e w1 ⟨rfl, hb1⟩; have hB1 := hB.trans (hb1.mono hz); have hz1 := hB1.size; clear hb1)
            | (go_at_call 198; refine (C2 _).mono ?_; rintro e w2 ⟨rfl, hb2⟩; have hB2 := hB1.trans (hb2.mono hz1); clear hb2))
          go_roundw
          case rel => exact ⟨k, mid, top, congrArg (Value.int .i64) Hmid.out, rfl, by omega, m2, by omega, m4.out, HS2.out, hB2⟩
          case measure => have := Hmid.out; simp [intOf]; omega
set_option maxRecDepth 100000 in
set_option maxHeartbeats 2000000 in
theorem firstLo_any (u : Int) (w : World) :
    Calls Try.prog 197 #[.int .i64 u, .bool false] w fun e w' => e = .returned (.int .i64 (abv u)) ∧ Below w.heap.size w w' := by
  have HB := Lib.hid (show abv u = srch (loP u) 20 (-270001) 279000 from rfl)
  go_enter Try.func197, Try.ntmps197
  go_wp2_with fail
  go_loopw [5, 6] (fun a b wr => ∃ (k : Nat) (lo top : Int), a = .int .i64 lo ∧ b = .int .i64 top ∧ -270001 ≤ lo ∧ lo < top ∧ top ≤ 279000 ∧ top - lo ≤ 2 ^ k ∧ srch (loP u) 20 (-270001) 279000 = srch (loP u) k lo top ∧ Below w.heap.size w wr) (fun a b _ => (intOf b - intOf a).toNat)
  case atStart => exact ⟨20, -270001, 279000, rfl, rfl, by omega, by omega, by omega, by decide, rfl, Below.refl _ _⟩
  case round =>
    obtain ⟨k, lo, top, rfl, rfl, hlo, hlt, htop, hk, hf, hB⟩ := hrel
    have Hf := Lib.hid hf
    have Hk := Lib.hid hk
    have hz := hB.size
    clear hf hk
    by_cases hc : top - lo ≤ 1
    · have HV := Lib.hid (show abv u = top by
        rw [HB.out, Hf.out]
        match k with
        | 0 => rfl
        | k + 1 => rw [srch, if_pos hc])
      go_wp2_with fail
      go_ret
      exact ⟨endInt HV.out.symm, hB⟩
    · match k, Hk with
      | 0, Hk => exact absurd (Hk.out) (by simp; omega)
      | k + 1, Hk =>
        have HS := Lib.hid (show srch (loP u) 20 (-270001) 279000 = if loP u ((lo + top) / 2) = true then srch (loP u) k lo ((lo + top) / 2) else srch (loP u) k ((lo + top) / 2) top by rw [Hf.out, srch, if_neg hc])
        have Hk' := Lib.hid (show top - lo ≤ 2 * 2 ^ k by have := Hk.out; rw [Int.pow_succ] at this; omega)
        have C := fun W => holdsLo_any ((lo + top) / 2) u W (by omega) (by omega)
        have m1 : lo < (lo + top) / 2 := by omega
        have m2 : (lo + top) / 2 < top := by omega
        have m3 := Lib.hid (show (lo + top) / 2 - lo ≤ 2 ^ k by have := Hk'.out; omega)
        have m4 := Lib.hid (show top - (lo + top) / 2 ≤ 2 ^ k by have := Hk'.out; omega)
        generalize hmid : (lo + top) / 2 = mid at *
        have Hmid := Lib.hid hmid
        rw [← hmid] at C
        clear hmid
        by_cases hp : loP u mid = true
        · have HS2 := Lib.hid (HS.out.trans (if_pos hp))
          have C2 : ∀ W, Calls Try.prog 198 #[.agg #[.int .i64 (nD (((lo + top) / 2))), .int .i64 (nT (((lo + top) / 2)))], .int .i64 u, .bool false] W fun e w' => e = .returned (.bool true) ∧ Below W.heap.size W w' := fun W => by have := C W; rw [Hmid.out, hp] at this; rw [Hmid.out]; exact this
          clear C
          go_wp2_with (first
            | (go_at_call 144; refine (l01Floor_any (lo + top) 2 _ (by omega) (by omega) (by omega) (by omega)).mono ?_; rintro e w' ⟨rfl, rfl⟩)
            | (go_at_call 196; refine (l04At_any _ _ (by omega) (by omega)).mono ?_; rintro e w1 ⟨rfl, hb1⟩; have hB1 := hB.trans (hb1.mono hz); have hz1 := hB1.size; clear hb1)
            | (go_at_call 198; refine (C2 _).mono ?_; rintro e w2 ⟨rfl, hb2⟩; have hB2 := hB1.trans (hb2.mono hz1); clear hb2))
          go_roundw
          case rel => exact ⟨k, lo, mid, rfl, congrArg (Value.int .i64) Hmid.out, by omega, m1, by omega, m3.out, HS2.out, hB2⟩
          case measure => have := Hmid.out; simp [intOf]; omega
        · have HS2 := Lib.hid (HS.out.trans (if_neg hp))
          have hp : loP u mid = false := by simpa using hp
          have C2 : ∀ W, Calls Try.prog 198 #[.agg #[.int .i64 (nD (((lo + top) / 2))), .int .i64 (nT (((lo + top) / 2)))], .int .i64 u, .bool false] W fun e w' => e = .returned (.bool false) ∧ Below W.heap.size W w' := fun W => by have := C W; rw [Hmid.out, hp] at this; rw [Hmid.out]; exact this
          clear C
          go_wp2_with (first
            | (go_at_call 144; refine (l01Floor_any (lo + top) 2 _ (by omega) (by omega) (by omega) (by omega)).mono ?_; rintro e w' ⟨rfl, rfl⟩)
            | (go_at_call 196; refine (l04At_any _ _ (by omega) (by omega)).mono ?_; rintro e w1 ⟨rfl, hb1⟩; have hB1 := hB.trans (hb1.mono hz); have hz1 := hB1.size; clear hb1)
            | (go_at_call 198; refine (C2 _).mono ?_; rintro e w2 ⟨rfl, hb2⟩; have hB2 := hB1.trans (hb2.mono hz1); clear hb2))
          go_roundw
          case rel => exact ⟨k, mid, top, congrArg (Value.int .i64) Hmid.out, rfl, by omega, m2, by omega, m4.out, HS2.out, hB2⟩
          case measure => have := Hmid.out; simp [intOf]; omega
end Go.Proofs.Ythnjiiodpjielaa

/- KeepApart: the program's closures and searches (layer 8). No condition. -/
import Derived.Test.YtkblmcpklpmobaaKp
namespace Go.Proofs.Ytkblmcpklpmobaa
open Go.RowKit
set_option linter.unusedVariables false
set_option linter.unusedSimpArgs false

set_option maxHeartbeats 1000000 in
theorem high_any (x y z : Int) (w : World) :
    Calls Try.prog 80 #[.agg #[.int .i64 x, .int .i64 y, .int .i64 z]] w fun e w' => e = .returned (.bool (!inB z 0 4)) ∧ Below w.heap.size w w' := by
  go_enter Try.func80, Try.ntmps80
  go_wp2_with (go_at_call 77; refine (within_any _ _ _ _).mono ?_; rintro e w' ⟨rfl, rfl⟩)
  go_ret
  exact ⟨rfl, by repeat' (first | (with_reducible exact Below.refl _ _) | (with_reducible assumption) | (with_reducible refine Below.alloc ?_ ?_ _) | (with_reducible refine Below.drew ?_) | (with_reducible refine belowDraws ?_ _) | (with_reducible refine Below.setCell ?_ ?_ _) | omega | (simp; done) | (simp; omega))⟩
set_option maxHeartbeats 2000000 in
theorem indexHigh_any (A : Option Addr) (n c : Nat) (l : List (Int × Int × Int)) (w : World) (hl : l.length = n) (hn : n ≤ 1048576) (hs : Sees w w.heap.size A (cells3 l)) :
    Calls Try.prog 102 #[.slice A n c, .func (.func 80) #[] #[]] w fun e w' => ∃ r, e = .returned (.int .i64 r) ∧ (0 ≤ r ↔ heightsV l = false) ∧ Below w.heap.size w w' := by
  go_enter Try.func102, Try.ntmps102
  go_wp2_with fail
  go_loopw [8] (fun i wr => ∃ k : Nat, k ≤ n ∧ i = .int .i64 k ∧ (l.take k).all okH = true ∧ Below w.heap.size w wr) (fun i _ => n - (intOf i).toNat)
  case atStart => exact ⟨0, Nat.zero_le _, rfl, rfl, Below.refl _ _⟩
  case round =>
    obtain ⟨k, hk, rfl, hf, hB⟩ := hrel
    have Hf := Lib.hid hf
    have Hl := Lib.hid hl
    have hz := hB.size
    clear hf
    by_cases hlt : k < n
    · obtain ⟨b, off, p, rfl, hb, hp, c0, c1, c2⟩ := (hs.over hB).three (k := k) (by omega)
      have Hp := Lib.hid hp
      have hbr : b < wr.heap.size := by omega
      have C := fun W => high_any p.1 p.2.1 p.2.2 W
      have k0 : (0 : Int) ≤ (k : Int) := by omega
      have k1 : (k : Int) < (n : Int) := by omega
      clear hp hs hl
      by_cases hx : inB p.2.2 0 4 = true
      · rw [hx] at C
        have HY := Lib.hid (all_next Hp.out (show okH p = true from hx) Hf.out)
        clear hx
        go_wp2_with (go_at_call 80; (with_reducible refine (C _).mono ?_); rintro e w2 ⟨rfl, hb2⟩)
        go_roundw
        case rel => exact ⟨k + 1, by omega, by go_num, HY.out, hB.trans (hb2.mono hz)⟩
        case measure => simp [intOf]; omega
      · have hx : inB p.2.2 0 4 = false := by simpa using hx
        have HN := Lib.hid (show heightsV l = false from all_at Hp.out (show okH p = false from hx))
        rw [hx] at C
        clear hx
        go_wp2_with (go_at_call 80; (with_reducible refine (C _).mono ?_); rintro e w2 ⟨rfl, hb2⟩)
        go_ret
        exact ⟨_, rfl, ⟨fun _ => HN.out, fun _ => by omega⟩, hB.trans (hb2.mono hz)⟩
    · obtain rfl : k = n := by omega
      clear hl hs
      have HY := Lib.hid (show heightsV l = true by have h := Hf.out; rwa [List.take_of_length_le (by have := Hl.out; omega)] at h)
      go_wp2_with fail
      go_ret
      exact ⟨_, rfl, ⟨fun h => by omega, fun h => by rw [HY.out] at h; cases h⟩, hB⟩
set_option maxHeartbeats 1000000 in
theorem anyHigh_any (A : Option Addr) (n c : Nat) (l : List (Int × Int × Int)) (w : World) (hl : l.length = n) (hn : n ≤ 1048576) (hs : Sees w w.heap.size A (cells3 l)) :
    Calls Try.prog 79 #[.slice A n c, .func (.func 80) #[] #[]] w fun e w' => e = .returned (.bool (!heightsV l)) ∧ Below w.heap.size w w' := by
  have C := indexHigh_any A n c l w hl hn hs
  generalize heightsV l = hv at *
  clear hl hs
  go_enter Try.func79, Try.ntmps79
  go_wp2_with fail
  refine C.mono ?_
  rintro e w1 ⟨r, rfl, hr, hb⟩
  have HR := Lib.hid hr
  clear hr C
  cases hv with
  | false =>
    have h0 : 0 ≤ r := HR.out.2 rfl
    go_wp2_with fail
    go_ret
    exact ⟨endBool (by first | (simp; done) | (simp; omega)), hb⟩
  | true =>
    have h0 : ¬ 0 ≤ r := fun h => by have := HR.out.1 h; cases this
    go_wp2_with fail
    go_ret
    exact ⟨endBool (by first | (simp; done) | (simp; omega)), hb⟩
set_option maxRecDepth 100000 in
set_option maxHeartbeats 2000000 in
theorem near2_any (k : Nat) (pk pi : Int) (d : Int) (tb tof b1 b2 b3 n c : Nat) (w : World) (hk : k < n) (g1 : -1000000000000 ≤ pk ∧ pk ≤ 1000000000000) (g2 : -1000000000000 ≤ pi ∧ pi ≤ 1000000000000)
    (c0 : w.cell? ⟨b1, 0, none⟩ = some (.slice (some ⟨tb, tof, none⟩) n c)) (c1 : w.cell? ⟨tb, tof + k * 3 + 1, none⟩ = some (.int .i64 pk)) (c2 : w.cell? ⟨b2, 1, none⟩ = some (.int .i64 pi)) (c3 : w.cell? ⟨b3, 0, none⟩ = some (.int .i64 d)) :
    Calls Try.prog 82 #[.int .i64 (k : Int), .pointer (some ⟨b1, 0, none⟩), .pointer (some ⟨b2, 0, none⟩), .pointer (some ⟨b3, 0, none⟩)] w fun e w' => e = .returned (.bool (decide (max (pk - pi) (-(pk - pi)) < d))) ∧ Below w.heap.size w w' := by
  have DI := fun W => distance_any pk pi W (by omega) (by omega) (by omega) (by omega)
  have k0 : (0 : Int) ≤ (k : Int) := by omega
  have k1 : (k : Int) < (n : Int) := by omega
  go_enter Try.func82, Try.ntmps82
  go_wp2_with fail
  go_quiet ((go_at_call 70; exact quietSame (DI _)))
  go_wp2_with fail
  go_ret
  exact ⟨rfl, by repeat' (first | (with_reducible exact Below.refl _ _) | (with_reducible assumption) | (with_reducible refine Below.alloc ?_ ?_ _) | (with_reducible refine Below.drew ?_) | (with_reducible refine belowDraws ?_ _) | (with_reducible refine Below.setCell ?_ ?_ _) | omega | (simp; done) | (simp; omega))⟩
theorem take_any_next {K : List Nat} {f : Nat → Bool} {k a : Nat} (h : K[k]? = some a) : (K.take (k + 1)).any f = ((K.take k).any f || f a) := by
  rw [List.take_add_one, h, List.any_append]
  simp
set_option maxRecDepth 100000 in
set_option maxHeartbeats 4000000 in
theorem indexNear_any (A : Option Addr) (cc : Nat) (K : List Nat) (l : List (Int × Int × Int)) (i : Nat) (d : Int) (tb tof b1 b2 b3 n c : Nat) (w : World) (hKl : K.length ≤ 1000) (hKn : ∀ k ∈ K, k < n) (hl : l.length = n) (hpl : ∀ a, a < n → -1000000000000 ≤ plc l a ∧ plc l a ≤ 1000000000000) (hi : i < n) (hs : Sees w w.heap.size A (K.map fun (k : Nat) => Value.int .i64 (k : Int))) (hT : ∀ a, a < n → w.cell? ⟨tb, tof + a * 3 + 1, none⟩ = some (.int .i64 (plc l a))) (c0 : w.cell? ⟨b1, 0, none⟩ = some (.slice (some ⟨tb, tof, none⟩) n c)) (c2 : w.cell? ⟨b2, 1, none⟩ = some (.int .i64 (plc l i))) (c3 : w.cell? ⟨b3, 0, none⟩ = some (.int .i64 d)) :
    Calls Try.prog 103 #[.slice A K.length cc, .func (.func 82) #[] #[.pointer (some ⟨b1, 0, none⟩), .pointer (some ⟨b2, 0, none⟩), .pointer (some ⟨b3, 0, none⟩)]] w fun e w' => ∃ r, e = .returned (.int .i64 r) ∧ (0 ≤ r ↔ (K.any fun k => nearB l d k i) = true) ∧ Below w.heap.size w w' := by
  have l1 : b1 < w.heap.size := World.block_lt_of_cell? w _ c0
  have l2 : b2 < w.heap.size := World.block_lt_of_cell? w _ c2
  have l3 : b3 < w.heap.size := World.block_lt_of_cell? w _ c3
  have l4 : tb < w.heap.size := World.block_lt_of_cell? w _ (hT i hi)
  go_enter Try.func103, Try.ntmps103
  go_wp2_with fail
  go_loopw [8] (fun u wr => ∃ k : Nat, k ≤ K.length ∧ u = .int .i64 k ∧ ((K.take k).any fun k => nearB l d k i) = false ∧ Below w.heap.size w wr) (fun u _ => K.length - (intOf u).toNat)
  case atStart => exact ⟨0, Nat.zero_le _, rfl, rfl, Below.refl _ _⟩
  case round =>
    obtain ⟨k, hk, rfl, hf, hB⟩ := hrel
    have Hf := Lib.hid hf
    have hz := hB.size
    clear hf
    by_cases hlt : k < K.length
    · obtain ⟨a, ha⟩ : ∃ a, K[k]? = some a := ⟨_, List.getElem?_eq_getElem hlt⟩
      have han : a < n := hKn a (List.mem_of_getElem? ha)
      obtain ⟨b, off, rfl, hb, hcell⟩ := hs.addr (by rw [List.length_map]; omega)
      have e0 : wr.cell? ⟨b, off + k, none⟩ = some (.int .i64 (a : Int)) := (hB.cell hb).trans (hcell k _ (by rw [List.getElem?_map, ha]; rfl))
      have e1 := (hB.cell (p := ⟨b1, 0, none⟩) l1).trans c0
      have e2 := (hB.cell (p := ⟨b2, 1, none⟩) l2).trans c2
      have e3 := (hB.cell (p := ⟨b3, 0, none⟩) l3).trans c3
      have e4 := (hB.cell (p := ⟨tb, tof + a * 3 + 1, none⟩) l4).trans (hT a han)
      have C0 := near2_any a (plc l a) (plc l i) d tb tof b1 b2 b3 n c wr han (hpl a han) (hpl i hi) e1 e4 e2 e3
      have C := fun (_ : True) => C0
      have HN := Lib.hid (take_any_next (f := fun k => nearB l d k i) ha)
      have HA := Lib.hid (List.mem_of_getElem? ha)
      have hbr : b < wr.heap.size := by omega
      have k0 : (0 : Int) ≤ (k : Int) := by omega
      have k1 : (k : Int) < (K.length : Int) := by omega
      have HQ := Lib.hid (show nearB l d a i = decide (max (plc l a - plc l i) (-(plc l a - plc l i)) < d) from rfl)
      clear ha hcell hs hT e1 e2 e3 e4 C0
      by_cases hx : max (plc l a - plc l i) (-(plc l a - plc l i)) < d
      · rw [decide_eq_true hx] at C
        have HY := Lib.hid (show (K.any fun k => nearB l d k i) = true from List.any_eq_true.2 ⟨a, HA.out, HQ.out.trans (decide_eq_true hx)⟩)
        clear hx
        go_wp2_with (go_at_call 82; (with_reducible refine (C trivial).mono ?_); rintro e w2 ⟨rfl, hb2⟩)
        go_ret
        exact ⟨_, rfl, ⟨fun _ => HY.out, fun _ => by omega⟩, hB.trans (hb2.mono hz)⟩
      · rw [decide_eq_false hx] at C
        have HY := Lib.hid (show ((K.take (k + 1)).any fun k => nearB l d k i) = false by rw [HN.out, Hf.out, HQ.out, decide_eq_false hx]; rfl)
        clear hx
        go_wp2_with (go_at_call 82; (with_reducible refine (C trivial).mono ?_); rintro e w2 ⟨rfl, hb2⟩)
        go_roundw
        case rel => exact ⟨k + 1, by omega, by go_num, HY.out, hB.trans (hb2.mono hz)⟩
        case measure => simp [intOf]; omega
    · have HY := Lib.hid (show (K.any fun k => nearB l d k i) = false by have h := Hf.out; rwa [List.take_of_length_le (by omega)] at h)
      have HKE := Lib.hid (show k = K.length by omega)
      clear hs hT
      go_wp2_with fail
      go_ret
      exact ⟨_, rfl, ⟨fun h => by omega, fun h => by rw [HY.out] at h; cases h⟩, hB⟩
set_option maxHeartbeats 1000000 in
theorem anyNear_any (A : Option Addr) (cc : Nat) (K : List Nat) (l : List (Int × Int × Int)) (i : Nat) (d : Int) (tb tof b1 b2 b3 n c : Nat) (w : World) (hKl : K.length ≤ 1000) (hKn : ∀ k ∈ K, k < n) (hl : l.length = n) (hpl : ∀ a, a < n → -1000000000000 ≤ plc l a ∧ plc l a ≤ 1000000000000) (hi : i < n) (hs : Sees w w.heap.size A (K.map fun (k : Nat) => Value.int .i64 (k : Int))) (hT : ∀ a, a < n → w.cell? ⟨tb, tof + a * 3 + 1, none⟩ = some (.int .i64 (plc l a))) (c0 : w.cell? ⟨b1, 0, none⟩ = some (.slice (some ⟨tb, tof, none⟩) n c)) (c2 : w.cell? ⟨b2, 1, none⟩ = some (.int .i64 (plc l i))) (c3 : w.cell? ⟨b3, 0, none⟩ = some (.int .i64 d)) :
    Calls Try.prog 81 #[.slice A K.length cc, .func (.func 82) #[] #[.pointer (some ⟨b1, 0, none⟩), .pointer (some ⟨b2, 0, none⟩), .pointer (some ⟨b3, 0, none⟩)]] w fun e w' => e = .returned (.bool (K.any fun k => nearB l d k i)) ∧ Below w.heap.size w w' := by
  have C := indexNear_any A cc K l i d tb tof b1 b2 b3 n c w hKl hKn hl hpl hi hs hT c0 c2 c3
  generalize (K.any fun k => nearB l d k i) = hv at *
  clear hl hs hT hKn hpl
  go_enter Try.func81, Try.ntmps81
  go_wp2_with fail
  refine C.mono ?_
  rintro e w1 ⟨r, rfl, hr, hb⟩
  have HR := Lib.hid hr
  clear hr C
  cases hv with
  | true =>
    have h0 : 0 ≤ r := HR.out.2 rfl
    go_wp2_with fail
    go_ret
    exact ⟨endBool (by first | (simp; done) | (simp; omega)), hb⟩
  | false =>
    have h0 : ¬ 0 ≤ r := fun h => by have := HR.out.1 h; cases this
    go_wp2_with fail
    go_ret
    exact ⟨endBool (by first | (simp; done) | (simp; omega)), hb⟩
end Go.Proofs.Ytkblmcpklpmobaa

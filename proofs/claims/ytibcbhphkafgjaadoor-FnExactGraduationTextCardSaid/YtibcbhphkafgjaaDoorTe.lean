/- Rows of numbers and graduations as texts (layers 1, 7): the reference's way. No condition. -/
import Derived.Test.YtibcbhphkafgjaaDoorTd
import Derived.Test.YtibcbhphkafgjaaDoorDc
import Derived.Deep.RegionHeld3
import Derived.Deep.RegionWith
namespace Go.Proofs.YtibcbhphkafgjaaDoor
open Go.RowKit
set_option linter.unusedVariables false
set_option linter.unusedSimpArgs false

theorem itoa_nat (n : Nat) : Lib.itoa (n : Int) = Lib.decDigits n := by
  rw [Lib.itoa, if_neg (by omega), Int.toNat_natCast]
theorem bytesCat (a b : List UInt8) : (⟨a.toArray⟩ : ByteArray) ++ ⟨b.toArray⟩ = ⟨(a ++ b).toArray⟩ := ByteArray.mk_append_mk a b
theorem bytesSize (a : List UInt8) : (⟨a.toArray⟩ : ByteArray).size = a.length := by simp [ByteArray.size]
/-- numbers that a graduation may have -/
def Ten4 (x : Int) : Prop := -100000 ≤ x ∧ x ≤ 100000
theorem ten_len {x : Int} (h : Ten4 x) : (Lib.itoa x).length ≤ 21 := Lib.itoa_length_le x (by have := h.1; omega) (by have := h.2; omega)
set_option maxHeartbeats 1000000 in
theorem l01Number_any (x : Int) (w : World) (h : Ten4 x) :
    Calls Tryd.prog 64 #[.int .i64 x] w fun e w' => e = .returned (.string ⟨(Lib.itoa x).toArray⟩) ∧ Below w.heap.size w w' := by
  by_cases hx : x < 0
  · obtain ⟨n, rfl⟩ : ∃ n : Nat, x = -(n : Int) := ⟨x.natAbs, by omega⟩
    have h9 : n ≤ 100000 := by have := h.1; omega
    have C := fun W => l01Dec_any n n W (Nat.le_refl _) (by omega)
    have hlen := dcLen n n (Nat.le_refl _)
    have HX := Lib.hid (show Lib.itoa (-(n : Int)) = [45] ++ Lib.decDigits n by rw [Lib.itoa, if_pos hx, Int.natAbs_neg, Int.natAbs_natCast]; rfl)
    have hw : IntKind.i64.wrap (- -(n : Int)) = (n : Int) := (IntWalk.i64_in _ (by omega)).trans (by omega)
    have hw2 : IntKind.i64.wrap (n : Int) = (n : Int) := IntWalk.i64_in _ (by omega)
    have h0 : -(n : Int) < 0 := hx
    have h1 : 0 < (n : Int) := by omega
    have k1 := fun W => run_string_add_sum (P := Tryd.prog) (w := W) ⟨#[45]⟩ ⟨(Lib.decDigits n).toArray⟩ (by rw [bytesSize (Lib.decDigits n)]; show 1 + (Lib.decDigits n).length ≤ _; omega)
    clear h hx hlen
    rw [HX.out]
    go_enter Tryd.func64, Tryd.ntmps64
    go_wp2_with fail
    refine (C _).mono ?_
    rintro e w1 ⟨rfl, hb1⟩
    go_wp2_with fail
    go_ret
    exact ⟨by (rw [show (45 :: Lib.decDigits n) = [45] ++ Lib.decDigits n from rfl, ← bytesCat]; rfl), hb1⟩
  · obtain ⟨n, rfl⟩ : ∃ n : Nat, x = (n : Int) := ⟨x.toNat, by omega⟩
    have h9 : n ≤ 100000 := by have := h.2; omega
    have C := fun W => l01Dec_any n n W (Nat.le_refl _) (by omega)
    rw [itoa_nat]
    have h0 : ¬ (n : Int) < 0 := by omega
    clear h hx
    go_enter Tryd.func64, Tryd.ntmps64
    go_wp2_with fail
    refine (C _).mono ?_
    rintro e w1 ⟨rfl, hb1⟩
    go_wp2_with fail
    go_ret
    exact ⟨rfl, hb1⟩
theorem joinStep {l : List Int} {k : Nat} {x : Int} {sep : UInt8} (hx : l[k]? = some x) (hk : 0 < k) : Lib.join ((l.take (k + 1)).map Lib.itoa) [sep] = (Lib.join ((l.take k).map Lib.itoa) [sep] ++ [sep]) ++ Lib.itoa x := by
  rw [take_map_snoc Lib.itoa hx, join_snoc _ _ (by
    have := (List.getElem?_eq_some_iff.1 hx).1
    intro e
    have e2 := congrArg List.length e
    rw [List.length_map, List.length_take, List.length_nil] at e2
    omega)]
  simp
theorem joinFirst {l : List Int} {x : Int} {sep : UInt8} (hx : l[0]? = some x) : Lib.join ((l.take (0 + 1)).map Lib.itoa) [sep] = [] ++ Lib.itoa x := by
  rw [take_map_snoc Lib.itoa hx]
  exact Lib.join_one _ _
set_option maxRecDepth 100000 in
set_option maxHeartbeats 2000000 in
theorem l01Join_any (A : Option Addr) (n c : Nat) (l : List Int) (sep : UInt8) (w : World) (hl : l.length = n) (hn : n ≤ 3) (hs : Sees w w.heap.size A (l.map (Value.int .i64))) (hr : ∀ x ∈ l, Ten4 x) :
    Calls Tryd.prog 49 #[.slice A n c, .string ⟨#[sep]⟩] w fun e w' => e = .returned (.string ⟨(Lib.join (l.map Lib.itoa) [sep]).toArray⟩) ∧ Below w.heap.size w w' := by
  have HJ := Lib.hid (fun k => join_len (c := sep) (m := 21) ((l.take k).map Lib.itoa) (fun x hx => by
    obtain ⟨y, hy, rfl⟩ := List.mem_map.1 hx
    exact ten_len (hr y (List.mem_of_mem_take hy))))
  go_enter Tryd.func49, Tryd.ntmps49
  go_wp2_with fail
  go_loopw [5, 6] (fun v i wr => ∃ k : Nat, k ≤ n ∧ i = .int .i64 k ∧ v = strL (Lib.join ((l.take k).map Lib.itoa) [sep]) ∧ Below w.heap.size w wr) (fun _ i _ => n - (intOf i).toNat)
  case atStart => exact ⟨0, Nat.zero_le _, rfl, rfl, Below.refl _ _⟩
  case round =>
    obtain ⟨k, hk, rfl, rfl, hB⟩ := hrel
    have zr := hB.size
    by_cases hlt : k < n
    · obtain ⟨b, off, x, rfl, hb, hx, c0⟩ := (hs.over hB).cellOf (k := k) (by omega)
      have hxr := hr x (List.mem_of_getElem? hx)
      have D := fun W => l01Number_any x W hxr
      have hlx := ten_len hxr
      have hlp : (Lib.join ((l.take k).map Lib.itoa) [sep]).length ≤ 66 := by
        have := HJ.out k
        rw [List.length_map, List.length_take] at this
        omega
      by_cases h0 : 0 < k
      · have Hx := Lib.hid (joinStep (sep := sep) hx h0)
        have h0' : (0 : Int) < (k : Int) := by omega
        obtain ⟨p, hp⟩ : ∃ p, p = Lib.join ((l.take k).map Lib.itoa) [sep] := ⟨_, rfl⟩
        rw [← hp] at Hx hlp ⊢
        have Hl := Lib.hid hlp
        obtain ⟨y, hy⟩ : ∃ y, y = Lib.itoa x := ⟨_, rfl⟩
        rw [← hy] at Hx D hlx
        have k1 := fun W => run_string_add_sum (P := Tryd.prog) (w := W) ⟨p.toArray⟩ ⟨#[sep]⟩ (by rw [bytesSize]; show p.length + 1 ≤ _; omega)
        have k2 := fun W => run_string_add_sum (P := Tryd.prog) (w := W) (⟨p.toArray⟩ ++ ⟨#[sep]⟩) ⟨y.toArray⟩ (by rw [ByteArray.size_append, bytesSize, bytesSize]; show p.length + 1 + y.length ≤ _; omega)
        unfold strL
        clear hx hs hr hl hy hp hlp hlx
        go_wp2_with fail
        refine (D _).mono ?_
        rintro e w2 ⟨rfl, hb2⟩
        go_wp2_with fail
        go_roundw
        case rel => exact ⟨k + 1, by omega, by go_num, by rw [Hx.out, ← bytesCat, ← bytesCat], hB.trans (hb2.mono zr)⟩
        case measure => simp [intOf]; omega
      · obtain rfl : k = 0 := by omega
        have Hx := Lib.hid (joinFirst (sep := sep) hx)
        obtain ⟨y, hy⟩ : ∃ y, y = Lib.itoa x := ⟨_, rfl⟩
        rw [← hy] at Hx D hlx
        have k2 := fun W => run_string_add_sum (P := Tryd.prog) (w := W) ⟨#[]⟩ ⟨y.toArray⟩ (by rw [bytesSize]; show 0 + y.length ≤ _; omega)
        have e0 : strL (Lib.join ((l.take 0).map Lib.itoa) [sep]) = .string ⟨#[]⟩ := by rw [List.take_zero, List.map_nil, Lib.join_nil]; rfl
        rw [e0]
        rw [Nat.add_zero] at c0
        clear hx hs hr hl hy hlp hlx
        go_wp2_with fail
        refine (D _).mono ?_
        rintro e w2 ⟨rfl, hb2⟩
        go_wp2_with fail
        go_roundw
        case rel => exact ⟨1, by omega, by go_num, by (rw [Hx.out]; (try unfold strL); rw [← bytesCat]), hB.trans (hb2.mono zr)⟩
        case measure => simp [intOf]; omega
    · obtain rfl : k = n := by omega
      have e : Lib.join ((l.take k).map Lib.itoa) [sep] = Lib.join (l.map Lib.itoa) [sep] := by rw [← hl, List.take_length]
      rw [e]
      go_wp2_with fail
      go_ret
      exact ⟨rfl, hB⟩
theorem gradStep {l : List (Int × Int × Int)} {k : Nat} {p : Int × Int × Int} (hx : l[k]? = some p) (hk : 0 < k) : gradT (l.take (k + 1)) = (gradT (l.take k) ++ [32]) ++ partT p := by
  unfold gradT
  rw [take_map_snoc partT hx, join_snoc _ _ (by
    have := (List.getElem?_eq_some_iff.1 hx).1
    intro e
    have e2 := congrArg List.length e
    rw [List.length_map, List.length_take, List.length_nil] at e2
    omega)]
  simp
theorem gradFirst {l : List (Int × Int × Int)} {p : Int × Int × Int} (hx : l[0]? = some p) : gradT (l.take (0 + 1)) = [] ++ partT p := by
  unfold gradT
  rw [take_map_snoc partT hx]
  exact Lib.join_one _ _
def Ten4s (l : List (Int × Int × Int)) : Prop := ∀ p ∈ l, Ten4 p.1 ∧ Ten4 p.2.1 ∧ Ten4 p.2.2
theorem ten_i64 {p : Int × Int × Int} (h : Ten4 p.1 ∧ Ten4 p.2.1 ∧ Ten4 p.2.2) : I64p p := by
  unfold Ten4 at h
  unfold I64p
  omega
set_option maxRecDepth 100000 in
set_option maxHeartbeats 4000000 in
theorem l07Text_any (A : Option Addr) (n c : Nat) (l : List (Int × Int × Int)) (w : World) (hl : l.length = n) (hn : n ≤ 20) (hs : Sees w w.heap.size A (cells3 l)) (hr : Ten4s l) :
    Calls Tryd.prog 26 #[.slice A n c] w fun e w' => e = .returned (.string ⟨(gradT l).toArray⟩) ∧ Below w.heap.size w w' := by
  have HJ := Lib.hid (fun k => gradT_len (G := l.take k) (fun x hx => ten_i64 (hr x (List.mem_of_mem_take hx))))
  go_enter Tryd.func26, Tryd.ntmps26
  go_wp2_with fail
  go_loopw [3, 4] (fun v i wr => ∃ k : Nat, k ≤ n ∧ i = .int .i64 k ∧ v = strL (gradT (l.take k)) ∧ Below w.heap.size w wr) (fun _ i _ => n - (intOf i).toNat)
  case atStart => exact ⟨0, Nat.zero_le _, rfl, rfl, Below.refl _ _⟩
  case round =>
    obtain ⟨k, hk, rfl, rfl, hB⟩ := hrel
    have zr := hB.size
    by_cases hlt : k < n
    · obtain ⟨b, off, p, rfl, hb, hx, c0, c1, c2⟩ := (hs.over hB).three (k := k) (by omega)
      have hxr := hr p (List.mem_of_getElem? hx)
      have hbr : b < wr.heap.size := by omega
      have D := fun (W : World) (hs : Sees W W.heap.size (some ⟨wr.heap.size, 0, none⟩) ([p.1, p.2.1, p.2.2].map (Value.int .i64))) => l01Join_any (some ⟨wr.heap.size, 0, none⟩) 3 3 [p.1, p.2.1, p.2.2] 47 W rfl (by omega) hs (by intro v hv; obtain ⟨a1, a2, a3⟩ := hxr; simp at hv; rcases hv with rfl | rfl | rfl <;> assumption)
      rw [show Lib.join ([p.1, p.2.1, p.2.2].map Lib.itoa) [47] = partT p from rfl] at D
      have hlx := partT_len (ten_i64 hxr)
      have hlp : (gradT (l.take k)).length ≤ 1320 := by
        have := HJ.out k
        rw [List.length_take] at this
        omega
      by_cases h0 : 0 < k
      · have Hx := Lib.hid (gradStep hx h0)
        have h0' : (0 : Int) < (k : Int) := by omega
        have k0 : (0 : Int) ≤ (k : Int) := by omega
        have kn : (k : Int) < (n : Int) := by omega
        obtain ⟨q, hq⟩ : ∃ q, q = gradT (l.take k) := ⟨_, rfl⟩
        rw [← hq] at Hx hlp ⊢
        obtain ⟨y, hy⟩ : ∃ y, y = partT p := ⟨_, rfl⟩
        rw [← hy] at Hx D hlx
        have k1 := fun W => run_string_add_sum (P := Tryd.prog) (w := W) ⟨q.toArray⟩ ⟨#[32]⟩ (by rw [bytesSize]; show q.length + 1 ≤ _; omega)
        have k2 := fun W => run_string_add_sum (P := Tryd.prog) (w := W) (⟨q.toArray⟩ ++ ⟨#[32]⟩) ⟨y.toArray⟩ (by rw [ByteArray.size_append, bytesSize, bytesSize]; show q.length + 1 + y.length ≤ _; omega)
        unfold strL
        clear hx hs hr hl hy hq hlp hlx hxr
        go_wp2_with fail
        go_region_with (go_at_call 49; (with_reducible refine (D _ ?_).mono ?_); (focus (exact Full.sees (xs := [.int .i64 p.1, .int .i64 p.2.1, .int .i64 p.2.2]) (Full.made _ _ _))); rintro e w2 ⟨rfl, hb2⟩; have hB2 : Below wr.heap.size wr w2 := Below.trans (by repeat' (first | exact Below.refl _ _ | assumption | refine Below.alloc ?_ (by first | omega | (simp; done) | (simp; omega)) _ | refine Below.drew ?_)) (hb2.mono (by first | omega | (simp; done) | (simp; omega))); have hC2 : Below w.heap.size w w2 := hB.trans (hB2.mono zr))
        all_goals go_wp2_with fail
        all_goals go_roundw
        all_goals first
          | (simp [intOf]; omega)
          | exact (⟨k + 1, by omega, by go_num, by (rw [Hx.out]; (try unfold strL); rw [← bytesCat, ← bytesCat]), by repeat' (first | (with_reducible exact Below.refl _ _) | (with_reducible assumption) | (with_reducible refine Below.alloc ?_ ?_ _) | (with_reducible refine Below.drew ?_) | (with_reducible refine belowDraws ?_ _) | (with_reducible refine Below.setCell ?_ ?_ _) | omega | (simp; done) | (simp; omega))⟩)
      · obtain rfl : k = 0 := by omega
        have Hx := Lib.hid (gradFirst hx)
        have kn : (0 : Int) < (n : Int) := by omega
        obtain ⟨y, hy⟩ : ∃ y, y = partT p := ⟨_, rfl⟩
        rw [← hy] at Hx D hlx
        have k2 := fun W => run_string_add_sum (P := Tryd.prog) (w := W) ⟨#[]⟩ ⟨y.toArray⟩ (by rw [bytesSize]; show 0 + y.length ≤ _; omega)
        have e0 : strL (gradT (l.take 0)) = .string ⟨#[]⟩ := by unfold gradT; rw [List.take_zero, List.map_nil, Lib.join_nil]; rfl
        rw [e0]
        rw [Nat.zero_mul, Nat.add_zero] at c0 c1 c2
        clear hx hs hr hl hy hlp hlx hxr
        go_wp2_with fail
        go_region_with (go_at_call 49; (with_reducible refine (D _ ?_).mono ?_); (focus (exact Full.sees (xs := [.int .i64 p.1, .int .i64 p.2.1, .int .i64 p.2.2]) (Full.made _ _ _))); rintro e w2 ⟨rfl, hb2⟩; have hB2 : Below wr.heap.size wr w2 := Below.trans (by repeat' (first | exact Below.refl _ _ | assumption | refine Below.alloc ?_ (by first | omega | (simp; done) | (simp; omega)) _ | refine Below.drew ?_)) (hb2.mono (by first | omega | (simp; done) | (simp; omega))); have hC2 : Below w.heap.size w w2 := hB.trans (hB2.mono zr))
        all_goals go_wp2_with fail
        all_goals go_roundw
        all_goals first
          | (simp [intOf]; omega)
          | exact (⟨1, by omega, by go_num, by (rw [Hx.out]; (try unfold strL); rw [← bytesCat]), by repeat' (first | (with_reducible exact Below.refl _ _) | (with_reducible assumption) | (with_reducible refine Below.alloc ?_ ?_ _) | (with_reducible refine Below.drew ?_) | (with_reducible refine belowDraws ?_ _) | (with_reducible refine Below.setCell ?_ ?_ _) | omega | (simp; done) | (simp; omega))⟩)
    · obtain rfl : k = n := by omega
      have e : gradT (l.take k) = gradT l := by rw [← hl, List.take_length]
      rw [e]
      go_wp2_with fail
      go_ret
      exact ⟨rfl, hB⟩
end Go.Proofs.YtibcbhphkafgjaaDoor

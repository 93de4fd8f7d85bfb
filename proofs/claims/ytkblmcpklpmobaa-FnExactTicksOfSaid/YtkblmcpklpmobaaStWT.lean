/- The library's stable sort at one instance (ticks by places). No condition. -/
import Derived.Test.YtkblmcpklpmobaaStab
import Derived.Test.YtkblmcpklpmobaaOwn
import Derived.Deep.RegionHeld3
import Derived.BigQuiet
import Derived.BigRegion
import Derived.Test.YtkblmcpklpmobaaTo
namespace Go.Proofs.Ytkblmcpklpmobaa
open Go.RowKit
set_option linter.unusedVariables false
set_option linter.unusedSimpArgs false

/-- block g holds the ticks l at its head -/
def HdT (cap : Nat) (w : World) (g : Nat) (l : List (Int × Int × Int)) : Prop := ∃ cs, Full w g 51 cs ∧ cs.size = cap * 3 ∧ ∀ (j : Nat) (p : Int × Int × Int), l[j]? = some p → cs[j * 3]? = some (.int .i64 p.1) ∧ cs[j * 3 + 1]? = some (.int .i64 p.2.1) ∧ cs[j * 3 + 2]? = some (.int .i64 p.2.2)
namespace HdT
variable {w v : World} {g cap : Nat} {l : List (Int × Int × Int)}
theorem inside (h : HdT cap w g l) : g < w.heap.size := by obtain ⟨cs, F, _, _⟩ := h; exact F.inside
theorem cells (h : HdT cap w g l) {j : Nat} {p : Int × Int × Int} (hp : l[j]? = some p) : w.cell? ⟨g, j * 3, none⟩ = some (.int .i64 p.1) ∧ w.cell? ⟨g, j * 3 + 1, none⟩ = some (.int .i64 p.2.1) ∧ w.cell? ⟨g, j * 3 + 2, none⟩ = some (.int .i64 p.2.2) := by
  obtain ⟨cs, F, hsz, hc⟩ := h
  obtain ⟨a, b, c⟩ := hc j p hp
  exact ⟨(F.at_ _).trans a, (F.at_ _).trans b, (F.at_ _).trans c⟩
theorem free (h : HdT cap w g l) (i : Nat) : w.frozen? ⟨g, i, none⟩ = false := by obtain ⟨cs, F, _, _⟩ := h; exact F.free i
theorem over (h : HdT cap w g l) (hb : Below w.heap.size w v) : HdT cap v g l := by
  obtain ⟨cs, F, hsz, hc⟩ := h
  exact ⟨cs, F.over hb F.inside, hsz, hc⟩
theorem drew (h : HdT cap w g l) : HdT cap w.drew g l := h
theorem put (h : HdT cap w g l) {j : Nat} (p : Int × Int × Int) (hj : j < l.length) : HdT cap (((w.setCell ⟨g, j * 3, none⟩ (.int .i64 p.1)).setCell ⟨g, j * 3 + 1, none⟩ (.int .i64 p.2.1)).setCell ⟨g, j * 3 + 2, none⟩ (.int .i64 p.2.2)) g (l.set j p) := by
  obtain ⟨cs, F, hsz, hc⟩ := h
  refine ⟨_, ((F.put _ _).put _ _).put _ _, by rw [Array.size_setIfInBounds, Array.size_setIfInBounds, Array.size_setIfInBounds]; exact hsz, fun i q hq => ?_⟩
  rw [List.getElem?_set] at hq
  by_cases e : j = i
  · subst e
    rw [if_pos rfl, if_pos hj] at hq
    injection hq with hq
    subst hq
    obtain ⟨q0, hq0⟩ : ∃ q0, l[j]? = some q0 := ⟨_, List.getElem?_eq_getElem hj⟩
    obtain ⟨a, b, c⟩ := hc j q0 hq0
    have s0 := (Array.getElem?_eq_some_iff.1 a).1
    have s1 := (Array.getElem?_eq_some_iff.1 b).1
    have s2 := (Array.getElem?_eq_some_iff.1 c).1
    refine ⟨?_, ?_, ?_⟩
    · rw [Array.getElem?_setIfInBounds, if_neg (by omega), Array.getElem?_setIfInBounds, if_neg (by omega), Array.getElem?_setIfInBounds, if_pos rfl, if_pos s0]
    · rw [Array.getElem?_setIfInBounds, if_neg (by omega), Array.getElem?_setIfInBounds, if_pos rfl, if_pos (by rw [Array.size_setIfInBounds]; exact s1)]
    · rw [Array.getElem?_setIfInBounds, if_pos rfl, if_pos (by rw [Array.size_setIfInBounds, Array.size_setIfInBounds]; exact s2)]
  · rw [if_neg e] at hq
    obtain ⟨a, b, c⟩ := hc i q hq
    refine ⟨?_, ?_, ?_⟩
    · rw [Array.getElem?_setIfInBounds, if_neg (by omega), Array.getElem?_setIfInBounds, if_neg (by omega), Array.getElem?_setIfInBounds, if_neg (by omega)]; exact a
    · rw [Array.getElem?_setIfInBounds, if_neg (by omega), Array.getElem?_setIfInBounds, if_neg (by omega), Array.getElem?_setIfInBounds, if_neg (by omega)]; exact b
    · rw [Array.getElem?_setIfInBounds, if_neg (by omega), Array.getElem?_setIfInBounds, if_neg (by omega), Array.getElem?_setIfInBounds, if_neg (by omega)]; exact c
theorem own (h : HdT cap w g l) {base : Nat} (hb : base ≤ g) (h1 : l.length ≤ cap) (h2 : cap ≤ maxLen) : w.ownsRow base 51 3 (.slice (some ⟨g, 0, none⟩) l.length cap) l.length (cells3 l) := by
  obtain ⟨cs, F, hsz, hc⟩ := h
  refine ownMake hb F h1 h2 hsz (by rw [cells3_length]; omega) (fun j hj => ?_)
  obtain ⟨k, r, rfl, hr⟩ : ∃ k r, j = k * 3 + r ∧ r < 3 := ⟨j / 3, j % 3, by omega, Nat.mod_lt _ (by omega)⟩
  have hk : k < l.length := by omega
  have hp : l[k]? = some l[k] := List.getElem?_eq_getElem hk
  obtain ⟨a, b, c⟩ := hc k _ hp
  obtain ⟨a', b', c'⟩ := cells3_at l k _ hp
  rw [Nat.mul_comm] at a' b' c'
  rcases r with _ | _ | _ | r
  · exact a.trans a'.symm
  · exact b.trans b'.symm
  · exact c.trans c'.symm
  · omega
theorem of_own {base n c : Nat} {A : Option Addr} (h : w.ownsRow base 51 3 (.slice A n c) n (cells3 l)) (hA : Value.slice A n c ≠ .slice none 0 0) : ∃ g, A = some ⟨g, 0, none⟩ ∧ base ≤ g ∧ n ≤ c ∧ c ≤ maxLen ∧ HdT c w g l := by
  have hlen := h.1
  rcases ownRow h with ⟨hv, _, _⟩ | ⟨g, cap, cur, hv, hb, F, h1, h2, h3, htk⟩
  · exact absurd hv hA
  · injection hv with hv _ hc
    subst hv hc
    refine ⟨g, rfl, hb, h1, h2, cur, F, h3, fun j p hp => ?_⟩
    have hj := (List.getElem?_eq_some_iff.1 hp).1
    rw [cells3_length] at hlen
    have look : ∀ q, q < n * 3 → cur[q]? = (cells3 l)[q]? := fun q hq => by
      rw [← htk, List.getElem?_take, if_pos hq]; simp
    obtain ⟨a, b, c⟩ := cells3_at l j p hp
    rw [Nat.mul_comm] at a b c
    exact ⟨(look _ (by omega)).trans a, (look _ (by omega)).trans b, (look _ (by omega)).trans c⟩
end HdT
/-- what is asked of the comparison -/
def CmpCT (key : Int × Int × Int → Int) (g : Nat) (w : World) : Prop := ∀ W, w.grownBy W (some g) → ∀ x y : Int × Int × Int, Calls Try.prog 112 #[.agg #[.int .i64 x.1, .int .i64 x.2.1, .int .i64 x.2.2], .agg #[.int .i64 y.1, .int .i64 y.2.1, .int .i64 y.2.2]] W fun e w' => ∃ r : Int, e = .returned (.int .i64 r) ∧ (r < 0 ↔ key x < key y) ∧ -1 ≤ r ∧ r ≤ 1 ∧ Below W.heap.size W w'
theorem CmpCT.use {key : Int × Int × Int → Int} {g : Nat} {w : World} (h : CmpCT key g w) (W : World) (hW : w.grownBy W (some g)) (x y : Int × Int × Int) : Calls Try.prog 112 #[.agg #[.int .i64 x.1, .int .i64 x.2.1, .int .i64 x.2.2], .agg #[.int .i64 y.1, .int .i64 y.2.1, .int .i64 y.2.2]] W fun e w' => ∃ r : Int, e = .returned (.int .i64 r) ∧ (r < 0 ↔ key x < key y) ∧ -1 ≤ r ∧ r ≤ 1 ∧ Below W.heap.size W w' := h W hW x y
theorem CmpCT.grown {key : Int × Int × Int → Int} {g : Nat} {w v : World} (h : CmpCT key g w) (hg : w.grownBy v (some g)) : CmpCT key g v := fun W hW => h W (grownTrans hg hW)
theorem gAllocS {w v : World} {row : Option Nat} (h : w.grownBy v row) (o : Obj) : w.grownBy (v.alloc o) row := grownTrans h (World.grownBy_alloc v o row)
theorem gDrewNS {w v : World} {row : Option Nat} (h : w.grownBy v row) (k : Nat) : w.grownBy (v.drewN k) row := ⟨h.os, h.tape, h.output, h.size, h.block⟩
theorem grownBelS {w v x : World} {row : Option Nat} (h : w.grownBy v row) (hb : Below v.heap.size v x) : w.grownBy x row := grownTrans h (belowGrown hb row)
set_option maxRecDepth 100000 in
set_option maxHeartbeats 4000000 in
theorem swapRangeT_any (a b m : Nat) (az bz mz : Int) (f : Value) (g n cap : Nat) (l : List (Int × Int × Int)) (w : World) (hl : l.length = n) (hn : n ≤ 1000) (hH : HdT cap w g l) (ha : az = (a : Int)) (hb : bz = (b : Int)) (hm : mz = (m : Int)) (h1 : a + m ≤ b) (h2 : b + m ≤ n) :
    Calls Try.prog 154 #[.slice (some ⟨g, 0, none⟩) n cap, .int .i64 az, .int .i64 bz, .int .i64 mz, f] w fun e w' => e = .returned (.tuple #[]) ∧ ∃ r, Exch l r a b m ∧ HdT cap w' g r ∧ w.grownBy w' (some g) := by
  subst ha hb hm
  go_enter Try.func154, Try.ntmps154
  go_wp2_with fail
  go_loopw [10] (fun iv wr => ∃ (k : Nat) (r : List (Int × Int × Int)), iv = .int .i64 k ∧ k ≤ m ∧ Exch l r a b k ∧ HdT cap wr g r ∧ w.grownBy wr (some g)) (fun iv _ => m - (intOf iv).toNat)
  case atStart => exact ⟨0, l, rfl, Nat.zero_le _, exch_zero _ _ _, hH, grownRefl _ _⟩
  case round =>
    obtain ⟨k, r, rfl, hk, hX, hH, hG⟩ := hrel
    have HX := Lib.hid hX
    have HHH := Lib.hid hH
    by_cases hlt : k < m
    · have hr : r.length = n := hX.1.trans hl
      obtain ⟨x, hx⟩ : ∃ x, r[a + k]? = some x := ⟨_, List.getElem?_eq_getElem (by omega)⟩
      obtain ⟨y, hy⟩ : ∃ y, r[b + k]? = some y := ⟨_, List.getElem?_eq_getElem (by omega)⟩
      obtain ⟨c00, c01, c02⟩ := hH.cells hx
      have f00 := hH.free ((a + k) * 3)
      have f01 := hH.free ((a + k) * 3 + 1)
      have f02 := hH.free ((a + k) * 3 + 2)
      obtain ⟨c10, c11, c12⟩ := hH.cells hy
      have f10 := hH.free ((b + k) * 3)
      have f11 := hH.free ((b + k) * 3 + 1)
      have f12 := hH.free ((b + k) * 3 + 2)
      have HS := Lib.hid (exch_step hX (by omega) hx hy)
      have hra : a + k < r.length := by omega
      have hrb : b + k < r.length := by omega
      have HR := Lib.hid (And.intro hra hrb)
      have ia0 : (0 : Int) ≤ (a : Int) + (k : Int) := by omega
      have ib0 : (a : Int) + (k : Int) < (n : Int) := by omega
      have ic0 : ((a : Int) + (k : Int)).toNat = a + k := by omega
      have id0 : IntKind.i64.wrap ((a : Int) + (k : Int)) = (a : Int) + (k : Int) := IntWalk.i64_in _ (by omega)
      have ia1 : (0 : Int) ≤ (b : Int) + (k : Int) := by omega
      have ib1 : (b : Int) + (k : Int) < (n : Int) := by omega
      have ic1 : ((b : Int) + (k : Int)).toNat = b + k := by omega
      have id1 : IntKind.i64.wrap ((b : Int) + (k : Int)) = (b : Int) + (k : Int) := IntWalk.i64_in _ (by omega)
      clear hX hH hr hx hy hl hra hrb
      go_wp2_with fail
      go_big_region
      all_goals go_wp2_with fail
      go_roundw
      case rel => exact ⟨k + 1, (r.set (a + k) y).set (b + k) x, by go_num, by omega, HS.out, ((HHH.out.put y HR.out.1).put x (by rw [List.length_set]; exact HR.out.2)).drew, by repeat' (first | (with_reducible exact grownRefl _ _) | (with_reducible assumption) | (with_reducible refine grownTrans (by with_reducible assumption) ?_) | (with_reducible refine gAllocS ?_ _) | (with_reducible refine grownDrew ?_) | (with_reducible refine gDrewNS ?_ _) | (with_reducible refine grownPut ?_) | (with_reducible refine grownBelS ?_ (by with_reducible assumption)))⟩
      case measure => simp [intOf]; omega
    · obtain rfl : k = m := by omega
      go_wp2_with fail
      go_end0
      exact ⟨rfl, r, HX.out, HHH.out, hG⟩
set_option maxRecDepth 100000 in
set_option maxHeartbeats 4000000 in
theorem rotateT_any (a m b : Nat) (az mz bz : Int) (f : Value) (g n cap : Nat) (l : List (Int × Int × Int)) (w : World) (hl : l.length = n) (hn : n ≤ 1000) (hH : HdT cap w g l) (ha : az = (a : Int)) (hm : mz = (m : Int)) (hb : bz = (b : Int)) (h1 : a < m) (h2 : m < b) (h3 : b ≤ n) :
    Calls Try.prog 152 #[.slice (some ⟨g, 0, none⟩) n cap, .int .i64 az, .int .i64 mz, .int .i64 bz, f] w fun e w' => e = .returned (.tuple #[]) ∧ HdT cap w' g (rot l a m b) ∧ w.grownBy w' (some g) := by
  subst ha hb hm
  go_enter Try.func152, Try.ntmps152
  go_wp2_with fail
  go_loopw [10, 11] (fun iv jv wr => ∃ (i j : Nat) (r : List (Int × Int × Int)), iv = .int .i64 (i : Int) ∧ jv = .int .i64 (j : Int) ∧ 0 < i ∧ 0 < j ∧ a + i ≤ m ∧ m + j ≤ b ∧ Hid (r.length = n) ∧ Hid (rot r (m - i) m (m + j) = rot l a m b) ∧ HdT cap wr g r ∧ w.grownBy wr (some g)) (fun iv jv _ => (intOf iv).toNat + (intOf jv).toNat)
  case atStart => exact ⟨m - a, b - m, l, congrArg (Value.int .i64) (by omega), congrArg (Value.int .i64) (by omega), by omega, by omega, by omega, by omega, Lib.hid hl, Lib.hid (by rw [show m - (m - a) = a by omega, show m + (b - m) = b by omega]), hH, grownRefl _ _⟩
  case round =>
    obtain ⟨i, j, r, rfl, rfl, i0, j0, hai, hmj, HLR, HR, hH, hG⟩ := hrel
    have HHH := Lib.hid hH
    clear hH
    by_cases hij : i = j
    · subst hij
      go_wp2_with (go_at_call 154; (with_reducible refine (swapRangeT_any (m - i) (m) (i) _ _ _ _ g n cap _ _ HLR.out hn HHH.out ?_ ?_ ?_ ?_ ?_).mono ?_); (focus omega); (focus omega); (focus omega); (focus omega); (focus omega); rintro e w2 ⟨rfl, r2, X2, H2, G2⟩)
      go_end0
      exact ⟨rfl, by rw [← HR.out, ← rot_last (by omega) (by rw [HLR.out]; omega) X2]; exact H2, grownTrans hG G2⟩
    · have t0 : ((i : Int) != (j : Int)) = true := by simp; omega
      by_cases hlt : j < i
      · go_wp2_with (go_at_call 154; (with_reducible refine (swapRangeT_any (m - i) (m) (j) _ _ _ _ g n cap _ _ HLR.out hn HHH.out ?_ ?_ ?_ ?_ ?_).mono ?_); (focus omega); (focus omega); (focus omega); (focus omega); (focus omega); rintro e w2 ⟨rfl, r2, X2, H2, G2⟩)
        go_roundw
        case rel => exact ⟨i - j, j, r2, congrArg (Value.int .i64) (by omega), rfl, by omega, j0, by omega, hmj, Lib.hid (X2.1.trans HLR.out), Lib.hid ((rot_left (by omega) (by rw [HLR.out]; omega) hlt X2).trans HR.out), H2, grownTrans hG G2⟩
        case measure => simp [intOf]; omega
      · go_wp2_with (go_at_call 154; (with_reducible refine (swapRangeT_any (m - i) (m + j - i) (i) _ _ _ _ g n cap _ _ HLR.out hn HHH.out ?_ ?_ ?_ ?_ ?_).mono ?_); (focus omega); (focus omega); (focus omega); (focus omega); (focus omega); rintro e w2 ⟨rfl, r2, X2, H2, G2⟩)
        go_roundw
        case rel => exact ⟨i, j - i, r2, rfl, congrArg (Value.int .i64) (by omega), i0, by omega, hai, by omega, Lib.hid (X2.1.trans HLR.out), Lib.hid ((rot_right (by omega) (by rw [HLR.out]; omega) (by omega) X2).trans HR.out), H2, grownTrans hG G2⟩
        case measure => simp [intOf]; omega
set_option maxRecDepth 100000 in
set_option maxHeartbeats 8000000 in
theorem insSortT_any (a b : Nat) (az bz : Int) (key : Int × Int × Int → Int) (g n cap : Nat) (l : List (Int × Int × Int)) (w : World) (hl : l.length = n) (hn : n ≤ 1000) (hH : HdT cap w g l) (hC : CmpCT key g w) (ha : az = (a : Int)) (hb : bz = (b : Int)) (h1 : a ≤ b) (h2 : b ≤ n) :
    Calls Try.prog 144 #[.slice (some ⟨g, 0, none⟩) n cap, .int .i64 az, .int .i64 bz, .func (.func 112) #[] #[]] w fun e w' => e = .returned (.tuple #[]) ∧ ∃ r, Mrg key l r a b ∧ HdT cap w' g r ∧ w.grownBy w' (some g) := by
  subst ha hb
  have HC := Lib.hid hC
  clear hC
  go_enter Try.func144, Try.ntmps144
  go_wp2_with fail
  go_loopw [8] (fun iv wr => ∃ (i : Nat) (r : List (Int × Int × Int)), iv = .int .i64 (i : Int) ∧ a < i ∧ i ≤ b + 1 ∧ Hid (Stab key l r ∧ Out l r a b ∧ Srt key r a i) ∧ HdT cap wr g r ∧ w.grownBy wr (some g)) (fun iv _ => b + 1 - (intOf iv).toNat)
  case atStart => exact ⟨a + 1, l, by go_num, by omega, by omega, Lib.hid ⟨Stab.refl _, Out.refl _ _ _, Srt.small (Nat.le_refl _)⟩, hH, grownRefl _ _⟩
  case round =>
    obtain ⟨i, r, rfl, hai, hib, HI, hH, hG⟩ := hrel
    by_cases hlt : i < b
    · go_wp2_with fail
      go_loopw [9] (fun jv wr => ∃ (j : Nat) (r : List (Int × Int × Int)), jv = .int .i64 (j : Int) ∧ a ≤ j ∧ j ≤ i ∧ Hid (Stab key l r ∧ Out l r a b ∧ InsInv key r a j i) ∧ HdT cap wr g r ∧ w.grownBy wr (some g)) (fun jv _ => (intOf jv).toNat)
      case atStart => exact ⟨i, r, rfl, by omega, Nat.le_refl _, Lib.hid ⟨HI.out.1, HI.out.2.1, ins_start HI.out.2.2⟩, hH, hG⟩
      case round =>
        clear HI hH hG
        obtain ⟨j, r, rfl, haj, hji, HI, hH, hG⟩ := hrel
        have hgi := hH.inside
        have HHH := Lib.hid hH
        by_cases hja : a < j
        · obtain ⟨jp, rfl⟩ : ∃ jp, j = jp + 1 := ⟨j - 1, by omega⟩
          have hr : r.length = n := HI.out.1.length.symm.trans hl
          have HR := Lib.hid hr
          obtain ⟨x, hx⟩ : ∃ x, r[jp]? = some x := ⟨_, List.getElem?_eq_getElem (by omega)⟩
          obtain ⟨y, hy⟩ : ∃ y, r[jp + 1]? = some y := ⟨_, List.getElem?_eq_getElem (by omega)⟩
          obtain ⟨c00, c01, c02⟩ := hH.cells hy
          have f00 := hH.free ((jp + 1) * 3)
          have f01 := hH.free ((jp + 1) * 3 + 1)
          have f02 := hH.free ((jp + 1) * 3 + 2)
          obtain ⟨c10, c11, c12⟩ := hH.cells hx
          have f10 := hH.free (jp * 3)
          have f11 := hH.free (jp * 3 + 1)
          have f12 := hH.free (jp * 3 + 2)
          have HXY := Lib.hid (And.intro hx hy)
          have ia0 : (0 : Int) ≤ (jp : Int) + 1 := by omega
          have ib0 : (jp : Int) + 1 < (n : Int) := by omega
          have ic0 : ((jp : Int) + 1).toNat = jp + 1 := by omega
          have id0 : IntKind.i64.wrap ((jp : Int) + 1) = (jp : Int) + 1 := IntWalk.i64_in _ (by omega)
          have ia1 : (0 : Int) ≤ (jp : Int) := by omega
          have ib1 : (jp : Int) < (n : Int) := by omega
          have ie1 : (jp : Int) + 1 - 1 = (jp : Int) := by omega
          have if1 : IntKind.i64.wrap ((jp : Int) + 1 - 1) = (jp : Int) := (IntWalk.i64_in _ (by omega)).trans ie1
          have ig1 : IntKind.i64.wrap (jp : Int) = (jp : Int) := IntWalk.i64_in _ (by omega)
          have tg : decide ((a : Int) < (jp : Int) + 1) = true := decide_eq_true (by omega)
          clear hr hx hy hH hl
          by_cases hk : key y < key x
          · go_wp2_with fail
            go_region_held3 (fun w' => w'.cell? ⟨g, (jp + 1) * 3, none⟩ = some (.int .i64 y.1) ∧ w'.cell? ⟨g, (jp + 1) * 3 + 1, none⟩ = some (.int .i64 y.2.1) ∧ w'.cell? ⟨g, (jp + 1) * 3 + 2, none⟩ = some (.int .i64 y.2.2) ∧ w'.cell? ⟨g, jp * 3, none⟩ = some (.int .i64 x.1) ∧ w'.cell? ⟨g, jp * 3 + 1, none⟩ = some (.int .i64 x.2.1) ∧ w'.cell? ⟨g, jp * 3 + 2, none⟩ = some (.int .i64 x.2.2)) (go_keep) (first | (go_at_call 112; (with_reducible refine (CmpCT.use HC.out _ (by repeat' (first | (with_reducible exact grownRefl _ _) | (with_reducible assumption) | (with_reducible refine grownTrans (by with_reducible assumption) ?_) | (with_reducible refine gAllocS ?_ _) | (with_reducible refine grownDrew ?_) | (with_reducible refine gDrewNS ?_ _) | (with_reducible refine grownPut ?_) | (with_reducible refine grownBelS ?_ (by with_reducible assumption)))) y x).mono ?_); rintro e w2 ⟨rr, rfl, hrr, rr1, rr2, hb2⟩; have hR2 := hrr.2 hk; have hRb : decide (rr < 0) = true := decide_eq_true hR2; have hB2 : Below wr.heap.size wr w2 := Below.trans (by repeat' (first | (with_reducible exact Below.refl _ _) | (with_reducible assumption) | (with_reducible refine Below.alloc ?_ ?_ _) | (with_reducible refine Below.drew ?_) | (with_reducible refine belowDraws ?_ _) | (with_reducible refine Below.setCell ?_ ?_ _) | omega | (simp; done) | (simp; omega))) (hb2.mono (by first | omega | (simp; done) | (simp; omega))); have z2 := hB2.size; have q00 := (hB2.cell (p := ⟨g, (jp + 1) * 3, none⟩) hgi).trans c00; have q01 := (hB2.cell (p := ⟨g, (jp + 1) * 3 + 1, none⟩) hgi).trans c01; have q02 := (hB2.cell (p := ⟨g, (jp + 1) * 3 + 2, none⟩) hgi).trans c02; have q10 := (hB2.cell (p := ⟨g, jp * 3, none⟩) hgi).trans c10; have q11 := (hB2.cell (p := ⟨g, jp * 3 + 1, none⟩) hgi).trans c11; have q12 := (hB2.cell (p := ⟨g, jp * 3 + 2, none⟩) hgi).trans c12; clear hb2 hrr))
            have HH2 := HHH.out.over hB2
            have HH2' := Lib.hid HH2
            have G2 : w.grownBy w2 (some g) := grownTrans hG (belowGrown hB2 _)
            have hH := HH2
            clear q00 q10 f00 f10 c00 c10 hB2
            clear q01 q02 q11 q12 f01 f02 f11 f12 c01 c02 c11 c12
            obtain ⟨c00, c01, c02⟩ := hH.cells HXY.out.2
            have f00 := hH.free ((jp + 1) * 3)
            have f01 := hH.free ((jp + 1) * 3 + 1)
            have f02 := hH.free ((jp + 1) * 3 + 2)
            obtain ⟨c10, c11, c12⟩ := hH.cells HXY.out.1
            have f10 := hH.free (jp * 3)
            have f11 := hH.free (jp * 3 + 1)
            have f12 := hH.free (jp * 3 + 2)
            clear hH HH2
            go_wp2_with fail
            go_big_region
            all_goals go_wp2_with fail
            go_roundw
            case rel =>
              refine ⟨jp, (r.set (jp + 1) x).set jp y, rfl, by omega, by omega, Lib.hid ⟨HI.out.1.trans (Stab.adj' HXY.out.1 HXY.out.2 (by omega)), HI.out.2.1.trans (Out.swap HXY.out.2 HXY.out.1 (by omega) (by omega) (by omega) (by omega)), ins_step HI.out.2.2 (by omega) (by omega) HXY.out.1 HXY.out.2 hk⟩, ?_, by repeat' (first | (with_reducible exact grownRefl _ _) | (with_reducible assumption) | (with_reducible refine grownTrans (by with_reducible assumption) ?_) | (with_reducible refine gAllocS ?_ _) | (with_reducible refine grownDrew ?_) | (with_reducible refine gDrewNS ?_ _) | (with_reducible refine grownPut ?_) | (with_reducible refine grownBelS ?_ (by with_reducible assumption)))⟩
              exact ((HH2'.out.put x (by rw [HR.out]; omega)).put y (by rw [List.length_set, HR.out]; omega)).drew
            case measure => simp [intOf]
          · go_wp2_with fail
            go_region_held3 (fun w' => w'.cell? ⟨g, (jp + 1) * 3, none⟩ = some (.int .i64 y.1) ∧ w'.cell? ⟨g, (jp + 1) * 3 + 1, none⟩ = some (.int .i64 y.2.1) ∧ w'.cell? ⟨g, (jp + 1) * 3 + 2, none⟩ = some (.int .i64 y.2.2) ∧ w'.cell? ⟨g, jp * 3, none⟩ = some (.int .i64 x.1) ∧ w'.cell? ⟨g, jp * 3 + 1, none⟩ = some (.int .i64 x.2.1) ∧ w'.cell? ⟨g, jp * 3 + 2, none⟩ = some (.int .i64 x.2.2)) (go_keep) (first | (go_at_call 112; (with_reducible refine (CmpCT.use HC.out _ (by repeat' (first | (with_reducible exact grownRefl _ _) | (with_reducible assumption) | (with_reducible refine grownTrans (by with_reducible assumption) ?_) | (with_reducible refine gAllocS ?_ _) | (with_reducible refine grownDrew ?_) | (with_reducible refine gDrewNS ?_ _) | (with_reducible refine grownPut ?_) | (with_reducible refine grownBelS ?_ (by with_reducible assumption)))) y x).mono ?_); rintro e w2 ⟨rr, rfl, hrr, rr1, rr2, hb2⟩; have hR2 := (show ¬ rr < 0 from fun h => by have := hrr.1 h; omega); have hRb : decide (rr < 0) = false := decide_eq_false hR2; have hB2 : Below wr.heap.size wr w2 := Below.trans (by repeat' (first | (with_reducible exact Below.refl _ _) | (with_reducible assumption) | (with_reducible refine Below.alloc ?_ ?_ _) | (with_reducible refine Below.drew ?_) | (with_reducible refine belowDraws ?_ _) | (with_reducible refine Below.setCell ?_ ?_ _) | omega | (simp; done) | (simp; omega))) (hb2.mono (by first | omega | (simp; done) | (simp; omega))); have z2 := hB2.size; have q00 := (hB2.cell (p := ⟨g, (jp + 1) * 3, none⟩) hgi).trans c00; have q01 := (hB2.cell (p := ⟨g, (jp + 1) * 3 + 1, none⟩) hgi).trans c01; have q02 := (hB2.cell (p := ⟨g, (jp + 1) * 3 + 2, none⟩) hgi).trans c02; have q10 := (hB2.cell (p := ⟨g, jp * 3, none⟩) hgi).trans c10; have q11 := (hB2.cell (p := ⟨g, jp * 3 + 1, none⟩) hgi).trans c11; have q12 := (hB2.cell (p := ⟨g, jp * 3 + 2, none⟩) hgi).trans c12; clear hb2 hrr))
            have HH2 := HHH.out.over hB2
            have G2 : w.grownBy w2 (some g) := grownTrans hG (belowGrown hB2 _)
            go_wp2_with fail
            go_roundw
            case rel => exact ⟨i + 1, r, by go_num, by omega, by omega, Lib.hid ⟨HI.out.1, HI.out.2.1, ins_end HI.out.2.2 haj hji (.inr ⟨jp, x, y, rfl, HXY.out.1, HXY.out.2, by omega⟩)⟩, HH2, G2⟩
            case measure => simp [intOf]; omega
        · obtain rfl : j = a := by omega
          have tg : decide ((j : Int) < (j : Int)) = false := decide_eq_false (by omega)
          clear hl
          go_wp2_with fail
          go_quiet (fail)
          go_wp2_with fail
          go_roundw
          case rel => exact ⟨i + 1, r, by go_num, by omega, by omega, Lib.hid ⟨HI.out.1, HI.out.2.1, ins_end HI.out.2.2 (Nat.le_refl _) hji (.inl rfl)⟩, HHH.out, by repeat' (first | (with_reducible exact grownRefl _ _) | (with_reducible assumption) | (with_reducible refine grownTrans (by with_reducible assumption) ?_) | (with_reducible refine gAllocS ?_ _) | (with_reducible refine grownDrew ?_) | (with_reducible refine gDrewNS ?_ _) | (with_reducible refine grownPut ?_) | (with_reducible refine grownBelS ?_ (by with_reducible assumption)))⟩
          case measure => simp [intOf]; omega
    · go_wp2_with fail
      go_end0
      exact ⟨rfl, r, ⟨HI.out.1, HI.out.2.2.sub (Nat.le_refl _) (by omega), HI.out.2.1⟩, hH, hG⟩
end Go.Proofs.Ytkblmcpklpmobaa

/- The library's stable sort at one instance (indices by right ends). No condition. -/
import Derived.Test.YtpbhncgjnmaojaaGreatDoorStab
import Derived.Test.YtpbhncgjnmaojaaGreatDoorOwn
import Derived.Deep.RegionHeld3
import Derived.BigQuiet
import Derived.BigRegion

namespace Go.Proofs.YtpbhncgjnmaojaaGreatDoor
open Go.RowKit
set_option linter.unusedVariables false
set_option linter.unusedSimpArgs false

variable {N : Nat}
/-- block g holds the numbers l at its head -/
def HdI (cap : Nat) (w : World) (g : Nat) (l : List (Fin N)) : Prop := ∃ cs, Full w g 2 cs ∧ cs.size = cap ∧ ∀ (j : Nat) (p : Fin N), l[j]? = some p → cs[j]? = some (.int .i64 (p.1 : Int))
namespace HdI
variable {w v : World} {g cap : Nat} {l : List (Fin N)}
theorem inside (h : HdI cap w g l) : g < w.heap.size := by obtain ⟨cs, F, _, _⟩ := h; exact F.inside
theorem cells (h : HdI cap w g l) {j : Nat} {p : Fin N} (hp : l[j]? = some p) : w.cell? ⟨g, j, none⟩ = some (.int .i64 (p.1 : Int)) := by
  obtain ⟨cs, F, hsz, hc⟩ := h
  exact (F.at_ _).trans (hc j p hp)
theorem free (h : HdI cap w g l) (i : Nat) : w.frozen? ⟨g, i, none⟩ = false := by obtain ⟨cs, F, _, _⟩ := h; exact F.free i
theorem over (h : HdI cap w g l) (hb : Below w.heap.size w v) : HdI cap v g l := by
  obtain ⟨cs, F, hsz, hc⟩ := h
  exact ⟨cs, F.over hb F.inside, hsz, hc⟩
theorem drew (h : HdI cap w g l) : HdI cap w.drew g l := h
theorem put (h : HdI cap w g l) {j : Nat} (p : Fin N) (hj : j < l.length) : HdI cap (w.setCell ⟨g, j, none⟩ (.int .i64 (p.1 : Int))) g (l.set j p) := by
  obtain ⟨cs, F, hsz, hc⟩ := h
  refine ⟨_, F.put _ _, by rw [Array.size_setIfInBounds]; exact hsz, fun i q hq => ?_⟩
  rw [List.getElem?_set] at hq
  by_cases e : j = i
  · subst e
    rw [if_pos rfl, if_pos hj] at hq
    injection hq with hq
    subst hq
    have s0 := (Array.getElem?_eq_some_iff.1 (hc j _ (List.getElem?_eq_getElem hj))).1
    rw [Array.getElem?_setIfInBounds, if_pos rfl, if_pos s0]
  · rw [if_neg e] at hq
    rw [Array.getElem?_setIfInBounds, if_neg e]
    exact hc i q hq
theorem own (h : HdI cap w g l) {base : Nat} (hb : base ≤ g) (h1 : l.length ≤ cap) (h2 : cap ≤ maxLen) : w.ownsRow base 2 1 (.slice (some ⟨g, 0, none⟩) l.length cap) l.length (l.map fun (p : Fin N) => Value.int .i64 (p.1 : Int)) := by
  obtain ⟨cs, F, hsz, hc⟩ := h
  refine ownMake hb F h1 h2 (by omega) (by rw [List.length_map]; omega) (fun j hj => ?_)
  have hp : l[j]? = some l[j] := List.getElem?_eq_getElem (by omega)
  rw [hc j _ hp, List.getElem?_map, hp]
  rfl
theorem of_own {base n c : Nat} {A : Option Addr} (h : w.ownsRow base 2 1 (.slice A n c) n (l.map fun (p : Fin N) => Value.int .i64 (p.1 : Int))) (hA : Value.slice A n c ≠ .slice none 0 0) : ∃ g, A = some ⟨g, 0, none⟩ ∧ base ≤ g ∧ n ≤ c ∧ c ≤ maxLen ∧ HdI c w g l := by
  have hlen := h.1
  rcases ownRow h with ⟨hv, _, _⟩ | ⟨g, cap, cur, hv, hb, F, h1, h2, h3, htk⟩
  · exact absurd hv hA
  · injection hv with hv _ hc
    subst hv hc
    refine ⟨g, rfl, hb, h1, h2, cur, F, by omega, fun j p hp => ?_⟩
    have hj := (List.getElem?_eq_some_iff.1 hp).1
    rw [List.length_map] at hlen
    have look : cur[j]? = (l.map fun (p : Fin N) => Value.int .i64 (p.1 : Int))[j]? := by
      rw [← htk, List.getElem?_take, if_pos (by omega)]; simp
    rw [look, List.getElem?_map, hp]
    rfl
end HdI
/-- what is asked of the comparison -/
def CmpCI (key : Fin N → Int) (bx : Nat) (g : Nat) (w : World) : Prop := ∀ W, w.grownBy W (some g) → ∀ x y : Fin N, Calls Tryz.prog 44 #[.int .i64 (x.1 : Int), .int .i64 (y.1 : Int), .pointer (some ⟨bx, 0, none⟩)] W fun e w' => ∃ r : Int, e = .returned (.int .i64 r) ∧ (r < 0 ↔ key x < key y) ∧ -1 ≤ r ∧ r ≤ 1 ∧ Below W.heap.size W w'
theorem CmpCI.use {key : Fin N → Int} {bx : Nat} {g : Nat} {w : World} (h : CmpCI key bx g w) (W : World) (hW : w.grownBy W (some g)) (x y : Fin N) : Calls Tryz.prog 44 #[.int .i64 (x.1 : Int), .int .i64 (y.1 : Int), .pointer (some ⟨bx, 0, none⟩)] W fun e w' => ∃ r : Int, e = .returned (.int .i64 r) ∧ (r < 0 ↔ key x < key y) ∧ -1 ≤ r ∧ r ≤ 1 ∧ Below W.heap.size W w' := h W hW x y
theorem CmpCI.grown {key : Fin N → Int} {bx : Nat} {g : Nat} {w v : World} (h : CmpCI key bx g w) (hg : w.grownBy v (some g)) : CmpCI key bx g v := fun W hW => h W (grownTrans hg hW)
theorem gAllocS {w v : World} {row : Option Nat} (h : w.grownBy v row) (o : Obj) : w.grownBy (v.alloc o) row := grownTrans h (World.grownBy_alloc v o row)
theorem gDrewNS {w v : World} {row : Option Nat} (h : w.grownBy v row) (k : Nat) : w.grownBy (v.drewN k) row := ⟨h.os, h.tape, h.output, h.size, h.block⟩
theorem grownBelS {w v x : World} {row : Option Nat} (h : w.grownBy v row) (hb : Below v.heap.size v x) : w.grownBy x row := grownTrans h (belowGrown hb row)
set_option maxRecDepth 100000 in
set_option maxHeartbeats 4000000 in
theorem swapRangeI_any (a b m : Nat) (az bz mz : Int) (f : Value) (g n cap : Nat) (l : List (Fin N)) (w : World) (hl : l.length = n) (hn : n ≤ 1000) (hH : HdI cap w g l) (ha : az = (a : Int)) (hb : bz = (b : Int)) (hm : mz = (m : Int)) (h1 : a + m ≤ b) (h2 : b + m ≤ n) :
    Calls Tryz.prog 92 #[.slice (some ⟨g, 0, none⟩) n cap, .int .i64 az, .int .i64 bz, .int .i64 mz, f] w fun e w' => e = .returned (.tuple #[]) ∧ ∃ r, Exch l r a b m ∧ HdI cap w' g r ∧ w.grownBy w' (some g) := by
  subst ha hb hm
  go_enter Tryz.func92, Tryz.ntmps92
  go_wp2_with fail
  go_loopw [10] (fun iv wr => ∃ (k : Nat) (r : List (Fin N)), iv = .int .i64 k ∧ k ≤ m ∧ Exch l r a b k ∧ HdI cap wr g r ∧ w.grownBy wr (some g)) (fun iv _ => m - (intOf iv).toNat)
  case atStart => exact ⟨0, l, rfl, Nat.zero_le _, exch_zero _ _ _, hH, grownRefl _ _⟩
  case round =>
    obtain ⟨k, r, rfl, hk, hX, hH, hG⟩ := hrel
    have HX := Lib.hid hX
    have HHH := Lib.hid hH
    by_cases hlt : k < m
    · have hr : r.length = n := hX.1.trans hl
      obtain ⟨x, hx⟩ : ∃ x, r[a + k]? = some x := ⟨_, List.getElem?_eq_getElem (by omega)⟩
      obtain ⟨y, hy⟩ : ∃ y, r[b + k]? = some y := ⟨_, List.getElem?_eq_getElem (by omega)⟩
      have c00 := hH.cells hx
      have f00 := hH.free ((a + k))
      have c10 := hH.cells hy
      have f10 := hH.free ((b + k))
      have HS := Lib.hid (exch_step hX (by omega) hx hy)
      have hra : a + k < r.length := by omega
      have hrb : b + k < r.length := by omega
      have HR := Lib.hid (And.intro hra hrb)
      have ia0 : (0 : Int) ≤ (a : Int) + (k : Int) := by omega
      have ib0 : (a : Int) + (k : Int) < (n : Int) := by omega
      have ic0 : ((a : Int) + (k : Int)).toNat = a + k := by omega
      have id0 : IntKind.i64.wrap ((a : Int) + (k : Int)) = (a : Int) + (k : Int) := IntWalk.i64_in _ (by omega)
      have ia1 : (0 : Int) ≤ (b : Int) + (k : Int) := by omega
      have ib1 : (b : Int) + (k : Int) < (n : Int) := by omega
      have ic1 : ((b : Int) + (k : Int)).toNat = b + k := by omega
      have id1 : IntKind.i64.wrap ((b : Int) + (k : Int)) = (b : Int) + (k : Int) := IntWalk.i64_in _ (by omega)
      clear hX hH hr hx hy hl hra hrb
      go_wp2_with fail
      go_big_region
      all_goals go_wp2_with fail
      go_roundw
      case rel => exact ⟨k + 1, (r.set (a + k) y).set (b + k) x, by go_num, by omega, HS.out, ((HHH.out.put y HR.out.1).put x (by rw [List.length_set]; exact HR.out.2)).drew, by repeat' (first | (with_reducible exact grownRefl _ _) | (with_reducible assumption) | (with_reducible refine grownTrans (by with_reducible assumption) ?_) | (with_reducible refine gAllocS ?_ _) | (with_reducible refine grownDrew ?_) | (with_reducible refine gDrewNS ?_ _) | (with_reducible refine grownPut ?_) | (with_reducible refine grownBelS ?_ (by with_reducible assumption)))⟩
      case measure => simp [intOf]; omega
    · obtain rfl : k = m := by omega
      go_wp2_with fail
      go_end0
      exact ⟨rfl, r, HX.out, HHH.out, hG⟩
set_option maxRecDepth 100000 in
set_option maxHeartbeats 4000000 in
theorem rotateI_any (a m b : Nat) (az mz bz : Int) (f : Value) (g n cap : Nat) (l : List (Fin N)) (w : World) (hl : l.length = n) (hn : n ≤ 1000) (hH : HdI cap w g l) (ha : az = (a : Int)) (hm : mz = (m : Int)) (hb : bz = (b : Int)) (h1 : a < m) (h2 : m < b) (h3 : b ≤ n) :
    Calls Tryz.prog 86 #[.slice (some ⟨g, 0, none⟩) n cap, .int .i64 az, .int .i64 mz, .int .i64 bz, f] w fun e w' => e = .returned (.tuple #[]) ∧ HdI cap w' g (rot l a m b) ∧ w.grownBy w' (some g) := by
  subst ha hb hm
  go_enter Tryz.func86, Tryz.ntmps86
  go_wp2_with fail
  go_loopw [10, 11] (fun iv jv wr => ∃ (i j : Nat) (r : List (Fin N)), iv = .int .i64 (i : Int) ∧ jv = .int .i64 (j : Int) ∧ 0 < i ∧ 0 < j ∧ a + i ≤ m ∧ m + j ≤ b ∧ Hid (r.length = n) ∧ Hid (rot r (m - i) m (m + j) = rot l a m b) ∧ HdI cap wr g r ∧ w.grownBy wr (some g)) (fun iv jv _ => (intOf iv).toNat + (intOf jv).toNat)
  case atStart => exact ⟨m - a, b - m, l, congrArg (Value.int .i64) (by omega), congrArg (Value.int .i64) (by omega), by omega, by omega, by omega, by omega, Lib.hid hl, Lib.hid (by rw [show m - (m - a) = a by omega, show m + (b - m) = b by omega]), hH, grownRefl _ _⟩
  case round =>
    obtain ⟨i, j, r, rfl, rfl, i0, j0, hai, hmj, HLR, HR, hH, hG⟩ := hrel
    have HHH := Lib.hid hH
    clear hH
    by_cases hij : i = j
    · subst hij
      go_wp2_with (go_at_call 92; (with_reducible refine (swapRangeI_any (m - i) (m) (i) _ _ _ _ g n cap _ _ HLR.out hn HHH.out ?_ ?_ ?_ ?_ ?_).mono ?_); (focus omega); (focus omega); (focus omega); (focus omega); (focus omega); rintro e w2 ⟨rfl, r2, X2, H2, G2⟩)
      go_end0
      exact ⟨rfl, by rw [← HR.out, ← rot_last (by omega) (by rw [HLR.out]; omega) X2]; exact H2, grownTrans hG G2⟩
    · have t0 : ((i : Int) != (j : Int)) = true := by simp; omega
      by_cases hlt : j < i
      · go_wp2_with (go_at_call 92; (with_reducible refine (swapRangeI_any (m - i) (m) (j) _ _ _ _ g n cap _ _ HLR.out hn HHH.out ?_ ?_ ?_ ?_ ?_).mono ?_); (focus omega); (focus omega); (focus omega); (focus omega); (focus omega); rintro e w2 ⟨rfl, r2, X2, H2, G2⟩)
        go_roundw
        case rel => exact ⟨i - j, j, r2, congrArg (Value.int .i64) (by omega), rfl, by omega, j0, by omega, hmj, Lib.hid (X2.1.trans HLR.out), Lib.hid ((rot_left (by omega) (by rw [HLR.out]; omega) hlt X2).trans HR.out), H2, grownTrans hG G2⟩
        case measure => simp [intOf]; omega
      · go_wp2_with (go_at_call 92; (with_reducible refine (swapRangeI_any (m - i) (m + j - i) (i) _ _ _ _ g n cap _ _ HLR.out hn HHH.out ?_ ?_ ?_ ?_ ?_).mono ?_); (focus omega); (focus omega); (focus omega); (focus omega); (focus omega); rintro e w2 ⟨rfl, r2, X2, H2, G2⟩)
        go_roundw
        case rel => exact ⟨i, j - i, r2, rfl, congrArg (Value.int .i64) (by omega), i0, by omega, hai, by omega, Lib.hid (X2.1.trans HLR.out), Lib.hid ((rot_right (by omega) (by rw [HLR.out]; omega) (by omega) X2).trans HR.out), H2, grownTrans hG G2⟩
        case measure => simp [intOf]; omega
set_option maxRecDepth 100000 in
set_option maxHeartbeats 8000000 in
theorem insSortI_any (a b : Nat) (az bz : Int) (bx : Nat) (key : Fin N → Int) (g n cap : Nat) (l : List (Fin N)) (w : World) (hl : l.length = n) (hn : n ≤ 1000) (hH : HdI cap w g l) (hC : CmpCI key bx g w) (ha : az = (a : Int)) (hb : bz = (b : Int)) (h1 : a ≤ b) (h2 : b ≤ n) :
    Calls Tryz.prog 73 #[.slice (some ⟨g, 0, none⟩) n cap, .int .i64 az, .int .i64 bz, .func (.func 44) #[] #[.pointer (some ⟨bx, 0, none⟩)]] w fun e w' => e = .returned (.tuple #[]) ∧ ∃ r, Mrg key l r a b ∧ HdI cap w' g r ∧ w.grownBy w' (some g) := by
  subst ha hb
  have HC := Lib.hid hC
  clear hC
  go_enter Tryz.func73, Tryz.ntmps73
  go_wp2_with fail
  go_loopw [8] (fun iv wr => ∃ (i : Nat) (r : List (Fin N)), iv = .int .i64 (i : Int) ∧ a < i ∧ i ≤ b + 1 ∧ Hid (Stab key l r ∧ Out l r a b ∧ Srt key r a i) ∧ HdI cap wr g r ∧ w.grownBy wr (some g)) (fun iv _ => b + 1 - (intOf iv).toNat)
  case atStart => exact ⟨a + 1, l, by go_num, by omega, by omega, Lib.hid ⟨Stab.refl _, Out.refl _ _ _, Srt.small (Nat.le_refl _)⟩, hH, grownRefl _ _⟩
  case round =>
    obtain ⟨i, r, rfl, hai, hib, HI, hH, hG⟩ := hrel
    by_cases hlt : i < b
    · go_wp2_with fail
      go_loopw [9] (fun jv wr => ∃ (j : Nat) (r : List (Fin N)), jv = .int .i64 (j : Int) ∧ a ≤ j ∧ j ≤ i ∧ Hid (Stab key l r ∧ Out l r a b ∧ InsInv key r a j i) ∧ HdI cap wr g r ∧ w.grownBy wr (some g)) (fun jv _ => (intOf jv).toNat)
      case atStart => exact ⟨i, r, rfl, by omega, Nat.le_refl _, Lib.hid ⟨HI.out.1, HI.out.2.1, ins_start HI.out.2.2⟩, hH, hG⟩
      case round =>
        clear HI hH hG
        obtain ⟨j, r, rfl, haj, hji, HI, hH, hG⟩ := hrel
        have hgi := hH.inside
        have HHH := Lib.hid hH
        by_cases hja : a < j
        · obtain ⟨jp, rfl⟩ : ∃ jp, j = jp + 1 := ⟨j - 1, by omega⟩
          have hr : r.length = n := HI.out.1.length.symm.trans hl
          have HR := Lib.hid hr
          obtain ⟨x, hx⟩ : ∃ x, r[jp]? = some x := ⟨_, List.getElem?_eq_getElem (by omega)⟩
          obtain ⟨y, hy⟩ : ∃ y, r[jp + 1]? = some y := ⟨_, List.getElem?_eq_getElem (by omega)⟩
          have c00 := hH.cells hy
          have f00 := hH.free ((jp + 1))
          have c10 := hH.cells hx
          have f10 := hH.free (jp)
          have HXY := Lib.hid (And.intro hx hy)
          have ia0 : (0 : Int) ≤ (jp : Int) + 1 := by omega
          have ib0 : (jp : Int) + 1 < (n : Int) := by omega
          have ic0 : ((jp : Int) + 1).toNat = jp + 1 := by omega
          have id0 : IntKind.i64.wrap ((jp : Int) + 1) = (jp : Int) + 1 := IntWalk.i64_in _ (by omega)
          have ia1 : (0 : Int) ≤ (jp : Int) := by omega
          have ib1 : (jp : Int) < (n : Int) := by omega
          have ie1 : (jp : Int) + 1 - 1 = (jp : Int) := by omega
          have if1 : IntKind.i64.wrap ((jp : Int) + 1 - 1) = (jp : Int) := (IntWalk.i64_in _ (by omega)).trans ie1
          have ig1 : IntKind.i64.wrap (jp : Int) = (jp : Int) := IntWalk.i64_in _ (by omega)
          have tg : decide ((a : Int) < (jp : Int) + 1) = true := decide_eq_true (by omega)
          clear hr hx hy hH hl
          by_cases hk : key y < key x
          · go_wp2_with fail
            go_region_held3 (fun w' => w'.cell? ⟨g, (jp + 1), none⟩ = some (.int .i64 (y.1 : Int)) ∧ w'.cell? ⟨g, jp, none⟩ = some (.int .i64 (x.1 : Int))) (go_keep) (first | (go_at_call 44; (with_reducible refine (CmpCI.use HC.out _ (by repeat' (first | (with_reducible exact grownRefl _ _) | (with_reducible assumption) | (with_reducible refine grownTrans (by with_reducible assumption) ?_) | (with_reducible refine gAllocS ?_ _) | (with_reducible refine grownDrew ?_) | (with_reducible refine gDrewNS ?_ _) | (with_reducible refine grownPut ?_) | (with_reducible refine grownBelS ?_ (by with_reducible assumption)))) y x).mono ?_); rintro e w2 ⟨rr, rfl, hrr, rr1, rr2, hb2⟩; have hR2 := hrr.2 hk; have hRb : decide (rr < 0) = true := decide_eq_true hR2; have hB2 : Below wr.heap.size wr w2 := Below.trans (by repeat' (first | (with_reducible exact Below.refl _ _) | (with_reducible assumption) | (with_reducible refine Below.alloc ?_ ?_ _) | (with_reducible refine Below.drew ?_) | (with_reducible refine belowDraws ?_ _) | (with_reducible refine Below.setCell ?_ ?_ _) | omega | (simp; done) | (simp; omega))) (hb2.mono (by first | omega | (simp; done) | (simp; omega))); have z2 := hB2.size; have q00 := (hB2.cell (p := ⟨g, (jp + 1), none⟩) hgi).trans c00; have q10 := (hB2.cell (p := ⟨g, jp, none⟩) hgi).trans c10; clear hb2 hrr))
            have HH2 := HHH.out.over hB2
            have HH2' := Lib.hid HH2
            have G2 : w.grownBy w2 (some g) := grownTrans hG (belowGrown hB2 _)
            have hH := HH2
            clear q00 q10 f00 f10 c00 c10 hB2
            skip
            have c00 := hH.cells HXY.out.2
            have f00 := hH.free ((jp + 1))
            have c10 := hH.cells HXY.out.1
            have f10 := hH.free (jp)
            clear hH HH2
            go_wp2_with fail
            go_big_region
            all_goals go_wp2_with fail
            go_roundw
            case rel =>
              refine ⟨jp, (r.set (jp + 1) x).set jp y, rfl, by omega, by omega, Lib.hid ⟨HI.out.1.trans (Stab.adj' HXY.out.1 HXY.out.2 (by omega)), HI.out.2.1.trans (Out.swap HXY.out.2 HXY.out.1 (by omega) (by omega) (by omega) (by omega)), ins_step HI.out.2.2 (by omega) (by omega) HXY.out.1 HXY.out.2 hk⟩, ?_, by repeat' (first | (with_reducible exact grownRefl _ _) | (with_reducible assumption) | (with_reducible refine grownTrans (by with_reducible assumption) ?_) | (with_reducible refine gAllocS ?_ _) | (with_reducible refine grownDrew ?_) | (with_reducible refine gDrewNS ?_ _) | (with_reducible refine grownPut ?_) | (with_reducible refine grownBelS ?_ (by with_reducible assumption)))⟩
              exact ((HH2'.out.put x (by rw [HR.out]; omega)).put y (by rw [List.length_set, HR.out]; omega)).drew
            case measure => simp [intOf]
          · go_wp2_with fail
            go_region_held3 (fun w' => w'.cell? ⟨g, (jp + 1), none⟩ = some (.int .i64 (y.1 : Int)) ∧ w'.cell? ⟨g, jp, none⟩ = some (.int .i64 (x.1 : Int))) (go_keep) (first | (go_at_call 44; (with_reducible refine (CmpCI.use HC.out _ (by repeat' (first | (with_reducible exact grownRefl _ _) | (with_reducible assumption) | (with_reducible refine grownTrans (by with_reducible assumption) ?_) | (with_reducible refine gAllocS ?_ _) | (with_reducible refine grownDrew ?_) | (with_reducible refine gDrewNS ?_ _) | (with_reducible refine grownPut ?_) | (with_reducible refine grownBelS ?_ (by with_reducible assumption)))) y x).mono ?_); rintro e w2 ⟨rr, rfl, hrr, rr1, rr2, hb2⟩; have hR2 := (show ¬ rr < 0 from fun h => by have := hrr.1 h; omega); have hRb : decide (rr < 0) = false := decide_eq_false hR2; have hB2 : Below wr.heap.size wr w2 := Below.trans (by repeat' (first | (with_reducible exact Below.refl _ _) | (with_reducible assumption) | (with_reducible refine Below.alloc ?_ ?_ _) | (with_reducible refine Below.drew ?_) | (with_reducible refine belowDraws ?_ _) | (with_reducible refine Below.setCell ?_ ?_ _) | omega | (simp; done) | (simp; omega))) (hb2.mono (by first | omega | (simp; done) | (simp; omega))); have z2 := hB2.size; have q00 := (hB2.cell (p := ⟨g, (jp + 1), none⟩) hgi).trans c00; have q10 := (hB2.cell (p := ⟨g, jp, none⟩) hgi).trans c10; clear hb2 hrr))
            have HH2 := HHH.out.over hB2
            have G2 : w.grownBy w2 (some g) := grownTrans hG (belowGrown hB2 _)
            go_wp2_with fail
            go_roundw
            case rel => exact ⟨i + 1, r, by go_num, by omega, by omega, Lib.hid ⟨HI.out.1, HI.out.2.1, ins_end HI.out.2.2 haj hji (.inr ⟨jp, x, y, rfl, HXY.out.1, HXY.out.2, by omega⟩)⟩, HH2, G2⟩
            case measure => simp [intOf]; omega
        · obtain rfl : j = a := by omega
          have tg : decide ((j : Int) < (j : Int)) = false := decide_eq_false (by omega)
          clear hl
          go_wp2_with fail
          go_quiet (fail)
          go_wp2_with fail
          go_roundw
          case rel => exact ⟨i + 1, r, by go_num, by omega, by omega, Lib.hid ⟨HI.out.1, HI.out.2.1, ins_end HI.out.2.2 (Nat.le_refl _) hji (.inl rfl)⟩, HHH.out, by repeat' (first | (with_reducible exact grownRefl _ _) | (with_reducible assumption) | (with_reducible refine grownTrans (by with_reducible assumption) ?_) | (with_reducible refine gAllocS ?_ _) | (with_reducible refine grownDrew ?_) | (with_reducible refine gDrewNS ?_ _) | (with_reducible refine grownPut ?_) | (with_reducible refine grownBelS ?_ (by with_reducible assumption)))⟩
          case measure => simp [intOf]; omega
    · go_wp2_with fail
      go_end0
      exact ⟨rfl, r, ⟨HI.out.1, HI.out.2.2.sub (Nat.le_refl _) (by omega), HI.out.2.1⟩, hH, hG⟩
end Go.Proofs.YtpbhncgjnmaojaaGreatDoor

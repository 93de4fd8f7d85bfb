/- The dice of the laws: numbers in range, and writing to their own block alone. No condition. -/
import Derived.Test.YthnjiiodpjielaaDr
namespace Go.Proofs.Ythnjiiodpjielaa
open Go.RowKit
set_option linter.unusedVariables false
set_option linter.unusedSimpArgs false

/-- block b is a dice over the code l, which the slice A, n, c shows -/
def Dice (w : World) (b : Nat) (A : Option Addr) (n c : Nat) (l : List Int) : Prop :=
  (∃ p q : Int, 0 ≤ p ∧ p ≤ (n : Int) ∧ Full w b 115 #[.slice A n c, .int .i64 p, .int .u64 q]) ∧ Sees w b A (l.map (Value.int .u8))
namespace Dice
variable {w v : World} {b : Nat} {A : Option Addr} {n c : Nat} {l : List Int}
theorem inside (h : Dice w b A n c l) : b < w.heap.size := by obtain ⟨⟨p, q, _, _, F⟩, _⟩ := h; exact F.inside
theorem alloc (h : Dice w b A n c l) (o : Obj) : Dice (w.alloc o) b A n c l := by
  have hb := h.inside
  obtain ⟨⟨p, q, a1, a2, F⟩, S⟩ := h
  exact ⟨⟨p, q, a1, a2, F.block o⟩, S.block (by omega) o⟩
theorem drew (h : Dice w b A n c l) : Dice w.drew b A n c l := h
theorem drewN (h : Dice w b A n c l) (k : Nat) : Dice (w.drewN k) b A n c l := h
theorem set (h : Dice w b A n c l) {p : Addr} (hp : b < p.block) (u : Value) : Dice (w.setCell p u) b A n c l := by
  obtain ⟨⟨x, q, a1, a2, F⟩, S⟩ := h
  exact ⟨⟨x, q, a1, a2, F.elsewhere (by omega) u⟩, S.store (by omega) u⟩
theorem over (h : Dice w b A n c l) (hb : Below w.heap.size w v) : Dice v b A n c l := by
  have hi := h.inside
  obtain ⟨⟨x, q, a1, a2, F⟩, S⟩ := h
  exact ⟨⟨x, q, a1, a2, F.over hb hi⟩, S.carry fun g o hg => hb.cell (p := ⟨g, o, none⟩) (by show g < _; omega)⟩
end Dice
theorem dice_and (x : Int) : 0 ≤ bits .and .u64 x 16777215 ∧ bits .and .u64 x 16777215 ≤ 16777215 := by
  unfold bits
  simp only
  have h : (BitVec.ofInt (IntKind.bits .u64) x &&& BitVec.ofInt (IntKind.bits .u64) 16777215).toNat ≤ 16777215 := by
    rw [BitVec.toNat_and]
    exact Nat.le_trans Nat.and_le_right (by decide)
  generalize (BitVec.ofInt (IntKind.bits .u64) x &&& BitVec.ofInt (IntKind.bits .u64) 16777215).toNat = k at h ⊢
  rw [IntWalk.u64_in _ (by omega)]
  omega
set_option maxRecDepth 100000 in
set_option maxHeartbeats 2000000 in
theorem roll_any (A : Option Addr) (n c : Nat) (l : List Int) (sd : Int) (w : World) (hl : l.length = n) (hn : n ≤ 1048576) (h8 : U8s l) (hs : Sees w w.heap.size A (l.map (Value.int .u8))) :
    Calls Try.prog 28 #[.slice A n c, .int .u64 sd] w fun e w' => ∃ b, e = .returned (.pointer (some ⟨b, 0, none⟩)) ∧ w.heap.size ≤ b ∧ Dice w' b A n c l ∧ Below w.heap.size w w' := by
  go_enter Try.func28, Try.ntmps28
  go_wp2_with fail
  go_loopw [6] (fun i wr => ∃ (k : Nat) (q : Int), i = .int .i64 k ∧ k ≤ n ∧ Full wr w.heap.size 115 #[.slice A n c, .int .i64 0, .int .u64 q] ∧ Below w.heap.size w wr) (fun i _ => n - (intOf i).toNat)
  case atStart => exact ⟨0, _, rfl, Nat.zero_le _, Full.made _ _ _, by repeat' (first | exact Below.refl _ _ | assumption | refine Below.alloc ?_ (by first | omega | (simp; done) | (simp; omega)) _ | refine Below.drew ?_ | refine Below.setCell ?_ (by first | omega | (simp; done) | (simp; omega)) _)⟩
  case round =>
    obtain ⟨k, q, rfl, hk, hF, hB⟩ := hrel
    have c0 := hF.at_ 0
    have c2 := hF.at_ 2
    have f2 := hF.free 2
    simp only [List.getElem?_toArray, List.getElem?_cons_zero, List.getElem?_cons_succ] at c0 c2
    have hz := hB.size
    by_cases k1 : k < n
    · obtain ⟨v, hv⟩ : ∃ v, l[k]? = some v := ⟨l[k]'(by omega), List.getElem?_eq_getElem (by omega)⟩
      obtain ⟨g, off, rfl, hg, hc⟩ := hs k (.int .u8 v) (by simp [hv])
      have hc1 := (hB.cell (p := ⟨g, off + k, none⟩) hg).trans hc
      have hgb : g ≠ w.heap.size := by omega
      have hgc : w.heap.size ≠ g := by omega
      have i1 : (k : Int) < (n : Int) := by omega
      have i0 : (0 : Int) ≤ (k : Int) := by omega
      have HF := Lib.hid hF
      have HBh := Lib.hid hB
      clear hv hc hF hB hl hs h8
      go_wp2_with fail
      go_region
      all_goals go_wp2_with fail
      all_goals go_roundw
      all_goals first
        | (case rel => exact ⟨k + 1, _, by go_num, by omega, by exact HF.out.put 2 _, (HBh.out.setCell (Nat.le_refl _) _).drew⟩)
        | (case measure => simp [intOf]; omega)
    · have i1 : ¬ ((k : Int) < (n : Int)) := by omega
      go_wp2_with fail
      go_ret
      exact ⟨w.heap.size, rfl, Nat.le_refl _, ⟨⟨0, q, by omega, by omega, hF⟩, hs.over hB⟩, hB⟩
set_option maxRecDepth 100000 in
set_option maxHeartbeats 4000000 in
theorem below_any (m : Int) (b : Nat) (A : Option Addr) (n c : Nat) (l : List Int) (w : World) (hl : l.length = n) (hn : n ≤ 1048576) (h8 : U8s l) (hS : Dice w b A n c l) (hm : 1 ≤ m) :
    Calls Try.prog 29 #[.pointer (some ⟨b, 0, none⟩), .int .i64 m] w fun e w' => ∃ v : Int, e = .returned (.int .i64 v) ∧ 0 ≤ v ∧ v < m ∧ Dice w' b A n c l ∧ w.grownBy w' (some b) := by
  obtain ⟨⟨p, q, p0, p1, hF⟩, hV⟩ := hS
  have c0 := hF.at_ 0
  have c1 := hF.at_ 1
  have c2 := hF.at_ 2
  have f1 := hF.free 1
  have f2 := hF.free 2
  simp only [List.getElem?_toArray, List.getElem?_cons_zero, List.getElem?_cons_succ] at c0 c1 c2
  by_cases hp : p < n
  · obtain ⟨k, rfl⟩ := Int.eq_ofNat_of_zero_le p0
    obtain ⟨v, hv⟩ : ∃ v, l[k]? = some v := ⟨l[k]'(by omega), List.getElem?_eq_getElem (by omega)⟩
    obtain ⟨g, off, rfl, hg, hc⟩ := hV k (.int .u8 v) (by simp [hv])
    have hv8 := h8 v (List.mem_of_getElem? hv)
    have v0 : 0 ≤ v := hv8.1
    have v1 : v ≤ 255 := hv8.2
    have hgb : g ≠ b := by omega
    have HF := Lib.hid hF
    have HV := Lib.hid hV
    have hbi := hF.inside
    have hgb2 : b ≠ g := by omega
    have i1 : (k : Int) < (n : Int) := by omega
    have i0 : (0 : Int) ≤ (k : Int) := by omega
    clear hv8 hv hF hV h8 hl
    go_enter Try.func29, Try.ntmps29
    go_wp2_with fail
    generalize IntKind.u64.wrap (IntKind.u64.wrap (q * 6364136223846793005) + 1442695040888963407) = h
    have hb := dice_and (h / 8589934592)
    generalize bits BinOp.and IntKind.u64 (h / 8589934592) 16777215 = y at hb ⊢
    obtain ⟨y0, y1⟩ := hb
    have ey : wrap64 y = y := IntWalk.wrap64_in _ (by omega)
    simp only [ey]
    have e3 : IntKind.i64.wrap (y + v) = y + v := IntWalk.i64_in _ (by omega)
    have e5 : wrap64 v = v := IntWalk.wrap64_in _ (by omega)
    have r1 : 0 ≤ y + v := by omega
    go_region
    all_goals go_wp2_with fail
    all_goals go_region
    all_goals go_wp2_with fail
    all_goals go_ret
    all_goals exact ⟨_, rfl, Int.emod_nonneg _ (by omega), Int.emod_lt_of_pos _ (by omega), ⟨⟨(k : Int) + 1, _, by omega, by omega, by exact (HF.out.put 2 _).put 1 _⟩, (HV.out.store (Nat.le_refl _) _).store (Nat.le_refl _) _⟩, by repeat' (first | (with_reducible exact grownRefl _ _) | (with_reducible assumption) | (with_reducible refine gAlloc ?_ _) | (with_reducible refine grownDrew ?_) | (with_reducible refine gDrewN ?_ _) | (with_reducible refine gSet ?_ ?_ _) | (left; with_reducible rfl) | (right; first | omega | (simp; done) | (simp; omega)) | (with_reducible refine gBel ?_ (by with_reducible assumption)))⟩
  · have HF := Lib.hid hF
    have HV := Lib.hid hV
    have hbi := hF.inside
    obtain rfl : p = n := by omega
    have i1 : ¬ ((n : Int) < (n : Int)) := by omega
    clear hF hV h8 hl hp
    go_enter Try.func29, Try.ntmps29
    go_wp2_with fail
    generalize IntKind.u64.wrap (IntKind.u64.wrap (q * 6364136223846793005) + 1442695040888963407) = h
    have hb := dice_and (h / 8589934592)
    generalize bits BinOp.and IntKind.u64 (h / 8589934592) 16777215 = y at hb ⊢
    obtain ⟨y0, y1⟩ := hb
    have ey : wrap64 y = y := IntWalk.wrap64_in _ (by omega)
    simp only [ey]
    go_region
    all_goals go_wp2_with fail
    all_goals go_ret
    all_goals exact ⟨_, rfl, Int.emod_nonneg _ (by omega), Int.emod_lt_of_pos _ (by omega), ⟨⟨(n : Int), _, by omega, by omega, by exact HF.out.put 2 _⟩, HV.out.store (Nat.le_refl _) _⟩, by repeat' (first | (with_reducible exact grownRefl _ _) | (with_reducible assumption) | (with_reducible refine gAlloc ?_ _) | (with_reducible refine grownDrew ?_) | (with_reducible refine gDrewN ?_ _) | (with_reducible refine gSet ?_ ?_ _) | (left; with_reducible rfl) | (right; first | omega | (simp; done) | (simp; omega)) | (with_reducible refine gBel ?_ (by with_reducible assumption)))⟩
end Go.Proofs.Ythnjiiodpjielaa

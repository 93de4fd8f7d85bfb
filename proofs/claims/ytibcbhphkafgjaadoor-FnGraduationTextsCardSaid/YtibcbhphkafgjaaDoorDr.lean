/- Sources of draws (layer 1): a source hands out numbers in range, and writes to its own block alone. No condition. -/
import Derived.Test.YtibcbhphkafgjaaDoorOwn0
import Derived.BigQuiet
import Derived.Deep.DeepCutAuto
namespace Go.Proofs.YtibcbhphkafgjaaDoor
open Go.RowKit
set_option linter.unusedVariables false
set_option linter.unusedSimpArgs false

/-- block b is a source over the code l, which the slice A, n, c shows -/
def Src (w : World) (b : Nat) (A : Option Addr) (n c : Nat) (l : List Int) : Prop :=
  (∃ p q : Int, 0 ≤ p ∧ p ≤ (n : Int) ∧ 0 ≤ q ∧ q ≤ 2147483646 ∧ Full w b 84 #[.slice A n c, .int .i64 p, .int .i64 q]) ∧ Sees w b A (l.map (Value.int .u8))
namespace Src
variable {w v : World} {b : Nat} {A : Option Addr} {n c : Nat} {l : List Int}
theorem inside (h : Src w b A n c l) : b < w.heap.size := by obtain ⟨⟨p, q, _, _, _, _, F⟩, _⟩ := h; exact F.inside
theorem alloc (h : Src w b A n c l) (o : Obj) : Src (w.alloc o) b A n c l := by
  have hb := h.inside
  obtain ⟨⟨p, q, a1, a2, a3, a4, F⟩, S⟩ := h
  exact ⟨⟨p, q, a1, a2, a3, a4, F.block o⟩, S.block (by omega) o⟩
theorem drew (h : Src w b A n c l) : Src w.drew b A n c l := h
theorem drewN (h : Src w b A n c l) (k : Nat) : Src (w.drewN k) b A n c l := h
theorem set (h : Src w b A n c l) {p : Addr} (hp : b < p.block) (u : Value) : Src (w.setCell p u) b A n c l := by
  obtain ⟨⟨x, q, a1, a2, a3, a4, F⟩, S⟩ := h
  exact ⟨⟨x, q, a1, a2, a3, a4, F.elsewhere (by omega) u⟩, S.store (by omega) u⟩
theorem over (h : Src w b A n c l) (hb : Below w.heap.size w v) : Src v b A n c l := by
  have hi := h.inside
  obtain ⟨⟨x, q, a1, a2, a3, a4, F⟩, S⟩ := h
  exact ⟨⟨x, q, a1, a2, a3, a4, F.over hb hi⟩, S.carry fun g o hg => hb.cell (p := ⟨g, o, none⟩) (by show g < _; omega)⟩
end Src
theorem gAlloc {w v : World} {row : Option Nat} (h : w.grownBy v row) (o : Obj) : w.grownBy (v.alloc o) row := grownTrans h (World.grownBy_alloc v o row)
theorem gDrewN {w v : World} {row : Option Nat} (h : w.grownBy v row) (k : Nat) : w.grownBy (v.drewN k) row := ⟨h.os, h.tape, h.output, h.size, h.block⟩
theorem gSet {w v : World} {g : Nat} (h : w.grownBy v (some g)) {p : Addr} (hp : p.block = g ∨ w.heap.size ≤ p.block) (u : Value) : w.grownBy (v.setCell p u) (some g) :=
  ⟨h.os, h.tape, h.output, by have := h.size; simpa [World.setCell] using this, fun k hk hne => (Below.heap_setCell v p u k (fun e => by rcases hp with hp | hp; exact hne (by rw [e, hp]); omega)).trans (h.block k hk hne)⟩
theorem gBel {w v x : World} {row : Option Nat} (h : w.grownBy v row) (hb : Below v.heap.size v x) : w.grownBy x row := grownTrans h (belowGrown hb row)
theorem gCell {w v : World} {g B j : Nat} (h : w.grownBy v (some g)) (h1 : B < w.heap.size) (h2 : B ≠ g) : v.cell? ⟨B, j, none⟩ = w.cell? ⟨B, j, none⟩ := grownFar h h1 (fun e => h2 (by injection e)) j
theorem gFroz {w v : World} {g B j : Nat} (h : w.grownBy v (some g)) (h1 : B < w.heap.size) (h2 : B ≠ g) : v.frozen? ⟨B, j, none⟩ = w.frozen? ⟨B, j, none⟩ := World.frozen?_of_block (a := ⟨B, j, none⟩) (h.block B h1 (fun e => h2 (by injection e)))
theorem gBelow {w v : World} {g : Nat} (h : w.grownBy v (some g)) {B : Nat} (hB : B ≤ g) (hw : B ≤ w.heap.size) : Below B w v :=
  ⟨h.os, h.tape, h.output, h.size, fun k hk => h.block k (by omega) (fun e => by injection e with e; omega)⟩
set_option maxRecDepth 100000 in
set_option maxHeartbeats 2000000 in
theorem l01From_any (A : Option Addr) (n c : Nat) (l : List Int) (w : World) (hl : l.length = n) (hn : n ≤ 1048576) (h8 : U8s l) (hs : Sees w w.heap.size A (l.map (Value.int .u8))) :
    Calls Tryd.prog 44 #[.slice A n c] w fun e w' => ∃ b, e = .returned (.pointer (some ⟨b, 0, none⟩)) ∧ w.heap.size ≤ b ∧ Src w' b A n c l ∧ Below w.heap.size w w' := by
  go_enter Tryd.func44, Tryd.ntmps44
  go_wp2_with fail
  go_loopw [4] (fun i wr => ∃ (k : Nat) (q : Int), i = .int .i64 k ∧ k ≤ n ∧ 0 ≤ q ∧ q ≤ 2147483646 ∧ Full wr w.heap.size 84 #[.slice A n c, .int .i64 0, .int .i64 q] ∧ Below w.heap.size w wr) (fun i _ => n - (intOf i).toNat)
  case atStart => exact ⟨0, 17021, rfl, Nat.zero_le _, by omega, by omega, Full.made _ _ _, by repeat' (first | exact Below.refl _ _ | assumption | refine Below.alloc ?_ (by first | omega | (simp; done) | (simp; omega)) _ | refine Below.drew ?_ | refine Below.setCell ?_ (by first | omega | (simp; done) | (simp; omega)) _)⟩
  case round =>
    obtain ⟨k, q, rfl, hk, q0, q1, hF, hB⟩ := hrel
    have c0 := hF.at_ 0
    have c2 := hF.at_ 2
    have f2 := hF.free 2
    simp only [List.getElem?_toArray, List.getElem?_cons_zero, List.getElem?_cons_succ] at c0 c2
    have hz := hB.size
    by_cases hlt : k < n ∧ k < 64
    · obtain ⟨k1, k2⟩ := hlt
      obtain ⟨v, hv⟩ : ∃ v, l[k]? = some v := ⟨l[k]'(by omega), List.getElem?_eq_getElem (by omega)⟩
      obtain ⟨g, off, rfl, hg, hc⟩ := hs k (.int .u8 v) (by simp [hv])
      have hv8 := h8 v (List.mem_of_getElem? hv)
      have v0 : 0 ≤ v := hv8.1
      have v1 : v ≤ 255 := hv8.2
      have hc1 := (hB.cell (p := ⟨g, off + k, none⟩) hg).trans hc
      have hgb : g ≠ w.heap.size := by omega
      have hgc : w.heap.size ≠ g := by omega
      have i1 : (k : Int) < (n : Int) := by omega
      have i0 : (0 : Int) ≤ (k : Int) := by omega
      have HF := Lib.hid hF
      have HBh := Lib.hid hB
      clear hv8 hv hc hF hl hs h8
      have e1 : IntKind.i64.wrap (q * 73) = q * 73 := IntWalk.i64_in _ (by omega)
      have e2 : IntKind.i64.wrap v = v := IntWalk.i64_in _ (by omega)
      have e3 : IntKind.i64.wrap (q * 73 + v) = q * 73 + v := IntWalk.i64_in _ (by omega)
      have e4 : (q * 73 + v).tmod 2147483647 = (q * 73 + v) % 2147483647 := Int.tmod_eq_emod_of_nonneg (by omega)
      have e5 : IntKind.i64.wrap ((q * 73 + v) % 2147483647) = (q * 73 + v) % 2147483647 := IntWalk.i64_in _ (by omega)
      have r0 : 0 ≤ (q * 73 + v) % 2147483647 ∧ (q * 73 + v) % 2147483647 ≤ 2147483646 := by omega
      have HQ := Lib.hid (show ∃ q', q' = (q * 73 + v) % 2147483647 from ⟨_, rfl⟩)
      go_wp2_with fail
      go_region
      all_goals go_wp2_with fail
      all_goals go_roundw
      all_goals first
        | (case rel => exact ⟨k + 1, (q * 73 + v) % 2147483647, by go_num, by omega, r0.1, r0.2, by exact HF.out.put 2 _, (HBh.out.setCell (Nat.le_refl _) _).drew⟩)
        | (case measure => simp [intOf]; omega)
    · have hlt2 : ¬ ((k : Int) < n ∧ (k : Int) < 64) := by omega
      by_cases k1 : k < n
      · have k2 : ¬ ((k : Int) < 64) := by omega
        go_wp2_with fail
        go_ret
        exact ⟨w.heap.size, rfl, Nat.le_refl _, ⟨⟨0, q, by omega, by omega, q0, q1, hF⟩, hs.over hB⟩, hB⟩
      · go_wp2_with fail
        go_ret
        exact ⟨w.heap.size, rfl, Nat.le_refl _, ⟨⟨0, q, by omega, by omega, q0, q1, hF⟩, hs.over hB⟩, hB⟩
set_option maxRecDepth 100000 in
set_option maxHeartbeats 4000000 in
theorem l01Next_any (m : Int) (b : Nat) (A : Option Addr) (n c : Nat) (l : List Int) (w : World) (hl : l.length = n) (hn : n ≤ 1048576) (h8 : U8s l) (hS : Src w b A n c l) :
    Calls Tryd.prog 46 #[.pointer (some ⟨b, 0, none⟩), .int .i64 m] w fun e w' => ∃ v : Int, e = .returned (.int .i64 v) ∧ 0 ≤ v ∧ (v < m ∨ v = 0) ∧ Src w' b A n c l ∧ w.grownBy w' (some b) := by
  by_cases hm : m ≤ 1
  · go_enter Tryd.func46, Tryd.ntmps46
    go_wp2_with fail
    go_ret
    exact ⟨0, rfl, by omega, .inr rfl, hS, grownRefl _ _⟩
  · obtain ⟨⟨p, q, p0, p1, q0, q1, hF⟩, hV⟩ := hS
    have c0 := hF.at_ 0
    have c1 := hF.at_ 1
    have c2 := hF.at_ 2
    have f1 := hF.free 1
    have f2 := hF.free 2
    simp only [List.getElem?_toArray, List.getElem?_cons_zero, List.getElem?_cons_succ] at c0 c1 c2
    by_cases hp : p < n
    · obtain ⟨k, rfl⟩ := Int.eq_ofNat_of_zero_le p0
      obtain ⟨v, hv⟩ : ∃ v, l[k]? = some v := ⟨l[k]'(by omega), List.getElem?_eq_getElem (by omega)⟩
      obtain ⟨g, off, rfl, hg, hc⟩ := hV k (.int .u8 v) (by simp [hv])
      have hv8 := h8 v (List.mem_of_getElem? hv)
      have v0 : 0 ≤ v := hv8.1
      have v1 : v ≤ 255 := hv8.2
      have hgb : g ≠ b := by omega
      have HF := Lib.hid hF
      have HV := Lib.hid hV
      have hbi := hF.inside
      have hgb2 : b ≠ g := by omega
      have i1 : (k : Int) < (n : Int) := by omega
      have i0 : (0 : Int) ≤ (k : Int) := by omega
      clear hv8 hv hF hV h8 hl
      have e2 : IntKind.i64.wrap v = v := IntWalk.i64_in _ (by omega)
      have e3 : IntKind.i64.wrap ((q * 48271 + 29) % 2147483647 / 31 + v) = (q * 48271 + 29) % 2147483647 / 31 + v := IntWalk.i64_in _ (by omega)
      have e6 : IntKind.i64.wrap ((k : Int) + 1 - 1) = (k : Int) := (IntWalk.i64_in _ (by omega)).trans (by omega)
      have e7 : (k : Int) + 1 - 1 = (k : Int) := by omega
      have r0 : 0 ≤ (q * 48271 + 29) % 2147483647 ∧ (q * 48271 + 29) % 2147483647 ≤ 2147483646 := by omega
      have r1 : 0 ≤ (q * 48271 + 29) % 2147483647 / 31 + v := by omega
      have r2 : (q * 48271 + 29) % 2147483647 / 31 + v ≤ 100000000 := by omega
      by_cases h2 : m ≤ 256
      · have d1 : decide (m ≤ 256) = true := decide_eq_true h2
        by_cases h3 : ((k : Int) + 1) % 2 = 0
        · have d2 : (((k : Int) + 1) % 2 == 0) = true := beq_iff_eq.2 h3
          clear h3
          go_enter Tryd.func46, Tryd.ntmps46
          go_wp2_with fail
          go_region
          all_goals go_wp2_with fail
          all_goals go_region
          all_goals go_wp2_with fail
          all_goals go_region
          all_goals go_wp2_with fail
          all_goals go_ret
          all_goals exact ⟨_, rfl, Int.emod_nonneg _ (by omega), .inl (Int.emod_lt_of_pos _ (by omega)), ⟨⟨(k : Int) + 1, (q * 48271 + 29) % 2147483647, by omega, by omega, r0.1, r0.2, by exact (HF.out.put 2 _).put 1 _⟩, (HV.out.store (Nat.le_refl _) _).store (Nat.le_refl _) _⟩, by repeat' (first | (with_reducible exact grownRefl _ _) | (with_reducible assumption) | (with_reducible refine gAlloc ?_ _) | (with_reducible refine grownDrew ?_) | (with_reducible refine gDrewN ?_ _) | (with_reducible refine gSet ?_ ?_ _) | (left; with_reducible rfl) | (right; first | omega | (simp; done) | (simp; omega)) | (with_reducible refine gBel ?_ (by with_reducible assumption)))⟩
        · have d2 : (((k : Int) + 1) % 2 == 0) = false := by simpa using h3
          clear h3
          go_enter Tryd.func46, Tryd.ntmps46
          go_wp2_with fail
          go_region
          all_goals go_wp2_with fail
          all_goals go_region
          all_goals go_wp2_with fail
          all_goals go_ret
          all_goals exact ⟨_, rfl, Int.emod_nonneg _ (by omega), .inl (Int.emod_lt_of_pos _ (by omega)), ⟨⟨(k : Int) + 1, (q * 48271 + 29) % 2147483647, by omega, by omega, r0.1, r0.2, by exact (HF.out.put 2 _).put 1 _⟩, (HV.out.store (Nat.le_refl _) _).store (Nat.le_refl _) _⟩, by repeat' (first | (with_reducible exact grownRefl _ _) | (with_reducible assumption) | (with_reducible refine gAlloc ?_ _) | (with_reducible refine grownDrew ?_) | (with_reducible refine gDrewN ?_ _) | (with_reducible refine gSet ?_ ?_ _) | (left; with_reducible rfl) | (right; first | omega | (simp; done) | (simp; omega)) | (with_reducible refine gBel ?_ (by with_reducible assumption)))⟩
      · have d1 : decide (m ≤ 256) = false := decide_eq_false h2
        go_enter Tryd.func46, Tryd.ntmps46
        go_wp2_with fail
        go_region
        all_goals go_wp2_with fail
        all_goals go_region
        all_goals go_wp2_with fail
        all_goals go_ret
        all_goals exact ⟨_, rfl, Int.emod_nonneg _ (by omega), .inl (Int.emod_lt_of_pos _ (by omega)), ⟨⟨(k : Int) + 1, (q * 48271 + 29) % 2147483647, by omega, by omega, r0.1, r0.2, by exact (HF.out.put 2 _).put 1 _⟩, (HV.out.store (Nat.le_refl _) _).store (Nat.le_refl _) _⟩, by repeat' (first | (with_reducible exact grownRefl _ _) | (with_reducible assumption) | (with_reducible refine gAlloc ?_ _) | (with_reducible refine grownDrew ?_) | (with_reducible refine gDrewN ?_ _) | (with_reducible refine gSet ?_ ?_ _) | (left; with_reducible rfl) | (right; first | omega | (simp; done) | (simp; omega)) | (with_reducible refine gBel ?_ (by with_reducible assumption)))⟩
    · have HF := Lib.hid hF
      have HV := Lib.hid hV
      have hbi := hF.inside
      have pn : p = n := by omega
      subst pn
      clear hF hV h8 hl hp
      have i1 : ¬ ((n : Int) < (n : Int)) := by omega
      have r0 : 0 ≤ (q * 48271 + 29) % 2147483647 ∧ (q * 48271 + 29) % 2147483647 ≤ 2147483646 := by omega
      have r1 : 0 ≤ (q * 48271 + 29) % 2147483647 / 31 := by omega
      go_enter Tryd.func46, Tryd.ntmps46
      go_wp2_with fail
      go_region
      all_goals go_wp2_with fail
      all_goals go_ret
      all_goals exact ⟨_, rfl, Int.emod_nonneg _ (by omega), .inl (Int.emod_lt_of_pos _ (by omega)), ⟨⟨n, (q * 48271 + 29) % 2147483647, by omega, by omega, r0.1, r0.2, by exact HF.out.put 2 _⟩, HV.out.store (Nat.le_refl _) _⟩, by repeat' (first | (with_reducible exact grownRefl _ _) | (with_reducible assumption) | (with_reducible refine gAlloc ?_ _) | (with_reducible refine grownDrew ?_) | (with_reducible refine gDrewN ?_ _) | (with_reducible refine gSet ?_ ?_ _) | (left; with_reducible rfl) | (right; first | omega | (simp; done) | (simp; omega)) | (with_reducible refine gBel ?_ (by with_reducible assumption)))⟩
/-- one of the numbers of a list, which lies in a block of its own -/
def Nums (cs : Array Value) (m : Nat) : Prop := cs.size = m ∧ ∀ (j : Nat), j < m → ∃ v : Int, cs[j]? = some (.int .i64 v)
set_option maxRecDepth 100000 in
set_option maxHeartbeats 2000000 in
theorem l01Pick_any (g m cap : Nat) (cs : Array Value) (b : Nat) (A : Option Addr) (n c : Nat) (l : List Int) (w : World) (hl : l.length = n) (hn : n ≤ 1048576) (h8 : U8s l) (hS : Src w b A n c l) (hF : Full w g 2 cs) (hN : Nums cs m) (hg : g ≠ b) (m0 : 0 < m) (m1 : m ≤ 1000) :
    Calls Tryd.prog 63 #[.pointer (some ⟨b, 0, none⟩), .slice (some ⟨g, 0, none⟩) m cap] w fun e w' => ∃ v : Int, e = .returned (.int .i64 v) ∧ (∃ j : Nat, j < m ∧ cs[j]? = some (.int .i64 v)) ∧ Src w' b A n c l ∧ w.grownBy w' (some b) := by
  have hgi := hF.inside
  have hc := fun i => hF.at_ i
  have HF := Lib.hid hc
  clear hc hF
  go_enter Tryd.func63, Tryd.ntmps63
  go_wp2_with fail
  refine (l01Next_any _ b A n c l _ hl hn h8 hS).mono ?_
  rintro e w1 ⟨v, rfl, lo, hi, S1, g1⟩
  obtain ⟨k, rfl⟩ := Int.eq_ofNat_of_zero_le lo
  have hk : k < m := by omega
  obtain ⟨u, hu⟩ := hN.2 k hk
  have hcell : w1.cell? ⟨g, k, none⟩ = some (.int .i64 u) := (gCell g1 hgi hg).trans ((HF.out k).trans hu)
  have i1 : (k : Int) < (m : Int) := by omega
  have Hu := Lib.hid hu
  clear hu hN HF hl h8 hi
  go_wp2_with fail
  go_ret
  exact ⟨u, rfl, ⟨k, hk, Hu.out⟩, S1, g1⟩
theorem nums3 (a b c : Int) : Nums #[.int .i64 a, .int .i64 b, .int .i64 c] 3 := ⟨rfl, fun j hj => by
  rcases j with _ | _ | _ | j
  · exact ⟨_, rfl⟩
  · exact ⟨_, rfl⟩
  · exact ⟨_, rfl⟩
  · omega⟩
theorem nums_3 (x0 x1 x2 : Int) : Nums #[.int .i64 x0, .int .i64 x1, .int .i64 x2] 3 := ⟨rfl, fun j hj => by
  rcases j with _ | _ | _ | j
  · exact ⟨_, rfl⟩
  · exact ⟨_, rfl⟩
  · exact ⟨_, rfl⟩
  · omega⟩
theorem nums_4 (x0 x1 x2 x3 : Int) : Nums #[.int .i64 x0, .int .i64 x1, .int .i64 x2, .int .i64 x3] 4 := ⟨rfl, fun j hj => by
  rcases j with _ | _ | _ | _ | j
  · exact ⟨_, rfl⟩
  · exact ⟨_, rfl⟩
  · exact ⟨_, rfl⟩
  · exact ⟨_, rfl⟩
  · omega⟩
theorem nums_5 (x0 x1 x2 x3 x4 : Int) : Nums #[.int .i64 x0, .int .i64 x1, .int .i64 x2, .int .i64 x3, .int .i64 x4] 5 := ⟨rfl, fun j hj => by
  rcases j with _ | _ | _ | _ | _ | j
  · exact ⟨_, rfl⟩
  · exact ⟨_, rfl⟩
  · exact ⟨_, rfl⟩
  · exact ⟨_, rfl⟩
  · exact ⟨_, rfl⟩
  · omega⟩
theorem nums_6 (x0 x1 x2 x3 x4 x5 : Int) : Nums #[.int .i64 x0, .int .i64 x1, .int .i64 x2, .int .i64 x3, .int .i64 x4, .int .i64 x5] 6 := ⟨rfl, fun j hj => by
  rcases j with _ | _ | _ | _ | _ | _ | j
  · exact ⟨_, rfl⟩
  · exact ⟨_, rfl⟩
  · exact ⟨_, rfl⟩
  · exact ⟨_, rfl⟩
  · exact ⟨_, rfl⟩
  · exact ⟨_, rfl⟩
  · omega⟩
theorem nums_7 (x0 x1 x2 x3 x4 x5 x6 : Int) : Nums #[.int .i64 x0, .int .i64 x1, .int .i64 x2, .int .i64 x3, .int .i64 x4, .int .i64 x5, .int .i64 x6] 7 := ⟨rfl, fun j hj => by
  rcases j with _ | _ | _ | _ | _ | _ | _ | j
  · exact ⟨_, rfl⟩
  · exact ⟨_, rfl⟩
  · exact ⟨_, rfl⟩
  · exact ⟨_, rfl⟩
  · exact ⟨_, rfl⟩
  · exact ⟨_, rfl⟩
  · exact ⟨_, rfl⟩
  · omega⟩
theorem nums_8 (x0 x1 x2 x3 x4 x5 x6 x7 : Int) : Nums #[.int .i64 x0, .int .i64 x1, .int .i64 x2, .int .i64 x3, .int .i64 x4, .int .i64 x5, .int .i64 x6, .int .i64 x7] 8 := ⟨rfl, fun j hj => by
  rcases j with _ | _ | _ | _ | _ | _ | _ | _ | j
  · exact ⟨_, rfl⟩
  · exact ⟨_, rfl⟩
  · exact ⟨_, rfl⟩
  · exact ⟨_, rfl⟩
  · exact ⟨_, rfl⟩
  · exact ⟨_, rfl⟩
  · exact ⟨_, rfl⟩
  · exact ⟨_, rfl⟩
  · omega⟩
theorem fullMadeD (w : World) (t : TypeId) (cs : Array Value) : Full (w.alloc (.cells cs t)).drew w.heap.size t cs := Full.made w t cs
end Go.Proofs.YtibcbhphkafgjaaDoor

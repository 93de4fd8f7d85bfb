/- The order of a proof: the program's closures (layer 9). No condition but the table. -/
import Derived.Test.YtpbhncgjnmaojaaGreatDoorLch
import Derived.Test.YtpbhncgjnmaojaaGreatDoorPo
import Derived.Test.YtpbhncgjnmaojaaGreatDoorStW3I
import Derived.Laws.EntriesVeiled
namespace Go.Proofs.YtpbhncgjnmaojaaGreatDoor
open Go.RowKit
set_option linter.unusedVariables false
set_option linter.unusedSimpArgs false

set_option maxHeartbeats 400000 in
theorem isNaN64I (x : Int) (w : World) :
    Calls Tryz.prog 57 #[.int .i64 x] w fun e w' => e = .returned (.bool false) ∧ w = w' := by
  go_enter Tryz.func57, Tryz.ntmps57
  go_wp2
  go_ret
  exact ⟨endBool (by simp), rfl⟩
set_option maxHeartbeats 1000000 in
theorem compare64I (x y : Int) (w : World) :
    Calls Tryz.prog 45 #[.int .i64 x, .int .i64 y] w fun e w' => ∃ r : Int, e = .returned (.int .i64 r) ∧ (r < 0 ↔ x < y) ∧ -1 ≤ r ∧ r ≤ 1 ∧ w = w' := by
  by_cases h1 : x < y
  · have h2 : ¬ y < x := by omega
    go_enter Tryz.func45, Tryz.ntmps45
    go_wp2_with (go_at_call 57; refine (isNaN64I _ _).mono ?_; rintro e w' ⟨rfl, rfl⟩)
    go_ret
    exact ⟨-1, rfl, by omega, by omega, by omega, rfl⟩
  · by_cases h2 : y < x
    · go_enter Tryz.func45, Tryz.ntmps45
      go_wp2_with (go_at_call 57; refine (isNaN64I _ _).mono ?_; rintro e w' ⟨rfl, rfl⟩)
      go_ret
      exact ⟨1, rfl, by omega, by omega, by omega, rfl⟩
    · go_enter Tryz.func45, Tryz.ntmps45
      go_wp2_with (go_at_call 57; refine (isNaN64I _ _).mono ?_; rintro e w' ⟨rfl, rfl⟩)
      go_ret
      exact ⟨0, rfl, by omega, by omega, by omega, rfl⟩
/-- the box of the ticks, and all ticks -/
def CapT (w : World) (l : List (Int × Int × Int)) (n c tb tof b0 : Nat) : Prop :=
  w.cell? ⟨b0, 0, none⟩ = some (.slice (some ⟨tb, tof, none⟩) n c) ∧ ∀ a, a < n → w.cell? ⟨tb, tof + a * 3, none⟩ = some (.int .i64 (mkA l a : Int)) ∧ w.cell? ⟨tb, tof + a * 3 + 1, none⟩ = some (.int .i64 (plA l a)) ∧ w.cell? ⟨tb, tof + a * 3 + 2, none⟩ = some (.int .i64 (htA l a))
theorem CapT.lts {w : World} {l : List (Int × Int × Int)} {n c tb tof b0 i : Nat} (h : CapT w l n c tb tof b0) (hi : i < n) : b0 < w.heap.size ∧ tb < w.heap.size :=
  ⟨World.block_lt_of_cell? w _ h.1, World.block_lt_of_cell? w _ (h.2 i hi).1⟩
theorem CapT.keep {w v : World} {l : List (Int × Int × Int)} {n c tb tof b0 : Nat} (h : CapT w l n c tb tof b0) (k : ∀ b o, b = b0 ∨ b = tb → v.cell? ⟨b, o, none⟩ = w.cell? ⟨b, o, none⟩) : CapT v l n c tb tof b0 :=
  ⟨(k _ _ (.inl rfl)).trans h.1, fun a ha => ⟨(k _ _ (.inr rfl)).trans (h.2 a ha).1, (k _ _ (.inr rfl)).trans (h.2 a ha).2.1, (k _ _ (.inr rfl)).trans (h.2 a ha).2.2⟩⟩
theorem CapT.over {w v : World} {l : List (Int × Int × Int)} {n c tb tof b0 i : Nat} (h : CapT w l n c tb tof b0) (hi : i < n) (hb : Below w.heap.size w v) : CapT v l n c tb tof b0 := by
  obtain ⟨l1, l2⟩ := h.lts hi
  exact h.keep (fun b o hh => by rcases hh with rfl | rfl <;> exact hb.cell (p := ⟨_, o, none⟩) (by assumption))
theorem CapT.grown {w v : World} {l : List (Int × Int × Int)} {n c tb tof b0 g i : Nat} (h : CapT w l n c tb tof b0) (hi : i < n) (hg : w.grownBy v (some g)) (h0 : b0 ≠ g) (ht : tb ≠ g) : CapT v l n c tb tof b0 := by
  obtain ⟨l1, l2⟩ := h.lts hi
  exact h.keep (fun b o hh => by
    rcases hh with rfl | rfl
    · exact grownFar hg l1 (fun e => h0 (by injection e)) o
    · exact grownFar hg l2 (fun e => ht (by injection e)) o)
theorem Tab.grown {w v : World} {g : Nat} (h : Tab w) (hg : w.grownBy v (some g)) (h0 : 0 < g) : Tab v := by
  unfold Tab Lib.TabIs at h ⊢
  rw [← h]
  have hgl : Tryz.prog.globalNamed "internal/strconv.uint64pow10" = some 0 := by kernel_rfl
  simp only [World.var?, hgl, Option.bind_some] at h ⊢
  cases hx : w.heap[0]? with
  | none => simp [hx] at h
  | some o => rw [hg.block 0 (Array.getElem?_eq_some_iff.1 hx).1 (fun e => by injection e with e; omega), hx]
theorem Tab.inside {w : World} (h : Tab w) : 0 < w.heap.size := by
  unfold Tab Lib.TabIs at h
  have hgl : Tryz.prog.globalNamed "internal/strconv.uint64pow10" = some 0 := by kernel_rfl
  simp only [World.var?, hgl, Option.bind_some] at h
  cases hx : w.heap[0]? with
  | none => simp [hx] at h
  | some o => exact (Array.getElem?_eq_some_iff.1 hx).1
set_option maxHeartbeats 2000000 in
theorem right_any (k : Nat) (l : List (Int × Int × Int)) (n c tb tof b0 : Nat) (w : World) (hl : l.length = n) (hok : ∀ p ∈ l, okL p = true) (hC : CapT w l n c tb tof b0) (hT : Tab w) (hk : k < n) (hn40 : n ≤ 40) :
    Calls Tryz.prog 41 #[.int .i64 (k : Int), .pointer (some ⟨b0, 0, none⟩)] w fun e w' => e = .returned (.int .i64 (RL l k)) ∧ Below w.heap.size w w' := by
  have k0 : (0 : Int) ≤ (k : Int) := by omega
  have k1 : (k : Int) < (n : Int) := by omega
  obtain ⟨_, r1, r2, r3, r4, r5, r6⟩ := tk_facts hl hok hk
  have CO := fun W (hW : Tab W) => labelEnds_any (mkA l k) (plA l k) (htA l k) W (by omega) r2 r3 r4 hW
  rw [show endL (mkA l k) (plA l k) = LL l k from rfl, show endR (mkA l k) (plA l k) = RL l k from rfl] at CO
  obtain ⟨c1, c2⟩ := hC
  obtain ⟨c6, c7, c8⟩ := c2 k hk
  clear c2 hl hok
  go_enter Tryz.func41, Tryz.ntmps41
  go_wp2_with fail
  refine (CO _ hT).mono ?_
  rintro e w1 ⟨rfl, hb1⟩
  go_wp2_with fail
  go_ret
  exact ⟨rfl, hb1⟩
set_option maxRecDepth 100000 in
set_option maxHeartbeats 4000000 in
theorem order_any (bx g : Nat) (l : List (Int × Int × Int)) (n c tb tof b0 : Nat) (w : World) (hl : l.length = n) (hok : ∀ p ∈ l, okL p = true) (hC : CapT w l n c tb tof b0) (hT : Tab w) (hn40 : n ≤ 40) (hx : w.cell? ⟨bx, 0, none⟩ = some (.func (.func 41) #[] #[.pointer (some ⟨b0, 0, none⟩)])) (h0 : b0 ≠ g) (ht : tb ≠ g) (hxg : bx ≠ g) (hg0 : 0 < g) : CmpCI (fun x : Fin n => RL l x.1) bx g w := by
  intro W hW x y
  have hCW := hC.grown x.2 hW h0 ht
  have hTW := hT.grown hW hg0
  have hxc : W.cell? ⟨bx, 0, none⟩ = _ := (grownFar hW (World.block_lt_of_cell? w _ hx) (fun e => hxg (by injection e)) 0).trans hx
  have hxl := World.block_lt_of_cell? W _ hxc
  have RX := fun V hV hTV => right_any x.1 l n c tb tof b0 V hl hok hV hTV x.2 hn40
  have RY := fun V hV hTV => right_any y.1 l n c tb tof b0 V hl hok hV hTV y.2 hn40
  have CM := fun V => compare64I (RL l x.1) (RL l y.1) V
  clear hC hT hx
  generalize hrx : RL l x.1 = rx at *
  generalize hry : RL l y.1 = ry at *
  have HRX := Lib.hid hrx
  have HRY := Lib.hid hry
  clear hrx hry
  go_enter Tryz.func44, Tryz.ntmps44
  go_wp2_with fail
  go_region_held3 (fun w' => w'.cell? ⟨bx, 0, none⟩ = some (.func (.func 41) #[] #[.pointer (some ⟨b0, 0, none⟩)])) (go_keep) (first
    | (go_at_call 41; (with_reducible refine (RX _ ?_ ?_).mono ?_); (focus (with_reducible exact hCW.over x.2 (by repeat' (first | exact Below.refl _ _ | assumption | refine Below.alloc ?_ (by first | omega | (simp; done) | (simp; omega)) _ | refine Below.drew ?_ | refine Below.setCell ?_ (by first | omega | (simp; done) | (simp; omega)) _)))); (focus (with_reducible exact hTW.over (by repeat' (first | exact Below.refl _ _ | assumption | refine Below.alloc ?_ (by first | omega | (simp; done) | (simp; omega)) _ | refine Below.drew ?_ | refine Below.setCell ?_ (by first | omega | (simp; done) | (simp; omega)) _)))); rintro e w1 ⟨rfl, hb1⟩; have hB1 : Below W.heap.size W w1 := Below.trans (by repeat' (first | exact Below.refl _ _ | assumption | refine Below.alloc ?_ (by first | omega | (simp; done) | (simp; omega)) _ | refine Below.drew ?_ | refine Below.setCell ?_ (by first | omega | (simp; done) | (simp; omega)) _)) (hb1.mono (by first | omega | (simp; done) | (simp; omega))); have z1 := hB1.size; have s1 := (hB1.cell (p := ⟨bx, 0, none⟩) hxl).trans hxc; clear hb1)
    | (go_at_call 41; (with_reducible refine (RY _ ?_ ?_).mono ?_); (focus (with_reducible exact hCW.over y.2 (by repeat' (first | exact Below.refl _ _ | assumption | refine Below.alloc ?_ (by first | omega | (simp; done) | (simp; omega)) _ | refine Below.drew ?_ | refine Below.setCell ?_ (by first | omega | (simp; done) | (simp; omega)) _)))); (focus (with_reducible exact hTW.over (by repeat' (first | exact Below.refl _ _ | assumption | refine Below.alloc ?_ (by first | omega | (simp; done) | (simp; omega)) _ | refine Below.drew ?_ | refine Below.setCell ?_ (by first | omega | (simp; done) | (simp; omega)) _)))); rintro e w2 ⟨rfl, hb2⟩; have hB2 : Below W.heap.size W w2 := Below.trans (by repeat' (first | exact Below.refl _ _ | assumption | refine Below.alloc ?_ (by first | omega | (simp; done) | (simp; omega)) _ | refine Below.drew ?_ | refine Below.setCell ?_ (by first | omega | (simp; done) | (simp; omega)) _)) (hb2.mono (by first | omega | (simp; done) | (simp; omega))); have z2 := hB2.size; have s2 := (hB2.cell (p := ⟨bx, 0, none⟩) hxl).trans hxc; clear hb2)
    | (go_at_call 45; (with_reducible refine (CM _).mono ?_); rintro e w3 ⟨r, rfl, q1, q2, q3, rfl⟩; have Q1 := Lib.hid q1; clear q1))
  all_goals go_wp2_with fail
  all_goals go_ret
  all_goals (refine ⟨r, rfl, ?_, q2, q3, ?_⟩)
  all_goals (first | (show r < 0 ↔ RL l x.1 < RL l y.1; rw [HRX.out, HRY.out]; exact Q1.out) | exact hB2 | exact hB1)
end Go.Proofs.YtpbhncgjnmaojaaGreatDoor

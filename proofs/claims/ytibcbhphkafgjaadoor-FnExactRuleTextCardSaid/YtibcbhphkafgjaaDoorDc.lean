/- The reference's digits (layer 1): l01Dec. No condition. -/
import Derived.Test.YtibcbhphkafgjaaDoorWords
import Derived.Test.YtibcbhphkafgjaaDoorProg
import Derived.Lib.ItoaNum
import Derived.Laws.IdiomStrings
import Derived.Outline
import Derived.Deep.RegionHeld3
import Derived.Deep.RegionWith
namespace Go.Proofs.YtibcbhphkafgjaaDoor
open Go.RowKit
set_option linter.unusedVariables false
set_option linter.unusedSimpArgs false

/-- the sign of a digit -/
def dg (k : Nat) : UInt8 := UInt8.ofNat (48 + k)
theorem dcSmall {n : Nat} (h : n < 10) : Lib.decDigits n = [dg n] := by
  rw [Lib.decDigits, dif_pos h]; rfl
theorem dcMore {n : Nat} (h : ¬ n < 10) : Lib.decDigits n = Lib.decDigits (n / 10) ++ [dg (n % 10)] := by
  rw [Lib.decDigits, dif_neg h]; rfl
theorem dcLen : ∀ (f n : Nat), n ≤ f → (Lib.decDigits n).length ≤ n + 1
  | 0, n, h => by rw [dcSmall (by omega)]; simp
  | f + 1, n, h => by
    by_cases h1 : n < 10
    · rw [dcSmall h1]; simp
    · rw [dcMore h1, List.length_append]
      have := dcLen f (n / 10) (by omega)
      simp
      omega
theorem dcStr {l : List UInt8} {s : ByteArray} (h : s = ⟨l.toArray⟩) : Ending.returned (.string s) = .returned (.string ⟨l.toArray⟩) := by rw [h]
theorem dcConv (W : World) (b k : Nat) (hk : k < 10) (hc : W.cell? ⟨b, 0, none⟩ = some (.int .u8 (48 + (k : Int)))) :
    (convert 43 9 (.slice (some ⟨b, 0, none⟩) 1 1)).run Tryd.prog W = .ok (.string ⟨#[dg k]⟩) W :=
  run_convert_bytes_back (P := Tryd.prog) W 43 9 5 ⟨b, 0, none⟩ 1 [dg k] Tryd.underlying43 Tryd.underlying5 Tryd.underlying9 (fun j hj => by
    match j, hj with
    | 0, _ =>
      rw [Addr.add_lit]
      have : (dg k).toNat = 48 + k := by simp [dg, UInt8.toNat_ofNat]; omega
      simp only [List.getElem_cons_zero, this]
      exact hc)
set_option maxHeartbeats 2000000 in
set_option maxRecDepth 100000 in
theorem l01Dec_small (n : Nat) (w : World) (h : n < 10) :
    Calls Tryd.prog 54 #[.int .i64 (n : Int)] w fun e w' => e = .returned (.string ⟨(Lib.decDigits n).toArray⟩) ∧ Below w.heap.size w w' := by
  have HD := Lib.hid (dcSmall h)
  have h1 : (n : Int) < 10 := by omega
  have h2 : (0 : Int) ≤ (n : Int) := by omega
  have kc := dcConv (w.alloc (.cells #[.int .u8 (48 + (n : Int))] 5)) w.heap.size n (by omega) (by simp [go_sem])
  go_enter Tryd.func54, Tryd.ntmps54
  go_wp2_with fail
  go_ret
  exact ⟨by rw [HD.out]; rfl, (Below.refl _ _).alloc (Nat.le_refl _) _⟩
set_option maxHeartbeats 4000000 in
set_option maxRecDepth 100000 in
theorem l01Dec_any : ∀ (f n : Nat) (w : World), n ≤ f → n ≤ 9223372036854775807 →
    Calls Tryd.prog 54 #[.int .i64 (n : Int)] w fun e w' => e = .returned (.string ⟨(Lib.decDigits n).toArray⟩) ∧ Below w.heap.size w w' := by
  intro f
  induction f with
  | zero => intro n w h _; exact l01Dec_small n w (by omega)
  | succ f ih =>
    intro n w hf hn
    by_cases h : n < 10
    · exact l01Dec_small n w h
    have HD := Lib.hid (dcMore h)
    have h1 : ¬ (n : Int) < 10 := by omega
    have h2 : (0 : Int) ≤ (n : Int) := by omega
    have C := fun W => ih (n / 10) W (by omega) (by omega)
    have e1 : (n : Int) / 10 = ((n / 10 : Nat) : Int) := by omega
    obtain ⟨q, hq⟩ : ∃ q, n / 10 = q := ⟨_, rfl⟩
    obtain ⟨r, hr⟩ : ∃ r, n % 10 = r := ⟨_, rfl⟩
    have e2 : (n : Int) % 10 = (r : Int) := by omega
    have r1 : r < 10 := by omega
    rw [hq] at C HD e1
    rw [hr] at HD
    have hlq := dcLen q q (Nat.le_refl _)
    have ka := fun W => run_string_add_sum (P := Tryd.prog) W ⟨(Lib.decDigits q).toArray⟩ ⟨#[dg r]⟩ (by simp [ByteArray.size]; omega)
    have kc := fun W b hc => dcConv W b r (by omega) hc
    have e3 : (n : Int).tmod 10 = (r : Int) := by rw [Int.tmod_eq_emod_of_nonneg h2]; exact e2
    have e4 : IntKind.i64.wrap (q : Int) = (q : Int) := IntWalk.i64_in _ (by omega)
    have e5 : IntKind.i64.wrap (48 + (r : Int)) = 48 + (r : Int) := IntWalk.i64_in _ (by omega)
    have e6 : IntKind.u8.wrap (48 + (r : Int)) = 48 + (r : Int) := IntWalk.u8_in _ (by omega)
    clear hq hr ih e2
    go_enter Tryd.func54, Tryd.ntmps54
    go_wp2_with fail
    go_region_with (go_at_call 54; (with_reducible refine (C _).mono ?_); rintro e w2 ⟨rfl, hb2⟩; have hB2 : Below w.heap.size w w2 := Below.trans (by repeat' (first | exact Below.refl _ _ | assumption | refine Below.alloc ?_ (by first | omega | (simp; done) | (simp; omega)) _ | refine Below.drew ?_ | refine Below.setCell ?_ (by first | omega | (simp; done) | (simp; omega)) _)) (hb2.mono (by first | omega | (simp; done) | (simp; omega))); have hz2 := hB2.size; (try (refine (fun (mq : w2.cell? ⟨w.heap.size, 0, none⟩ = some (.int .u8 (48 + (r : Int)))) => ?_) ?_; rotate_left; refine (hb2.cell ?_).trans ?_; (focus (first | omega | (simp; done) | (simp; omega))); (focus (simp [go_sem, *]; done)))))
    all_goals go_wp2_with fail
    all_goals go_ret
    all_goals (refine ⟨dcStr (by rw [HD.out, ByteArray.mk_append_mk]), ?_⟩)
    all_goals (clear kc ka C)
    all_goals (repeat' (first | (with_reducible exact Below.refl _ _) | (with_reducible assumption) | (with_reducible refine Below.alloc ?_ ?_ _) | (with_reducible refine Below.drew ?_) | (with_reducible refine belowDraws ?_ _) | (with_reducible refine Below.setCell ?_ ?_ _) | omega | (simp; done) | (simp; omega)))
end Go.Proofs.YtibcbhphkafgjaaDoor

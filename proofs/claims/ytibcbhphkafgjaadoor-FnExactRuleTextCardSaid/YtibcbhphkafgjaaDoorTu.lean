/- Names of scales as texts (layers 5, 11): namesOf and the reference's l11Names. No condition. -/
import Derived.Test.YtibcbhphkafgjaaDoorTe
import Derived.Test.YtibcbhphkafgjaaDoorRule2
import Derived.Deep.RegionHeld3
import Derived.Deep.RegionWith
namespace Go.Proofs.YtibcbhphkafgjaaDoor
open Go.RowKit
set_option linter.unusedVariables false
set_option linter.unusedSimpArgs false

def nameN : Nat → List UInt8
  | 0 => [67]
  | 1 => [65]
  | 2 => [75]
  | 3 => [67, 73]
  | 4 => [67, 70]
  | _ => [76]
def nameI (x : Int) : List UInt8 := nameN x.toNat
def namesT (l : List Int) : List UInt8 := Lib.join (l.map nameI) [44]
theorem name_len (j : Nat) : (nameN j).length ≤ 2 := by
  unfold nameN
  split <;> simp
theorem nameI_nat (j : Nat) : nameI (j : Int) = nameN j := rfl
def namesC : Array Value := #[.string ⟨#[67]⟩, .string ⟨#[65]⟩, .string ⟨#[75]⟩, .string ⟨#[67, 73]⟩, .string ⟨#[67, 70]⟩, .string ⟨#[76]⟩]
theorem names_at {j : Nat} (h : j < 6) : namesC[j]? = some (.string ⟨(nameN j).toArray⟩) := by
  rcases j with _ | _ | _ | _ | _ | _ | j <;> first | rfl | omega
/-- scales of a part of a rule -/
def Scales (l : List Int) : Prop := (1 ≤ l.length ∧ l.length ≤ 6) ∧ ∀ x ∈ l, 0 ≤ x ∧ x ≤ 5
theorem scales_of {l : List Int} (h : scalesB l = true) : Scales l := by
  unfold scalesB at h
  rw [Bool.and_eq_true] at h
  obtain ⟨h1, h2⟩ := h
  have h3 := inB_iff.1 h2
  refine ⟨by omega, fun x hx => ?_⟩
  obtain ⟨k, hk, e⟩ := List.getElem_of_mem hx
  have hx' : l[k]? = some x := by rw [List.getElem?_eq_getElem hk, e]
  have hg : goodTo l (k + 1) = true := by
    cases hc : goodTo l (k + 1) with
    | true => rfl
    | false =>
      have := goodTo_no hc l.length (by omega)
      rw [h1] at this
      cases this
  rw [goodTo_step hx'] at hg
  simp only [Bool.and_eq_true] at hg
  have := hg.2.1
  unfold errScaleB at this
  rw [Bool.and_eq_true] at this
  have := inB_iff.1 this.1
  omega
set_option maxHeartbeats 1000000 in
theorem scaleNames_any (w : World) :
    Calls Tryd.prog 59 #[] w fun e w' => e = .returned (.slice (some ⟨w.heap.size, 0, none⟩) 6 6) ∧ (∀ j, j < 6 → w'.cell? ⟨w.heap.size, j, none⟩ = some (.string ⟨(nameN j).toArray⟩)) ∧ Below w.heap.size w w' := by
  go_enter Tryd.func59, Tryd.ntmps59
  go_wp2_with fail
  go_ret
  exact ⟨rfl, fun j hj => ((Full.made w 9 namesC).at_ j).trans (names_at hj), (Below.refl _ _).alloc (Nat.le_refl _) _⟩
set_option maxHeartbeats 1000000 in
theorem l05Names_any (w : World) :
    Calls Tryd.prog 70 #[] w fun e w' => e = .returned (.slice (some ⟨w.heap.size, 0, none⟩) 6 6) ∧ (∀ j, j < 6 → w'.cell? ⟨w.heap.size, j, none⟩ = some (.string ⟨(nameN j).toArray⟩)) ∧ Below w.heap.size w w' := by
  go_enter Tryd.func70, Tryd.ntmps70
  go_wp2_with fail
  go_ret
  exact ⟨rfl, fun j hj => ((Full.made w 9 namesC).at_ j).trans (names_at hj), (Below.refl _ _).alloc (Nat.le_refl _) _⟩
set_option maxRecDepth 100000 in
set_option maxHeartbeats 2000000 in
theorem namesOf_any (A : Option Addr) (n c : Nat) (l : List Int) (w : World) (hl : l.length = n) (hs : Sees w w.heap.size A (l.map (Value.int .i64))) (hr : Scales l) :
    Calls Tryd.prog 37 #[.slice A n c] w fun e w' => e = .returned (.string ⟨(namesT l).toArray⟩) ∧ Below w.heap.size w w' := by
  obtain ⟨i0, hi', hz0, hz1, hz2⟩ := info_parts infoStr
  have HJ := Lib.hid (join_len (c := 44) (m := 2) (l.map nameI) (fun x hx => by
    obtain ⟨y, hy, rfl⟩ := List.mem_map.1 hx
    exact name_len _))
  obtain ⟨⟨h1, hn⟩, hr⟩ := hr
  rw [hl] at h1 hn
  go_enter Tryd.func37, Tryd.ntmps37
  go_wp2_with fail
  go_loopw [3, 9] (fun v i wr => ∃ k : Nat, k ≤ n ∧ i = .int .i64 k ∧ wr.ownsRow w.heap.size 9 1 v k (((l.take k).map nameI).map strL) ∧ Below w.heap.size w wr) (fun _ i _ => n - (intOf i).toNat)
  case atStart => exact ⟨0, Nat.zero_le _, rfl, World.ownsRow_made (base := w.heap.size) w #[] 0 (Nat.le_refl _) (Nat.zero_le _) rfl, (Below.refl _ _).alloc (Nat.le_refl _) _⟩
  case round =>
    obtain ⟨k, hk, rfl, hown, hB⟩ := hrel
    have zr := hB.size
    by_cases hlt : k < n
    · obtain ⟨b, off, x, rfl, hb, hx, c0⟩ := (hs.over hB).cellOf (k := k) (by omega)
      have hxr := hr x (List.mem_of_getElem? hx)
      obtain ⟨j, rfl⟩ : ∃ j : Nat, x = (j : Int) := ⟨x.toNat, by omega⟩
      have hj : j < 6 := by omega
      have Hx := Lib.hid (take_map_snoc nameI hx)
      have k5 : (j : Int) < 6 := by omega
      have k6 : (0 : Int) ≤ (j : Int) := by omega
      clear hx hs hr hl hxr
      go_wp2_with fail
      refine (scaleNames_any _).mono ?_
      rintro e w2 ⟨rfl, hc2, hb2⟩
      have B2 : Below w.heap.size w w2 := hB.trans (hb2.mono zr)
      have z2 := B2.size
      have own2 := ownOver hown hb2
      have c2 := hc2 j hj
      obtain ⟨y, hy⟩ : ∃ y, nameN j = y := ⟨_, rfl⟩
      have HY := Lib.hid (show nameI (j : Int) = y from hy)
      rw [hy] at c2
      clear hown hb2 hc2 hy
      go_wp2_with (at_builtin; refine wpList_append_own _ rfl _ _ 61 rfl w.heap.size 9 i0 (.string ⟨#[]⟩) 1 16 Tryd.underlying61 hi' hz0 hz1 hz2 rfl (by decide) _ _ _ rfl (own2.alloc _) ⟨w2.heap.size, 0, none⟩ 1 1 [strL y] rfl rfl ?_ ?_ ?_ ?_ ?_ ?_; exact cell_one_new _ _ _; (intro u hu; simp at hu; subst hu; rfl); (unfold maxLen; omega); omega; (simp; omega); intro v' w3 hown3 hgr3 _)
      have B3 : Below w.heap.size w w3 := (B2.alloc z2 (.cells #[strL y] 9)).grown hgr3 (by simp; omega) (fun j hj => (own2.lt j hj).1)
      go_wp2_with fail
      go_roundw
      case rel => exact ⟨k + 1, by omega, by go_num, by rw [Hx.out, HY.out, List.map_append]; exact hown3, B3⟩
      case measure => simp [intOf]; omega
    · obtain rfl : k = n := by omega
      rcases ownRow hown with ⟨_, h0, _⟩ | ⟨g, cap, cur, rfl, hbg, hF, hnc, hcm, hsz, htk⟩
      · omega
      have J := join_own w.heap.size g k cap (l.map nameI) 44 wr (by rw [← hl, List.take_length] at hown; rw [← hl]; exact hown) (by have := HJ.out; rw [List.length_map, hl] at this; omega) (by omega)
      go_wp2_with fail
      refine J.mono ?_
      rintro e w2 ⟨rfl, hb2⟩
      go_wp2_with fail
      go_ret
      exact ⟨rfl, hB.trans (hb2.mono zr)⟩
theorem nmStep {l : List Int} {k : Nat} {x : Int} (hx : l[k]? = some x) (hk : 0 < k) : namesT (l.take (k + 1)) = (namesT (l.take k) ++ [44]) ++ nameI x := by
  unfold namesT
  rw [take_map_snoc nameI hx, join_snoc _ _ (by
    have := (List.getElem?_eq_some_iff.1 hx).1
    intro e
    have e2 := congrArg List.length e
    rw [List.length_map, List.length_take, List.length_nil] at e2
    omega)]
  simp
theorem nmFirst {l : List Int} {x : Int} (hx : l[0]? = some x) : namesT (l.take (0 + 1)) = [] ++ nameI x := by
  unfold namesT
  rw [take_map_snoc nameI hx]
  exact Lib.join_one _ _
set_option maxRecDepth 100000 in
set_option maxHeartbeats 4000000 in
theorem l11Names_any (A : Option Addr) (n c : Nat) (l : List Int) (w : World) (hl : l.length = n) (hs : Sees w w.heap.size A (l.map (Value.int .i64))) (hr : Scales l) :
    Calls Tryd.prog 55 #[.slice A n c] w fun e w' => e = .returned (.string ⟨(namesT l).toArray⟩) ∧ Below w.heap.size w w' := by
  have HJ := Lib.hid (fun k => join_len (c := 44) (m := 2) ((l.take k).map nameI) (fun x hx => by
    obtain ⟨y, hy, rfl⟩ := List.mem_map.1 hx
    exact name_len _))
  obtain ⟨⟨h1, hn⟩, hr⟩ := hr
  rw [hl] at h1 hn
  go_enter Tryd.func55, Tryd.ntmps55
  go_wp2_with fail
  go_loopw [3, 4] (fun v i wr => ∃ k : Nat, k ≤ n ∧ i = .int .i64 k ∧ v = strL (namesT (l.take k)) ∧ Below w.heap.size w wr) (fun _ i _ => n - (intOf i).toNat)
  case atStart => exact ⟨0, Nat.zero_le _, rfl, rfl, Below.refl _ _⟩
  case round =>
    obtain ⟨k, hk, rfl, rfl, hB⟩ := hrel
    have zr := hB.size
    by_cases hlt : k < n
    · obtain ⟨b, off, x, rfl, hb, hx, c0⟩ := (hs.over hB).cellOf (k := k) (by omega)
      have hxr := hr x (List.mem_of_getElem? hx)
      obtain ⟨j, rfl⟩ : ∃ j : Nat, x = (j : Int) := ⟨x.toNat, by omega⟩
      have hj : j < 6 := by omega
      have hbr : b < wr.heap.size := by omega
      have k5 : (j : Int) < 6 := by omega
      have k6 : (0 : Int) ≤ (j : Int) := by omega
      have k7 : (0 : Int) ≤ (k : Int) := by omega
      have k8 : (k : Int) < (n : Int) := by omega
      have hlp : (namesT (l.take k)).length ≤ 100 := by
        have := HJ.out k
        rw [List.length_map, List.length_take] at this
        unfold namesT
        omega
      have hly := name_len j
      obtain ⟨y, hy⟩ : ∃ y, nameN j = y := ⟨_, rfl⟩
      rw [hy] at hly
      have hyI : nameI (j : Int) = y := hy
      by_cases h0 : 0 < k
      · have Hx := Lib.hid (nmStep hx h0)
        rw [hyI] at Hx
        have h0' : (0 : Int) < (k : Int) := by omega
        obtain ⟨p, hp⟩ : ∃ p, p = namesT (l.take k) := ⟨_, rfl⟩
        rw [← hp] at Hx hlp ⊢
        have k1 := fun W => run_string_add_sum (P := Tryd.prog) (w := W) ⟨p.toArray⟩ ⟨#[44]⟩ (by rw [bytesSize]; show p.length + 1 ≤ _; omega)
        have k2 := fun W => run_string_add_sum (P := Tryd.prog) (w := W) (⟨p.toArray⟩ ++ ⟨#[44]⟩) ⟨y.toArray⟩ (by rw [ByteArray.size_append, bytesSize, bytesSize]; show p.length + 1 + y.length ≤ _; omega)
        unfold strL
        clear hx hs hr hl hp hlp hly hyI hxr
        go_wp2_with fail
        go_region_with (go_at_call 70; (with_reducible refine (l05Names_any _).mono ?_); rintro e w2 ⟨rfl, hc2, hb2⟩; have hB2 : Below wr.heap.size wr w2 := Below.trans (by repeat' (first | exact Below.refl _ _ | assumption | refine Below.alloc ?_ (by first | omega | (simp; done) | (simp; omega)) _ | refine Below.drew ?_)) (hb2.mono (by first | omega | (simp; done) | (simp; omega))); have hC2 : Below w.heap.size w w2 := hB.trans (hB2.mono zr); have q0 := (hB2.cell (p := ⟨b, off + k, none⟩) hbr).trans c0; have q1 : w2.cell? ⟨wr.heap.size, j, none⟩ = some (.string ⟨y.toArray⟩) := (by have hq := hc2 j hj; rw [hy] at hq; exact hq); clear hc2)
        all_goals go_wp2_with fail
        all_goals go_roundw
        all_goals first
          | (simp [intOf]; omega)
          | exact (⟨k + 1, by omega, by go_num, by (rw [Hx.out]; (try unfold strL); rw [← bytesCat, ← bytesCat]), by repeat' (first | (with_reducible exact Below.refl _ _) | (with_reducible assumption) | (with_reducible refine Below.alloc ?_ ?_ _) | (with_reducible refine Below.drew ?_) | (with_reducible refine belowDraws ?_ _) | (with_reducible refine Below.setCell ?_ ?_ _) | omega | (simp; done) | (simp; omega))⟩)
      · obtain rfl : k = 0 := by omega
        have Hx := Lib.hid (nmFirst hx)
        rw [hyI] at Hx
        have k2 := fun W => run_string_add_sum (P := Tryd.prog) (w := W) ⟨#[]⟩ ⟨y.toArray⟩ (by rw [bytesSize]; show 0 + y.length ≤ _; omega)
        have e0 : strL (namesT (l.take 0)) = .string ⟨#[]⟩ := by unfold namesT; rw [List.take_zero, List.map_nil, Lib.join_nil]; rfl
        rw [e0]
        clear hx hs hr hl hlp hly hyI hxr
        have c0' := c0
        rw [Nat.add_zero] at c0'
        go_wp2_with fail
        go_region_with (go_at_call 70; (with_reducible refine (l05Names_any _).mono ?_); rintro e w2 ⟨rfl, hc2, hb2⟩; have hB2 : Below wr.heap.size wr w2 := Below.trans (by repeat' (first | exact Below.refl _ _ | assumption | refine Below.alloc ?_ (by first | omega | (simp; done) | (simp; omega)) _ | refine Below.drew ?_)) (hb2.mono (by first | omega | (simp; done) | (simp; omega))); have hC2 : Below w.heap.size w w2 := hB.trans (hB2.mono zr); have q0 := (hB2.cell (p := ⟨b, off + 0, none⟩) hbr).trans c0; have q1 : w2.cell? ⟨wr.heap.size, j, none⟩ = some (.string ⟨y.toArray⟩) := (by have hq := hc2 j hj; rw [hy] at hq; exact hq); clear hc2; have q0z := q0; rw [Nat.add_zero] at q0z)
        all_goals go_wp2_with fail
        all_goals go_roundw
        all_goals first
          | (simp [intOf]; omega)
          | exact (⟨1, by omega, by go_num, by (rw [Hx.out]; (try unfold strL); rw [← bytesCat]), by repeat' (first | (with_reducible exact Below.refl _ _) | (with_reducible assumption) | (with_reducible refine Below.alloc ?_ ?_ _) | (with_reducible refine Below.drew ?_) | (with_reducible refine belowDraws ?_ _) | (with_reducible refine Below.setCell ?_ ?_ _) | omega | (simp; done) | (simp; omega))⟩)
    · obtain rfl : k = n := by omega
      have e : namesT (l.take k) = namesT l := by rw [← hl, List.take_length]
      rw [e]
      go_wp2_with fail
      go_ret
      exact ⟨rfl, hB⟩
end Go.Proofs.YtibcbhphkafgjaaDoor

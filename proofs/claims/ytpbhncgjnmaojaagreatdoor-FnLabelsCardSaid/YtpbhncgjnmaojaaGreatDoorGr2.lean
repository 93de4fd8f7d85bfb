/- GreedyChoice: the program's closures, searches and walk, with the library's sort, and the law (layer 9). No condition but the table. -/
import Derived.Test.YtpbhncgjnmaojaaGreatDoorGr
import Derived.Test.YtpbhncgjnmaojaaGreatDoorSortP
import Derived.Shelf.SortM.Plain
import Derived.Sort.OwnSortedInts
namespace Go.Proofs.YtpbhncgjnmaojaaGreatDoor
open Go.RowKit
set_option linter.unusedVariables false
set_option linter.unusedSimpArgs false

theorem sortIntsG (base g cap : Nat) (zs : List Int) (w : World) (hown : w.ownsRow base 2 1 (.slice (some ⟨g, 0, none⟩) zs.length cap) zs.length (zs.map (Value.int .i64))) (hz : zs.length ≤ 1000) :
    Calls Tryz.prog 23 #[.slice (some ⟨g, 0, none⟩) zs.length cap] w fun e w' => e = .returned (.tuple #[]) ∧ w'.ownsRow base 2 1 (.slice (some ⟨g, 0, none⟩) zs.length cap) zs.length ((zs.mergeSort fun x y => decide (x ≤ y)).map (Value.int .i64)) ∧ w.grownBy w' (some g) := by
  rcases hown.2 with ⟨h, _⟩ | ⟨g', cap', cur, hv, hg, hcur, hn, hcm, hsz, htk⟩
  · cases h
  · injection hv with hA hn' hc'
    injection hA with hA
    injection hA with hA
    subst hA hc'
    have hH := holds_of_blockI (ss := zs) hcur (by rw [← htk, Nat.mul_one])
    refine (AnyM.slices_Sort_int sortKp g 0 cap zs w hH (Array.getElem?_eq_some_iff.1 hcur).1 (by omega)).mono ?_
    rintro e w' ⟨rfl, n, os, rfl⟩
    exact ⟨rfl, ownsRow_sortedI (by simp) hg hcur hn hcm hsz, grownBy_sortedI _⟩
theorem takeAnyNext {K : List Nat} {f : Nat → Bool} {k a : Nat} (h : K[k]? = some a) : (K.take (k + 1)).any f = ((K.take k).any f || f a) := by
  rw [List.take_add_one, h, List.any_append]
  simp
/-- what the closure reads: the box of the ticks, all ticks, the box of one tick -/
def Caps (w : World) (l : List (Int × Int × Int)) (n c tb tof b1 b2 i : Nat) : Prop :=
  w.cell? ⟨b1, 0, none⟩ = some (.slice (some ⟨tb, tof, none⟩) n c) ∧ (∀ a, a < n → w.cell? ⟨tb, tof + a * 3, none⟩ = some (.int .i64 (mkA l a : Int)) ∧ w.cell? ⟨tb, tof + a * 3 + 1, none⟩ = some (.int .i64 (plA l a)) ∧ w.cell? ⟨tb, tof + a * 3 + 2, none⟩ = some (.int .i64 (htA l a))) ∧ w.cell? ⟨b2, 0, none⟩ = some (.int .i64 (mkA l i : Int)) ∧ w.cell? ⟨b2, 1, none⟩ = some (.int .i64 (plA l i)) ∧ w.cell? ⟨b2, 2, none⟩ = some (.int .i64 (htA l i))
theorem Caps.lts {w : World} {l : List (Int × Int × Int)} {n c tb tof b1 b2 i : Nat} (h : Caps w l n c tb tof b1 b2 i) (hi : i < n) : b1 < w.heap.size ∧ tb < w.heap.size ∧ b2 < w.heap.size :=
  ⟨World.block_lt_of_cell? w _ h.1, World.block_lt_of_cell? w _ (h.2.1 i hi).1, World.block_lt_of_cell? w _ h.2.2.1⟩
theorem Caps.over {w v : World} {l : List (Int × Int × Int)} {n c tb tof b1 b2 i : Nat} (h : Caps w l n c tb tof b1 b2 i) (hi : i < n) (hb : Below w.heap.size w v) : Caps v l n c tb tof b1 b2 i := by
  obtain ⟨l1, l2, l3⟩ := h.lts hi
  obtain ⟨h1, h2, h3, h4, h5⟩ := h
  exact ⟨(hb.cell (p := ⟨b1, 0, none⟩) l1).trans h1, fun a ha => ⟨(hb.cell (p := ⟨tb, _, none⟩) l2).trans (h2 a ha).1, (hb.cell (p := ⟨tb, _, none⟩) l2).trans (h2 a ha).2.1, (hb.cell (p := ⟨tb, _, none⟩) l2).trans (h2 a ha).2.2⟩, (hb.cell (p := ⟨b2, 0, none⟩) l3).trans h3, (hb.cell (p := ⟨b2, 1, none⟩) l3).trans h4, (hb.cell (p := ⟨b2, 2, none⟩) l3).trans h5⟩
set_option maxRecDepth 100000 in
set_option maxHeartbeats 4000000 in
theorem hits_any (k : Nat) (l : List (Int × Int × Int)) (n c tb tof b1 b2 i : Nat) (w : World) (hl : l.length = n) (hn40 : n ≤ 40) (hok : ∀ p ∈ l, okL p = true) (hi : i < n) (hC : Caps w l n c tb tof b1 b2 i) (hT : Tab w) (hk : k < n) :
    Calls Tryz.prog 29 #[.int .i64 (k : Int), .pointer (some ⟨b1, 0, none⟩), .pointer (some ⟨b2, 0, none⟩)] w fun e w' => e = .returned (.bool (hitA l k i)) ∧ Below w.heap.size w w' := by
  have k0 : (0 : Int) ≤ (k : Int) := by omega
  have k1 : (k : Int) < (n : Int) := by omega
  obtain ⟨_, p1, p2, p3, p4, p5, p6⟩ := tk_facts hl hok hi
  obtain ⟨_, r1, r2, r3, r4, r5, r6⟩ := tk_facts hl hok hk
  have CO := fun W (hW : Tab W) => collide_any (mkA l k) (plA l k) (htA l k) (mkA l i) (plA l i) (htA l i) W (by omega) r2 r3 r4 (by omega) p2 p3 p4 hW
  rw [show hitB (mkA l k) (plA l k) (mkA l i) (plA l i) = hitA l k i from rfl] at CO
  have HC := Lib.hid hC
  obtain ⟨c1, c2, c3, c4, c5⟩ := hC
  obtain ⟨c6, c7, c8⟩ := c2 k hk
  generalize hitA l k i = hh at *
  clear c2 hl hok
  go_enter Tryz.func29, Tryz.ntmps29
  go_wp2_with fail
  go_region_held3 (fun w' => w'.cell? ⟨b1, 0, none⟩ = some (.slice (some ⟨tb, tof, none⟩) n c) ∧ w'.cell? ⟨tb, tof + k * 3, none⟩ = some (.int .i64 (mkA l k : Int)) ∧ w'.cell? ⟨tb, tof + k * 3 + 1, none⟩ = some (.int .i64 (plA l k)) ∧ w'.cell? ⟨tb, tof + k * 3 + 2, none⟩ = some (.int .i64 (htA l k)) ∧ w'.cell? ⟨b2, 0, none⟩ = some (.int .i64 (mkA l i : Int)) ∧ w'.cell? ⟨b2, 1, none⟩ = some (.int .i64 (plA l i)) ∧ w'.cell? ⟨b2, 2, none⟩ = some (.int .i64 (htA l i))) (go_keep) (first | (go_at_call 30; (with_reducible refine (CO _ ?_).mono ?_); (focus (with_reducible exact hT.over (by repeat' (first | exact Below.refl _ _ | assumption | refine Below.alloc ?_ (by first | omega | (simp; done) | (simp; omega)) _ | refine Below.drew ?_ | refine Below.setCell ?_ (by first | omega | (simp; done) | (simp; omega)) _)))); rintro e w2 ⟨rfl, hb2⟩; have hB2 : Below w.heap.size w w2 := Below.trans (by repeat' (first | exact Below.refl _ _ | assumption | refine Below.alloc ?_ (by first | omega | (simp; done) | (simp; omega)) _ | refine Below.drew ?_ | refine Below.setCell ?_ (by first | omega | (simp; done) | (simp; omega)) _)) (hb2.mono (by first | omega | (simp; done) | (simp; omega))); have hC2 := HC.out.over hi hB2; obtain ⟨s1, s2, s3, s4, s5⟩ := hC2; obtain ⟨s6, s7, s8⟩ := s2 k hk; clear hb2 s2))
  go_wp2_with fail
  go_ret
  exact ⟨rfl, hB2⟩
set_option maxRecDepth 100000 in
set_option maxHeartbeats 4000000 in
theorem indexHits_any (l : List (Int × Int × Int)) (n c tb tof b1 b2 i : Nat) (w : World) (hl : l.length = n) (hn40 : n ≤ 40) (hok : ∀ p ∈ l, okL p = true) (hi : i < n) (hC : Caps w l n c tb tof b1 b2 i) (hT : Tab w) (A : Option Addr) (cc : Nat) (K : List Nat) (hKl : K.length ≤ 1000) (hKn : ∀ k ∈ K, k < n) (hs : Sees w w.heap.size A (K.map fun (k : Nat) => Value.int .i64 (k : Int))) :
    Calls Tryz.prog 51 #[.slice A K.length cc, .func (.func 29) #[] #[.pointer (some ⟨b1, 0, none⟩), .pointer (some ⟨b2, 0, none⟩)]] w fun e w' => ∃ r, e = .returned (.int .i64 r) ∧ (0 ≤ r ↔ (K.any fun k => hitA l k i) = true) ∧ Below w.heap.size w w' := by
  have HC := Lib.hid hC
  have HL := Lib.hid hl
  have HOK := Lib.hid hok
  clear hC hl hok
  go_enter Tryz.func51, Tryz.ntmps51
  go_wp2_with fail
  go_loopw [8] (fun u wr => ∃ k : Nat, k ≤ K.length ∧ u = .int .i64 k ∧ ((K.take k).any fun k => hitA l k i) = false ∧ Below w.heap.size w wr) (fun u _ => K.length - (intOf u).toNat)
  case atStart => exact ⟨0, Nat.zero_le _, rfl, rfl, Below.refl _ _⟩
  case round =>
    obtain ⟨k, hk, rfl, hf, hB⟩ := hrel
    have Hf := Lib.hid hf
    have hz := hB.size
    clear hf
    by_cases hlt : k < K.length
    · obtain ⟨a, ha⟩ : ∃ a, K[k]? = some a := ⟨_, List.getElem?_eq_getElem hlt⟩
      have han : a < n := hKn a (List.mem_of_getElem? ha)
      obtain ⟨b, off, rfl, hb, hcell⟩ := hs.addr (by rw [List.length_map]; omega)
      have e0 : wr.cell? ⟨b, off + k, none⟩ = some (.int .i64 (a : Int)) := (hB.cell hb).trans (hcell k _ (by rw [List.getElem?_map, ha]; rfl))
      have C := fun (_ : True) => hits_any a l n c tb tof b1 b2 i wr HL.out hn40 HOK.out hi (HC.out.over hi hB) (hT.over hB) han
      have HN := Lib.hid (takeAnyNext (f := fun k => hitA l k i) ha)
      have HA := Lib.hid (List.mem_of_getElem? ha)
      have hbr : b < wr.heap.size := by omega
      have k0 : (0 : Int) ≤ (k : Int) := by omega
      have k1 : (k : Int) < (K.length : Int) := by omega
      clear ha hcell hs
      by_cases hx : hitA l a i = true
      · rw [hx] at C
        have HY := Lib.hid (show (K.any fun k => hitA l k i) = true from List.any_eq_true.2 ⟨a, HA.out, hx⟩)
        clear hx
        go_wp2_with (go_at_call 29; (with_reducible refine (C trivial).mono ?_); rintro e w2 ⟨rfl, hb2⟩)
        go_ret
        exact ⟨_, rfl, ⟨fun _ => HY.out, fun _ => by omega⟩, hB.trans (hb2.mono hz)⟩
      · replace hx : hitA l a i = false := by simpa using hx
        rw [hx] at C
        have HY := Lib.hid (show ((K.take (k + 1)).any fun k => hitA l k i) = false by rw [HN.out, Hf.out, hx]; rfl)
        clear hx
        go_wp2_with (go_at_call 29; (with_reducible refine (C trivial).mono ?_); rintro e w2 ⟨rfl, hb2⟩)
        go_roundw
        case rel => exact ⟨k + 1, by omega, by go_num, HY.out, hB.trans (hb2.mono hz)⟩
        case measure => simp [intOf]; omega
    · have HY := Lib.hid (show (K.any fun k => hitA l k i) = false by have h := Hf.out; rwa [List.take_of_length_le (by omega)] at h)
      have HKE := Lib.hid (show k = K.length by omega)
      clear hs
      go_wp2_with fail
      go_ret
      exact ⟨_, rfl, ⟨fun h => by omega, fun h => by rw [HY.out] at h; cases h⟩, hB⟩
set_option maxHeartbeats 1000000 in
theorem anyHits_any (l : List (Int × Int × Int)) (n c tb tof b1 b2 i : Nat) (w : World) (hl : l.length = n) (hn40 : n ≤ 40) (hok : ∀ p ∈ l, okL p = true) (hi : i < n) (hC : Caps w l n c tb tof b1 b2 i) (hT : Tab w) (A : Option Addr) (cc : Nat) (K : List Nat) (hKl : K.length ≤ 1000) (hKn : ∀ k ∈ K, k < n) (hs : Sees w w.heap.size A (K.map fun (k : Nat) => Value.int .i64 (k : Int))) :
    Calls Tryz.prog 28 #[.slice A K.length cc, .func (.func 29) #[] #[.pointer (some ⟨b1, 0, none⟩), .pointer (some ⟨b2, 0, none⟩)]] w fun e w' => e = .returned (.bool (K.any fun k => hitA l k i)) ∧ Below w.heap.size w w' := by
  have C := indexHits_any l n c tb tof b1 b2 i w hl hn40 hok hi hC hT A cc K hKl hKn hs
  generalize (K.any fun k => hitA l k i) = hv at *
  clear hl hs hC hKn hok
  go_enter Tryz.func28, Tryz.ntmps28
  go_wp2_with fail
  refine C.mono ?_
  rintro e w1 ⟨r, rfl, hr, hb⟩
  have HR := Lib.hid hr
  clear hr C
  cases hv with
  | true =>
    have h0 : 0 ≤ r := HR.out.2 rfl
    go_wp2_with fail
    go_ret
    exact ⟨endBool (by first | (simp; done) | (simp; omega)), hb⟩
  | false =>
    have h0 : ¬ 0 ≤ r := fun h => by have := HR.out.1 h; cases this
    go_wp2_with fail
    go_ret
    exact ⟨endBool (by first | (simp; done) | (simp; omega)), hb⟩
set_option maxRecDepth 100000 in
set_option maxHeartbeats 16000000 in
theorem iGreedyChoice_any (A : Option Addr) (n c : Nat) (l : List (Int × Int × Int)) (w : World) (hl : l.length = n) (hn : n ≤ 1048576) (hs : Sees w w.heap.size A (cells3 l)) (hT : Tab w) :
    Calls Tryz.prog 10 #[.slice A n c] w (GivesS 2 1 (rGreedy l).1.length ((rGreedy l).1.map (Value.int .i64)) (rGreedy l).2 w) := by
  have HL := Lib.hid hl
  have LC := fun W (hB : Below w.heap.size w W) => checkLabels_any A n c l W hl hn ((hs.over hB).wider hB.size)
  by_cases h0 : ckL l = 0
  · obtain ⟨hn40, hok⟩ := ckL_zero h0
    replace hn40 : n ≤ 40 := by omega
    have HOK := Lib.hid hok
    rw [h0] at LC
    have Hv := Lib.hid (show rGreedy l = (kept (kG l) l.length, 0) by rw [rGreedy, if_pos h0])
    obtain ⟨i0, hi', hz0, hz1, hz2⟩ := info_parts infoI64
    clear h0 hok hl
    go_enter Tryz.func10, Tryz.ntmps10
    go_wp2_with fail
    refine (LC _ (by repeat' (first | (with_reducible exact Below.refl _ _) | (with_reducible assumption) | (with_reducible refine Below.alloc ?_ ?_ _) | (with_reducible refine Below.drew ?_) | (with_reducible refine belowDraws ?_ _) | (with_reducible refine Below.setCell ?_ ?_ _) | omega | (simp; done) | (simp; omega)))).mono ?_
    rintro e w2 ⟨rfl, hb2⟩
    have q3 : w2.cell? ⟨w.heap.size, 0, none⟩ = some (.slice A n c) := (by rw [hb2.cell (by first | omega | (simp; done) | (simp; omega))]; simp [go_sem])
    have B20 : Below w.heap.size w w2 := Below.trans (by repeat' (first | (with_reducible exact Below.refl _ _) | (with_reducible assumption) | (with_reducible refine Below.alloc ?_ ?_ _) | (with_reducible refine Below.drew ?_) | (with_reducible refine belowDraws ?_ _) | (with_reducible refine Below.setCell ?_ ?_ _) | omega | (simp; done) | (simp; omega))) (hb2.mono (by simp))
    have z2 : w.heap.size < w2.heap.size := Nat.lt_of_lt_of_le (by simp) hb2.size
    replace hs := (hs.over B20).wider B20.size
    have B2 := B20
    clear LC hb2
    have z22 := B2.size
    have KB := Lib.hid (show ∀ W : World, Below w2.heap.size w2 W → W.cell? ⟨w.heap.size, 0, none⟩ = some (.slice A n c) from fun W hW => (hW.cell (p := ⟨w.heap.size, 0, none⟩) (show w.heap.size < w2.heap.size by omega)).trans q3)
    go_wp2_with fail
    go_loopw [5, 6] (fun v a wr => ∃ m : Nat, a = .int .i64 (4 - (m : Int)) ∧ m ≤ 5 ∧ wr.ownsRow w2.heap.size 2 1 v (gAll (htA l) (hitA l) n m).length ((gAll (htA l) (hitA l) n m).map fun (k : Nat) => Value.int .i64 (k : Int)) ∧ v ≠ .slice none 0 0 ∧ Below w2.heap.size w2 wr) (fun v a _ => (intOf a + 1).toNat)
    case atStart => exact ⟨0, rfl, by omega, World.ownsRow_made (base := w2.heap.size) (e := 2) (size := 1) w2 #[] 0 (Nat.le_refl _) (Nat.zero_le _) rfl, (by simp), by repeat' (first | (with_reducible exact Below.refl _ _) | (with_reducible assumption) | (with_reducible refine Below.alloc ?_ ?_ _) | (with_reducible refine Below.drew ?_) | (with_reducible refine belowDraws ?_ _) | (with_reducible refine Below.setCell ?_ ?_ _) | omega | (simp; done) | (simp; omega))⟩
    case round =>
      clear q3
      obtain ⟨m, rfl, hm5, hown2, hnil2, hBo⟩ := hrel
      obtain ⟨wo, rfl⟩ : ∃ W : World, W = wr := ⟨_, rfl⟩
      have zo := hBo.size
      by_cases hm : m < 5
      · have m0 : (0 : Int) ≤ 4 - (m : Int) := by omega
        have m48 : decide ((m : Int) ≤ 4) = true := decide_eq_true (by omega)
        have o1 := KB.out wo hBo
        have lo1 : w.heap.size < wo.heap.size := by omega
        go_wp2_with fail
        go_loopw [5, 22] (fun v a wr => ∃ i : Nat, a = .int .i64 i ∧ i ≤ n ∧ wr.ownsRow w2.heap.size 2 1 v (gRow (htA l) (hitA l) (4 - (m : Int)) (gAll (htA l) (hitA l) n m) i).length ((gRow (htA l) (hitA l) (4 - (m : Int)) (gAll (htA l) (hitA l) n m) i).map fun (k : Nat) => Value.int .i64 (k : Int)) ∧ v ≠ .slice none 0 0 ∧ Below w2.heap.size w2 wr) (fun v a _ => n - (intOf a).toNat)
        case atStart => exact ⟨0, rfl, Nat.zero_le _, hown2, hnil2, hBo⟩
        case round =>
          clear hown2 hnil2 o1 lo1
          obtain ⟨i, rfl, hi, hown3, hnil3, hBi⟩ := hrel
          obtain ⟨wi, rfl⟩ : ∃ W : World, W = wr := ⟨_, rfl⟩
          have HNIL := Lib.hid hnil3
          have zi := hBi.size
          clear hnil3
          by_cases hlt0 : i < n
          · obtain ⟨tb, tof, rfl, htb, HTK⟩ := tickAll hs HL.out HOK.out (by omega)
            obtain ⟨K, hK⟩ : ∃ K, gRow (htA l) (hitA l) (4 - (m : Int)) (gAll (htA l) (hitA l) n m) i = K := ⟨_, rfl⟩
            have HKl := Lib.hid (show ∀ k ∈ K, k < n by rw [← hK]; have h := rowG_lt (l := l) (m := m) (i := i) (by have := HL.out; omega); rw [HL.out] at h; exact h)
            have HKn := Lib.hid (show K.Nodup by rw [← hK]; have h := (gRow_inv (hitA_sym l) (kG_inv l m) i (by have := HL.out; omega)).1; rw [HL.out] at h; exact h)
            have HKc := Lib.hid (show K.length ≤ 150 from Nat.le_trans (nodupLe HKn.out HKl.out) (by omega))
            rw [hK] at hown3
            have HK := Lib.hid hK
            clear hK
            obtain ⟨k0, k1, k2⟩ := HTK.out wi hBi i hlt0
            have r1 := KB.out wi hBi
            have lb1 : w.heap.size < wi.heap.size := by omega
            have lbt : tb < wi.heap.size := by omega
            have hll : K.length ≤ 150 := HKc.out
            have i0'' : (0 : Int) ≤ (i : Int) := by omega
            have i1'' : (i : Int) < (n : Int) := by omega
            obtain ⟨vA, vc, rfl⟩ := ownShape hown3
            clear hs
            go_wp2_with fail
            refine (anyHits_any l n c tb tof w.heap.size wi.heap.size i _ HL.out hn40 HOK.out hlt0 ⟨by simp [go_sem, *], fun a ha => HTK.out _ (hBi.alloc (by omega) _) a ha, by simp [go_sem], by simp [go_sem], by simp [go_sem]⟩ ((hT.over B2).over (hBi.alloc (by omega) _)) vA vc K (by omega) HKl.out (Sees.ofOwn (hown3.alloc _))).mono ?_
            rintro e w3 ⟨rfl, hb3⟩
            have hown4 := ownOver (hown3.alloc _) hb3
            have HB3 := Lib.hid (show Below w2.heap.size w2 w3 from (hBi.alloc (by omega) _).trans (hb3.mono (by simp; omega)))
            have z23 := HB3.out.size
            have x2 : w3.cell? ⟨wi.heap.size, 2, none⟩ = some (.int .i64 (htA l i)) := (by rw [hb3.cell (by simp)]; simp [go_sem, *])
            have r3 := KB.out w3 HB3.out
            have lb4 : wi.heap.size < w3.heap.size := Nat.lt_of_lt_of_le (by simp) hb3.size
            clear hb3 hown3 k0 k1 k2 r1
            obtain ⟨nr, hnr⟩ : ∃ b : Bool, (K.any fun k => hitA l k i) = b := ⟨_, rfl⟩
            rw [hnr]
            have HNR := Lib.hid hnr
            clear hnr
            by_cases hh : htA l i = 4 - (m : Int)
            · have th : (htA l i == 4 - (m : Int)) = true := beq_iff_eq.2 hh
              have Hhh := Lib.hid hh
              clear hh
              cases nr with
              | false =>
                have HG := Lib.hid (gStep_yes (ht := htA l) (R := hitA l) Hhh.out HNR.out)
                clear HNR Hhh
                go_wp2_with (at_builtin; refine wpList_append_own_at _ rfl _ _ 26 rfl w2.heap.size 2 i0 (.int .i64 0) 1 8 Tryz.underlying26 hi' hz0 hz1 hz2 rfl (by decide) _ _ _ rfl (hown4.alloc _) ⟨w3.heap.size, 0, none⟩ 1 1 [.int .i64 (i : Int)] rfl rfl ?_ ?_ ?_ ?_ ?_ ?_; exact cell_one_new _ _ _; (intro u hu; simp at hu; subst hu; rfl); (unfold maxLen; omega); omega; (simp; omega); intro v' w4 hown1 hgr1 hnil1 hat1)
                go_roundw
                case rel =>
                  refine ⟨i + 1, by go_num, by omega, ?_, fun e => HNIL.out (hnil1.1 e).1, (HB3.out.alloc z23 (.cells #[.int .i64 (i : Int)] 2)).grown hgr1 (by simp; omega) (fun j hj => (hown4.lt j hj).1)⟩
                  rw [gRow, HK.out, HG.out, List.map_append, List.length_append]
                  exact hown1
                case measure => simp [intOf]; omega
              | true =>
                have HG := Lib.hid (gStep_no (ht := htA l) (R := hitA l) (K := K) (h := 4 - (m : Int)) (i := i) (fun h => by rw [HNR.out] at h; cases h.2))
                clear HNR Hhh
                go_wp2_with fail
                go_roundw
                case rel => exact ⟨i + 1, by go_num, by omega, by rw [gRow, HK.out, HG.out]; exact hown4, HNIL.out, HB3.out⟩
                case measure => simp [intOf]; omega
            · have th : (htA l i == 4 - (m : Int)) = false := by simpa using hh
              have HG := Lib.hid (gStep_no (ht := htA l) (R := hitA l) (K := K) (h := 4 - (m : Int)) (i := i) (fun h => hh h.1))
              clear HNR hh
              go_wp2_with fail
              go_roundw
              case rel => exact ⟨i + 1, by go_num, by omega, by rw [gRow, HK.out, HG.out]; exact hown4, HNIL.out, HB3.out⟩
              case measure => simp [intOf]; omega
          · obtain rfl : i = n := by omega
            go_wp2_with fail
            go_roundw
            case rel => exact ⟨m + 1, by go_num, by omega, hown3, HNIL.out, hBi⟩
            case measure => simp [intOf]; omega
      · have HM5 := Lib.hid (show m = 5 by omega)
        rw [HM5.out] at hown2
        obtain ⟨K, hK⟩ : ∃ K, gAll (htA l) (hitA l) n 5 = K := ⟨_, rfl⟩
        have inv := kG_inv l 5
        rw [HL.out, hK] at inv
        rw [hK] at hown2
        have HKl := Lib.hid (show ∀ k ∈ K, k < n from fun k hk => (inv.2.1 k hk).1)
        have HS := Lib.hid (sorted_kept inv.1 HKl.out)
        have HLn := Lib.hid (kept_perm inv.1 HKl.out).length_eq
        have Hv2 := Lib.hid (show rGreedy l = (kept K n, 0) by rw [Hv.out, kG, HL.out, hK])
        have hll : K.length ≤ 150 := Nat.le_trans (nodupLe inv.1 HKl.out) (by omega)
        clear hK inv
        rcases ownRow hown2 with ⟨hv, _⟩ | ⟨g, cap, cur, rfl, hbg, _⟩
        · exact absurd hv hnil2
        have hown3 : wo.ownsRow w2.heap.size 2 1 (.slice (some ⟨g, 0, none⟩) (K.map fun (k : Nat) => (k : Int)).length cap) (K.map fun (k : Nat) => (k : Int)).length ((K.map fun (k : Nat) => (k : Int)).map (Value.int .i64)) := by
          rw [List.length_map, List.map_map]
          exact hown2
        have SO := sortIntsG w2.heap.size g cap (K.map fun (k : Nat) => (k : Int)) wo hown3 (by rw [List.length_map]; omega)
        rw [HS.out, HLn.out] at SO
        have hle : K.length = (kept K n).length := by have h := HLn.out; rwa [List.length_map] at h
        rw [hle]
        clear hown2 hown3 hle hs
        go_wp2_with fail
        refine SO.mono ?_
        rintro e w5 ⟨rfl, own5, gr5⟩
        go_wp2_with fail
        go_ret2
        rw [Hv2.out]
        exact ⟨_, rfl, ownLower2 own5 (Nat.le_trans B20.size (Nat.le_refl _)), B20.trans ((hBo.grown gr5 zo (fun j hj => by cases hj; exact hbg)).mono B20.size)⟩
  · have Hv := Lib.hid (show rGreedy l = ([], ckL l) by rw [rGreedy, if_neg h0])
    generalize ckL l = ck at *
    have t1 : (ck != 0) = true := by simpa using h0
    clear h0 hl
    go_enter Tryz.func10, Tryz.ntmps10
    go_wp2_with fail
    refine (LC _ (by repeat' (first | (with_reducible exact Below.refl _ _) | (with_reducible assumption) | (with_reducible refine Below.alloc ?_ ?_ _) | (with_reducible refine Below.drew ?_) | (with_reducible refine belowDraws ?_ _) | (with_reducible refine Below.setCell ?_ ?_ _) | omega | (simp; done) | (simp; omega)))).mono ?_
    rintro e w2 ⟨rfl, hb2⟩
    have B20 : Below w.heap.size w w2 := Below.trans (by repeat' (first | (with_reducible exact Below.refl _ _) | (with_reducible assumption) | (with_reducible refine Below.alloc ?_ ?_ _) | (with_reducible refine Below.drew ?_) | (with_reducible refine belowDraws ?_ _) | (with_reducible refine Below.setCell ?_ ?_ _) | omega | (simp; done) | (simp; omega))) (hb2.mono (by simp))
    clear LC hs
    go_wp2_with fail
    go_ret2
    rw [Hv.out]
    exact ⟨_, rfl, World.ownsRow_nil _ _ _ _, B20⟩
end Go.Proofs.YtpbhncgjnmaojaaGreatDoor

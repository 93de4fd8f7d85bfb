/- KeepApart: the program's walk, with the library's sort (layer 8), and the law. No condition. -/
import Derived.Test.YtkblmcpklpmobaaKp2
import Derived.Test.YtkblmcpklpmobaaSortP
import Derived.Shelf.SortM.Plain
import Derived.Sort.OwnSortedInts
namespace Go.Proofs.Ytkblmcpklpmobaa
open Go.RowKit
set_option linter.unusedVariables false
set_option linter.unusedSimpArgs false

theorem sortInts_own (base g cap : Nat) (zs : List Int) (w : World) (hown : w.ownsRow base 2 1 (.slice (some ⟨g, 0, none⟩) zs.length cap) zs.length (zs.map (Value.int .i64))) (hz : zs.length ≤ 1000) :
    Calls Try.prog 83 #[.slice (some ⟨g, 0, none⟩) zs.length cap] w fun e w' => e = .returned (.tuple #[]) ∧ w'.ownsRow base 2 1 (.slice (some ⟨g, 0, none⟩) zs.length cap) zs.length ((zs.mergeSort fun x y => decide (x ≤ y)).map (Value.int .i64)) ∧ w.grownBy w' (some g) := by
  rcases hown.2 with ⟨h, _⟩ | ⟨g', cap', cur, hv, hg, hcur, hn, hcm, hsz, htk⟩
  · cases h
  · injection hv with hA hn' hc'
    injection hA with hA
    injection hA with hA
    subst hA hc'
    have hH := holds_of_blockI (ss := zs) hcur (by rw [← htk, Nat.mul_one])
    refine (AnyM.slices_Sort_int sortKp g 0 cap zs w hH (Array.getElem?_eq_some_iff.1 hcur).1 (by omega)).mono ?_
    rintro e w' ⟨rfl, n, os, rfl⟩
    exact ⟨rfl, ownsRow_sortedI (by simp) hg hcur hn hcm hsz, grownBy_sortedI _⟩
theorem nodup_le {K : List Nat} {n : Nat} (h1 : K.Nodup) (h2 : ∀ k ∈ K, k < n) : K.length ≤ n := by
  have := (kept_perm h1 h2).length_eq
  rw [List.length_map] at this
  rw [this]
  exact kept_length K n
set_option maxRecDepth 100000 in
set_option maxHeartbeats 16000000 in
theorem iKeepApart_any (A : Option Addr) (n c : Nat) (l : List (Int × Int × Int)) (d : Int) (w : World) (hl : l.length = n) (hn : n ≤ 1048576) (hs : Sees w w.heap.size A (cells3 l)) :
    Calls Try.prog 37 #[.slice A n c, .int .i64 d] w (GivesS 2 1 (rKeep l d).1.length ((rKeep l d).1.map (Value.int .i64)) (rKeep l d).2 w) := by
  have Hl := Lib.hid hl
  by_cases h0 : ckT l [] = 0
  · obtain ⟨hle, _, hpl⟩ := ckT_zero h0
    have HPL := Lib.hid (show ∀ a, a < n → -1000000000000 ≤ plc l a ∧ plc l a ≤ 1000000000000 from fun a ha => by
      have hx : l[a]? = some l[a] := List.getElem?_eq_getElem (by omega)
      rw [plc_at hx]
      exact hpl _ (List.getElem_mem _))
    have H0 := Lib.hid h0
    clear hpl h0
    have ID := fun W => within_any d 0 100000 W
    have HA := fun W (hB : Below w.heap.size w W) => anyHigh_any A n c l W Hl.out hn ((hs.over hB).wider hB.size)
    by_cases hd : inB d 0 100000 = true
    · rw [hd] at ID
      by_cases hh : heightsV l = true
      · have Hv := Lib.hid (show rKeep l d = (kept (kK l d) l.length, 0) by rw [rKeep, if_pos H0.out, hd, hh]; rfl)
        rw [hh] at HA
        obtain ⟨i0, hi', hz0, hz1, hz2⟩ := info_parts infoI64
        clear hh hd
        go_enter Try.func37, Try.ntmps37
        go_wp2_with fail
        refine (checkTicks_any A n c l _ [] (w.heap.size + 2) _ Hl.out hn (((hs.block (Nat.le_refl _) _).block (by simp) _).wider (by omega)) (by simp) (World.ownsRow_nil _ _ _ _) (by simp)).mono ?_
        rintro e w1 ⟨rfl, hb1⟩
        have q1 : w1.cell? ⟨w.heap.size, 0, none⟩ = some (.slice A n c) := (by rw [hb1.cell (by simp)]; simp [go_sem])
        have q2 : w1.cell? ⟨(w.heap.size + 1), 0, none⟩ = some (.int .i64 d) := (by rw [hb1.cell (by simp)]; simp [go_sem])
        have z1 : w.heap.size + 2 ≤ w1.heap.size := by have := hb1.size; simp at this; omega
        have B1 : Below w.heap.size w w1 := Below.trans (by repeat' (first | (with_reducible exact Below.refl _ _) | (with_reducible assumption) | (with_reducible refine Below.alloc ?_ ?_ _) | (with_reducible refine Below.drew ?_) | (with_reducible refine belowDraws ?_ _) | (with_reducible refine Below.setCell ?_ ?_ _) | omega | (simp; done) | (simp; omega))) (hb1.mono (by omega))
        clear hb1
        rw [H0.out]
        clear H0
        go_wp2_with (first
          | (go_at_call 77; (with_reducible refine (ID _).mono ?_); rintro e w' ⟨rfl, rfl⟩)
          | (go_at_call 79; (with_reducible refine (HA w1 (by with_reducible assumption)).mono ?_); rintro e w2 ⟨rfl, hb2⟩))
        have B2 : Below w.heap.size w w2 := B1.trans (hb2.mono B1.size)
        have z2 : w.heap.size + 2 ≤ w2.heap.size := Nat.le_trans z1 hb2.size
        have q3 : w2.cell? ⟨w.heap.size, 0, none⟩ = some (.slice A n c) := (hb2.cell (p := ⟨w.heap.size, 0, none⟩) (show w.heap.size < w1.heap.size by omega)).trans q1
        have q4 : w2.cell? ⟨(w.heap.size + 1), 0, none⟩ = some (.int .i64 d) := (hb2.cell (p := ⟨(w.heap.size + 1), 0, none⟩) (show (w.heap.size + 1) < w1.heap.size by omega)).trans q2
        clear q1 q2 hb2 HA ID
        have z22 := B2.size
        have KB := Lib.hid (show ∀ W : World, Below w2.heap.size w2 W → W.cell? ⟨w.heap.size, 0, none⟩ = some (.slice A n c) ∧ W.cell? ⟨(w.heap.size + 1), 0, none⟩ = some (.int .i64 d) from fun W hW => ⟨(hW.cell (p := ⟨w.heap.size, 0, none⟩) (show w.heap.size < w2.heap.size by omega)).trans q3, (hW.cell (p := ⟨(w.heap.size + 1), 0, none⟩) (show (w.heap.size + 1) < w2.heap.size by omega)).trans q4⟩)
        clear q3 q4
        go_wp2_with fail
        go_loopw [7, 8] (fun v a wr => ∃ m : Nat, a = .int .i64 (4 - (m : Int)) ∧ m ≤ 5 ∧ wr.ownsRow w2.heap.size 2 1 v (gAll (hgt l) (nearB l d) n m).length ((gAll (hgt l) (nearB l d) n m).map fun (k : Nat) => Value.int .i64 (k : Int)) ∧ v ≠ .slice none 0 0 ∧ Below w2.heap.size w2 wr) (fun v a _ => (intOf a + 1).toNat)
        case atStart => exact ⟨0, rfl, by omega, World.ownsRow_made (base := w2.heap.size) (e := 2) (size := 1) w2 #[] 0 (Nat.le_refl _) (Nat.zero_le _) rfl, (by simp), by repeat' (first | (with_reducible exact Below.refl _ _) | (with_reducible assumption) | (with_reducible refine Below.alloc ?_ ?_ _) | (with_reducible refine Below.drew ?_) | (with_reducible refine belowDraws ?_ _) | (with_reducible refine Below.setCell ?_ ?_ _) | omega | (simp; done) | (simp; omega))⟩
        case round =>
          obtain ⟨m, rfl, hm5, hown2, hnil2, hBo⟩ := hrel
          obtain ⟨wo, rfl⟩ : ∃ W : World, W = wr := ⟨_, rfl⟩
          have zo := hBo.size
          by_cases hm : m < 5
          · have m0 : (0 : Int) ≤ 4 - (m : Int) := by omega
            have m48 : decide ((m : Int) ≤ 4) = true := decide_eq_true (by omega)
            obtain ⟨o1, o2⟩ := KB.out wo hBo
            have lo1 : w.heap.size < wo.heap.size := by omega
            go_wp2_with fail
            go_loopw [7, 31] (fun v a wr => ∃ i : Nat, a = .int .i64 i ∧ i ≤ n ∧ wr.ownsRow w2.heap.size 2 1 v (gRow (hgt l) (nearB l d) (4 - (m : Int)) (gAll (hgt l) (nearB l d) n m) i).length ((gRow (hgt l) (nearB l d) (4 - (m : Int)) (gAll (hgt l) (nearB l d) n m) i).map fun (k : Nat) => Value.int .i64 (k : Int)) ∧ v ≠ .slice none 0 0 ∧ Below w2.heap.size w2 wr) (fun v a _ => n - (intOf a).toNat)
            case atStart => exact ⟨0, rfl, Nat.zero_le _, hown2, hnil2, hBo⟩
            case round =>
              clear hown2 hnil2 o1 o2 lo1
              obtain ⟨i, rfl, hi, hown3, hnil3, hBi⟩ := hrel
              obtain ⟨wi, rfl⟩ : ∃ W : World, W = wr := ⟨_, rfl⟩
              have HNIL := Lib.hid hnil3
              have zi := hBi.size
              clear hnil3
              by_cases hlt0 : i < n
              · obtain ⟨tb, tof, p, rfl, htb, hp, c0, c1, c2⟩ := hs.three (k := i) (by omega)
                have HTb := Lib.hid (fun a (ha : a < n) => show w.cell? ⟨tb, tof + a * 3 + 1, none⟩ = some (.int .i64 (plc l a)) by
                  obtain ⟨tb2, tof2, p2, hA, hb2, hp2, d0, d1, d2⟩ := hs.three (k := a) (by omega)
                  injection hA with hA
                  injection hA with hA1 hA2
                  subst hA1 hA2
                  rw [d1, plc_at hp2])
                obtain ⟨K, hK⟩ : ∃ K, gRow (hgt l) (nearB l d) (4 - (m : Int)) (gAll (hgt l) (nearB l d) n m) i = K := ⟨_, rfl⟩
                have HKl := Lib.hid (show ∀ k ∈ K, k < n by rw [← hK]; have h := row_lt (l := l) (d := d) (m := m) (i := i) (by omega); rw [Hl.out] at h; exact h)
                have HKn := Lib.hid (show K.Nodup by rw [← hK]; have h := (gRow_inv (nearB_sym l d) (kK_inv l d m) i (by omega)).1; rw [Hl.out] at h; exact h)
                have HKc := Lib.hid (show K.length ≤ 150 from Nat.le_trans (nodup_le HKn.out HKl.out) (by omega))
                rw [hK] at hown3
                have HK := Lib.hid hK
                clear hK
                have HB := Lib.hid (B2.trans (hBi.mono z22))
                have k0 := (HB.out.cell (p := ⟨tb, tof + i * 3, none⟩) htb).trans c0
                have k1 := (HB.out.cell (p := ⟨tb, tof + i * 3 + 1, none⟩) htb).trans c1
                have k2 := (HB.out.cell (p := ⟨tb, tof + i * 3 + 2, none⟩) htb).trans c2
                obtain ⟨r1, r2⟩ := KB.out wi hBi
                have lb1 : w.heap.size < wi.heap.size := by omega
                have lb3 : (w.heap.size + 1) < wi.heap.size := by omega
                have Hp := Lib.hid (plc_at hp)
                have Hh := Lib.hid (hgt_at hp)
                have hll : K.length ≤ 150 := HKc.out
                have i0'' : (0 : Int) ≤ (i : Int) := by omega
                have i1'' : (i : Int) < (n : Int) := by omega
                obtain ⟨vA, vc, rfl⟩ := ownShape hown3
                clear hp c0 c1 c2
                go_wp2_with fail
                refine (anyNear_any vA vc K l i d tb tof w.heap.size wi.heap.size (w.heap.size + 1) n c _ (by omega) HKl.out Hl.out (fun a ha => HPL.out a ha) hlt0 (Sees.ofOwn (hown3.alloc _)) (fun a ha => ((HB.out.alloc (by omega) _).cell htb).trans (HTb.out a ha)) (by simp [go_sem, *]) (by rw [Hp.out]; simp [go_sem, *]) (by simp [go_sem, *])).mono ?_
                rintro e w3 ⟨rfl, hb3⟩
                have hown4 := ownOver (hown3.alloc _) hb3
                have HB3 := Lib.hid (show Below w2.heap.size w2 w3 from (hBi.alloc (by omega) _).trans (hb3.mono (by simp; omega)))
                have z23 := HB3.out.size
                have x2 : w3.cell? ⟨wi.heap.size, 2, none⟩ = some (.int .i64 p.2.2) := (by rw [hb3.cell (by simp)]; simp [go_sem, *])
                have y1 := KB.out w3 HB3.out
                obtain ⟨r3, r4⟩ := y1
                have lb4 : wi.heap.size < w3.heap.size := Nat.lt_of_lt_of_le (by simp) hb3.size
                clear hb3 hown3 k0 k1 k2 r1 r2
                obtain ⟨nr, hnr⟩ : ∃ b : Bool, (K.any fun k => nearB l d k i) = b := ⟨_, rfl⟩
                rw [hnr]
                have HNR := Lib.hid hnr
                clear hnr
                by_cases hh : p.2.2 = 4 - (m : Int)
                · have th : (p.2.2 == 4 - (m : Int)) = true := beq_iff_eq.2 hh
                  have Hhh := Lib.hid (Hh.out.trans hh)
                  clear hh
                  cases nr with
                  | false =>
                    have HG := Lib.hid (gStep_yes (ht := hgt l) (R := nearB l d) Hhh.out HNR.out)
                    clear HNR Hhh Hh
                    go_wp2_with (at_builtin; refine wpList_append_own_at _ rfl _ _ 30 rfl w2.heap.size 2 i0 (.int .i64 0) 1 8 Try.underlying30 hi' hz0 hz1 hz2 rfl (by decide) _ _ _ rfl (hown4.alloc _) ⟨w3.heap.size, 0, none⟩ 1 1 [.int .i64 (i : Int)] rfl rfl ?_ ?_ ?_ ?_ ?_ ?_; exact cell_one_new _ _ _; (intro u hu; simp at hu; subst hu; rfl); (unfold maxLen; omega); omega; (simp; omega); intro v' w4 hown1 hgr1 hnil1 hat1)
                    go_roundw
                    case rel =>
                      refine ⟨i + 1, by go_num, by omega, ?_, fun e => HNIL.out (hnil1.1 e).1, (HB3.out.alloc z23 (.cells #[.int .i64 (i : Int)] 2)).grown hgr1 (by simp; omega) (fun j hj => (hown4.lt j hj).1)⟩
                      rw [gRow, HK.out, HG.out, List.map_append, List.length_append]
                      exact hown1
                    case measure => simp [intOf]; omega
                  | true =>
                    have HG := Lib.hid (gStep_no (ht := hgt l) (R := nearB l d) (K := K) (h := 4 - (m : Int)) (i := i) (fun h => by rw [HNR.out] at h; cases h.2))
                    clear HNR Hhh Hh
                    go_wp2_with fail
                    go_roundw
                    case rel => exact ⟨i + 1, by go_num, by omega, by rw [gRow, HK.out, HG.out]; exact hown4, HNIL.out, HB3.out⟩
                    case measure => simp [intOf]; omega
                · have th : (p.2.2 == 4 - (m : Int)) = false := by simpa using hh
                  have HG := Lib.hid (gStep_no (ht := hgt l) (R := nearB l d) (K := K) (h := 4 - (m : Int)) (i := i) (fun h => hh (by rw [← Hh.out]; exact h.1)))
                  clear HNR hh Hh
                  go_wp2_with fail
                  go_roundw
                  case rel => exact ⟨i + 1, by go_num, by omega, by rw [gRow, HK.out, HG.out]; exact hown4, HNIL.out, HB3.out⟩
                  case measure => simp [intOf]; omega
              · obtain rfl : i = n := by omega
                go_wp2_with fail
                go_roundw
                case rel => exact ⟨m + 1, by go_num, by omega, hown3, HNIL.out, hBi⟩
                case measure => simp [intOf]; omega
          · have HM5 := Lib.hid (show m = 5 by omega)
            rw [HM5.out] at hown2
            obtain ⟨K, hK⟩ : ∃ K, gAll (hgt l) (nearB l d) n 5 = K := ⟨_, rfl⟩
            have inv := kK_inv l d 5
            rw [Hl.out, hK] at inv
            rw [hK] at hown2
            have HKl := Lib.hid (show ∀ k ∈ K, k < n from fun k hk => (inv.2.1 k hk).1)
            have HS := Lib.hid (sorted_kept inv.1 HKl.out)
            have HLn := Lib.hid (kept_perm inv.1 HKl.out).length_eq
            have Hv2 := Lib.hid (show rKeep l d = (kept K n, 0) by rw [Hv.out, kK, Hl.out, hK])
            have hll : K.length ≤ 150 := Nat.le_trans (nodup_le inv.1 HKl.out) (by omega)
            clear hK inv
            rcases ownRow hown2 with ⟨hv, _⟩ | ⟨g, cap, cur, rfl, hbg, _⟩
            · exact absurd hv hnil2
            have hown3 : wo.ownsRow w2.heap.size 2 1 (.slice (some ⟨g, 0, none⟩) (K.map fun (k : Nat) => (k : Int)).length cap) (K.map fun (k : Nat) => (k : Int)).length ((K.map fun (k : Nat) => (k : Int)).map (Value.int .i64)) := by
              rw [List.length_map, List.map_map]
              exact hown2
            have SO := sortInts_own w2.heap.size g cap (K.map fun (k : Nat) => (k : Int)) wo hown3 (by rw [List.length_map]; omega)
            rw [HS.out, HLn.out] at SO
            have hle : K.length = (kept K n).length := by have h := HLn.out; rwa [List.length_map] at h
            have HLE := Lib.hid hle
            rw [hle]
            clear hown2 hown3 hle
            go_wp2_with fail
            refine SO.mono ?_
            rintro e w5 ⟨rfl, own5, gr5⟩
            go_wp2_with fail
            go_ret2
            rw [Hv2.out]
            exact ⟨_, rfl, ownLess own5 z22, B2.trans ((hBo.grown gr5 zo (fun j hj => by cases hj; exact hbg)).mono z22)⟩
      · have Hv := Lib.hid (show rKeep l d = ([], 2) by rw [rKeep, if_pos H0.out, if_neg (by simp [hh])])
        rw [show heightsV l = false by simpa using hh] at HA
        clear hh hd
        go_enter Try.func37, Try.ntmps37
        go_wp2_with fail
        refine (checkTicks_any A n c l _ [] (w.heap.size + 2) _ Hl.out hn (((hs.block (Nat.le_refl _) _).block (by simp) _).wider (by omega)) (by simp) (World.ownsRow_nil _ _ _ _) (by simp)).mono ?_
        rintro e w1 ⟨rfl, hb1⟩
        have q1 : w1.cell? ⟨w.heap.size, 0, none⟩ = some (.slice A n c) := (by rw [hb1.cell (by simp)]; simp [go_sem])
        have q2 : w1.cell? ⟨(w.heap.size + 1), 0, none⟩ = some (.int .i64 d) := (by rw [hb1.cell (by simp)]; simp [go_sem])
        have z1 : w.heap.size + 2 ≤ w1.heap.size := by have := hb1.size; simp at this; omega
        have B1 : Below w.heap.size w w1 := Below.trans (by repeat' (first | (with_reducible exact Below.refl _ _) | (with_reducible assumption) | (with_reducible refine Below.alloc ?_ ?_ _) | (with_reducible refine Below.drew ?_) | (with_reducible refine belowDraws ?_ _) | (with_reducible refine Below.setCell ?_ ?_ _) | omega | (simp; done) | (simp; omega))) (hb1.mono (by omega))
        clear hb1
        rw [H0.out]
        clear H0
        go_wp2_with (first
          | (go_at_call 77; (with_reducible refine (ID _).mono ?_); rintro e w' ⟨rfl, rfl⟩)
          | (go_at_call 79; (with_reducible refine (HA w1 (by with_reducible assumption)).mono ?_); rintro e w2 ⟨rfl, hb2⟩))
        have B2 : Below w.heap.size w w2 := B1.trans (hb2.mono B1.size)
        clear HA ID hs
        go_ret2
        rw [Hv.out]
        exact ⟨_, rfl, World.ownsRow_nil _ _ _ _, by repeat' (first | (with_reducible exact Below.refl _ _) | (with_reducible assumption) | (with_reducible refine Below.alloc ?_ ?_ _) | (with_reducible refine Below.drew ?_) | (with_reducible refine belowDraws ?_ _) | (with_reducible refine Below.setCell ?_ ?_ _) | omega | (simp; done) | (simp; omega))⟩
    · have Hv := Lib.hid (show rKeep l d = ([], 2) by rw [rKeep, if_pos H0.out, if_neg (by simp [hd])])
      rw [show inB d 0 100000 = false by simpa using hd] at ID
      clear hd HA
      go_enter Try.func37, Try.ntmps37
      go_wp2_with fail
      refine (checkTicks_any A n c l _ [] (w.heap.size + 2) _ Hl.out hn (((hs.block (Nat.le_refl _) _).block (by simp) _).wider (by omega)) (by simp) (World.ownsRow_nil _ _ _ _) (by simp)).mono ?_
      rintro e w1 ⟨rfl, hb1⟩
      have q1 : w1.cell? ⟨w.heap.size, 0, none⟩ = some (.slice A n c) := (by rw [hb1.cell (by simp)]; simp [go_sem])
      have q2 : w1.cell? ⟨(w.heap.size + 1), 0, none⟩ = some (.int .i64 d) := (by rw [hb1.cell (by simp)]; simp [go_sem])
      have z1 : w.heap.size + 2 ≤ w1.heap.size := by have := hb1.size; simp at this; omega
      have B1 : Below w.heap.size w w1 := Below.trans (by repeat' (first | (with_reducible exact Below.refl _ _) | (with_reducible assumption) | (with_reducible refine Below.alloc ?_ ?_ _) | (with_reducible refine Below.drew ?_) | (with_reducible refine belowDraws ?_ _) | (with_reducible refine Below.setCell ?_ ?_ _) | omega | (simp; done) | (simp; omega))) (hb1.mono (by omega))
      clear hb1
      rw [H0.out]
      clear H0 hs
      go_wp2_with (go_at_call 77; (with_reducible refine (ID _).mono ?_); rintro e w' ⟨rfl, rfl⟩)
      go_ret2
      rw [Hv.out]
      exact ⟨_, rfl, World.ownsRow_nil _ _ _ _, by repeat' (first | (with_reducible exact Below.refl _ _) | (with_reducible assumption) | (with_reducible refine Below.alloc ?_ ?_ _) | (with_reducible refine Below.drew ?_) | (with_reducible refine belowDraws ?_ _) | (with_reducible refine Below.setCell ?_ ?_ _) | omega | (simp; done) | (simp; omega))⟩
  · have Hv := Lib.hid (show rKeep l d = ([], ckT l []) by rw [rKeep, if_neg h0])
    go_enter Try.func37, Try.ntmps37
    go_wp2_with fail
    refine (checkTicks_any A n c l _ [] (w.heap.size + 2) _ Hl.out hn (((hs.block (Nat.le_refl _) _).block (by simp) _).wider (by omega)) (by simp) (World.ownsRow_nil _ _ _ _) (by simp)).mono ?_
    rintro e w1 ⟨rfl, hb1⟩
    have q1 : w1.cell? ⟨w.heap.size, 0, none⟩ = some (.slice A n c) := (by rw [hb1.cell (by simp)]; simp [go_sem])
    have q2 : w1.cell? ⟨(w.heap.size + 1), 0, none⟩ = some (.int .i64 d) := (by rw [hb1.cell (by simp)]; simp [go_sem])
    have z1 : w.heap.size + 2 ≤ w1.heap.size := by have := hb1.size; simp at this; omega
    have B1 : Below w.heap.size w w1 := Below.trans (by repeat' (first | (with_reducible exact Below.refl _ _) | (with_reducible assumption) | (with_reducible refine Below.alloc ?_ ?_ _) | (with_reducible refine Below.drew ?_) | (with_reducible refine belowDraws ?_ _) | (with_reducible refine Below.setCell ?_ ?_ _) | omega | (simp; done) | (simp; omega))) (hb1.mono (by omega))
    clear hb1
    rw [show ckT l [] = ckT l [] from rfl]
    generalize ckT l [] = ck at *
    have t1 : (ck != 0) = true := by simpa using h0
    clear h0 hs
    go_wp2_with fail
    go_ret2
    rw [Hv.out]
    exact ⟨_, rfl, World.ownsRow_nil _ _ _ _, by repeat' (first | (with_reducible exact Below.refl _ _) | (with_reducible assumption) | (with_reducible refine Below.alloc ?_ ?_ _) | (with_reducible refine Below.drew ?_) | (with_reducible refine belowDraws ?_ _) | (with_reducible refine Below.setCell ?_ ?_ _) | omega | (simp; done) | (simp; omega))⟩
end Go.Proofs.Ytkblmcpklpmobaa

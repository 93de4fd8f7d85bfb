/- Choices of labels and their worth: the walks (layer 9). No condition but the table. -/
import Derived.Test.YtpbhncgjnmaojaaGreatDoorLx
import Derived.Test.YtpbhncgjnmaojaaGreatDoorRule
import Derived.Test.YtpbhncgjnmaojaaGreatDoorOwn
namespace Go.Proofs.YtpbhncgjnmaojaaGreatDoor
open Go.RowKit
set_option linter.unusedVariables false
set_option linter.unusedSimpArgs false

/-- the cells of all ticks, in each later world -/
theorem tickAll {w : World} {A : Option Addr} {l : List (Int × Int × Int)} {n : Nat} (hs : Sees w w.heap.size A (cells3 l)) (hl : l.length = n) (hok : ∀ p ∈ l, okL p = true) (h0 : 0 < n) :
    ∃ b off, A = some ⟨b, off, none⟩ ∧ b < w.heap.size ∧ Hid (∀ W : World, Below w.heap.size w W → ∀ a, a < n → W.cell? ⟨b, off + a * 3, none⟩ = some (.int .i64 (mkA l a : Int)) ∧ W.cell? ⟨b, off + a * 3 + 1, none⟩ = some (.int .i64 (plA l a)) ∧ W.cell? ⟨b, off + a * 3 + 2, none⟩ = some (.int .i64 (htA l a))) := by
  obtain ⟨b, off, p, hA, hb, _⟩ := hs.three (k := 0) (by omega)
  refine ⟨b, off, hA, hb, fun W hW a ha => ?_⟩
  obtain ⟨b2, off2, q, hA2, hb2, hq, c0, c1, c2⟩ := hs.three (k := a) (by omega)
  rw [hA] at hA2
  injection hA2 with hA2
  injection hA2 with e1 e2
  subst e1 e2
  have e := (tk_facts hl hok ha).1
  rw [tkA_at hq] at e
  rw [e] at c0 c1 c2
  exact ⟨(hW.cell (p := ⟨b, off + a * 3, none⟩) hb).trans c0, (hW.cell (p := ⟨b, off + a * 3 + 1, none⟩) hb).trans c1, (hW.cell (p := ⟨b, off + a * 3 + 2, none⟩) hb).trans c2⟩
theorem intAll {w : World} {A : Option Addr} {ch : List Int} (hs : Sees w w.heap.size A (ch.map (Value.int .i64))) (h0 : 0 < ch.length) :
    ∃ b off, A = some ⟨b, off, none⟩ ∧ b < w.heap.size ∧ Hid (∀ W : World, Below w.heap.size w W → ∀ (k : Nat) (x : Int), ch[k]? = some x → W.cell? ⟨b, off + k, none⟩ = some (.int .i64 x)) := by
  obtain ⟨b, off, hA, hb, hc⟩ := hs.addr (by rw [List.length_map]; exact h0)
  exact ⟨b, off, hA, hb, fun W hW k x hx => (hW.cell (p := ⟨b, off + k, none⟩) hb).trans (hc k _ (by rw [List.getElem?_map, hx]; rfl))⟩
section
variable {n i j : Nat} {ch : List Int} {x y : Int}
theorem okAt_in (hx : ch[i]? = some x) (h : inB x 0 ((n : Int) - 1) = false) : okAt n ch i = false := by simp [okAt, cA_at hx, h]
theorem okAt_zero (hx : ch[0]? = some x) (h : inB x 0 ((n : Int) - 1) = true) : okAt n ch 0 = true := by simp [okAt, cA_at hx, h]
theorem okAt_le (hx : ch[j + 1]? = some x) (hy : ch[j]? = some y) (h : x ≤ y) : okAt n ch (j + 1) = false := by
  simp only [okAt, cA_at hx, Nat.add_sub_cancel, cA_at hy]
  rw [decide_eq_false (show ¬ j + 1 = 0 by omega), decide_eq_false (show ¬ y < x by omega)]
  simp
theorem okAt_gt (hx : ch[j + 1]? = some x) (hy : ch[j]? = some y) (h1 : inB x 0 ((n : Int) - 1) = true) (h : ¬ x ≤ y) : okAt n ch (j + 1) = true := by
  simp only [okAt, cA_at hx, Nat.add_sub_cancel, cA_at hy]
  rw [decide_eq_true (show y < x by omega), h1]
  simp
theorem rises_more (h : risesTo n ch i = true) (k : okAt n ch i = true) : risesTo n ch (i + 1) = true := by rw [risesTo_next, h, k]; rfl
theorem apart_more {l : List (Int × Int × Int)} (h : apartTo l ch i = true) (k : noHit l ch i i = true) : apartTo l ch (i + 1) = true := by rw [apartTo_next, h, k]; rfl
theorem noHit_more {l : List (Int × Int × Int)} {k a b : Nat} (hx : ch[i]? = some (a : Int)) (hy : ch[k]? = some (b : Int)) (h : noHit l ch i k = true) (hh : hitA l a b = false) : noHit l ch i (k + 1) = true := by
  rw [noHit_next, h, cA_at hx, cA_at hy, Int.toNat_natCast, Int.toNat_natCast, hh]; rfl
theorem chB_rises {l : List (Int × Int × Int)} (hl : l.length = n) (hi : i < ch.length) (h : okAt n ch i = false) : chB l ch = false := by
  rw [chB, hl, rises_false hi h]; rfl
theorem chB_hits {l : List (Int × Int × Int)} {k a b : Nat} (hi : i < ch.length) (hk : k < i) (hx : ch[i]? = some (a : Int)) (hy : ch[k]? = some (b : Int)) (h : hitA l a b = true) : chB l ch = false := by
  have := apart_false (l := l) (ch := ch) hi hk (by rw [cA_at hx, cA_at hy, Int.toNat_natCast, Int.toNat_natCast]; exact h)
  rw [chB, this]
  simp
theorem chB_yes {l : List (Int × Int × Int)} {m : Nat} (hl : l.length = n) (hm : ch.length = m) (h1 : risesTo n ch m = true) (h2 : apartTo l ch m = true) : chB l ch = true := by
  rw [chB, hl, hm, h1, h2]; rfl
end
set_option maxRecDepth 100000 in
set_option maxHeartbeats 4000000 in
theorem l01Rises_any (C : Option Addr) (m cc n : Nat) (ch : List Int) (w : World) (hn : n ≤ 40) (hm : ch.length = m) (hm1 : m ≤ 1048576) (hsc : Sees w w.heap.size C (ch.map (Value.int .i64))) :
    Calls Tryz.prog 52 #[.slice C m cc, .int .i64 (n : Int)] w fun e w' => e = .returned (.bool (risesTo n ch m)) ∧ Below w.heap.size w w' := by
  go_enter Tryz.func52, Tryz.ntmps52
  go_wp2_with fail
  go_loopw [5] (fun u wr => ∃ i : Nat, i ≤ m ∧ u = .int .i64 (i : Int) ∧ risesTo n ch i = true ∧ Below w.heap.size w wr) (fun u _ => m - (intOf u).toNat)
  case atStart => exact ⟨0, Nat.zero_le _, rfl, rfl, Below.refl _ _⟩
  case round =>
    obtain ⟨i, hi, rfl, hr, hB⟩ := hrel
    have HR := Lib.hid hr
    have zr := hB.size
    clear hr
    by_cases hlt : i < m
    · obtain ⟨cb, coff, rfl, hcb, HCH⟩ := intAll hsc (by omega)
      have hcr : cb < wr.heap.size := by omega
      obtain ⟨x, hx⟩ : ∃ x, ch[i]? = some x := ⟨_, List.getElem?_eq_getElem (by omega)⟩
      have HXI := Lib.hid hx
      have c0 := HCH.out wr hB i x hx
      have IN := fun W => l01In_any x 0 ((n : Int) - 1) W
      have wn : IntKind.i64.wrap ((n : Int) - 1) = (n : Int) - 1 := IntWalk.i64_in _ (by omega)
      clear hx hsc
      have i0 : (0 : Int) ≤ (i : Int) := by omega
      have i1 : (i : Int) < (m : Int) := by omega
      by_cases hin : inB x 0 ((n : Int) - 1) = true
      · rw [hin] at IN
        rcases i with _ | j
        · have d0 : decide ((0 : Int) < ((0 : Nat) : Int)) = false := by decide
          simp only [Nat.add_zero] at c0
          have HY := HXI
          have HIN := Lib.hid hin
          clear hin
          have HX := Lib.hid (rises_more HR.out (okAt_zero HXI.out HIN.out))
          clear HY HXI
          go_wp2_with fail
          go_quiet (((go_at_call 69; exact quietSame (IN _))))
          clear IN 
          go_wp2_with fail
          go_roundw
          case rel => exact ⟨1, by omega, by go_num, HX.out, by repeat' (first | (with_reducible exact Below.refl _ _) | (with_reducible assumption) | (with_reducible refine Below.alloc ?_ ?_ _) | (with_reducible refine Below.drew ?_) | (with_reducible refine belowDraws ?_ _) | (with_reducible refine Below.setCell ?_ ?_ _) | omega | (simp; done) | (simp; omega))⟩
          case measure => simp [intOf]; omega
        · obtain ⟨y, hy⟩ : ∃ y, ch[j]? = some y := ⟨_, List.getElem?_eq_getElem (by omega)⟩
          have HY := Lib.hid hy
          have c1 := HCH.out wr hB j y hy
          have HIN := Lib.hid hin
          clear hy hin i0 i1
          have j0 : (0 : Int) ≤ (j : Int) := by omega
          have j1 : (j : Int) < (m : Int) := by omega
          have j2 : ((j : Int) + 1).toNat = j + 1 := by omega
          have j3 : (j : Int) + 1 - 1 = (j : Int) := by omega
          have j4 : IntKind.i64.wrap ((j : Int) + 1 - 1) = (j : Int) := (IntWalk.i64_in _ (by omega)).trans j3
          have j5 : IntKind.i64.wrap (j : Int) = (j : Int) := IntWalk.i64_in _ (by omega)
          have j6 : (0 : Int) ≤ (j : Int) + 1 := by omega
          have j7 : (j : Int) + 1 < (m : Int) := by omega
          have j8 : decide ((0 : Int) < (j : Int) + 1) = true := decide_eq_true (by omega)
          have j9 : IntKind.i64.wrap ((j : Int) + 1) = (j : Int) + 1 := IntWalk.i64_in _ (by omega)
          by_cases hxy : x ≤ y
          · have d1 : decide (x ≤ y) = true := decide_eq_true hxy
            have HX := Lib.hid (rises_false (n := n) (by rw [hm]; exact hlt) (okAt_le HXI.out HY.out hxy))
            clear HY HXI
            rw [hm] at HX
            go_wp2_with fail
            go_quiet (((go_at_call 69; exact quietSame (IN _))))
            clear IN
            go_wp2_with fail
            go_ret
            exact ⟨endBool HX.out.symm, by repeat' (first | (with_reducible exact Below.refl _ _) | (with_reducible assumption) | (with_reducible refine Below.alloc ?_ ?_ _) | (with_reducible refine Below.drew ?_) | (with_reducible refine belowDraws ?_ _) | (with_reducible refine Below.setCell ?_ ?_ _) | omega | (simp; done) | (simp; omega))⟩
          · have d1 : decide (x ≤ y) = false := decide_eq_false hxy
            have HX := Lib.hid (rises_more HR.out (okAt_gt HXI.out HY.out HIN.out hxy))
            clear HY HXI
            go_wp2_with fail
            go_quiet (((go_at_call 69; exact quietSame (IN _))))
            clear IN j0 j1 j2 j3 j4 j5 j6 j7 j8 j9
            go_wp2_with fail
            go_roundw
            case rel => exact ⟨j + 1 + 1, by omega, by go_num, HX.out, by repeat' (first | (with_reducible exact Below.refl _ _) | (with_reducible assumption) | (with_reducible refine Below.alloc ?_ ?_ _) | (with_reducible refine Below.drew ?_) | (with_reducible refine belowDraws ?_ _) | (with_reducible refine Below.setCell ?_ ?_ _) | omega | (simp; done) | (simp; omega))⟩
            case measure => simp [intOf]; omega
      · replace hin : inB x 0 ((n : Int) - 1) = false := by simpa using hin
        rw [hin] at IN
        have HY := HXI
        have HIN := Lib.hid hin
        clear hin
        have HX := Lib.hid (rises_false (n := n) (by rw [hm]; exact hlt) (okAt_in HXI.out HIN.out))
        clear HY HXI
        rw [hm] at HX
        go_wp2_with fail
        go_quiet (((go_at_call 69; exact quietSame (IN _))))
        clear IN
        go_wp2_with fail
        go_ret
        exact ⟨endBool HX.out.symm, by repeat' (first | (with_reducible exact Below.refl _ _) | (with_reducible assumption) | (with_reducible refine Below.alloc ?_ ?_ _) | (with_reducible refine Below.drew ?_) | (with_reducible refine belowDraws ?_ _) | (with_reducible refine Below.setCell ?_ ?_ _) | omega | (simp; done) | (simp; omega))⟩
    · obtain rfl : i = m := by omega
      clear hsc hm
      go_wp2_with fail
      go_ret
      exact ⟨endBool HR.out.symm, hB⟩
set_option maxRecDepth 100000 in
set_option maxHeartbeats 16000000 in
theorem isChoice_any (A : Option Addr) (n c : Nat) (l : List (Int × Int × Int)) (C : Option Addr) (m cc : Nat) (ch : List Int) (w : World) (hl : l.length = n) (hn : n ≤ 40) (hok : ∀ p ∈ l, okL p = true) (hs : Sees w w.heap.size A (cells3 l)) (hm : ch.length = m) (hmc : m ≤ cc) (hm1 : m ≤ 1048576) (hcc : cc ≤ 9223372036854775807) (hsc : Sees w w.heap.size C (ch.map (Value.int .i64))) (hT : Tab w) :
    Calls Tryz.prog 33 #[.slice A n c, .slice C m cc] w fun e w' => e = .returned (.bool (chB l ch)) ∧ Below w.heap.size w w' := by
  have HL := Lib.hid hl
  have HOK := Lib.hid hok
  clear hl hok
  go_enter Tryz.func33, Tryz.ntmps33
  go_wp2_with fail
  go_loopw [11] (fun u wr => ∃ i : Nat, i ≤ m ∧ u = .int .i64 (i : Int) ∧ Hid (risesTo n ch i = true) ∧ Hid (apartTo l ch i = true) ∧ Below w.heap.size w wr) (fun u _ => m - (intOf u).toNat)
  case atStart => exact ⟨0, Nat.zero_le _, rfl, Lib.hid rfl, Lib.hid rfl, Below.refl _ _⟩
  case round =>
    obtain ⟨i, hi, rfl, HR, HA, hBo⟩ := hrel
    obtain ⟨wo, rfl⟩ : ∃ W : World, W = wr := ⟨_, rfl⟩
    have zo := hBo.size
    by_cases hlt : i < m
    · obtain ⟨cb, coff, rfl, hcb, HCH⟩ := intAll hsc (by omega)
      have hco : cb < wo.heap.size := by omega
      obtain ⟨x, hx⟩ : ∃ x, ch[i]? = some x := ⟨_, List.getElem?_eq_getElem (by omega)⟩
      have HXI := Lib.hid hx
      have c0 := HCH.out wo hBo i x hx
      have IN := fun W => within_any x 0 ((n : Int) - 1) W
      clear hx hsc
      have i0 : (0 : Int) ≤ (i : Int) := by omega
      have i1 : (i : Int) < (m : Int) := by omega
      by_cases hin : inB x 0 ((n : Int) - 1) = true
      · rw [hin] at IN
        have HIN := Lib.hid hin
        clear hin
        rcases i with _ | j
        · have d0 : decide ((0 : Int) < ((0 : Nat) : Int)) = false := by decide
          simp only [Nat.add_zero] at c0
          have HX := Lib.hid (rises_more HR.out (okAt_zero HXI.out HIN.out))
          have HX2 := Lib.hid (apart_more HA.out (show noHit l ch 0 0 = true from rfl))
          go_wp2_with (go_at_call 40; (with_reducible refine (IN _).mono ?_); rintro e w' ⟨rfl, rfl⟩)
          go_loopw [39] (fun u wr => u = .int .i64 0 ∧ Below w.heap.size w wr) (fun u _ => 0)
          case atStart => exact ⟨rfl, hBo⟩
          case round =>
            obtain ⟨rfl, hBi⟩ := hrel
            go_wp2_with fail
            go_roundw
            case rel => exact ⟨1, by omega, by go_num, HX, HX2, hBi⟩
            case measure => simp [intOf]; omega
        · obtain ⟨y, hy⟩ : ∃ y, ch[j]? = some y := ⟨_, List.getElem?_eq_getElem (by omega)⟩
          have HY := Lib.hid hy
          have c1 := HCH.out wo hBo j y hy
          clear hy i0 i1
          have j0 : (0 : Int) ≤ (j : Int) := by omega
          have j1 : (j : Int) < (m : Int) := by omega
          have j2 : ((j : Int) + 1).toNat = j + 1 := by omega
          have j3 : (j : Int) + 1 - 1 = (j : Int) := by omega
          have j4 : IntKind.i64.wrap ((j : Int) + 1 - 1) = (j : Int) := (IntWalk.i64_in _ (by omega)).trans j3
          have j5 : IntKind.i64.wrap (j : Int) = (j : Int) := IntWalk.i64_in _ (by omega)
          have j6 : (0 : Int) ≤ (j : Int) + 1 := by omega
          have j7 : (j : Int) + 1 < (m : Int) := by omega
          have j8 : decide ((0 : Int) < (j : Int) + 1) = true := decide_eq_true (by omega)
          have j9 : IntKind.i64.wrap ((j : Int) + 1) = (j : Int) + 1 := IntWalk.i64_in _ (by omega)
          by_cases hxy : x ≤ y
          · have d1 : decide (x ≤ y) = true := decide_eq_true hxy
            have HX := Lib.hid (chB_rises (l := l) HL.out (by omega) (okAt_le HXI.out HY.out hxy))
            go_wp2_with (go_at_call 40; (with_reducible refine (IN _).mono ?_); rintro e w' ⟨rfl, rfl⟩)
            go_ret
            exact ⟨endBool HX.out.symm, hBo⟩
          · have d1 : decide (x ≤ y) = false := decide_eq_false hxy
            have HX := Lib.hid (rises_more HR.out (okAt_gt HXI.out HY.out HIN.out hxy))
            have xin := inB_iff.1 HIN.out
            obtain ⟨a, rfl⟩ : ∃ a : Nat, x = (a : Int) := ⟨x.toNat, by omega⟩
            have han : a < n := by omega
            obtain ⟨tb, tof, rfl, htb, HTK⟩ := tickAll hs HL.out HOK.out (by omega)
            clear hs
            have j10 : (j : Int) + 1 ≤ (cc : Int) := by omega
            have j11 : (j : Int) + 1 ≤ (m : Int) := by omega
            go_wp2_with (go_at_call 40; (with_reducible refine (IN _).mono ?_); rintro e w' ⟨rfl, rfl⟩)
            go_loopw [39] (fun u wr => ∃ k : Nat, k ≤ j + 1 ∧ u = .int .i64 (k : Int) ∧ Hid (noHit l ch (j + 1) k = true) ∧ Below w.heap.size w wr) (fun u _ => j + 1 - (intOf u).toNat)
            case atStart => exact ⟨0, Nat.zero_le _, rfl, Lib.hid rfl, hBo⟩
            case round =>
              obtain ⟨k, hk, rfl, HN, hBi⟩ := hrel
              have zi := hBi.size
              by_cases hlt2 : k < j + 1
              · obtain ⟨y, hy⟩ : ∃ y, ch[k]? = some y := ⟨_, List.getElem?_eq_getElem (by omega)⟩
                have hyb := rises_at HR.out (i := k) (by omega)
                rw [cA_at hy] at hyb
                obtain ⟨b, rfl⟩ : ∃ b : Nat, y = (b : Int) := ⟨y.toNat, by omega⟩
                have hbn : b < n := by omega
                have d0 := HCH.out wr hBi k _ hy
                have HYK := Lib.hid hy
                obtain ⟨t0, t1, t2⟩ := HTK.out wr hBi a han
                obtain ⟨u0, u1, u2⟩ := HTK.out wr hBi b hbn
                obtain ⟨_, p1, p2, p3, p4, p5, p6⟩ := tk_facts HL.out HOK.out han
                obtain ⟨_, r1, r2, r3, r4, r5, r6⟩ := tk_facts HL.out HOK.out hbn
                have CO := fun W (hW : Tab W) => collide_any (mkA l a) (plA l a) (htA l a) (mkA l b) (plA l b) (htA l b) W (by omega) p2 p3 p4 (by omega) r2 r3 r4 hW
                rw [show hitB (mkA l a) (plA l a) (mkA l b) (plA l b) = hitA l a b from rfl] at CO
                have k0 : (0 : Int) ≤ (k : Int) := by omega
                have k1 : (k : Int) < (j : Int) + 1 := by omega
                have b0 : (0 : Int) ≤ (b : Int) := by omega
                have b1 : (b : Int) < (n : Int) := by omega
                have a0 : (0 : Int) ≤ (a : Int) := by omega
                have a1 : (a : Int) < (n : Int) := by omega
                have htr : tb < wr.heap.size := by omega
                have hcr : cb < wr.heap.size := by omega
                clear hy hyb
                by_cases hh : hitA l a b = true
                · have HX := Lib.hid (chB_hits (l := l) (by omega) hlt2 HXI.out HYK.out hh)
                  rw [hh] at CO
                  clear hh
                  go_wp2_with fail
                  go_region_held3 (fun w' => w'.cell? ⟨tb, tof + a * 3, none⟩ = some (.int .i64 (mkA l a : Int)) ∧ w'.cell? ⟨tb, tof + a * 3 + 1, none⟩ = some (.int .i64 (plA l a)) ∧ w'.cell? ⟨tb, tof + a * 3 + 2, none⟩ = some (.int .i64 (htA l a)) ∧ w'.cell? ⟨tb, tof + b * 3, none⟩ = some (.int .i64 (mkA l b : Int)) ∧ w'.cell? ⟨tb, tof + b * 3 + 1, none⟩ = some (.int .i64 (plA l b)) ∧ w'.cell? ⟨tb, tof + b * 3 + 2, none⟩ = some (.int .i64 (htA l b))) (go_keep) (first | (go_at_call 30; (with_reducible refine (CO _ ?_).mono ?_); (focus (with_reducible exact hT.over (by repeat' (first | exact Below.refl _ _ | assumption | refine Below.alloc ?_ (by first | omega | (simp; done) | (simp; omega)) _ | refine Below.drew ?_ | refine Below.setCell ?_ (by first | omega | (simp; done) | (simp; omega)) _)))); rintro e w2 ⟨rfl, hb2⟩; have hB2 : Below w.heap.size w w2 := Below.trans (by repeat' (first | exact Below.refl _ _ | assumption | refine Below.alloc ?_ (by first | omega | (simp; done) | (simp; omega)) _ | refine Below.drew ?_ | refine Below.setCell ?_ (by first | omega | (simp; done) | (simp; omega)) _)) (hb2.mono (by first | omega | (simp; done) | (simp; omega))); have z2 := hB2.size; have s1 := HTK.out w2 hB2 a han; have s2 := HTK.out w2 hB2 b hbn; obtain ⟨s3, s4, s5⟩ := s1; obtain ⟨s6, s7, s8⟩ := s2; clear hb2))
                  go_wp2_with fail
                  go_ret
                  exact ⟨endBool HX.out.symm, hB2⟩
                · have hh2 : hitA l a b = false := by simpa using hh
                  have HX := Lib.hid (noHit_more HXI.out HYK.out HN.out hh2)
                  rw [hh2] at CO
                  clear hh hh2
                  go_wp2_with fail
                  go_region_held3 (fun w' => w'.cell? ⟨tb, tof + a * 3, none⟩ = some (.int .i64 (mkA l a : Int)) ∧ w'.cell? ⟨tb, tof + a * 3 + 1, none⟩ = some (.int .i64 (plA l a)) ∧ w'.cell? ⟨tb, tof + a * 3 + 2, none⟩ = some (.int .i64 (htA l a)) ∧ w'.cell? ⟨tb, tof + b * 3, none⟩ = some (.int .i64 (mkA l b : Int)) ∧ w'.cell? ⟨tb, tof + b * 3 + 1, none⟩ = some (.int .i64 (plA l b)) ∧ w'.cell? ⟨tb, tof + b * 3 + 2, none⟩ = some (.int .i64 (htA l b))) (go_keep) (first | (go_at_call 30; (with_reducible refine (CO _ ?_).mono ?_); (focus (with_reducible exact hT.over (by repeat' (first | exact Below.refl _ _ | assumption | refine Below.alloc ?_ (by first | omega | (simp; done) | (simp; omega)) _ | refine Below.drew ?_ | refine Below.setCell ?_ (by first | omega | (simp; done) | (simp; omega)) _)))); rintro e w2 ⟨rfl, hb2⟩; have hB2 : Below w.heap.size w w2 := Below.trans (by repeat' (first | exact Below.refl _ _ | assumption | refine Below.alloc ?_ (by first | omega | (simp; done) | (simp; omega)) _ | refine Below.drew ?_ | refine Below.setCell ?_ (by first | omega | (simp; done) | (simp; omega)) _)) (hb2.mono (by first | omega | (simp; done) | (simp; omega))); have z2 := hB2.size; have s1 := HTK.out w2 hB2 a han; have s2 := HTK.out w2 hB2 b hbn; obtain ⟨s3, s4, s5⟩ := s1; obtain ⟨s6, s7, s8⟩ := s2; clear hb2))
                  go_wp2_with fail
                  go_roundw
                  case rel => exact ⟨k + 1, by omega, by go_num, HX, hB2⟩
                  case measure => simp [intOf]; omega
              · have HE := Lib.hid (show noHit l ch (j + 1) (j + 1) = true by have h := HN.out; rwa [show k = j + 1 by omega] at h)
                have hke : ¬ (k : Int) < (j : Int) + 1 := by omega
                have HX2 := Lib.hid (apart_more HA.out HE.out)
                go_wp2_with fail
                go_roundw
                case rel => exact ⟨j + 1 + 1, by omega, by go_num, HX, HX2, hBi⟩
                case measure => simp [intOf]; omega
      · replace hin : inB x 0 ((n : Int) - 1) = false := by simpa using hin
        rw [hin] at IN
        have HIN := Lib.hid hin
        clear hin
        have HX := Lib.hid (chB_rises (l := l) HL.out (by omega) (okAt_in HXI.out HIN.out))
        go_wp2_with (go_at_call 40; (with_reducible refine (IN _).mono ?_); rintro e w' ⟨rfl, rfl⟩)
        go_ret
        exact ⟨endBool HX.out.symm, hBo⟩
    · have hie : ¬ (i : Int) < (m : Int) := by omega
      have HX := Lib.hid (chB_yes HL.out hm (show risesTo n ch m = true by have h := HR.out; rwa [show i = m by omega] at h) (show apartTo l ch m = true by have h := HA.out; rwa [show i = m by omega] at h))
      clear hsc hm hs
      go_wp2_with fail
      go_ret
      exact ⟨endBool HX.out.symm, hBo⟩
set_option maxRecDepth 100000 in
set_option maxHeartbeats 16000000 in
theorem l09Choice_any (A : Option Addr) (n c : Nat) (l : List (Int × Int × Int)) (C : Option Addr) (m cc : Nat) (ch : List Int) (w : World) (hl : l.length = n) (hn : n ≤ 40) (hok : ∀ p ∈ l, okL p = true) (hs : Sees w w.heap.size A (cells3 l)) (hm : ch.length = m) (hmc : m ≤ cc) (hm1 : m ≤ 1048576) (hcc : cc ≤ 9223372036854775807) (hsc : Sees w w.heap.size C (ch.map (Value.int .i64))) :
    Calls Tryz.prog 35 #[.slice A n c, .slice C m cc] w fun e w' => e = .returned (.bool (chB l ch)) ∧ Below w.heap.size w w' := by
  have HL := Lib.hid hl
  have HOK := Lib.hid hok
  have RI := fun W hS => l01Rises_any C m cc n ch W hn hm hm1 hS
  clear hl hok
  by_cases hr : risesTo n ch m = true
  · have HRM := Lib.hid hr
    rw [hr] at RI
    clear hr
    go_enter Tryz.func35, Tryz.ntmps35
    go_wp2_with fail
    refine (RI _ hsc).mono ?_
    rintro e w1 ⟨rfl, hb1⟩
    clear RI
    go_wp2_with fail
    go_loopw [5] (fun u wr => ∃ i : Nat, i ≤ m ∧ u = .int .i64 (i : Int) ∧ Hid (apartTo l ch i = true) ∧ Below w.heap.size w wr) (fun u _ => m - (intOf u).toNat)
    case atStart => exact ⟨0, Nat.zero_le _, rfl, Lib.hid rfl, hb1⟩
    case round =>
      obtain ⟨i, hi, rfl, HA, hBo⟩ := hrel
      obtain ⟨wo, rfl⟩ : ∃ W : World, W = wr := ⟨_, rfl⟩
      have zo := hBo.size
      clear hb1
      by_cases hlt : i < m
      · obtain ⟨cb, coff, rfl, hcb, HCH⟩ := intAll hsc (by omega)
        obtain ⟨x, hx⟩ : ∃ x, ch[i]? = some x := ⟨_, List.getElem?_eq_getElem (by omega)⟩
        have hxb := rises_at HRM.out (i := i) (by omega)
        rw [cA_at hx] at hxb
        obtain ⟨a, rfl⟩ : ∃ a : Nat, x = (a : Int) := ⟨x.toNat, by omega⟩
        have han : a < n := by omega
        have HXI := Lib.hid hx
        have HR := HRM
        obtain ⟨tb, tof, rfl, htb, HTK⟩ := tickAll hs HL.out HOK.out (by omega)
        clear hx hsc hs hxb
        go_wp2_with fail
        go_loopw [6] (fun u wr => ∃ k : Nat, k ≤ i ∧ u = .int .i64 (k : Int) ∧ Hid (noHit l ch (i) k = true) ∧ Below w.heap.size w wr) (fun u _ => i - (intOf u).toNat)
        case atStart => exact ⟨0, Nat.zero_le _, rfl, Lib.hid rfl, hBo⟩
        case round =>
          obtain ⟨k, hk, rfl, HN, hBi⟩ := hrel
          have zi := hBi.size
          by_cases hlt2 : k < i
          · obtain ⟨y, hy⟩ : ∃ y, ch[k]? = some y := ⟨_, List.getElem?_eq_getElem (by omega)⟩
            have hyb := rises_at HR.out (i := k) (by omega)
            rw [cA_at hy] at hyb
            obtain ⟨b, rfl⟩ : ∃ b : Nat, y = (b : Int) := ⟨y.toNat, by omega⟩
            have hbn : b < n := by omega
            have d0 := HCH.out wr hBi k _ hy
            have HYK := Lib.hid hy
            obtain ⟨t0, t1, t2⟩ := HTK.out wr hBi a han
            obtain ⟨u0, u1, u2⟩ := HTK.out wr hBi b hbn
            obtain ⟨_, p1, p2, p3, p4, p5, p6⟩ := tk_facts HL.out HOK.out han
            obtain ⟨_, r1, r2, r3, r4, r5, r6⟩ := tk_facts HL.out HOK.out hbn
            have CO := fun W => l09Collide_any (mkA l a) (plA l a) (htA l a) (mkA l b) (plA l b) (htA l b) W (by omega) p2 p3 p4 (by omega) r2 r3 r4
            rw [show hitB (mkA l a) (plA l a) (mkA l b) (plA l b) = hitA l a b from rfl] at CO
            have k0 : (0 : Int) ≤ (k : Int) := by omega
            have k1 : (k : Int) < (i : Int) := by omega
            have b0 : (0 : Int) ≤ (b : Int) := by omega
            have b1 : (b : Int) < (n : Int) := by omega
            have a0 : (0 : Int) ≤ (a : Int) := by omega
            have a1 : (a : Int) < (n : Int) := by omega
            have htr : tb < wr.heap.size := by omega
            have hcr : cb < wr.heap.size := by omega
            have i0 : (0 : Int) ≤ (i : Int) := by omega
            have i1 : (i : Int) < (m : Int) := by omega
            have k2 : (k : Int) < (m : Int) := by omega
            have d1 := HCH.out wr hBi i _ HXI.out
            clear hy hyb
            by_cases hh : hitA l a b = true
            · have HX := Lib.hid (chB_hits (l := l) (by omega) hlt2 HXI.out HYK.out hh)
              rw [hh] at CO
              clear hh
              go_wp2_with fail
              go_region_held3 (fun w' => w'.cell? ⟨tb, tof + a * 3, none⟩ = some (.int .i64 (mkA l a : Int)) ∧ w'.cell? ⟨tb, tof + a * 3 + 1, none⟩ = some (.int .i64 (plA l a)) ∧ w'.cell? ⟨tb, tof + a * 3 + 2, none⟩ = some (.int .i64 (htA l a)) ∧ w'.cell? ⟨tb, tof + b * 3, none⟩ = some (.int .i64 (mkA l b : Int)) ∧ w'.cell? ⟨tb, tof + b * 3 + 1, none⟩ = some (.int .i64 (plA l b)) ∧ w'.cell? ⟨tb, tof + b * 3 + 2, none⟩ = some (.int .i64 (htA l b)) ∧ w'.cell? ⟨cb, coff + i, none⟩ = some (.int .i64 (a : Int)) ∧ w'.cell? ⟨cb, coff + k, none⟩ = some (.int .i64 (b : Int))) (go_keep) (first | (go_at_call 31; (with_reducible refine (CO _).mono ?_); rintro e w2 ⟨rfl, hb2⟩; have hB2 : Below w.heap.size w w2 := Below.trans (by repeat' (first | exact Below.refl _ _ | assumption | refine Below.alloc ?_ (by first | omega | (simp; done) | (simp; omega)) _ | refine Below.drew ?_ | refine Below.setCell ?_ (by first | omega | (simp; done) | (simp; omega)) _)) (hb2.mono (by first | omega | (simp; done) | (simp; omega))); have z2 := hB2.size; have s1 := HTK.out w2 hB2 a han; have s2 := HTK.out w2 hB2 b hbn; obtain ⟨s3, s4, s5⟩ := s1; obtain ⟨s6, s7, s8⟩ := s2; have s9 := HCH.out w2 hB2 i _ HXI.out; have s10 := HCH.out w2 hB2 k _ HYK.out; clear hb2))
              go_wp2_with fail
              go_ret
              exact ⟨endBool HX.out.symm, hB2⟩
            · have hh2 : hitA l a b = false := by simpa using hh
              have HX := Lib.hid (noHit_more HXI.out HYK.out HN.out hh2)
              rw [hh2] at CO
              clear hh hh2
              go_wp2_with fail
              go_region_held3 (fun w' => w'.cell? ⟨tb, tof + a * 3, none⟩ = some (.int .i64 (mkA l a : Int)) ∧ w'.cell? ⟨tb, tof + a * 3 + 1, none⟩ = some (.int .i64 (plA l a)) ∧ w'.cell? ⟨tb, tof + a * 3 + 2, none⟩ = some (.int .i64 (htA l a)) ∧ w'.cell? ⟨tb, tof + b * 3, none⟩ = some (.int .i64 (mkA l b : Int)) ∧ w'.cell? ⟨tb, tof + b * 3 + 1, none⟩ = some (.int .i64 (plA l b)) ∧ w'.cell? ⟨tb, tof + b * 3 + 2, none⟩ = some (.int .i64 (htA l b)) ∧ w'.cell? ⟨cb, coff + i, none⟩ = some (.int .i64 (a : Int)) ∧ w'.cell? ⟨cb, coff + k, none⟩ = some (.int .i64 (b : Int))) (go_keep) (first | (go_at_call 31; (with_reducible refine (CO _).mono ?_); rintro e w2 ⟨rfl, hb2⟩; have hB2 : Below w.heap.size w w2 := Below.trans (by repeat' (first | exact Below.refl _ _ | assumption | refine Below.alloc ?_ (by first | omega | (simp; done) | (simp; omega)) _ | refine Below.drew ?_ | refine Below.setCell ?_ (by first | omega | (simp; done) | (simp; omega)) _)) (hb2.mono (by first | omega | (simp; done) | (simp; omega))); have z2 := hB2.size; have s1 := HTK.out w2 hB2 a han; have s2 := HTK.out w2 hB2 b hbn; obtain ⟨s3, s4, s5⟩ := s1; obtain ⟨s6, s7, s8⟩ := s2; have s9 := HCH.out w2 hB2 i _ HXI.out; have s10 := HCH.out w2 hB2 k _ HYK.out; clear hb2))
              go_wp2_with fail
              go_roundw
              case rel => exact ⟨k + 1, by omega, by go_num, HX, hB2⟩
              case measure => simp [intOf]; omega
          · have HE := Lib.hid (show noHit l ch (i) (i) = true by have h := HN.out; rwa [show k = i by omega] at h)
            have hke : ¬ (k : Int) < (i : Int) := by omega
            have HX2 := Lib.hid (apart_more HA.out HE.out)
            go_wp2_with fail
            go_roundw
            case rel => exact ⟨i + 1, by omega, by go_num, HX2, hBi⟩
            case measure => simp [intOf]; omega
      · have hie : ¬ (i : Int) < (m : Int) := by omega
        have HX := Lib.hid (chB_yes HL.out hm HRM.out (show apartTo l ch m = true by have h := HA.out; rwa [show i = m by omega] at h))
        clear hsc hm hs
        go_wp2_with fail
        go_ret
        exact ⟨endBool HX.out.symm, hBo⟩
  · have HX := Lib.hid (show chB l ch = false by rw [chB, HL.out, hm, show risesTo n ch m = false by simpa using hr]; rfl)
    rw [show risesTo n ch m = false by simpa using hr] at RI
    clear hr
    go_enter Tryz.func35, Tryz.ntmps35
    go_wp2_with fail
    refine (RI _ hsc).mono ?_
    rintro e w1 ⟨rfl, hb1⟩
    clear RI hsc hs
    go_wp2_with fail
    go_ret
    exact ⟨endBool HX.out.symm, hb1⟩
end Go.Proofs.YtpbhncgjnmaojaaGreatDoor

/- The order of a proof: the program's walk (layer 9). No condition but the table. -/
import Derived.Test.YtpbhncgjnmaojaaGreatDoorPo1
namespace Go.Proofs.YtpbhncgjnmaojaaGreatDoor
open Go.RowKit
set_option linter.unusedVariables false
set_option linter.unusedSimpArgs false

theorem infoInt : (Tryz.prog.info? 3).map (fun i => (i.zero, i.size, i.bytes)) = some (some (.int .i64 0), 1, 8) := by kernel_rfl
def natV (i : Nat) : Value := .int .i64 (i : Int)
theorem natV_fins (n : Nat) : (List.range n).map natV = (fins n).map fun (p : Fin n) => Value.int .i64 (p.1 : Int) := by
  rw [← fins_val, List.map_map]; rfl
theorem natV_ord (R : Nat → Int) (n : Nat) : ((stabSort (fun x : Fin n => R x.1) (fins n)).map fun (p : Fin n) => Value.int .i64 (p.1 : Int)) = (ordP R n).map natV := by
  rw [← ordP_fins, List.map_map]; rfl
/-- what the order of a proof gives -/
def GivesPO (l : List (Int × Int × Int)) (n : Nat) (w : World) (e : Ending) (w' : World) : Prop :=
  ∃ v u, e = .returned (.tuple #[v, u]) ∧ w'.ownsRow w.heap.size 2 1 v n ((ordP (RL l) n).map natV) ∧ w'.ownsRow w.heap.size 3 1 u n ((ordP (RL l) n).map fun i => natV (freeP (RL l) (LL l) n i)) ∧ Below w.heap.size w w'
set_option maxRecDepth 100000 in
set_option maxHeartbeats 16000000 in
theorem proofOrder_any (A : Option Addr) (n c : Nat) (l : List (Int × Int × Int)) (w : World) (hl : l.length = n) (hn40 : n ≤ 40) (hok : ∀ p ∈ l, okL p = true) (hs : Sees w w.heap.size A (cells3 l)) (hT : Tab w) :
    Calls Tryz.prog 21 #[.slice A n c] w (GivesPO l n w) := by
  have HL := Lib.hid hl
  have HOK := Lib.hid hok
  obtain ⟨i0, hi', hz0, hz1, hz2⟩ := info_parts infoI64
  obtain ⟨i1, hj', hy0, hy1, hy2⟩ := info_parts infoInt
  have hg0 := hT.inside
  clear hl hok
  go_enter Tryz.func21, Tryz.ntmps21
  go_wp2_with fail
  go_loopw [4, 18] (fun v a wr => ∃ k : Nat, k ≤ n ∧ a = .int .i64 (k : Int) ∧ wr.ownsRow (w.heap.size + 1) 2 1 v k ((List.range k).map natV) ∧ v ≠ .slice none 0 0 ∧ wr.cell? ⟨w.heap.size, 0, none⟩ = some (.slice A n c) ∧ w.heap.size < wr.heap.size ∧ Below w.heap.size w wr) (fun v a _ => n - (intOf a).toNat)
  case atStart => exact ⟨0, Nat.zero_le _, rfl, by have h := World.ownsRow_made (base := w.heap.size + 1) (e := 2) (size := 1) (w.alloc (.cells #[.slice A n c] 24)) #[] 0 (by simp) (Nat.zero_le _) rfl; rw [World.size_alloc] at h; exact h, by simp, by simp [go_sem], by simp; omega, by repeat' (first | (with_reducible exact Below.refl _ _) | (with_reducible assumption) | (with_reducible refine Below.alloc ?_ ?_ _) | (with_reducible refine Below.drew ?_) | (with_reducible refine belowDraws ?_ _) | (with_reducible refine Below.setCell ?_ ?_ _) | omega | (simp; done) | (simp; omega))⟩
  case round =>
    obtain ⟨k, hk, rfl, hown, hnil, q3, hz, hB⟩ := hrel
    have HNIL := Lib.hid hnil
    clear hnil
    by_cases hlt : k < n
    · have k0 : (0 : Int) ≤ (k : Int) := by omega
      have k1 : (k : Int) < (n : Int) := by omega
      have HRG := Lib.hid (show (List.range (k + 1)).map natV = (List.range k).map natV ++ [.int .i64 (k : Int)] by rw [List.range_succ, List.map_append]; rfl)
      go_wp2_with (at_builtin; refine wpList_append_own_at _ rfl _ _ 26 rfl (w.heap.size + 1) 2 i0 (.int .i64 0) 1 8 Tryz.underlying26 hi' hz0 hz1 hz2 rfl (by decide) _ _ _ rfl (hown.alloc _) ⟨wr.heap.size, 0, none⟩ 1 1 [.int .i64 (k : Int)] rfl rfl ?_ ?_ ?_ ?_ ?_ ?_; exact cell_one_new _ _ _; (intro u hu; simp at hu; subst hu; rfl); (unfold maxLen; omega); omega; (simp; omega); intro v' w4 hown1 hgr1 hnil1 hat1)
      have q4 : w4.cell? ⟨w.heap.size, 0, none⟩ = some (.slice A n c) := (grownFar hgr1 (by rw [World.size_alloc]; omega) (fun e => by have := (hown.lt _ e.symm).1; omega) 0).trans ((World.cell?_alloc_lt _ _ ⟨w.heap.size, 0, none⟩ hz).trans q3)
      have z4 : w.heap.size < w4.heap.size := Nat.lt_of_lt_of_le (by rw [World.size_alloc]; omega) hgr1.size
      have B4 : Below w.heap.size w w4 := (hB.alloc (Nat.le_of_lt hz) (.cells #[.int .i64 (k : Int)] 2)).grown hgr1 (by simp; omega) (fun q hq => by have := (hown.lt q hq).1; omega)
      have HN4 := Lib.hid (show v' ≠ .slice none 0 0 from fun e => HNIL.out (hnil1.1 e).1)
      clear hgr1 hat1 hnil1
      go_wp2_with fail
      go_roundw
      case rel => exact ⟨k + 1, by omega, by go_num, by rw [HRG.out]; exact hown1, HN4.out, q4, z4, B4⟩
      case measure => simp [intOf]; omega
    · obtain rfl : k = n := by omega
      rw [natV_fins] at hown
      obtain ⟨A3, c3, rfl⟩ := ownShape hown
      obtain ⟨g, rfl, hbg, hnc, hcm, hHd⟩ := HdI.of_own hown HNIL.out
      have hgi := hHd.inside
      have SRT := fun bx W hW hC => sortStableI_any bx (fun x : Fin k => RL l x.1) g k c3 (fins k) W (by omega) (fins_length k) hW hC
      clear hown HNIL
      go_wp2_with fail
      refine (SRT _ _ (hHd.over (by repeat' (first | (with_reducible exact Below.refl _ _) | (with_reducible assumption) | (with_reducible refine Below.alloc ?_ ?_ _) | (with_reducible refine Below.drew ?_) | (with_reducible refine belowDraws ?_ _) | (with_reducible refine Below.setCell ?_ ?_ _) | omega | (simp; done) | (simp; omega)))) ?_).mono ?_
      · rcases Nat.eq_zero_or_pos k with h0 | h0
        · intro W hW x
          exact absurd x.2 (by omega)
        · obtain ⟨tb, tof, hA, htb, HTK⟩ := tickAll hs HL.out HOK.out h0
          exact order_any wr.heap.size g l k c tb tof w.heap.size _ HL.out HOK.out ⟨by rw [← hA]; simp [go_sem, *], fun a ha => HTK.out _ (by repeat' (first | (with_reducible exact Below.refl _ _) | (with_reducible assumption) | (with_reducible refine Below.alloc ?_ ?_ _) | (with_reducible refine Below.drew ?_) | (with_reducible refine belowDraws ?_ _) | (with_reducible refine Below.setCell ?_ ?_ _) | omega | (simp; done) | (simp; omega))) a ha⟩ (hT.over (by repeat' (first | (with_reducible exact Below.refl _ _) | (with_reducible assumption) | (with_reducible refine Below.alloc ?_ ?_ _) | (with_reducible refine Below.drew ?_) | (with_reducible refine belowDraws ?_ _) | (with_reducible refine Below.setCell ?_ ?_ _) | omega | (simp; done) | (simp; omega)))) hn40 (by simp [go_sem]) (by omega) (by omega) (by omega) (by omega)
      rintro e w3 ⟨rfl, r, rfl, H3, G3⟩
      have B3 : Below w.heap.size w w3 := Below.grown (by repeat' (first | (with_reducible exact Below.refl _ _) | (with_reducible assumption) | (with_reducible refine Below.alloc ?_ ?_ _) | (with_reducible refine Below.drew ?_) | (with_reducible refine belowDraws ?_ _) | (with_reducible refine Below.setCell ?_ ?_ _) | omega | (simp; done) | (simp; omega))) G3 (by first | omega | (simp; omega)) (fun q hq => by injection hq with hq; omega)
      have q4 : w3.cell? ⟨w.heap.size, 0, none⟩ = some (.slice A k c) := (grownFar G3 (by first | (simp; omega) | omega) (fun e => by injection e with e; omega) 0).trans (by simp [go_sem, *])
      have q5 : w3.cell? ⟨wr.heap.size, 0, none⟩ = some (.func (.func 41) #[] #[.pointer (some ⟨w.heap.size, 0, none⟩)]) := (grownFar G3 (by first | (simp; done) | (simp; omega)) (fun e => by injection e with e; omega) 0).trans (by simp [go_sem])
      have own3 := H3.own hbg (by rw [stabSort_length, fins_length]; exact hnc) hcm
      rw [stabSort_length, fins_length, natV_ord] at own3
      have HOL := Lib.hid (ordP_length (RL l) k)
      have HOC := Lib.hid (fun j x (h : (ordP (RL l) k)[j]? = some x) => (own3.cells (g := g) rfl j (natV x) (by rw [List.getElem?_map, h]; rfl)))
      have z3 : w.heap.size < w3.heap.size := Nat.lt_of_lt_of_le hz (Nat.le_trans (by simp) G3.size)
      have z3x : wr.heap.size < w3.heap.size := Nat.lt_of_lt_of_le (by simp) G3.size
      have z3g : g < w3.heap.size := H3.inside
      have T3 : Tab w3 := hT.over B3
      have KB := Lib.hid (show ∀ W : World, Below w3.heap.size w3 W → W.cell? ⟨w.heap.size, 0, none⟩ = some (.slice A k c) ∧ W.cell? ⟨wr.heap.size, 0, none⟩ = some (.func (.func 41) #[] #[.pointer (some ⟨w.heap.size, 0, none⟩)]) ∧ ∀ (j x : Nat), (ordP (RL l) k)[j]? = some x → W.cell? ⟨g, j, none⟩ = some (.int .i64 (x : Int)) from fun W hW => ⟨(hW.cell (p := ⟨w.heap.size, 0, none⟩) z3).trans q4, (hW.cell (p := ⟨wr.heap.size, 0, none⟩) z3x).trans q5, fun j x h => by
        have h2 := HOC.out j x h
        rw [Addr.add_lit, Nat.zero_add] at h2
        exact (hW.cell (p := ⟨g, j, none⟩) z3g).trans h2⟩)
      replace hs := (hs.over B3).wider B3.size
      obtain ⟨bx, hbx⟩ : ∃ b, wr.heap.size = b := ⟨_, rfl⟩
      rw [hbx] at KB z3x q5
      rw [hbx]
      clear SRT H3 G3 hHd q3 q4 q5 hB hz hgi hbx HOC
      go_wp2_with fail
      go_loopw [7, 33] (fun u a wr => ∃ j : Nat, j ≤ k ∧ a = .int .i64 (j : Int) ∧ wr.ownsRow w3.heap.size 3 1 u j (((ordP (RL l) k).take j).map fun i => natV (freeP (RL l) (LL l) k i)) ∧ Below w3.heap.size w3 wr) (fun u a _ => k - (intOf a).toNat)
      case atStart => exact ⟨0, Nat.zero_le _, rfl, World.ownsRow_made (base := w3.heap.size) (e := 3) (size := 1) w3 #[] 0 (Nat.le_refl _) (Nat.zero_le _) rfl, by repeat' (first | (with_reducible exact Below.refl _ _) | (with_reducible assumption) | (with_reducible refine Below.alloc ?_ ?_ _) | (with_reducible refine Below.drew ?_) | (with_reducible refine belowDraws ?_ _) | (with_reducible refine Below.setCell ?_ ?_ _) | omega | (simp; done) | (simp; omega))⟩
      case round =>
        obtain ⟨j, hj, rfl, hown4, hB4⟩ := hrel
        obtain ⟨wj, rfl⟩ : ∃ W : World, W = wr := ⟨_, rfl⟩
        have zj := hB4.size
        by_cases hlt2 : j < k
        · obtain ⟨x, hx, hxn⟩ := ordP_at (R := RL l) (n := k) hlt2
          obtain ⟨tb, tof, rfl, htb, HTK⟩ := tickAll hs HL.out HOK.out (by omega)
          obtain ⟨d0, d1, d2⟩ := KB.out wj hB4
          have e0 := d2 j x hx
          obtain ⟨t0, t1, t2⟩ := HTK.out wj hB4 x hxn
          have CAP := fun W (hW : Below w3.heap.size w3 W) => (show CapT W l k c tb tof w.heap.size from ⟨(KB.out W hW).1, fun a ha => HTK.out W hW a ha⟩)
          have HCAP := Lib.hid CAP
          have HX := Lib.hid hx
          obtain ⟨_, r1, r2, r3, r4, r5, r6⟩ := tk_facts HL.out HOK.out hxn
          have CO := fun W (hW : Tab W) => labelEnds_any (mkA l x) (plA l x) (htA l x) W (by omega) r2 r3 r4 hW
          rw [show endL (mkA l x) (plA l x) = LL l x from rfl, show endR (mkA l x) (plA l x) = RL l x from rfl] at CO
          have j0 : (0 : Int) ≤ (j : Int) := by omega
          have j1 : (j : Int) < (k : Int) := by omega
          have x0 : (0 : Int) ≤ (x : Int) := by omega
          have x1 : (x : Int) < (k : Int) := by omega
          have lg : g < wj.heap.size := by omega
          have lb : w.heap.size < wj.heap.size := by omega
          have lt : tb < wj.heap.size := by omega
          obtain ⟨uA, uc, rfl⟩ := ownShape hown4
          clear CAP hx d2
          go_wp2_with fail
          refine (CO _ (T3.over hB4)).mono ?_
          rintro e w5 ⟨rfl, hb5⟩
          have hown5 := ownOver hown4 hb5
          have hB5 := hB4.trans (hb5.mono zj)
          have z5 := hB5.size
          clear CO hb5 hown4 t0 t1 t2 e0 d0 d1
          go_wp2_with fail
          go_loopw [12, 47] (fun cv a wr => ∃ q : Nat, q ≤ k ∧ a = .int .i64 (q : Int) ∧ cv = .int .i64 (cntP (RL l) (LL l) (ordP (RL l) k) x q : Int) ∧ Below w5.heap.size w5 wr) (fun cv a _ => k - (intOf a).toNat)
          case atStart => exact ⟨0, Nat.zero_le _, rfl, rfl, Below.refl _ _⟩
          case round =>
            obtain ⟨q, hq, rfl, rfl, hB6⟩ := hrel
            obtain ⟨wq, rfl⟩ : ∃ W : World, W = wr := ⟨_, rfl⟩
            have z6 := hB6.size
            have hB36 := hB5.trans (hB6.mono z5)
            have hcn := cntP_le (R := RL l) (Lf := LL l) (ordP (RL l) k) x q
            by_cases hlt3 : q < k
            · obtain ⟨y, hy, hyn⟩ := ordP_at (R := RL l) (n := k) hlt3
              obtain ⟨d0, d1, d2⟩ := KB.out wq hB36
              have e0 := d2 q y hy
              have HY := Lib.hid hy
              have RC := fun (_ : True) => right_any y l k c tb tof w.heap.size wq HL.out HOK.out (HCAP.out wq hB36) (T3.over hB36) hyn hn40
              have q0 : (0 : Int) ≤ (q : Int) := by omega
              have q1 : (q : Int) < (k : Int) := by omega
              have lg6 : g < wq.heap.size := by omega
              have lb6 : bx < wq.heap.size := by omega
              clear hy d2 d0
              by_cases hle : RL l y ≤ LL l x
              · have HC := Lib.hid (cntP_yes (R := RL l) (Lf := LL l) HY.out hle)
                have tl : decide (RL l y ≤ LL l x) = true := decide_eq_true hle
                generalize cntP (RL l) (LL l) (ordP (RL l) k) x q = cq at *
                generalize RL l y = ry at *
                generalize LL l x = lx at *
                clear hle
                go_wp2_with (go_at_call 41; (with_reducible refine (RC trivial).mono ?_); rintro e w8 ⟨rfl, hb8⟩)
                go_roundw
                case rel => exact ⟨q + 1, by omega, by go_num, by rw [HC.out]; go_num, hB6.trans (hb8.mono z6)⟩
                case measure => simp [intOf]; omega
              · have HC := Lib.hid (cntP_no (R := RL l) (Lf := LL l) HY.out hle)
                have tl : decide (RL l y ≤ LL l x) = false := decide_eq_false hle
                generalize cntP (RL l) (LL l) (ordP (RL l) k) x q = cq at *
                generalize RL l y = ry at *
                generalize LL l x = lx at *
                clear hle
                go_wp2_with (go_at_call 41; (with_reducible refine (RC trivial).mono ?_); rintro e w8 ⟨rfl, hb8⟩)
                go_roundw
                case rel => exact ⟨q + 1, by omega, by go_num, by rw [HC.out], hB6.trans (hb8.mono z6)⟩
                case measure => simp [intOf]; omega
            · have HQ := Lib.hid (show q = k by omega)
              have hqe : ¬ (q : Int) < (k : Int) := by omega
              obtain ⟨cf, hcf⟩ : ∃ cf, cntP (RL l) (LL l) (ordP (RL l) k) x q = cf := ⟨_, rfl⟩
              have HCF := Lib.hid (show freeP (RL l) (LL l) k x = cf by rw [← hcf, HQ.out, cntP_ord])
              rw [hcf]
              have hcfn : cf ≤ k := by omega
              have hown6 := ownOver hown5 hB6
              have HTK2 := Lib.hid (show ((ordP (RL l) k).take (j + 1)).map (fun i => natV (freeP (RL l) (LL l) k i)) = ((ordP (RL l) k).take j).map (fun i => natV (freeP (RL l) (LL l) k i)) ++ [.int .i64 (cf : Int)] by rw [List.take_add_one, HX.out, List.map_append]; simp [natV, HCF.out])
              have z36 := hB36.size
              clear hcn hcf hs
              go_wp2_with (at_builtin; refine wpList_append_own_at _ rfl _ _ 40 rfl w3.heap.size 3 i1 (.int .i64 0) 1 8 Tryz.underlying40 hj' hy0 hy1 hy2 rfl (by decide) _ _ _ rfl (hown6.alloc _) ⟨wq.heap.size, 0, none⟩ 1 1 [.int .i64 (cf : Int)] rfl rfl ?_ ?_ ?_ ?_ ?_ ?_; exact cell_one_new _ _ _; (intro u hu; simp at hu; subst hu; rfl); (unfold maxLen; omega); omega; (simp; omega); intro v' w7 hown1 hgr1 _ _)
              have B7 : Below w3.heap.size w3 w7 := (hB36.alloc z36 (.cells #[.int .i64 (cf : Int)] 3)).grown hgr1 (by simp; omega) (fun q hq => (hown6.lt q hq).1)
              clear hgr1
              go_wp2_with fail
              go_roundw
              case rel => exact ⟨j + 1, by omega, by go_num, by rw [HTK2.out]; exact hown1, B7⟩
              case measure => simp [intOf]; omega
        · have hje : ¬ (j : Int) < (k : Int) := by omega
          have hjk : j = k := by omega
          rw [hjk, List.take_of_length_le (by rw [HOL.out]; omega)] at hown4
          have own6 := ownOver own3 hB4
          have z3w := B3.size
          clear hs hjk
          go_wp2_with fail
          go_ret2
          exact ⟨_, _, rfl, ownLower own6 (by omega), ownLower hown4 z3w, B3.trans (hB4.mono z3w)⟩
end Go.Proofs.YtpbhncgjnmaojaaGreatDoor

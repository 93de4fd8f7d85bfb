/- The library's stable sort at one instance: the merge and the whole. No condition. -/
import Derived.Test.YtpbhncgjnmaojaaGreatDoorStWI
namespace Go.Proofs.YtpbhncgjnmaojaaGreatDoor
open Go.RowKit
set_option linter.unusedVariables false
set_option linter.unusedSimpArgs false
variable {N : Nat}
set_option maxRecDepth 100000 in
set_option maxHeartbeats 8000000 in
theorem symMergeI_any (bx : Nat) (key : Fin N → Int) (g n cap : Nat) (hn : n ≤ 1000) : ∀ (d : Nat) (a m b : Nat) (az mz bz : Int) (l : List (Fin N)) (w : World), b - a ≤ d → az = (a : Int) → mz = (m : Int) → bz = (b : Int) → a < m → m < b → b ≤ n → l.length = n → HdI cap w g l → CmpCI key bx g w → Srt key l a m → Srt key l m b →
    Calls Tryz.prog 74 #[.slice (some ⟨g, 0, none⟩) n cap, .int .i64 az, .int .i64 mz, .int .i64 bz, .func (.func 44) #[] #[.pointer (some ⟨bx, 0, none⟩)]] w fun e w' => e = .returned (.tuple #[]) ∧ ∃ r, Mrg key l r a b ∧ HdI cap w' g r ∧ w.grownBy w' (some g) := by
  intro d
  induction d with
  | zero => intro a m b az mz bz l w hd _ _ _ h1 h2; omega
  | succ d ih =>
  intro a m b az mz bz l w hd ha hm hb h1 h2 h3 hl hH hC S1 S2
  subst ha hb hm
  have HC := Lib.hid hC
  have HS1 := Lib.hid S1
  have HS2 := Lib.hid S2
  have HL := Lib.hid hl
  have hgi := hH.inside
  obtain ⟨x, hx⟩ : ∃ x, l[a]? = some x := ⟨_, List.getElem?_eq_getElem (by omega)⟩
  obtain ⟨xm, hxm⟩ : ∃ x, l[m]? = some x := ⟨_, List.getElem?_eq_getElem (by omega)⟩
  have HX := Lib.hid hx
  have HXM := Lib.hid hxm
  clear hC S1 S2 hx hxm hl
  by_cases hm1 : m = a + 1
  · have HM1 := Lib.hid hm1
    have hma := Nat.le_of_eq hm1
    have ham := Nat.le_of_eq hm1.symm
    have tm : ((m : Int) - (a : Int) == 1) = true := by simp; omega
    clear hm1
    go_enter Tryz.func74, Tryz.ntmps74
    go_wp2_with fail
    go_loopw [10, 11] (fun iv jv wr => ∃ i j : Nat, iv = .int .i64 (i : Int) ∧ jv = .int .i64 (j : Int) ∧ m ≤ i ∧ i ≤ j ∧ j ≤ b ∧ Hid ((i = m ∨ ∃ k y, i = k + 1 ∧ l[k]? = some y ∧ key y < key x) ∧ (j = b ∨ ∃ y, l[j]? = some y ∧ key x ≤ key y)) ∧ HdI cap wr g l ∧ w.grownBy wr (some g)) (fun iv jv _ => (intOf jv).toNat - (intOf iv).toNat)
    case atStart => exact ⟨m, b, rfl, rfl, Nat.le_refl _, by omega, Nat.le_refl _, Lib.hid ⟨.inl rfl, .inl rfl⟩, hH, grownRefl _ _⟩
    case round =>
      clear hH
      obtain ⟨i, j, rfl, rfl, hi, hij, hjb, HI, hH, hG⟩ := hrel
      have hgi := hH.inside
      by_cases hlt : i < j
      · obtain ⟨h, hh⟩ : ∃ h : Nat, h = (i + j) / 2 := ⟨_, rfl⟩
        have eh : ((i : Int) + (j : Int)) / 2 = (h : Int) := by omega
        have hh1 : i ≤ h := by omega
        have hh2 : h < j := by omega
        clear hh
        obtain ⟨y, hy⟩ : ∃ y, l[h]? = some y := ⟨_, List.getElem?_eq_getElem (by rw [HL.out]; omega)⟩
        have c00 := hH.cells hy
        have c10 := hH.cells HX.out
        have HY := Lib.hid hy
        have HHH := Lib.hid hH
        have ia0 : (0 : Int) ≤ (h : Int) := by omega
        have ib0 : (h : Int) < (n : Int) := by omega
        have ic0 : ((h : Int)).toNat = h := by omega
        have id0 : IntKind.i64.wrap ((h : Int)) = (h : Int) := IntWalk.i64_in _ (by omega)
        have ia1 : (0 : Int) ≤ (a : Int) := by omega
        have ib1 : (a : Int) < (n : Int) := by omega
        have ic1 : ((a : Int)).toNat = a := by omega
        have id1 : IntKind.i64.wrap ((a : Int)) = (a : Int) := IntWalk.i64_in _ (by omega)
        clear hy hH
        by_cases hk : key y < key x
        · go_wp2_with fail
          go_region_held3 (fun w' => w'.cell? ⟨g, h, none⟩ = some (.int .i64 (y.1 : Int)) ∧ w'.cell? ⟨g, a, none⟩ = some (.int .i64 (x.1 : Int))) (go_keep) (first | (go_at_call 44; (with_reducible refine (CmpCI.use HC.out _ (by repeat' (first | (with_reducible exact grownRefl _ _) | (with_reducible assumption) | (with_reducible refine grownTrans (by with_reducible assumption) ?_) | (with_reducible refine gAllocS ?_ _) | (with_reducible refine grownDrew ?_) | (with_reducible refine gDrewNS ?_ _) | (with_reducible refine grownPut ?_) | (with_reducible refine grownBelS ?_ (by with_reducible assumption)))) y x).mono ?_); rintro e w2 ⟨rr, rfl, hrr, rr1, rr2, hb2⟩; have hR2 := hrr.2 hk; have hRb : decide (rr < 0) = true := decide_eq_true hR2; have hB2 : Below wr.heap.size wr w2 := Below.trans (by repeat' (first | (with_reducible exact Below.refl _ _) | (with_reducible assumption) | (with_reducible refine Below.alloc ?_ ?_ _) | (with_reducible refine Below.drew ?_) | (with_reducible refine belowDraws ?_ _) | (with_reducible refine Below.setCell ?_ ?_ _) | omega | (simp; done) | (simp; omega))) (hb2.mono (by first | omega | (simp; done) | (simp; omega))); have z2 := hB2.size; have q00 := (hB2.cell (p := ⟨g, h, none⟩) hgi).trans c00; have q10 := (hB2.cell (p := ⟨g, a, none⟩) hgi).trans c10; clear hb2 hrr))
          have HH2 := HHH.out.over hB2
          have G2 : w.grownBy w2 (some g) := grownTrans hG (belowGrown hB2 _)
          go_wp2_with fail
          go_roundw
          case rel => exact ⟨h + 1, j, by go_num, rfl, by omega, by omega, hjb, Lib.hid ⟨.inr ⟨h, y, rfl, HY.out, hk⟩, HI.out.2⟩, HH2, G2⟩
          case measure => simp [intOf]; omega
        · go_wp2_with fail
          go_region_held3 (fun w' => w'.cell? ⟨g, h, none⟩ = some (.int .i64 (y.1 : Int)) ∧ w'.cell? ⟨g, a, none⟩ = some (.int .i64 (x.1 : Int))) (go_keep) (first | (go_at_call 44; (with_reducible refine (CmpCI.use HC.out _ (by repeat' (first | (with_reducible exact grownRefl _ _) | (with_reducible assumption) | (with_reducible refine grownTrans (by with_reducible assumption) ?_) | (with_reducible refine gAllocS ?_ _) | (with_reducible refine grownDrew ?_) | (with_reducible refine gDrewNS ?_ _) | (with_reducible refine grownPut ?_) | (with_reducible refine grownBelS ?_ (by with_reducible assumption)))) y x).mono ?_); rintro e w2 ⟨rr, rfl, hrr, rr1, rr2, hb2⟩; have hR2 := (show ¬ rr < 0 from fun h => by have := hrr.1 h; omega); have hRb : decide (rr < 0) = false := decide_eq_false hR2; have hB2 : Below wr.heap.size wr w2 := Below.trans (by repeat' (first | (with_reducible exact Below.refl _ _) | (with_reducible assumption) | (with_reducible refine Below.alloc ?_ ?_ _) | (with_reducible refine Below.drew ?_) | (with_reducible refine belowDraws ?_ _) | (with_reducible refine Below.setCell ?_ ?_ _) | omega | (simp; done) | (simp; omega))) (hb2.mono (by first | omega | (simp; done) | (simp; omega))); have z2 := hB2.size; have q00 := (hB2.cell (p := ⟨g, h, none⟩) hgi).trans c00; have q10 := (hB2.cell (p := ⟨g, a, none⟩) hgi).trans c10; clear hb2 hrr))
          have HH2 := HHH.out.over hB2
          have G2 : w.grownBy w2 (some g) := grownTrans hG (belowGrown hB2 _)
          go_wp2_with fail
          go_roundw
          case rel => exact ⟨i, h, rfl, rfl, hi, hh1, by omega, Lib.hid ⟨HI.out.1, .inr ⟨y, HY.out, by omega⟩⟩, HH2, G2⟩
          case measure => simp [intOf]; omega
      · obtain rfl : i = j := by omega
        go_wp2_with fail
        go_loopw [13] (fun kv wr => ∃ (k : Nat) (r : List (Fin N)), kv = .int .i64 (k : Int) ∧ a ≤ k ∧ k + 1 ≤ i ∧ Hid (MoveR l r a k ∧ Stab key l r) ∧ HdI cap wr g r ∧ w.grownBy wr (some g)) (fun kv _ => i - (intOf kv).toNat)
        case atStart => exact ⟨a, l, rfl, Nat.le_refl _, by omega, Lib.hid ⟨moveR_zero l a, Stab.refl _⟩, hH, hG⟩
        case round =>
          clear hH hG
          obtain ⟨k, r, rfl, hak, hki, HM, hH, hG⟩ := hrel
          have hgi := hH.inside
          by_cases hlt2 : k + 1 < i
          · obtain ⟨y, hy⟩ : ∃ y, l[k + 1]? = some y := ⟨_, List.getElem?_eq_getElem (by rw [HL.out]; omega)⟩
            have hrx : r[k]? = some x := by rw [HM.out.1.2, if_neg (by omega), if_pos rfl]; exact HX.out
            have hry : r[k + 1]? = some y := by rw [HM.out.1.2, if_neg (by omega), if_neg (by omega)]; exact hy
            have hk : key y < key x := by
              rcases HI.out.1 with e | ⟨k0, y0, e, hy0, hlt0⟩
              · omega
              · have := HS2.out.le (p := k + 1) (q := k0) (by omega) (by omega) (by omega) hy hy0
                omega
            have HR := Lib.hid (HM.out.1.1.trans HL.out)
            have HXY := Lib.hid (And.intro hrx hry)
            have HHH := Lib.hid hH
            have c00 := hH.cells hrx
            have f00 := hH.free (k)
            have c10 := hH.cells hry
            have f10 := hH.free ((k + 1))
            have ia0 : (0 : Int) ≤ (k : Int) := by omega
            have ib0 : (k : Int) < (n : Int) := by omega
            have ic0 : ((k : Int)).toNat = k := by omega
            have id0 : IntKind.i64.wrap ((k : Int)) = (k : Int) := IntWalk.i64_in _ (by omega)
            have ia1 : (0 : Int) ≤ (k : Int) + 1 := by omega
            have ib1 : (k : Int) + 1 < (n : Int) := by omega
            have ic1 : ((k : Int) + 1).toNat = k + 1 := by omega
            have id1 : IntKind.i64.wrap ((k : Int) + 1) = (k : Int) + 1 := IntWalk.i64_in _ (by omega)
            clear hy hrx hry hH
            go_wp2_with fail
            go_big_region
            all_goals go_wp2_with fail
            go_roundw
            case rel => exact ⟨k + 1, (r.set k y).set (k + 1) x, by go_num, by omega, by omega, Lib.hid ⟨moveR_step HM.out.1 hak HXY.out.1 HXY.out.2, HM.out.2.trans (Stab.adj HXY.out.1 HXY.out.2 (by omega))⟩, ((HHH.out.put y (by rw [HR.out]; omega)).put x (by rw [List.length_set, HR.out]; omega)).drew, by repeat' (first | (with_reducible exact grownRefl _ _) | (with_reducible assumption) | (with_reducible refine grownTrans (by with_reducible assumption) ?_) | (with_reducible refine gAllocS ?_ _) | (with_reducible refine grownDrew ?_) | (with_reducible refine gDrewNS ?_ _) | (with_reducible refine grownPut ?_) | (with_reducible refine grownBelS ?_ (by with_reducible assumption)))⟩
            case measure => simp [intOf]; omega
          · have hk1 : i ≤ k + 1 := by omega
            go_wp2_with fail
            refine bodyPost_ret (results_none rfl _ _ _) rfl ?_
            refine ⟨rfl, r, moveR_mrg HM.out.1 hak (by omega) HX.out (by rw [← HM1.out]; exact HS2.out) HM.out.2 ?_ ?_, hH, hG⟩
            · rcases HI.out.1 with e | ⟨k0, y0, e, hy0, hlt0⟩
              · exact .inl (by omega)
              · obtain rfl : k0 = k := by omega
                exact .inr ⟨y0, hy0, hlt0⟩
            · have hik : i = k + 1 := by omega
              rcases HI.out.2 with e | ⟨y0, hy0, hle0⟩
              · exact .inl (by omega)
              · exact .inr ⟨y0, by rw [← hik]; exact hy0, hle0⟩
  · have tm : ((m : Int) - (a : Int) == 1) = false := by simp; omega
    by_cases hb1 : b = m + 1
    · have HB1 := Lib.hid hb1
      have hbm := Nat.le_of_eq hb1
      have hmb := Nat.le_of_eq hb1.symm
      have tb : ((b : Int) - (m : Int) == 1) = true := by simp; omega
      clear hb1
      go_enter Tryz.func74, Tryz.ntmps74
      go_wp2_with fail
      go_loopw [14, 15] (fun iv jv wr => ∃ i j : Nat, iv = .int .i64 (i : Int) ∧ jv = .int .i64 (j : Int) ∧ a ≤ i ∧ i ≤ j ∧ j ≤ m ∧ Hid ((i = a ∨ ∃ k y, i = k + 1 ∧ l[k]? = some y ∧ key y ≤ key xm) ∧ (j = m ∨ ∃ y, l[j]? = some y ∧ key xm < key y)) ∧ HdI cap wr g l ∧ w.grownBy wr (some g)) (fun iv jv _ => (intOf jv).toNat - (intOf iv).toNat)
      case atStart => exact ⟨a, m, rfl, rfl, Nat.le_refl _, by omega, Nat.le_refl _, Lib.hid ⟨.inl rfl, .inl rfl⟩, hH, grownRefl _ _⟩
      case round =>
        clear hH
        obtain ⟨i, j, rfl, rfl, hi, hij, hjm, HI, hH, hG⟩ := hrel
        have hgi := hH.inside
        by_cases hlt : i < j
        · obtain ⟨h, hh⟩ : ∃ h : Nat, h = (i + j) / 2 := ⟨_, rfl⟩
          have eh : ((i : Int) + (j : Int)) / 2 = (h : Int) := by omega
          have hh1 : i ≤ h := by omega
          have hh2 : h < j := by omega
          clear hh
          obtain ⟨y, hy⟩ : ∃ y, l[h]? = some y := ⟨_, List.getElem?_eq_getElem (by rw [HL.out]; omega)⟩
          have c00 := hH.cells hy
          have c10 := hH.cells HXM.out
          have HY := Lib.hid hy
          have HHH := Lib.hid hH
          have ia0 : (0 : Int) ≤ (h : Int) := by omega
          have ib0 : (h : Int) < (n : Int) := by omega
          have ic0 : ((h : Int)).toNat = h := by omega
          have id0 : IntKind.i64.wrap ((h : Int)) = (h : Int) := IntWalk.i64_in _ (by omega)
          have ia1 : (0 : Int) ≤ (m : Int) := by omega
          have ib1 : (m : Int) < (n : Int) := by omega
          have ic1 : ((m : Int)).toNat = m := by omega
          have id1 : IntKind.i64.wrap ((m : Int)) = (m : Int) := IntWalk.i64_in _ (by omega)
          clear hy hH
          by_cases hk : key xm < key y
          · go_wp2_with fail
            go_region_held3 (fun w' => w'.cell? ⟨g, h, none⟩ = some (.int .i64 (y.1 : Int)) ∧ w'.cell? ⟨g, m, none⟩ = some (.int .i64 (xm.1 : Int))) (go_keep) (first | (go_at_call 44; (with_reducible refine (CmpCI.use HC.out _ (by repeat' (first | (with_reducible exact grownRefl _ _) | (with_reducible assumption) | (with_reducible refine grownTrans (by with_reducible assumption) ?_) | (with_reducible refine gAllocS ?_ _) | (with_reducible refine grownDrew ?_) | (with_reducible refine gDrewNS ?_ _) | (with_reducible refine grownPut ?_) | (with_reducible refine grownBelS ?_ (by with_reducible assumption)))) xm y).mono ?_); rintro e w2 ⟨rr, rfl, hrr, rr1, rr2, hb2⟩; have hR2 := hrr.2 hk; have hRb : decide (rr < 0) = true := decide_eq_true hR2; have hB2 : Below wr.heap.size wr w2 := Below.trans (by repeat' (first | (with_reducible exact Below.refl _ _) | (with_reducible assumption) | (with_reducible refine Below.alloc ?_ ?_ _) | (with_reducible refine Below.drew ?_) | (with_reducible refine belowDraws ?_ _) | (with_reducible refine Below.setCell ?_ ?_ _) | omega | (simp; done) | (simp; omega))) (hb2.mono (by first | omega | (simp; done) | (simp; omega))); have z2 := hB2.size; have q00 := (hB2.cell (p := ⟨g, h, none⟩) hgi).trans c00; have q10 := (hB2.cell (p := ⟨g, m, none⟩) hgi).trans c10; clear hb2 hrr))
            have HH2 := HHH.out.over hB2
            have G2 : w.grownBy w2 (some g) := grownTrans hG (belowGrown hB2 _)
            go_wp2_with fail
            go_roundw
            case rel => exact ⟨i, h, rfl, rfl, hi, hh1, by omega, Lib.hid ⟨HI.out.1, .inr ⟨y, HY.out, hk⟩⟩, HH2, G2⟩
            case measure => simp [intOf]; omega
          · go_wp2_with fail
            go_region_held3 (fun w' => w'.cell? ⟨g, h, none⟩ = some (.int .i64 (y.1 : Int)) ∧ w'.cell? ⟨g, m, none⟩ = some (.int .i64 (xm.1 : Int))) (go_keep) (first | (go_at_call 44; (with_reducible refine (CmpCI.use HC.out _ (by repeat' (first | (with_reducible exact grownRefl _ _) | (with_reducible assumption) | (with_reducible refine grownTrans (by with_reducible assumption) ?_) | (with_reducible refine gAllocS ?_ _) | (with_reducible refine grownDrew ?_) | (with_reducible refine gDrewNS ?_ _) | (with_reducible refine grownPut ?_) | (with_reducible refine grownBelS ?_ (by with_reducible assumption)))) xm y).mono ?_); rintro e w2 ⟨rr, rfl, hrr, rr1, rr2, hb2⟩; have hR2 := (show ¬ rr < 0 from fun h => by have := hrr.1 h; omega); have hRb : decide (rr < 0) = false := decide_eq_false hR2; have hB2 : Below wr.heap.size wr w2 := Below.trans (by repeat' (first | (with_reducible exact Below.refl _ _) | (with_reducible assumption) | (with_reducible refine Below.alloc ?_ ?_ _) | (with_reducible refine Below.drew ?_) | (with_reducible refine belowDraws ?_ _) | (with_reducible refine Below.setCell ?_ ?_ _) | omega | (simp; done) | (simp; omega))) (hb2.mono (by first | omega | (simp; done) | (simp; omega))); have z2 := hB2.size; have q00 := (hB2.cell (p := ⟨g, h, none⟩) hgi).trans c00; have q10 := (hB2.cell (p := ⟨g, m, none⟩) hgi).trans c10; clear hb2 hrr))
            have HH2 := HHH.out.over hB2
            have G2 : w.grownBy w2 (some g) := grownTrans hG (belowGrown hB2 _)
            go_wp2_with fail
            go_roundw
            case rel => exact ⟨h + 1, j, by go_num, rfl, by omega, by omega, hjm, Lib.hid ⟨.inr ⟨h, y, rfl, HY.out, by omega⟩, HI.out.2⟩, HH2, G2⟩
            case measure => simp [intOf]; omega
        · obtain rfl : i = j := by omega
          go_wp2_with fail
          go_loopw [17] (fun kv wr => ∃ (k : Nat) (r : List (Fin N)), kv = .int .i64 (k : Int) ∧ i ≤ k ∧ k ≤ m ∧ Hid (MoveL l r k m ∧ Stab key l r) ∧ HdI cap wr g r ∧ w.grownBy wr (some g)) (fun kv _ => (intOf kv).toNat)
          case atStart => exact ⟨m, l, rfl, hjm, Nat.le_refl _, Lib.hid ⟨moveL_zero l m, Stab.refl _⟩, hH, hG⟩
          case round =>
            clear hH hG
            obtain ⟨k, r, rfl, hik, hkm, HM, hH, hG⟩ := hrel
            have hgi := hH.inside
            by_cases hlt2 : i < k
            · obtain ⟨k, rfl⟩ : ∃ kp, k = kp + 1 := ⟨k - 1, by omega⟩
              obtain ⟨y, hy⟩ : ∃ y, l[k]? = some y := ⟨_, List.getElem?_eq_getElem (by rw [HL.out]; omega)⟩
              have hrx : r[k + 1]? = some xm := by rw [HM.out.1.2, if_neg (by omega), if_pos rfl]; exact HXM.out
              have hry : r[k]? = some y := by rw [HM.out.1.2, if_neg (by omega), if_neg (by omega)]; exact hy
              have hk : key xm < key y := by
                rcases HI.out.2 with e | ⟨y0, hy0, hlt0⟩
                · omega
                · have := HS1.out.le (p := i) (q := k) (by omega) (by omega) (by omega) hy0 hy
                  omega
              have HR := Lib.hid (HM.out.1.1.trans HL.out)
              have HXY := Lib.hid (And.intro hrx hry)
              have HHH := Lib.hid hH
              have c00 := hH.cells hrx
              have f00 := hH.free ((k + 1))
              have c10 := hH.cells hry
              have f10 := hH.free (k)
              have ia0 : (0 : Int) ≤ (k : Int) + 1 := by omega
              have ib0 : (k : Int) + 1 < (n : Int) := by omega
              have ic0 : ((k : Int) + 1).toNat = k + 1 := by omega
              have id0 : IntKind.i64.wrap ((k : Int) + 1) = (k : Int) + 1 := IntWalk.i64_in _ (by omega)
              have ia1 : (0 : Int) ≤ (k : Int) := by omega
              have ib1 : (k : Int) < (n : Int) := by omega
              have ie1 : (k : Int) + 1 - 1 = (k : Int) := by omega
              have if1 : IntKind.i64.wrap ((k : Int) + 1 - 1) = (k : Int) := (IntWalk.i64_in _ (by omega)).trans ie1
              have ig1 : IntKind.i64.wrap (k : Int) = (k : Int) := IntWalk.i64_in _ (by omega)
              clear hy hrx hry hH
              go_wp2_with fail
              go_big_region
              all_goals go_wp2_with fail
              go_roundw
              case rel => exact ⟨k, (r.set (k + 1) y).set k xm, rfl, by omega, by omega, Lib.hid ⟨moveL_step HM.out.1 hkm HXY.out.2 HXY.out.1, HM.out.2.trans (Stab.adj' HXY.out.2 HXY.out.1 (by omega))⟩, ((HHH.out.put y (by rw [HR.out]; omega)).put xm (by rw [List.length_set, HR.out]; omega)).drew, by repeat' (first | (with_reducible exact grownRefl _ _) | (with_reducible assumption) | (with_reducible refine grownTrans (by with_reducible assumption) ?_) | (with_reducible refine gAllocS ?_ _) | (with_reducible refine grownDrew ?_) | (with_reducible refine gDrewNS ?_ _) | (with_reducible refine grownPut ?_) | (with_reducible refine grownBelS ?_ (by with_reducible assumption)))⟩
              case measure => simp [intOf]
            · obtain rfl : k = i := by omega
              go_wp2_with fail
              refine bodyPost_ret (results_none rfl _ _ _) rfl ?_
              exact ⟨rfl, r, by rw [HB1.out]; exact moveL_mrg HM.out.1 hi hkm HXM.out HS1.out HM.out.2 HI.out.1 HI.out.2, hH, hG⟩
    · have tb : ((b : Int) - (m : Int) == 1) = false := by simp; omega
      obtain ⟨mid, hmid⟩ : ∃ mid : Nat, mid = (a + b) / 2 := ⟨_, rfl⟩
      have emid : ((a : Int) + (b : Int)) / 2 = (mid : Int) := by omega
      have hm1' : a < mid := by omega
      have hm2' : mid < b := by omega
      have hm3' : a + b = 2 * mid ∨ a + b = 2 * mid + 1 := by omega
      clear hmid
      by_cases hmm : mid < m
      · obtain ⟨s0, hs0⟩ : ∃ s0 : Nat, s0 + b = mid + m := ⟨mid + m - b, by omega⟩
        have es0 : (mid : Int) + (m : Int) - (b : Int) = (s0 : Int) := by omega
        have hs0a : a ≤ s0 := by omega
        have hs0b : s0 < mid := by omega
        have HS0 := Lib.hid hs0
        have hq1 : ∀ c, s0 ≤ c → c < mid → m ≤ mid + m - 1 - c ∧ mid + m - 1 - c < b := fun c _ _ => by omega
        have HQ := Lib.hid hq1
        have hr0 : mid ≤ m := by omega
        clear hq1 hs0
        go_enter Tryz.func74, Tryz.ntmps74
        go_wp2_with fail
        go_loopw [20, 21] (fun sv rv wr => ∃ s r : Nat, sv = .int .i64 (s : Int) ∧ rv = .int .i64 (r : Int) ∧ s0 ≤ s ∧ s ≤ r ∧ r ≤ mid ∧ Hid ((s = s0 ∨ ∃ k x y, s = k + 1 ∧ l[k]? = some x ∧ l[mid + m - s]? = some y ∧ key x ≤ key y) ∧ (r = mid ∨ ∃ x y, l[r]? = some x ∧ l[mid + m - 1 - r]? = some y ∧ key y < key x)) ∧ HdI cap wr g l ∧ w.grownBy wr (some g)) (fun sv rv _ => (intOf rv).toNat - (intOf sv).toNat)
        case atStart => exact ⟨s0, mid, rfl, rfl, Nat.le_refl _, by omega, Nat.le_refl _, Lib.hid ⟨.inl rfl, .inl rfl⟩, hH, grownRefl _ _⟩
        case round =>
          clear hH
          obtain ⟨s, r, rfl, rfl, hs, hsr, hr, HI, hH, hG⟩ := hrel
          have hgi := hH.inside
          by_cases hlt : s < r
          · obtain ⟨c, hc⟩ : ∃ c : Nat, c = (s + r) / 2 := ⟨_, rfl⟩
            have ec : ((s : Int) + (r : Int)) / 2 = (c : Int) := by omega
            have hc1 : s ≤ c := by omega
            have hc2 : c < r := by omega
            clear hc
            obtain ⟨q1, q2⟩ := HQ.out c (by omega) (by omega)
            obtain ⟨q, hq⟩ : ∃ q : Nat, q = mid + m - 1 - c := ⟨_, rfl⟩
            rw [← hq] at q1 q2
            have eq : (mid : Int) + (m : Int) - 1 - (c : Int) = (q : Int) := by omega
            have eqw : IntKind.i64.wrap ((mid : Int) + (m : Int) - 1 - (c : Int)) = (q : Int) := (IntWalk.i64_in _ (by omega)).trans eq
            have hqc : q + c + 1 = mid + m := by omega
            have HQC := Lib.hid hqc
            clear hq hqc
            obtain ⟨cx, hcx⟩ : ∃ y, l[c]? = some y := ⟨_, List.getElem?_eq_getElem (by rw [HL.out]; omega)⟩
            obtain ⟨cy, hcy⟩ : ∃ y, l[q]? = some y := ⟨_, List.getElem?_eq_getElem (by rw [HL.out]; omega)⟩
            have c00 := hH.cells hcx
            have c10 := hH.cells hcy
            have HXY := Lib.hid (And.intro hcx hcy)
            have HHH := Lib.hid hH
            have ia0 : (0 : Int) ≤ (c : Int) := by omega
            have ib0 : (c : Int) < (n : Int) := by omega
            have ic0 : ((c : Int)).toNat = c := by omega
            have id0 : IntKind.i64.wrap ((c : Int)) = (c : Int) := IntWalk.i64_in _ (by omega)
            have ia1 : (0 : Int) ≤ (q : Int) := by omega
            have ib1 : (q : Int) < (n : Int) := by omega
            have ic1 : ((q : Int)).toNat = q := by omega
            have id1 : IntKind.i64.wrap ((q : Int)) = (q : Int) := IntWalk.i64_in _ (by omega)
            clear hcx hcy hH
            by_cases hk : key cy < key cx
            · go_wp2_with fail
              go_region_held3 (fun w' => w'.cell? ⟨g, c, none⟩ = some (.int .i64 (cx.1 : Int)) ∧ w'.cell? ⟨g, q, none⟩ = some (.int .i64 (cy.1 : Int))) (go_keep) (first | (go_at_call 44; (with_reducible refine (CmpCI.use HC.out _ (by repeat' (first | (with_reducible exact grownRefl _ _) | (with_reducible assumption) | (with_reducible refine grownTrans (by with_reducible assumption) ?_) | (with_reducible refine gAllocS ?_ _) | (with_reducible refine grownDrew ?_) | (with_reducible refine gDrewNS ?_ _) | (with_reducible refine grownPut ?_) | (with_reducible refine grownBelS ?_ (by with_reducible assumption)))) cy cx).mono ?_); rintro e w2 ⟨rr, rfl, hrr, rr1, rr2, hb2⟩; have hR2 := hrr.2 hk; have hRb : decide (rr < 0) = true := decide_eq_true hR2; have hB2 : Below wr.heap.size wr w2 := Below.trans (by repeat' (first | (with_reducible exact Below.refl _ _) | (with_reducible assumption) | (with_reducible refine Below.alloc ?_ ?_ _) | (with_reducible refine Below.drew ?_) | (with_reducible refine belowDraws ?_ _) | (with_reducible refine Below.setCell ?_ ?_ _) | omega | (simp; done) | (simp; omega))) (hb2.mono (by first | omega | (simp; done) | (simp; omega))); have z2 := hB2.size; have q00 := (hB2.cell (p := ⟨g, c, none⟩) hgi).trans c00; have q10 := (hB2.cell (p := ⟨g, q, none⟩) hgi).trans c10; clear hb2 hrr))
              have HH2 := HHH.out.over hB2
              have G2 : w.grownBy w2 (some g) := grownTrans hG (belowGrown hB2 _)
              go_wp2_with fail
              go_roundw
              case rel => exact ⟨s, c, rfl, rfl, hs, hc1, by omega, Lib.hid ⟨HI.out.1, .inr ⟨cx, cy, HXY.out.1, by rw [show mid + m - 1 - c = q by have := HQC.out; omega]; exact HXY.out.2, hk⟩⟩, HH2, G2⟩
              case measure => simp [intOf]; omega
            · go_wp2_with fail
              go_region_held3 (fun w' => w'.cell? ⟨g, c, none⟩ = some (.int .i64 (cx.1 : Int)) ∧ w'.cell? ⟨g, q, none⟩ = some (.int .i64 (cy.1 : Int))) (go_keep) (first | (go_at_call 44; (with_reducible refine (CmpCI.use HC.out _ (by repeat' (first | (with_reducible exact grownRefl _ _) | (with_reducible assumption) | (with_reducible refine grownTrans (by with_reducible assumption) ?_) | (with_reducible refine gAllocS ?_ _) | (with_reducible refine grownDrew ?_) | (with_reducible refine gDrewNS ?_ _) | (with_reducible refine grownPut ?_) | (with_reducible refine grownBelS ?_ (by with_reducible assumption)))) cy cx).mono ?_); rintro e w2 ⟨rr, rfl, hrr, rr1, rr2, hb2⟩; have hR2 := (show ¬ rr < 0 from fun h => by have := hrr.1 h; omega); have hRb : decide (rr < 0) = false := decide_eq_false hR2; have hB2 : Below wr.heap.size wr w2 := Below.trans (by repeat' (first | (with_reducible exact Below.refl _ _) | (with_reducible assumption) | (with_reducible refine Below.alloc ?_ ?_ _) | (with_reducible refine Below.drew ?_) | (with_reducible refine belowDraws ?_ _) | (with_reducible refine Below.setCell ?_ ?_ _) | omega | (simp; done) | (simp; omega))) (hb2.mono (by first | omega | (simp; done) | (simp; omega))); have z2 := hB2.size; have q00 := (hB2.cell (p := ⟨g, c, none⟩) hgi).trans c00; have q10 := (hB2.cell (p := ⟨g, q, none⟩) hgi).trans c10; clear hb2 hrr))
              have HH2 := HHH.out.over hB2
              have G2 : w.grownBy w2 (some g) := grownTrans hG (belowGrown hB2 _)
              go_wp2_with fail
              go_roundw
              case rel => exact ⟨c + 1, r, by go_num, rfl, by omega, by omega, hr, Lib.hid ⟨.inr ⟨c, cx, cy, rfl, HXY.out.1, by rw [show mid + m - (c + 1) = q by have := HQC.out; omega]; exact HXY.out.2, by omega⟩, HI.out.2⟩, HH2, G2⟩
              case measure => simp [intOf]; omega
          · obtain rfl : s = r := by omega
            obtain ⟨e, he⟩ : ∃ e : Nat, s + e = mid + m := ⟨mid + m - s, by omega⟩
            have ee : (mid : Int) + (m : Int) - (s : Int) = (e : Int) := by omega
            have he1 : m ≤ e := by omega
            have he2 : e ≤ b := by have := HS0.out; omega
            have hsm : s ≤ m := by omega
            have hse : s ≤ mid ∧ mid ≤ e := by omega
            have hsm1 := hse.1
            have hsm2 := hse.2
            obtain ⟨hst, hout, hhv⟩ := halves_of (key := key) (l := l) (a := a) (s := s) (m := m) (e := e) (b := b) (mid := mid) (by omega) hsm he1 he2 (by rw [HL.out]; exact h3) (by omega) HS1.out HS2.out
              (by
                rcases HI.out.1 with h | ⟨k, x, y, h, hx, hy, hle⟩
                · exact .inr (.inl (by have := HS0.out; omega))
                · exact .inr (.inr ⟨k, x, y, h, hx, by rw [← show mid + m - s = e by omega]; exact hy, hle⟩))
              (by
                rcases HI.out.2 with h | ⟨x, y, hx, hy, hlt⟩
                · exact .inr (.inl (by omega))
                · by_cases he0 : e = m
                  · exact .inr (.inl he0)
                  · exact .inr (.inr ⟨mid + m - 1 - s, x, y, by omega, hx, hy, hlt⟩))
            have HST := Lib.hid hst
            have HOUT := Lib.hid hout
            have HHV := Lib.hid hhv
            have HLR := Lib.hid (hst.length.symm.trans HL.out)
            have HNIL := Lib.hid (show (s = m ∨ m = e) → rot l s m e = l from fun h => rot_nil hsm he1 (by rw [HL.out]; omega) h)
            clear hst hout hhv hse he
            by_cases hA : s < m ∧ m < e
            · obtain ⟨hA1, hA2⟩ := hA
              go_wp2_with fail
              refine (rotateI_any s m e _ _ _ _ g n cap l _ HL.out hn hH rfl rfl rfl hA1 hA2 (by omega)).mono ?_
              rintro e' w3 ⟨rfl, H3, G3⟩
              have G3' : w.grownBy w3 (some g) := grownTrans hG G3
              clear hH hG G3 HNIL
              generalize rot l s m e = R at *
              by_cases hB : a < s ∧ s < mid
              · obtain ⟨hB1, hB2⟩ := hB
                go_wp2_with fail
                all_goals
                 refine (ih a s mid _ _ _ R _ (by omega) rfl rfl rfl hB1 hB2 (by omega) HLR.out H3 (HC.out.grown G3') HHV.out.1 HHV.out.2.1).mono ?_
                 rintro e' w4 ⟨rfl, r4, M4, H4, G4⟩
                 have M4' := Lib.hid M4
                 have G4' : w.grownBy w4 (some g) := grownTrans G3' G4
                 clear M4 G4
                 by_cases hC : mid < e ∧ e < b
                 · obtain ⟨hC1, hC2⟩ := hC
                   go_wp2_with fail
                   all_goals
                    refine (ih mid e b _ _ _ r4 _ (by omega) rfl rfl rfl hC1 hC2 h3 ((M4').out.1.length.symm.trans HLR.out) H4 (HC.out.grown G4') (HHV.out.2.2.1.out (M4').out.2.2 (by omega)) (HHV.out.2.2.2.1.out (M4').out.2.2 (by omega))).mono ?_
                    rintro e' w5 ⟨rfl, r5, M5, H5, G5⟩
                    go_wp2_with fail
                    go_end0
                    exact ⟨rfl, r5, mrg_join (e' := 0) (by omega) (by omega) HST.out HOUT.out HHV.out (M4').out M5, H5, grownTrans G4' G5⟩
                 · go_wp2_with fail
                   all_goals
                    go_end0
                    refine ⟨rfl, r4, mrg_join (e' := 0) (by omega) (by omega) HST.out HOUT.out HHV.out (M4').out (mrg_refl ?_), H4, G4'⟩
                    by_cases hC1 : mid < e
                    · obtain rfl : e = b := by omega
                      exact HHV.out.2.2.1.out (M4').out.2.2 (by omega)
                    · obtain rfl : mid = e := by omega
                      exact HHV.out.2.2.2.1.out (M4').out.2.2 (by omega)
              · have M4' := Lib.hid (mrg_refl (l := R) (a := a) (b := mid) (by
                  by_cases hB1 : a < s
                  · obtain rfl : s = mid := by omega
                    exact HHV.out.1
                  · obtain rfl : a = s := by omega
                    exact HHV.out.2.1))
                by_cases hC : mid < e ∧ e < b
                · obtain ⟨hC1, hC2⟩ := hC
                  go_wp2_with fail
                  all_goals
                   refine (ih mid e b _ _ _ R _ (by omega) rfl rfl rfl hC1 hC2 h3 ((M4').out.1.length.symm.trans HLR.out) H3 (HC.out.grown G3') (HHV.out.2.2.1.out (M4').out.2.2 (by omega)) (HHV.out.2.2.2.1.out (M4').out.2.2 (by omega))).mono ?_
                   rintro e' w5 ⟨rfl, r5, M5, H5, G5⟩
                   go_wp2_with fail
                   go_end0
                   exact ⟨rfl, r5, mrg_join (e' := 0) (by omega) (by omega) HST.out HOUT.out HHV.out (M4').out M5, H5, grownTrans G3' G5⟩
                · go_wp2_with fail
                  all_goals
                   go_end0
                   refine ⟨rfl, R, mrg_join (e' := 0) (by omega) (by omega) HST.out HOUT.out HHV.out (M4').out (mrg_refl ?_), H3, G3'⟩
                   by_cases hC1 : mid < e
                   · obtain rfl : e = b := by omega
                     exact HHV.out.2.2.1.out (M4').out.2.2 (by omega)
                   · obtain rfl : mid = e := by omega
                     exact HHV.out.2.2.2.1.out (M4').out.2.2 (by omega)
            · have hR := HNIL.out (by omega)
              rw [← hR] at hH
              clear hR HNIL
              generalize rot l s m e = R at *
              by_cases hB : a < s ∧ s < mid
              · obtain ⟨hB1, hB2⟩ := hB
                go_wp2_with fail
                all_goals
                 refine (ih a s mid _ _ _ R _ (by omega) rfl rfl rfl hB1 hB2 (by omega) HLR.out hH (HC.out.grown hG) HHV.out.1 HHV.out.2.1).mono ?_
                 rintro e' w4 ⟨rfl, r4, M4, H4, G4⟩
                 have M4' := Lib.hid M4
                 have G4' : w.grownBy w4 (some g) := grownTrans hG G4
                 clear M4 G4
                 by_cases hC : mid < e ∧ e < b
                 · obtain ⟨hC1, hC2⟩ := hC
                   go_wp2_with fail
                   all_goals
                    refine (ih mid e b _ _ _ r4 _ (by omega) rfl rfl rfl hC1 hC2 h3 ((M4').out.1.length.symm.trans HLR.out) H4 (HC.out.grown G4') (HHV.out.2.2.1.out (M4').out.2.2 (by omega)) (HHV.out.2.2.2.1.out (M4').out.2.2 (by omega))).mono ?_
                    rintro e' w5 ⟨rfl, r5, M5, H5, G5⟩
                    go_wp2_with fail
                    go_end0
                    exact ⟨rfl, r5, mrg_join (e' := 0) (by omega) (by omega) HST.out HOUT.out HHV.out (M4').out M5, H5, grownTrans G4' G5⟩
                 · go_wp2_with fail
                   all_goals
                    go_end0
                    refine ⟨rfl, r4, mrg_join (e' := 0) (by omega) (by omega) HST.out HOUT.out HHV.out (M4').out (mrg_refl ?_), H4, G4'⟩
                    by_cases hC1 : mid < e
                    · obtain rfl : e = b := by omega
                      exact HHV.out.2.2.1.out (M4').out.2.2 (by omega)
                    · obtain rfl : mid = e := by omega
                      exact HHV.out.2.2.2.1.out (M4').out.2.2 (by omega)
              · have M4' := Lib.hid (mrg_refl (l := R) (a := a) (b := mid) (by
                  by_cases hB1 : a < s
                  · obtain rfl : s = mid := by omega
                    exact HHV.out.1
                  · obtain rfl : a = s := by omega
                    exact HHV.out.2.1))
                by_cases hC : mid < e ∧ e < b
                · obtain ⟨hC1, hC2⟩ := hC
                  go_wp2_with fail
                  all_goals
                   refine (ih mid e b _ _ _ R _ (by omega) rfl rfl rfl hC1 hC2 h3 ((M4').out.1.length.symm.trans HLR.out) hH (HC.out.grown hG) (HHV.out.2.2.1.out (M4').out.2.2 (by omega)) (HHV.out.2.2.2.1.out (M4').out.2.2 (by omega))).mono ?_
                   rintro e' w5 ⟨rfl, r5, M5, H5, G5⟩
                   go_wp2_with fail
                   go_end0
                   exact ⟨rfl, r5, mrg_join (e' := 0) (by omega) (by omega) HST.out HOUT.out HHV.out (M4').out M5, H5, grownTrans hG G5⟩
                · go_wp2_with fail
                  all_goals
                   go_end0
                   refine ⟨rfl, R, mrg_join (e' := 0) (by omega) (by omega) HST.out HOUT.out HHV.out (M4').out (mrg_refl ?_), hH, hG⟩
                   by_cases hC1 : mid < e
                   · obtain rfl : e = b := by omega
                     exact HHV.out.2.2.1.out (M4').out.2.2 (by omega)
                   · obtain rfl : mid = e := by omega
                     exact HHV.out.2.2.2.1.out (M4').out.2.2 (by omega)
      · have hmm' : ¬ (mid : Int) < (m : Int) := by omega
        have hq1 : ∀ c, a ≤ c → c < m → m ≤ mid + m - 1 - c ∧ mid + m - 1 - c < b := fun c _ _ => by omega
        have HQ := Lib.hid hq1
        have hs0a : a ≤ a := Nat.le_refl _
        have hr0 : m ≤ m := Nat.le_refl _
        clear hq1
        go_enter Tryz.func74, Tryz.ntmps74
        go_wp2_with fail
        go_loopw [20, 21] (fun sv rv wr => ∃ s r : Nat, sv = .int .i64 (s : Int) ∧ rv = .int .i64 (r : Int) ∧ a ≤ s ∧ s ≤ r ∧ r ≤ m ∧ Hid ((s = a ∨ ∃ k x y, s = k + 1 ∧ l[k]? = some x ∧ l[mid + m - s]? = some y ∧ key x ≤ key y) ∧ (r = m ∨ ∃ x y, l[r]? = some x ∧ l[mid + m - 1 - r]? = some y ∧ key y < key x)) ∧ HdI cap wr g l ∧ w.grownBy wr (some g)) (fun sv rv _ => (intOf rv).toNat - (intOf sv).toNat)
        case atStart => exact ⟨a, m, rfl, rfl, Nat.le_refl _, by omega, Nat.le_refl _, Lib.hid ⟨.inl rfl, .inl rfl⟩, hH, grownRefl _ _⟩
        case round =>
          clear hH
          obtain ⟨s, r, rfl, rfl, hs, hsr, hr, HI, hH, hG⟩ := hrel
          have hgi := hH.inside
          by_cases hlt : s < r
          · obtain ⟨c, hc⟩ : ∃ c : Nat, c = (s + r) / 2 := ⟨_, rfl⟩
            have ec : ((s : Int) + (r : Int)) / 2 = (c : Int) := by omega
            have hc1 : s ≤ c := by omega
            have hc2 : c < r := by omega
            clear hc
            obtain ⟨q1, q2⟩ := HQ.out c (by omega) (by omega)
            obtain ⟨q, hq⟩ : ∃ q : Nat, q = mid + m - 1 - c := ⟨_, rfl⟩
            rw [← hq] at q1 q2
            have eq : (mid : Int) + (m : Int) - 1 - (c : Int) = (q : Int) := by omega
            have eqw : IntKind.i64.wrap ((mid : Int) + (m : Int) - 1 - (c : Int)) = (q : Int) := (IntWalk.i64_in _ (by omega)).trans eq
            have hqc : q + c + 1 = mid + m := by omega
            have HQC := Lib.hid hqc
            clear hq hqc
            obtain ⟨cx, hcx⟩ : ∃ y, l[c]? = some y := ⟨_, List.getElem?_eq_getElem (by rw [HL.out]; omega)⟩
            obtain ⟨cy, hcy⟩ : ∃ y, l[q]? = some y := ⟨_, List.getElem?_eq_getElem (by rw [HL.out]; omega)⟩
            have c00 := hH.cells hcx
            have c10 := hH.cells hcy
            have HXY := Lib.hid (And.intro hcx hcy)
            have HHH := Lib.hid hH
            have ia0 : (0 : Int) ≤ (c : Int) := by omega
            have ib0 : (c : Int) < (n : Int) := by omega
            have ic0 : ((c : Int)).toNat = c := by omega
            have id0 : IntKind.i64.wrap ((c : Int)) = (c : Int) := IntWalk.i64_in _ (by omega)
            have ia1 : (0 : Int) ≤ (q : Int) := by omega
            have ib1 : (q : Int) < (n : Int) := by omega
            have ic1 : ((q : Int)).toNat = q := by omega
            have id1 : IntKind.i64.wrap ((q : Int)) = (q : Int) := IntWalk.i64_in _ (by omega)
            clear hcx hcy hH
            by_cases hk : key cy < key cx
            · go_wp2_with fail
              go_region_held3 (fun w' => w'.cell? ⟨g, c, none⟩ = some (.int .i64 (cx.1 : Int)) ∧ w'.cell? ⟨g, q, none⟩ = some (.int .i64 (cy.1 : Int))) (go_keep) (first | (go_at_call 44; (with_reducible refine (CmpCI.use HC.out _ (by repeat' (first | (with_reducible exact grownRefl _ _) | (with_reducible assumption) | (with_reducible refine grownTrans (by with_reducible assumption) ?_) | (with_reducible refine gAllocS ?_ _) | (with_reducible refine grownDrew ?_) | (with_reducible refine gDrewNS ?_ _) | (with_reducible refine grownPut ?_) | (with_reducible refine grownBelS ?_ (by with_reducible assumption)))) cy cx).mono ?_); rintro e w2 ⟨rr, rfl, hrr, rr1, rr2, hb2⟩; have hR2 := hrr.2 hk; have hRb : decide (rr < 0) = true := decide_eq_true hR2; have hB2 : Below wr.heap.size wr w2 := Below.trans (by repeat' (first | (with_reducible exact Below.refl _ _) | (with_reducible assumption) | (with_reducible refine Below.alloc ?_ ?_ _) | (with_reducible refine Below.drew ?_) | (with_reducible refine belowDraws ?_ _) | (with_reducible refine Below.setCell ?_ ?_ _) | omega | (simp; done) | (simp; omega))) (hb2.mono (by first | omega | (simp; done) | (simp; omega))); have z2 := hB2.size; have q00 := (hB2.cell (p := ⟨g, c, none⟩) hgi).trans c00; have q10 := (hB2.cell (p := ⟨g, q, none⟩) hgi).trans c10; clear hb2 hrr))
              have HH2 := HHH.out.over hB2
              have G2 : w.grownBy w2 (some g) := grownTrans hG (belowGrown hB2 _)
              go_wp2_with fail
              go_roundw
              case rel => exact ⟨s, c, rfl, rfl, hs, hc1, by omega, Lib.hid ⟨HI.out.1, .inr ⟨cx, cy, HXY.out.1, by rw [show mid + m - 1 - c = q by have := HQC.out; omega]; exact HXY.out.2, hk⟩⟩, HH2, G2⟩
              case measure => simp [intOf]; omega
            · go_wp2_with fail
              go_region_held3 (fun w' => w'.cell? ⟨g, c, none⟩ = some (.int .i64 (cx.1 : Int)) ∧ w'.cell? ⟨g, q, none⟩ = some (.int .i64 (cy.1 : Int))) (go_keep) (first | (go_at_call 44; (with_reducible refine (CmpCI.use HC.out _ (by repeat' (first | (with_reducible exact grownRefl _ _) | (with_reducible assumption) | (with_reducible refine grownTrans (by with_reducible assumption) ?_) | (with_reducible refine gAllocS ?_ _) | (with_reducible refine grownDrew ?_) | (with_reducible refine gDrewNS ?_ _) | (with_reducible refine grownPut ?_) | (with_reducible refine grownBelS ?_ (by with_reducible assumption)))) cy cx).mono ?_); rintro e w2 ⟨rr, rfl, hrr, rr1, rr2, hb2⟩; have hR2 := (show ¬ rr < 0 from fun h => by have := hrr.1 h; omega); have hRb : decide (rr < 0) = false := decide_eq_false hR2; have hB2 : Below wr.heap.size wr w2 := Below.trans (by repeat' (first | (with_reducible exact Below.refl _ _) | (with_reducible assumption) | (with_reducible refine Below.alloc ?_ ?_ _) | (with_reducible refine Below.drew ?_) | (with_reducible refine belowDraws ?_ _) | (with_reducible refine Below.setCell ?_ ?_ _) | omega | (simp; done) | (simp; omega))) (hb2.mono (by first | omega | (simp; done) | (simp; omega))); have z2 := hB2.size; have q00 := (hB2.cell (p := ⟨g, c, none⟩) hgi).trans c00; have q10 := (hB2.cell (p := ⟨g, q, none⟩) hgi).trans c10; clear hb2 hrr))
              have HH2 := HHH.out.over hB2
              have G2 : w.grownBy w2 (some g) := grownTrans hG (belowGrown hB2 _)
              go_wp2_with fail
              go_roundw
              case rel => exact ⟨c + 1, r, by go_num, rfl, by omega, by omega, hr, Lib.hid ⟨.inr ⟨c, cx, cy, rfl, HXY.out.1, by rw [show mid + m - (c + 1) = q by have := HQC.out; omega]; exact HXY.out.2, by omega⟩, HI.out.2⟩, HH2, G2⟩
              case measure => simp [intOf]; omega
          · obtain rfl : s = r := by omega
            obtain ⟨e, he⟩ : ∃ e : Nat, s + e = mid + m := ⟨mid + m - s, by omega⟩
            have ee : (mid : Int) + (m : Int) - (s : Int) = (e : Int) := by omega
            have he1 : m ≤ e := by omega
            have he2 : e ≤ b := by omega
            have hsm : s ≤ m := by omega
            have hse : s ≤ mid ∧ mid ≤ e := by omega
            have hsm1 := hse.1
            have hsm2 := hse.2
            obtain ⟨hst, hout, hhv⟩ := halves_of (key := key) (l := l) (a := a) (s := s) (m := m) (e := e) (b := b) (mid := mid) (by omega) hsm he1 he2 (by rw [HL.out]; exact h3) (by omega) HS1.out HS2.out
              (by
                rcases HI.out.1 with h | ⟨k, x, y, h, hx, hy, hle⟩
                · exact .inl (by omega)
                · exact .inr (.inr ⟨k, x, y, h, hx, by rw [← show mid + m - s = e by omega]; exact hy, hle⟩))
              (by
                rcases HI.out.2 with h | ⟨x, y, hx, hy, hlt⟩
                · exact .inl (by omega)
                · by_cases he0 : e = m
                  · exact .inr (.inl he0)
                  · exact .inr (.inr ⟨mid + m - 1 - s, x, y, by omega, hx, hy, hlt⟩))
            have HST := Lib.hid hst
            have HOUT := Lib.hid hout
            have HHV := Lib.hid hhv
            have HLR := Lib.hid (hst.length.symm.trans HL.out)
            have HNIL := Lib.hid (show (s = m ∨ m = e) → rot l s m e = l from fun h => rot_nil hsm he1 (by rw [HL.out]; omega) h)
            clear hst hout hhv hse he
            by_cases hA : s < m ∧ m < e
            · obtain ⟨hA1, hA2⟩ := hA
              go_wp2_with fail
              refine (rotateI_any s m e _ _ _ _ g n cap l _ HL.out hn hH rfl rfl rfl hA1 hA2 (by omega)).mono ?_
              rintro e' w3 ⟨rfl, H3, G3⟩
              have G3' : w.grownBy w3 (some g) := grownTrans hG G3
              clear hH hG G3 HNIL
              generalize rot l s m e = R at *
              by_cases hB : a < s ∧ s < mid
              · obtain ⟨hB1, hB2⟩ := hB
                go_wp2_with fail
                all_goals
                 refine (ih a s mid _ _ _ R _ (by omega) rfl rfl rfl hB1 hB2 (by omega) HLR.out H3 (HC.out.grown G3') HHV.out.1 HHV.out.2.1).mono ?_
                 rintro e' w4 ⟨rfl, r4, M4, H4, G4⟩
                 have M4' := Lib.hid M4
                 have G4' : w.grownBy w4 (some g) := grownTrans G3' G4
                 clear M4 G4
                 by_cases hC : mid < e ∧ e < b
                 · obtain ⟨hC1, hC2⟩ := hC
                   go_wp2_with fail
                   all_goals
                    refine (ih mid e b _ _ _ r4 _ (by omega) rfl rfl rfl hC1 hC2 h3 ((M4').out.1.length.symm.trans HLR.out) H4 (HC.out.grown G4') (HHV.out.2.2.1.out (M4').out.2.2 (by omega)) (HHV.out.2.2.2.1.out (M4').out.2.2 (by omega))).mono ?_
                    rintro e' w5 ⟨rfl, r5, M5, H5, G5⟩
                    go_wp2_with fail
                    go_end0
                    exact ⟨rfl, r5, mrg_join (e' := 0) (by omega) (by omega) HST.out HOUT.out HHV.out (M4').out M5, H5, grownTrans G4' G5⟩
                 · go_wp2_with fail
                   all_goals
                    go_end0
                    refine ⟨rfl, r4, mrg_join (e' := 0) (by omega) (by omega) HST.out HOUT.out HHV.out (M4').out (mrg_refl ?_), H4, G4'⟩
                    by_cases hC1 : mid < e
                    · obtain rfl : e = b := by omega
                      exact HHV.out.2.2.1.out (M4').out.2.2 (by omega)
                    · obtain rfl : mid = e := by omega
                      exact HHV.out.2.2.2.1.out (M4').out.2.2 (by omega)
              · have M4' := Lib.hid (mrg_refl (l := R) (a := a) (b := mid) (by
                  by_cases hB1 : a < s
                  · obtain rfl : s = mid := by omega
                    exact HHV.out.1
                  · obtain rfl : a = s := by omega
                    exact HHV.out.2.1))
                by_cases hC : mid < e ∧ e < b
                · obtain ⟨hC1, hC2⟩ := hC
                  go_wp2_with fail
                  all_goals
                   refine (ih mid e b _ _ _ R _ (by omega) rfl rfl rfl hC1 hC2 h3 ((M4').out.1.length.symm.trans HLR.out) H3 (HC.out.grown G3') (HHV.out.2.2.1.out (M4').out.2.2 (by omega)) (HHV.out.2.2.2.1.out (M4').out.2.2 (by omega))).mono ?_
                   rintro e' w5 ⟨rfl, r5, M5, H5, G5⟩
                   go_wp2_with fail
                   go_end0
                   exact ⟨rfl, r5, mrg_join (e' := 0) (by omega) (by omega) HST.out HOUT.out HHV.out (M4').out M5, H5, grownTrans G3' G5⟩
                · go_wp2_with fail
                  all_goals
                   go_end0
                   refine ⟨rfl, R, mrg_join (e' := 0) (by omega) (by omega) HST.out HOUT.out HHV.out (M4').out (mrg_refl ?_), H3, G3'⟩
                   by_cases hC1 : mid < e
                   · obtain rfl : e = b := by omega
                     exact HHV.out.2.2.1.out (M4').out.2.2 (by omega)
                   · obtain rfl : mid = e := by omega
                     exact HHV.out.2.2.2.1.out (M4').out.2.2 (by omega)
            · have hR := HNIL.out (by omega)
              rw [← hR] at hH
              clear hR HNIL
              generalize rot l s m e = R at *
              by_cases hB : a < s ∧ s < mid
              · obtain ⟨hB1, hB2⟩ := hB
                go_wp2_with fail
                all_goals
                 refine (ih a s mid _ _ _ R _ (by omega) rfl rfl rfl hB1 hB2 (by omega) HLR.out hH (HC.out.grown hG) HHV.out.1 HHV.out.2.1).mono ?_
                 rintro e' w4 ⟨rfl, r4, M4, H4, G4⟩
                 have M4' := Lib.hid M4
                 have G4' : w.grownBy w4 (some g) := grownTrans hG G4
                 clear M4 G4
                 by_cases hC : mid < e ∧ e < b
                 · obtain ⟨hC1, hC2⟩ := hC
                   go_wp2_with fail
                   all_goals
                    refine (ih mid e b _ _ _ r4 _ (by omega) rfl rfl rfl hC1 hC2 h3 ((M4').out.1.length.symm.trans HLR.out) H4 (HC.out.grown G4') (HHV.out.2.2.1.out (M4').out.2.2 (by omega)) (HHV.out.2.2.2.1.out (M4').out.2.2 (by omega))).mono ?_
                    rintro e' w5 ⟨rfl, r5, M5, H5, G5⟩
                    go_wp2_with fail
                    go_end0
                    exact ⟨rfl, r5, mrg_join (e' := 0) (by omega) (by omega) HST.out HOUT.out HHV.out (M4').out M5, H5, grownTrans G4' G5⟩
                 · go_wp2_with fail
                   all_goals
                    go_end0
                    refine ⟨rfl, r4, mrg_join (e' := 0) (by omega) (by omega) HST.out HOUT.out HHV.out (M4').out (mrg_refl ?_), H4, G4'⟩
                    by_cases hC1 : mid < e
                    · obtain rfl : e = b := by omega
                      exact HHV.out.2.2.1.out (M4').out.2.2 (by omega)
                    · obtain rfl : mid = e := by omega
                      exact HHV.out.2.2.2.1.out (M4').out.2.2 (by omega)
              · have M4' := Lib.hid (mrg_refl (l := R) (a := a) (b := mid) (by
                  by_cases hB1 : a < s
                  · obtain rfl : s = mid := by omega
                    exact HHV.out.1
                  · obtain rfl : a = s := by omega
                    exact HHV.out.2.1))
                by_cases hC : mid < e ∧ e < b
                · obtain ⟨hC1, hC2⟩ := hC
                  go_wp2_with fail
                  all_goals
                   refine (ih mid e b _ _ _ R _ (by omega) rfl rfl rfl hC1 hC2 h3 ((M4').out.1.length.symm.trans HLR.out) hH (HC.out.grown hG) (HHV.out.2.2.1.out (M4').out.2.2 (by omega)) (HHV.out.2.2.2.1.out (M4').out.2.2 (by omega))).mono ?_
                   rintro e' w5 ⟨rfl, r5, M5, H5, G5⟩
                   go_wp2_with fail
                   go_end0
                   exact ⟨rfl, r5, mrg_join (e' := 0) (by omega) (by omega) HST.out HOUT.out HHV.out (M4').out M5, H5, grownTrans hG G5⟩
                · go_wp2_with fail
                  all_goals
                   go_end0
                   refine ⟨rfl, R, mrg_join (e' := 0) (by omega) (by omega) HST.out HOUT.out HHV.out (M4').out (mrg_refl ?_), hH, hG⟩
                   by_cases hC1 : mid < e
                   · obtain rfl : e = b := by omega
                     exact HHV.out.2.2.1.out (M4').out.2.2 (by omega)
                   · obtain rfl : mid = e := by omega
                     exact HHV.out.2.2.2.1.out (M4').out.2.2 (by omega)
end Go.Proofs.YtpbhncgjnmaojaaGreatDoor

/- IsProof: the walks and the law (layer 9). No condition but the table. -/
import Derived.Test.YtpbhncgjnmaojaaDoorPo5
namespace Go.Proofs.YtpbhncgjnmaojaaDoor
open Go.RowKit
set_option linter.unusedVariables false
set_option linter.unusedSimpArgs false

section
variable {l : List (Int × Int × Int)} {v : List Int} {n k : Nat}
theorem prB_len (hl : l.length = n) (h : v.length ≠ n + 1) : prB l v = false := by
  rw [prB, hl, decide_eq_false h]; rfl
theorem prB_zero (h : vA v 0 ≠ 0) : prB l v = false := by
  rw [prB, decide_eq_false h]; simp
theorem prB_big {j : Nat} {x : Int} (hx : v[j]? = some x) (h : 1000000000000 < x) : prB l v = false := by
  have : (v.all fun x => decide (x ≤ 1000000000000)) = false := List.all_eq_false.2 ⟨x, List.mem_of_getElem? hx, by simp; omega⟩
  rw [prB, this]; simp
theorem prB_no (hl : l.length = n) (hk : k < n) (h : prC (RL l) (LL l) (WL l) n v k = false) : prB l v = false := by
  rw [prB, hl, prTo_false hk h]; simp
theorem prB_yes (hl : l.length = n) (h1 : v.length = n + 1) (h2 : vA v 0 = 0) (h3 : ∀ (j : Nat) (x : Int), v[j]? = some x → x ≤ 1000000000000) (h4 : prTo (RL l) (LL l) (WL l) n v n = true) : prB l v = true := by
  have : (v.all fun x => decide (x ≤ 1000000000000)) = true := List.all_eq_true.2 fun x hx => by
    obtain ⟨j, hj⟩ := List.getElem?_of_mem hx
    exact decide_eq_true (h3 j x hj)
  rw [prB, hl, this, decide_eq_true h1, decide_eq_true h2, h4]; rfl
theorem prTo_more (h : prTo (RL l) (LL l) (WL l) n v k = true) (h2 : prC (RL l) (LL l) (WL l) n v k = true) : prTo (RL l) (LL l) (WL l) n v (k + 1) = true := by rw [prTo_next, h, h2]; rfl
theorem prC_low {o : Nat} {x0 x1 : Int} (ho : (ordP (RL l) n)[k]? = some o) (h0 : v[k]? = some x0) (h1 : v[k + 1]? = some x1) (h : x1 < x0) : prC (RL l) (LL l) (WL l) n v k = false := by
  cases hc : prC (RL l) (LL l) (WL l) n v k with
  | false => rfl
  | true => have := ((prC_iff ho).1 hc).1; rw [vA_at h0, vA_at h1] at this; omega
theorem prC_less {o : Nat} {xf x1 : Int} (ho : (ordP (RL l) n)[k]? = some o) (h0 : v[freeP (RL l) (LL l) n o]? = some xf) (h1 : v[k + 1]? = some x1) (h : x1 < 1 + 10 * htA l o + xf) : prC (RL l) (LL l) (WL l) n v k = false := by
  cases hc : prC (RL l) (LL l) (WL l) n v k with
  | false => rfl
  | true => have := ((prC_iff ho).1 hc).2; rw [vA_at h0, vA_at h1] at this; unfold WL at this; omega
theorem prC_ok {o : Nat} {x0 x1 xf : Int} (ho : (ordP (RL l) n)[k]? = some o) (h0 : v[k]? = some x0) (h1 : v[k + 1]? = some x1) (h2 : v[freeP (RL l) (LL l) n o]? = some xf) (ha : ¬ x1 < x0) (hb : ¬ x1 < 1 + 10 * htA l o + xf) : prC (RL l) (LL l) (WL l) n v k = true := by
  rw [prC_iff ho, vA_at h0, vA_at h1, vA_at h2]
  unfold WL
  omega
theorem rProofP {ck : Int} (h : ckL l = ck) (h0 : ¬ ck = 0) : rIsProof l v = (false, ck) := by
  rw [rIsProof, h, if_neg h0]
theorem rProofB {b : Bool} (h : ckL l = 0) (hb : prB l v = b) : rIsProof l v = (b, 0) := by
  rw [rIsProof, if_pos h, hb]
end
set_option maxRecDepth 100000 in
set_option maxHeartbeats 16000000 in
theorem iIsProof_any (A : Option Addr) (n c : Nat) (l : List (Int × Int × Int)) (C : Option Addr) (m cc : Nat) (v : List Int) (w : World) (hl : l.length = n) (hn : n ≤ 1048576) (hs : Sees w w.heap.size A (cells3 l)) (hm : v.length = m) (hmc : m ≤ cc) (hm1 : m ≤ 1048576) (hcc : cc ≤ 9223372036854775807) (hsc : Sees w w.heap.size C (v.map (Value.int .i64))) (hrv : I64s v) (hT : Tab w) :
    Calls Tryd.prog 27 #[.slice A n c, .slice C m cc] w fun e w' => e = .returned (.tuple #[.bool (rIsProof l v).1, .int .i64 (rIsProof l v).2]) ∧ Below w.heap.size w w' := by
  have CK := checkLabels_any A n c l w hl hn hs
  by_cases h0 : ckL l = 0
  · obtain ⟨hn40, hok⟩ := ckL_zero h0
    replace hn40 : n ≤ 40 := by omega
    have HL := Lib.hid hl
    have HOK := Lib.hid hok
    have H0 := Lib.hid h0
    rw [h0] at CK
    clear h0 hok
    by_cases hlen : m = n + 1
    · subst hlen
      obtain ⟨cb, coff, rfl, hcb, HCH⟩ := intAll hsc (by omega)
      obtain ⟨z0, hz0⟩ : ∃ x, v[0]? = some x := ⟨_, List.getElem?_eq_getElem (by omega)⟩
      have HM := Lib.hid hm
      have d0 : (((n + 1 : Nat) : Int) != (n : Int) + 1) = false := by simp
      have d2 : ((n : Int) + 1 != (n : Int) + 1) = false := by simp
      have c0 : (0 : Int) < (n : Int) + 1 := by omega
      by_cases hzz : z0 = 0
      · subst hzz
        have HZ := Lib.hid (show vA v 0 = 0 from vA_at hz0)
        go_enter Tryd.func27, Tryd.ntmps27
        go_wp2_with fail
        refine CK.mono ?_
        rintro e w1 ⟨rfl, B1⟩
        have q0 := HCH.out w1 B1 0 _ hz0
        rw [Nat.add_zero] at q0
        have z1 := B1.size
        have lc : cb < w1.heap.size := by omega
        have PO := fun W (hB : Below w.heap.size w W) => proofOrder_any A n c l W hl hn40 HOK.out ((hs.over hB).wider hB.size) (hT.over hB)
        clear CK hz0 hm hl
        go_wp2_with fail
        go_loop [32] (fun a => ∃ j : Nat, j ≤ n + 1 ∧ a = .int .i64 (j : Int) ∧ Hid (∀ (i : Nat) (x : Int), i < j → v[i]? = some x → x ≤ 1000000000000)) (fun a => n + 1 - (intOf a).toNat)
        case atStart => exact ⟨0, Nat.zero_le _, rfl, Lib.hid (fun i x hi => by omega)⟩
        case round =>
          obtain ⟨j, hj, rfl, HJ⟩ := hrel
          by_cases hlt : j < n + 1
          · obtain ⟨x, hx⟩ : ∃ x, v[j]? = some x := ⟨_, List.getElem?_eq_getElem (by have := HM.out; omega)⟩
            have HX := Lib.hid hx
            have q1 := HCH.out w1 B1 j _ hx
            have j0 : (0 : Int) ≤ (j : Int) := by omega
            have j1 : (j : Int) < (n : Int) + 1 := by omega
            clear hx
            by_cases hbig : 1000000000000 < x
            · have HB := Lib.hid (rProofB H0.out (prB_big (l := l) HX.out hbig))
              go_wp2_with fail
              go_ret2
              exact ⟨endBoolInt HB.out, B1⟩
            · have hxb : x ≤ 1000000000000 := by omega
              go_wp2_with fail
              go_round
              case rel => exact ⟨j + 1, by omega, by go_num, Lib.hid (fun i y hi hy => by
                by_cases e : i = j
                · subst e; rw [HX.out] at hy; injection hy with hy; omega
                · exact HJ.out i y (by omega) hy)⟩
              case measure => simp [intOf]; omega
          · have hje : ¬ (j : Int) < (n : Int) + 1 := by omega
            have HBD := Lib.hid (show ∀ (i : Nat) (x : Int), v[i]? = some x → x ≤ 1000000000000 from fun i x hx => HJ.out i x (by have := (List.getElem?_eq_some_iff.1 hx).1; have := HM.out; omega) hx)
            go_wp2_with fail
            refine (PO _ B1).mono ?_
            rintro e w2 ⟨v0, u0, rfl, ov, ou, b2⟩
            have B2 := B1.trans (b2.mono z1)
            rw [natV_ints] at ov
            rw [natV_ints2] at ou
            obtain ⟨vA', vc, rfl⟩ := ownShape ov
            obtain ⟨uA, uc, rfl⟩ := ownShape ou
            have z2 := B2.size
            replace hs := (hs.over B2).wider z2
            obtain ⟨w1, rfl⟩ : ∃ W : World, W = w2 := ⟨_, rfl⟩
            clear PO q0 b2
            go_wp2_with fail
            go_loopw [46] (fun a wr => ∃ k : Nat, k ≤ n ∧ a = .int .i64 (k : Int) ∧ Hid (prTo (RL l) (LL l) (WL l) n v k = true) ∧ Below w1.heap.size w1 wr) (fun a _ => n - (intOf a).toNat)
            case atStart => exact ⟨0, Nat.zero_le _, rfl, Lib.hid rfl, Below.refl _ _⟩
            case round =>
              obtain ⟨k, hk, rfl, HP, hB⟩ := hrel
              have zr := hB.size
              by_cases hlt : k < n
              · have hvl := HM.out
                obtain ⟨o, ho, hon⟩ := ordP_at (R := RL l) (n := n) hlt
                have hfp := freeP_pos (LL_RL l) ho
                obtain ⟨x0, hx0⟩ : ∃ x, v[k]? = some x := ⟨_, List.getElem?_eq_getElem (by omega)⟩
                obtain ⟨x1, hx1⟩ : ∃ x, v[k + 1]? = some x := ⟨_, List.getElem?_eq_getElem (by omega)⟩
                obtain ⟨xf, hxf⟩ : ∃ x, v[freeP (RL l) (LL l) n o]? = some x := ⟨_, List.getElem?_eq_getElem (by omega)⟩
                have HX0 := Lib.hid hx0
                have HX1 := Lib.hid hx1
                have HXF := Lib.hid hxf
                have HO := Lib.hid ho
                have g0 := prTo_pos HZ.out HP.out k (Nat.le_refl _)
                rw [vA_at hx0] at g0
                have gf := prTo_pos HZ.out HP.out (freeP (RL l) (LL l) n o) hfp
                rw [vA_at hxf] at gf
                obtain ⟨_, r1, r2, r3, r4, r5, r6⟩ := tk_facts HL.out HOK.out hon
                have hfb := HBD.out _ _ hxf
                obtain ⟨ob, ooff, rfl, hob, HOO⟩ := intAll (Sees.ofOwn ov) (by rw [List.length_map, ordP_length]; omega)
                obtain ⟨ub, uoff, rfl, hub, HU⟩ := intAll (Sees.ofOwn ou) (by rw [List.length_map, ordP_length]; omega)
                obtain ⟨tb, tof, rfl, htb, HTK⟩ := tickAll hs HL.out HOK.out (by omega)
                have WO := fun W => worth_any (mkA l o : Int) (plA l o) (htA l o) W r5 r6
                have e0 := HOO.out wr hB k _ (ints_at ho)
                have CE := Lib.hid (show ∀ W : World, Below w1.heap.size w1 W → W.cell? ⟨cb, coff + (k + 1), none⟩ = some (.int .i64 x1) ∧ W.cell? ⟨cb, coff + k, none⟩ = some (.int .i64 x0) ∧ W.cell? ⟨cb, coff + freeP (RL l) (LL l) n o, none⟩ = some (.int .i64 xf) ∧ W.cell? ⟨ub, uoff + k, none⟩ = some (.int .i64 (freeP (RL l) (LL l) n o : Int)) ∧ W.cell? ⟨tb, tof + o * 3, none⟩ = some (.int .i64 (mkA l o : Int)) ∧ W.cell? ⟨tb, tof + o * 3 + 1, none⟩ = some (.int .i64 (plA l o)) ∧ W.cell? ⟨tb, tof + o * 3 + 2, none⟩ = some (.int .i64 (htA l o)) from fun W hW => ⟨HCH.out W (B2.trans (hW.mono z2)) _ _ hx1, HCH.out W (B2.trans (hW.mono z2)) _ _ hx0, HCH.out W (B2.trans (hW.mono z2)) _ _ hxf, HU.out W hW _ _ (ints_at2 ho), HTK.out W hW o hon⟩)
                have HLW := Lib.hid (fun hx => prC_low (l := l) (n := n) ho hx0 hx1 hx)
                have HLS := Lib.hid (fun hx => prC_less (l := l) (n := n) ho hxf hx1 hx)
                have HKY := Lib.hid (fun ha hb => prC_ok (l := l) (n := n) ho hx0 hx1 hxf ha hb)
                obtain ⟨c1, c2, c3, c4, c5, c6, c7⟩ := CE.out wr hB
                generalize freeP (RL l) (LL l) n o = fo at *
                generalize (mkA l o : Int) = mo at *
                generalize plA l o = po at *
                generalize htA l o = ho' at *
                have k0 : (0 : Int) ≤ (k : Int) := by omega
                have k1 : (k : Int) < (n : Int) := by omega
                have k2 : (0 : Int) ≤ (k : Int) + 1 := by omega
                have k3 : (k : Int) + 1 < ((n : Int) + 1 : Int) := by omega
                have k4 : ((k : Int) + 1).toNat = k + 1 := by omega
                have k5 : (k : Int) < ((n : Int) + 1 : Int) := by omega
                have k6 : IntKind.i64.wrap ((k : Int) + 1) = (k : Int) + 1 := IntWalk.i64_in _ (by omega)
                have f0 : (0 : Int) ≤ (fo : Int) := by omega
                have f1 : (fo : Int) < ((n : Int) + 1 : Int) := by omega
                have o0 : (0 : Int) ≤ (o : Int) := by omega
                have o1 : (o : Int) < (n : Int) := by omega
                have e5 : IntKind.i64.wrap (1 + 10 * ho' + xf) = 1 + 10 * ho' + xf := IntWalk.i64_in _ (by omega)
                have lcr : cb < wr.heap.size := by omega
                have lor : ob < wr.heap.size := by omega
                have lur : ub < wr.heap.size := by omega
                have ltr : tb < wr.heap.size := by omega
                clear ho hx0 hx1 hxf hs ov ou r1 r2 r3 r4
                by_cases ha : x1 < x0
                · have HB := Lib.hid (rProofB H0.out (prB_no (k := k) HL.out hlt (HLW.out ha)))
                  have ta : decide (x1 < x0) = true := decide_eq_true ha
                  clear HLW HLS HKY
                  go_wp2_with fail
                  go_quiet (fail)
                  go_wp2_with fail
                  go_ret2
                  exact ⟨endBoolInt HB.out, B2.trans ((belowDraws hB _).mono z2)⟩
                · have ta : decide (x1 < x0) = false := decide_eq_false ha
                  by_cases hb : x1 < 1 + 10 * ho' + xf
                  · have HB := Lib.hid (rProofB H0.out (prB_no (k := k) HL.out hlt (HLS.out hb)))
                    have tb' : decide (x1 < 1 + 10 * ho' + xf) = true := decide_eq_true hb
                    clear HLW HLS HKY
                    go_wp2_with fail
                    go_region_held3 (fun w' => w'.cell? ⟨cb, coff + (k + 1), none⟩ = some (.int .i64 x1) ∧ w'.cell? ⟨cb, coff + k, none⟩ = some (.int .i64 x0) ∧ w'.cell? ⟨cb, coff + fo, none⟩ = some (.int .i64 xf) ∧ w'.cell? ⟨ub, uoff + k, none⟩ = some (.int .i64 (fo : Int)) ∧ w'.cell? ⟨tb, tof + o * 3, none⟩ = some (.int .i64 mo) ∧ w'.cell? ⟨tb, tof + o * 3 + 1, none⟩ = some (.int .i64 po) ∧ w'.cell? ⟨tb, tof + o * 3 + 2, none⟩ = some (.int .i64 ho')) (go_keep) (first | (go_at_call 52; (with_reducible refine (WO _).mono ?_); rintro e w4 ⟨rfl, hb4⟩; have hB4 : Below w1.heap.size w1 w4 := Below.trans (by repeat' (first | exact Below.refl _ _ | assumption | refine Below.alloc ?_ (by first | omega | (simp; done) | (simp; omega)) _ | refine Below.drew ?_ | refine Below.setCell ?_ (by first | omega | (simp; done) | (simp; omega)) _)) (hb4.mono (by first | omega | (simp; done) | (simp; omega))); have y4 := hB4.size; have s4 := CE.out w4 hB4; obtain ⟨p1, p2, p3, p4, p5, p6, p7⟩ := s4; clear hb4))
                    go_wp2_with fail
                    go_ret2
                    exact ⟨endBoolInt HB.out, B2.trans (hB4.mono z2)⟩
                  · have HPN := Lib.hid (prTo_more HP.out (HKY.out (by omega) (by omega)))
                    have tb' : decide (x1 < 1 + 10 * ho' + xf) = false := decide_eq_false hb
                    clear HLW HLS HKY ha hb
                    go_wp2_with fail
                    go_region_held3 (fun w' => w'.cell? ⟨cb, coff + (k + 1), none⟩ = some (.int .i64 x1) ∧ w'.cell? ⟨cb, coff + k, none⟩ = some (.int .i64 x0) ∧ w'.cell? ⟨cb, coff + fo, none⟩ = some (.int .i64 xf) ∧ w'.cell? ⟨ub, uoff + k, none⟩ = some (.int .i64 (fo : Int)) ∧ w'.cell? ⟨tb, tof + o * 3, none⟩ = some (.int .i64 mo) ∧ w'.cell? ⟨tb, tof + o * 3 + 1, none⟩ = some (.int .i64 po) ∧ w'.cell? ⟨tb, tof + o * 3 + 2, none⟩ = some (.int .i64 ho')) (go_keep) (first | (go_at_call 52; (with_reducible refine (WO _).mono ?_); rintro e w4 ⟨rfl, hb4⟩; have hB4 : Below w1.heap.size w1 w4 := Below.trans (by repeat' (first | exact Below.refl _ _ | assumption | refine Below.alloc ?_ (by first | omega | (simp; done) | (simp; omega)) _ | refine Below.drew ?_ | refine Below.setCell ?_ (by first | omega | (simp; done) | (simp; omega)) _)) (hb4.mono (by first | omega | (simp; done) | (simp; omega))); have y4 := hB4.size; have s4 := CE.out w4 hB4; obtain ⟨p1, p2, p3, p4, p5, p6, p7⟩ := s4; clear hb4))
                    go_wp2_with fail
                    go_roundw
                    case rel => exact ⟨k + 1, by omega, by go_num, HPN, hB4⟩
                    case measure => simp [intOf]; omega
              · have hke : ¬ (k : Int) < (n : Int) := by omega
                have HB := Lib.hid (rProofB H0.out (prB_yes HL.out HM.out HZ.out HBD.out (by have h := HP.out; rwa [show k = n by omega] at h)))
                clear hs ov ou
                go_wp2_with fail
                go_ret2
                exact ⟨endBoolInt HB.out, B2.trans (hB.mono z2)⟩
      · have HB := Lib.hid (rProofB H0.out (prB_zero (l := l) (v := v) (by rw [vA_at hz0]; exact hzz)))
        have d1 : (z0 != 0) = true := by simpa using hzz
        go_enter Tryd.func27, Tryd.ntmps27
        go_wp2_with fail
        refine CK.mono ?_
        rintro e w1 ⟨rfl, B1⟩
        have q0 := HCH.out w1 B1 0 _ hz0
        rw [Nat.add_zero] at q0
        have z1 := B1.size
        have lc : cb < w1.heap.size := by omega
        clear CK hz0 hm hl hs hsc hzz
        go_wp2_with fail
        go_ret2
        exact ⟨endBoolInt HB.out, B1⟩
    · have HB := Lib.hid (rProofB H0.out (prB_len (v := v) hl (by rw [hm]; exact hlen)))
      have d1 : ((m : Int) != (n : Int) + 1) = true := by simp; omega
      clear hl hm hs hsc hlen
      go_enter Tryd.func27, Tryd.ntmps27
      go_wp2_with fail
      refine CK.mono ?_
      rintro e w1 ⟨rfl, B1⟩
      go_wp2_with fail
      go_ret2
      exact ⟨endBoolInt HB.out, B1⟩
  · have Hv := Lib.hid (rProofP (v := v) (rfl : ckL l = ckL l) h0)
    generalize ckL l = ck at *
    have t1 : (ck != 0) = true := by simpa using h0
    clear hl hs hsc hm h0
    go_enter Tryd.func27, Tryd.ntmps27
    go_wp2_with fail
    refine CK.mono ?_
    rintro e w1 ⟨rfl, b1⟩
    go_wp2_with fail
    go_ret2
    exact ⟨endBoolInt Hv.out, b1⟩
set_option maxRecDepth 100000 in
set_option maxHeartbeats 16000000 in
theorem sIsProof_any (A : Option Addr) (n c : Nat) (l : List (Int × Int × Int)) (C : Option Addr) (m cc : Nat) (v : List Int) (w : World) (hl : l.length = n) (hn : n ≤ 1048576) (hs : Sees w w.heap.size A (cells3 l)) (hm : v.length = m) (hmc : m ≤ cc) (hm1 : m ≤ 1048576) (hcc : cc ≤ 9223372036854775807) (hsc : Sees w w.heap.size C (v.map (Value.int .i64))) (hrv : I64s v) :
    Calls Tryd.prog 26 #[.slice A n c, .slice C m cc] w fun e w' => e = .returned (.tuple #[.bool (rIsProof l v).1, .int .i64 (rIsProof l v).2]) ∧ Below w.heap.size w w' := by
  have CK := l09Code_any A n c l w hl hn hs
  by_cases h0 : ckL l = 0
  · obtain ⟨hn40, hok⟩ := ckL_zero h0
    replace hn40 : n ≤ 40 := by omega
    have HL := Lib.hid hl
    have HOK := Lib.hid hok
    have H0 := Lib.hid h0
    rw [h0] at CK
    clear h0 hok
    by_cases hlen : m = n + 1
    · subst hlen
      obtain ⟨cb, coff, rfl, hcb, HCH⟩ := intAll hsc (by omega)
      obtain ⟨z0, hz0⟩ : ∃ x, v[0]? = some x := ⟨_, List.getElem?_eq_getElem (by omega)⟩
      have HM := Lib.hid hm
      have d0 : (((n + 1 : Nat) : Int) != (n : Int) + 1) = false := by simp
      have d2 : ((n : Int) + 1 != (n : Int) + 1) = false := by simp
      have c0 : (0 : Int) < (n : Int) + 1 := by omega
      by_cases hzz : z0 = 0
      · subst hzz
        have HZ := Lib.hid (show vA v 0 = 0 from vA_at hz0)
        go_enter Tryd.func26, Tryd.ntmps26
        go_wp2_with fail
        refine CK.mono ?_
        rintro e w0 ⟨rfl, B0⟩
        have q0 := HCH.out w0 B0 0 _ hz0
        rw [Nat.add_zero] at q0
        have zz0 := B0.size
        have lc : cb < w0.heap.size := by omega
        have PO := fun W (hB : Below w.heap.size w W) => l09Order_any A n c l W hl hn40 HOK.out ((hs.over hB).wider hB.size)
        clear CK hz0 hm hl
        go_wp2_with fail
        refine (PO _ B0).mono ?_
        intro e w1 hgo
        obtain ⟨v0, rfl, ov, b1⟩ := hgo.use
        have B2 := B0.trans (b1.mono zz0)
        rw [natV_ints] at ov
        obtain ⟨vA', vc, rfl⟩ := ownShape ov
        have z2 := B2.size
        replace hs := (hs.over B2).wider z2
        have HBD0 := Lib.hid (show ∀ (i : Nat) (x : Int), i ≤ 0 → v[i]? = some x → x ≤ 1000000000000 from fun i x hi hx => by
          obtain rfl : i = 0 := by omega
          have := HZ.out
          rw [vA_at hx] at this
          omega)
        clear PO q0 b1 hgo
        go_wp2_with fail
        go_loopw [8] (fun a wr => ∃ k : Nat, k ≤ n ∧ a = .int .i64 (k : Int) ∧ Hid (prTo (RL l) (LL l) (WL l) n v k = true) ∧ Hid (∀ (i : Nat) (x : Int), i ≤ k → v[i]? = some x → x ≤ 1000000000000) ∧ Below w1.heap.size w1 wr) (fun a _ => n - (intOf a).toNat)
        case atStart => exact ⟨0, Nat.zero_le _, rfl, Lib.hid rfl, HBD0, Below.refl _ _⟩
        case round =>
          obtain ⟨k, hk, rfl, HP, HBD, hB⟩ := hrel
          have zr := hB.size
          by_cases hlt : k < n
          · have hvl := HM.out
            obtain ⟨o, ho, hon⟩ := ordP_at (R := RL l) (n := n) hlt
            have hfp := freeP_pos (LL_RL l) ho
            obtain ⟨x0, hx0⟩ : ∃ x, v[k]? = some x := ⟨_, List.getElem?_eq_getElem (by omega)⟩
            obtain ⟨x1, hx1⟩ : ∃ x, v[k + 1]? = some x := ⟨_, List.getElem?_eq_getElem (by omega)⟩
            obtain ⟨xf, hxf⟩ : ∃ x, v[freeP (RL l) (LL l) n o]? = some x := ⟨_, List.getElem?_eq_getElem (by omega)⟩
            have HX0 := Lib.hid hx0
            have HX1 := Lib.hid hx1
            have HXF := Lib.hid hxf
            have HO := Lib.hid ho
            have g0 := prTo_pos HZ.out HP.out k (Nat.le_refl _)
            rw [vA_at hx0] at g0
            have gf := prTo_pos HZ.out HP.out (freeP (RL l) (LL l) n o) hfp
            rw [vA_at hxf] at gf
            obtain ⟨_, r1, r2, r3, r4, r5, r6⟩ := tk_facts HL.out HOK.out hon
            have hfb := HBD.out _ _ hfp hxf
            have FO := fun W (hW : Below w1.heap.size w1 W) => l09Free_any A n c l o W HL.out hn40 HOK.out hon ((hs.over hW).wider hW.size)
            obtain ⟨ob, ooff, rfl, hob, HOO⟩ := intAll (Sees.ofOwn ov) (by rw [List.length_map, ordP_length]; omega)
            obtain ⟨tb, tof, rfl, htb, HTK⟩ := tickAll hs HL.out HOK.out (by omega)
            have WO := fun W => l09Worth_any (mkA l o : Int) (plA l o) (htA l o) W r5 r6
            have IV := fun W => l01Is_any x1 W
            have e0 := HOO.out wr hB k _ (ints_at ho)
            obtain ⟨t0, t1, t2⟩ := HTK.out wr hB o hon
            have CV := Lib.hid (show ∀ W : World, Below w1.heap.size w1 W → W.cell? ⟨cb, coff + (k + 1), none⟩ = some (.int .i64 x1) ∧ W.cell? ⟨cb, coff + k, none⟩ = some (.int .i64 x0) ∧ W.cell? ⟨cb, coff + freeP (RL l) (LL l) n o, none⟩ = some (.int .i64 xf) from fun W hW => ⟨HCH.out W (B2.trans (hW.mono z2)) _ _ hx1, HCH.out W (B2.trans (hW.mono z2)) _ _ hx0, HCH.out W (B2.trans (hW.mono z2)) _ _ hxf⟩)
            have HLW := Lib.hid (fun hx => prC_low (l := l) (n := n) ho hx0 hx1 hx)
            have HLS := Lib.hid (fun hx => prC_less (l := l) (n := n) ho hxf hx1 hx)
            have HKY := Lib.hid (fun ha hb => prC_ok (l := l) (n := n) ho hx0 hx1 hxf ha hb)
            generalize freeP (RL l) (LL l) n o = fo at *
            generalize (mkA l o : Int) = mo at *
            generalize plA l o = po at *
            generalize htA l o = ho' at *
            have k0 : (0 : Int) ≤ (k : Int) := by omega
            have k1 : (k : Int) < (n : Int) := by omega
            have k2 : (0 : Int) ≤ (k : Int) + 1 := by omega
            have k3 : (k : Int) + 1 < ((n : Int) + 1 : Int) := by omega
            have k4 : ((k : Int) + 1).toNat = k + 1 := by omega
            have k5 : (k : Int) < ((n : Int) + 1 : Int) := by omega
            have k6 : IntKind.i64.wrap ((k : Int) + 1) = (k : Int) + 1 := IntWalk.i64_in _ (by omega)
            have f0 : (0 : Int) ≤ (fo : Int) := by omega
            have f1 : (fo : Int) < ((n : Int) + 1 : Int) := by omega
            have o0 : (0 : Int) ≤ (o : Int) := by omega
            have o1 : (o : Int) < (n : Int) := by omega
            have e5 : IntKind.i64.wrap (1 + 10 * ho' + xf) = 1 + 10 * ho' + xf := IntWalk.i64_in _ (by omega)
            have lcr : cb < wr.heap.size := by omega
            have lor : ob < wr.heap.size := by omega
            have ltr : tb < wr.heap.size := by omega
            clear ho hx0 hx1 hxf hs ov r1 r2 r3 r4
            go_wp2_with fail
            have hBt0 : Below w1.heap.size w1 (wr.alloc (.cells #[.int .i64 mo, .int .i64 po, .int .i64 ho'] 26)) := hB.alloc zr _
            refine (FO _ hBt0).mono ?_
            rintro e wt ⟨rfl, hbt⟩
            have hBt : Below w1.heap.size w1 wt := hBt0.trans (hbt.mono hBt0.size)
            have x0' : wt.cell? ⟨wr.heap.size, 0, none⟩ = some (.int .i64 mo) := (by rw [hbt.cell (by simp)]; simp [go_sem])
            have x1' : wt.cell? ⟨wr.heap.size, 1, none⟩ = some (.int .i64 po) := (by rw [hbt.cell (by simp)]; simp [go_sem])
            have x2' : wt.cell? ⟨wr.heap.size, 2, none⟩ = some (.int .i64 ho') := (by rw [hbt.cell (by simp)]; simp [go_sem])
            have hbx : wr.heap.size < wt.heap.size := Nat.lt_of_lt_of_le (by simp) hbt.size
            obtain ⟨bx, hbxe⟩ : ∃ b, wr.heap.size = b := ⟨_, rfl⟩
            rw [hbxe] at x0' x1' x2' hbx
            rw [hbxe]
            have zt := hBt.size
            have lct : cb < wt.heap.size := by omega
            have CE := Lib.hid (show ∀ W : World, Below wt.heap.size wt W → W.cell? ⟨cb, coff + (k + 1), none⟩ = some (.int .i64 x1) ∧ W.cell? ⟨cb, coff + k, none⟩ = some (.int .i64 x0) ∧ W.cell? ⟨cb, coff + fo, none⟩ = some (.int .i64 xf) ∧ W.cell? ⟨bx, 0, none⟩ = some (.int .i64 mo) ∧ W.cell? ⟨bx, 1, none⟩ = some (.int .i64 po) ∧ W.cell? ⟨bx, 2, none⟩ = some (.int .i64 ho') from fun W hW => by
              obtain ⟨a1, a2, a3⟩ := CV.out W (hBt.trans (hW.mono zt))
              exact ⟨a1, a2, a3, (hW.cell (p := ⟨bx, 0, none⟩) hbx).trans x0', (hW.cell (p := ⟨bx, 1, none⟩) hbx).trans x1', (hW.cell (p := ⟨bx, 2, none⟩) hbx).trans x2'⟩)
            obtain ⟨c1, c2, c3, c4, c5, c6⟩ := CE.out wt (Below.refl _ _)
            clear x0' x1' x2' hbxe t0 t1 t2 e0 hbt hBt0 FO
            by_cases hin : inB x1 (-1000000000000) 1000000000000 = true
            · rw [hin] at IV
              have hin2 := inB_iff.1 hin
              have hxb : x1 ≤ 1000000000000 := hin2.2
              clear hin hin2
              by_cases ha : x1 < x0
              · have HB := Lib.hid (rProofB H0.out (prB_no (k := k) HL.out hlt (HLW.out ha)))
                have ta : decide (x1 < x0) = true := decide_eq_true ha
                clear HLW HLS HKY
                go_wp2_with fail
                go_quiet (((go_at_call 55; exact quietSame (IV _))))
                clear IV
                go_wp2_with fail
                go_ret2
                exact ⟨endBoolInt HB.out, B2.trans ((belowDraws hBt _).mono z2)⟩
              · have ta : decide (x1 < x0) = false := decide_eq_false ha
                by_cases hb : x1 < 1 + 10 * ho' + xf
                · have HB := Lib.hid (rProofB H0.out (prB_no (k := k) HL.out hlt (HLS.out hb)))
                  have tb' : decide (x1 < 1 + 10 * ho' + xf) = true := decide_eq_true hb
                  clear HLW HLS HKY
                  go_wp2_with fail
                  go_region_held3 (fun w' => w'.cell? ⟨cb, coff + (k + 1), none⟩ = some (.int .i64 x1) ∧ w'.cell? ⟨cb, coff + k, none⟩ = some (.int .i64 x0) ∧ w'.cell? ⟨cb, coff + fo, none⟩ = some (.int .i64 xf) ∧ w'.cell? ⟨bx, 0, none⟩ = some (.int .i64 mo) ∧ w'.cell? ⟨bx, 1, none⟩ = some (.int .i64 po) ∧ w'.cell? ⟨bx, 2, none⟩ = some (.int .i64 ho')) (go_keep) (first
                    | (go_at_call 55; (with_reducible refine (IV _).mono ?_); rintro e w' ⟨rfl, rfl⟩)
                    | (go_at_call 51; (with_reducible refine (WO _).mono ?_); rintro e w4 ⟨rfl, hb4⟩; have hB4 : Below wt.heap.size wt w4 := Below.trans (by repeat' (first | exact Below.refl _ _ | assumption | refine Below.alloc ?_ (by first | omega | (simp; done) | (simp; omega)) _ | refine Below.drew ?_ | refine Below.setCell ?_ (by first | omega | (simp; done) | (simp; omega)) _)) (hb4.mono (by first | omega | (simp; done) | (simp; omega))); have y4 := hB4.size; have s4 := CE.out w4 hB4; obtain ⟨p1, p2, p3, p4, p5, p6⟩ := s4; clear hb4))
                  all_goals go_wp2_with fail
                  all_goals go_ret2
                  all_goals exact ⟨endBoolInt HB.out, B2.trans ((hBt.trans (hB4.mono zt)).mono z2)⟩
                · have HPN := Lib.hid (prTo_more HP.out (HKY.out (by omega) (by omega)))
                  have tb' : decide (x1 < 1 + 10 * ho' + xf) = false := decide_eq_false hb
                  clear HLW HLS HKY ha hb
                  go_wp2_with fail
                  go_region_held3 (fun w' => w'.cell? ⟨cb, coff + (k + 1), none⟩ = some (.int .i64 x1) ∧ w'.cell? ⟨cb, coff + k, none⟩ = some (.int .i64 x0) ∧ w'.cell? ⟨cb, coff + fo, none⟩ = some (.int .i64 xf) ∧ w'.cell? ⟨bx, 0, none⟩ = some (.int .i64 mo) ∧ w'.cell? ⟨bx, 1, none⟩ = some (.int .i64 po) ∧ w'.cell? ⟨bx, 2, none⟩ = some (.int .i64 ho')) (go_keep) (first
                    | (go_at_call 55; (with_reducible refine (IV _).mono ?_); rintro e w' ⟨rfl, rfl⟩)
                    | (go_at_call 51; (with_reducible refine (WO _).mono ?_); rintro e w4 ⟨rfl, hb4⟩; have hB4 : Below wt.heap.size wt w4 := Below.trans (by repeat' (first | exact Below.refl _ _ | assumption | refine Below.alloc ?_ (by first | omega | (simp; done) | (simp; omega)) _ | refine Below.drew ?_ | refine Below.setCell ?_ (by first | omega | (simp; done) | (simp; omega)) _)) (hb4.mono (by first | omega | (simp; done) | (simp; omega))); have y4 := hB4.size; have s4 := CE.out w4 hB4; obtain ⟨p1, p2, p3, p4, p5, p6⟩ := s4; clear hb4))
                  all_goals go_wp2_with fail
                  all_goals go_roundw
                  all_goals first
                    | (exact ⟨k + 1, by omega, by go_num, HPN, Lib.hid (fun i y hi hy => by
                        by_cases e : i = k + 1
                        · subst e; rw [HX1.out] at hy; injection hy with hy; omega
                        · exact HBD.out i y (by omega) hy), hBt.trans (hB4.mono zt)⟩)
                    | (simp [intOf]; omega)
            · replace hin : inB x1 (-1000000000000) 1000000000000 = false := by simpa using hin
              have HB := Lib.hid (rProofB (v := v) H0.out (by
                rcases inB_false.1 hin with h | h
                · exact prB_no (k := k) HL.out hlt (HLW.out (by omega))
                · exact prB_big HX1.out h))
              rw [hin] at IV
              clear HLW HLS HKY hin
              go_wp2_with fail
              go_quiet (((go_at_call 55; exact quietSame (IV _))))
              clear IV
              go_wp2_with fail
              go_ret2
              exact ⟨endBoolInt HB.out, B2.trans ((belowDraws hBt _).mono z2)⟩
          · have hke : ¬ (k : Int) < (n : Int) := by omega
            have HB := Lib.hid (rProofB H0.out (prB_yes HL.out HM.out HZ.out (fun i x hx => HBD.out i x (by have := (List.getElem?_eq_some_iff.1 hx).1; have := HM.out; omega) hx) (by have h := HP.out; rwa [show k = n by omega] at h)))
            clear hs ov
            go_wp2_with fail
            go_ret2
            exact ⟨endBoolInt HB.out, B2.trans (hB.mono z2)⟩
      · have HB := Lib.hid (rProofB H0.out (prB_zero (l := l) (v := v) (by rw [vA_at hz0]; exact hzz)))
        have d1 : (z0 != 0) = true := by simpa using hzz
        go_enter Tryd.func26, Tryd.ntmps26
        go_wp2_with fail
        refine CK.mono ?_
        rintro e w1 ⟨rfl, B1⟩
        have q0 := HCH.out w1 B1 0 _ hz0
        rw [Nat.add_zero] at q0
        have z1 := B1.size
        have lc : cb < w1.heap.size := by omega
        clear CK hz0 hm hl hs hsc hzz
        go_wp2_with fail
        go_ret2
        exact ⟨endBoolInt HB.out, B1⟩
    · have HB := Lib.hid (rProofB H0.out (prB_len (v := v) hl (by rw [hm]; exact hlen)))
      have d1 : ((m : Int) != (n : Int) + 1) = true := by simp; omega
      clear hl hm hs hsc hlen
      go_enter Tryd.func26, Tryd.ntmps26
      go_wp2_with fail
      refine CK.mono ?_
      rintro e w1 ⟨rfl, B1⟩
      go_wp2_with fail
      go_ret2
      exact ⟨endBoolInt HB.out, B1⟩
  · have Hv := Lib.hid (rProofP (v := v) (rfl : ckL l = ckL l) h0)
    generalize ckL l = ck at *
    have t1 : (ck != 0) = true := by simpa using h0
    clear hl hs hsc hm h0
    go_enter Tryd.func26, Tryd.ntmps26
    go_wp2_with fail
    refine CK.mono ?_
    rintro e w1 ⟨rfl, b1⟩
    go_wp2_with fail
    go_ret2
    exact ⟨endBoolInt Hv.out, b1⟩
set_option maxRecDepth 100000 in
set_option maxHeartbeats 4000000 in
theorem fnExactIsProof_walk (A : Option Addr) (n c : Nat) (l : List (Int × Int × Int)) (C : Option Addr) (m cc : Nat) (ch : List Int) (w : World) (hl : l.length = n) (_hc : n ≤ c) (hmx : c ≤ maxLen) (hs : Sees w w.heap.size A (cells3 l)) (hr : I64s3 l)
    (hm : ch.length = m) (hmc : m ≤ cc) (hcx : cc ≤ maxLen) (hsc : Sees w w.heap.size C (ch.map (Value.int .i64))) (hrc : I64s ch) (hT : Lib.TabIs Tryd.prog w "internal/strconv.uint64pow10" .u64 Lib.pow10Tab) :
    Calls Tryd.prog 7 #[.slice A n c, .slice C m cc] w fun e w' => e = .returned (.bool true) ∧ Below w.heap.size w w' := by
  have hT : Tab w := hT
  unfold maxLen at hmx hcx
  have HL := Lib.hid hl
  have HM := Lib.hid hm
  have B0 : Below w.heap.size w w := Below.refl _ _
  clear hl hm
  by_cases hm1 : m ≤ 1048576
  · by_cases hn : n ≤ 1048576
    · have SC := fun (g h : Nat) W hS hS2 => sIsProof_any (some ⟨g, 0, none⟩) n n l (some ⟨h, 0, none⟩) m m ch W HL.out hn hS HM.out (Nat.le_refl _) hm1 (by omega) hS2 hrc
      have IC := fun (g h : Nat) W hS hS2 (hW : Tab W) => iIsProof_any (some ⟨g, 0, none⟩) n n l (some ⟨h, 0, none⟩) m m ch W HL.out hn hS HM.out (Nat.le_refl _) hm1 (by omega) hS2 hrc hW
      obtain ⟨⟨k1, k2⟩, HV⟩ : ∃ p, Hid (rIsProof l ch = p) := ⟨_, Lib.hid rfl⟩
      rw [HV.out] at SC IC
      clear HV
      go_enter Tryd.func7, Tryd.ntmps7
      go_wp2_with (go_at_call 17; refine (szTickS_yes _ _ _ _ hn).mono ?_; rintro e w' ⟨rfl, rfl⟩)
      refine (toTickS_any _ _ _ l _ HL.out hn ((hs.over B0).wider B0.size)).mono ?_
      rintro e w1 ⟨rfl, F1, b1⟩
      have B1 := B0.trans (b1.mono B0.size)
      clear b1
      go_wp2_with fail
      refine (toInt64S_any _ _ _ ch _ w.heap.size B1.size HM.out hm1 (hsc.over B1)).mono ?_
      rintro e w2 ⟨rfl, F2, b2⟩
      have B2 := B1.trans (b2.mono B1.size)
      replace F1 := F1.over b2 F1.inside
      clear b2
      go_wp2_with fail
      refine (SC _ _ _ F1.sees F2.sees).mono ?_
      rintro e w3 ⟨rfl, b3⟩
      have B3 := B2.trans (b3.mono B2.size)
      clear b3 F1 F2
      go_wp2_with fail
      refine (toTickS_any _ _ _ l _ HL.out hn ((hs.over B3).wider B3.size)).mono ?_
      rintro e w4 ⟨rfl, F1, b4⟩
      have B4 := B3.trans (b4.mono B3.size)
      clear b4
      go_wp2_with fail
      refine (toInt64S_any _ _ _ ch _ w.heap.size B4.size HM.out hm1 (hsc.over B4)).mono ?_
      rintro e w5 ⟨rfl, F2, b5⟩
      have B5 := B4.trans (b5.mono B4.size)
      replace F1 := F1.over b5 F1.inside
      clear b5
      go_wp2_with fail
      refine (IC _ _ _ F1.sees F2.sees (hT.over B5)).mono ?_
      rintro e w6 ⟨rfl, b6⟩
      have B6 := B5.trans (b6.mono B5.size)
      replace F1 := F1.over b6 F1.inside; replace F2 := F2.over b6 F2.inside
      clear b6
      go_wp2_with fail
      refine (toTickS_any _ _ _ l _ HL.out hn ((hs.over B6).wider B6.size)).mono ?_
      rintro e w7 ⟨rfl, F3, b7⟩
      have B7 := B6.trans (b7.mono B6.size)
      replace F1 := F1.over b7 F1.inside; replace F2 := F2.over b7 F2.inside
      clear b7
      go_wp2_with fail
      refine (eqTickS_same _ _ _ _ _ l _ HL.out hn F1.sees F3.sees).mono ?_
      rintro e w8 ⟨rfl, b8⟩
      have B8 := B7.trans (b8.mono B7.size)
      replace F2 := F2.over b8 F2.inside
      clear b8 F1 F3
      go_wp2_with fail
      refine (toInt64S_any _ _ _ ch _ w.heap.size B8.size HM.out hm1 (hsc.over B8)).mono ?_
      rintro e w9 ⟨rfl, F4, b9⟩
      have B9 := B8.trans (b9.mono B8.size)
      replace F2 := F2.over b9 F2.inside
      clear b9
      go_wp2_with fail
      refine (eqInt64S_below _ _ _ _ _ ch _ HM.out hm1 F2.sees F4.sees).mono ?_
      rintro e w10 ⟨rfl, b10⟩
      have B10 := B9.trans (b10.mono B9.size)
      go_wp2_with fail
      go_ret
      exact ⟨rfl, B10⟩
    · go_enter Tryd.func7, Tryd.ntmps7
      go_wp2_with (go_at_call 17; refine (szTickS_no _ _ _ _ (by omega) (by omega)).mono ?_; rintro e w' ⟨rfl, rfl⟩)
      go_ret
      exact ⟨rfl, Below.refl _ _⟩
  · go_enter Tryd.func7, Tryd.ntmps7
    go_wp2_with fail
    go_ret
    exact ⟨rfl, Below.refl _ _⟩
end Go.Proofs.YtpbhncgjnmaojaaDoor

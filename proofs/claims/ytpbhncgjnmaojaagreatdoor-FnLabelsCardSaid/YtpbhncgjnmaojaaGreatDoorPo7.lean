/- BestChoice: the walks and the law (layer 9). No condition but the table. -/
import Derived.Test.YtpbhncgjnmaojaaGreatDoorPo5
import Derived.Test.YtpbhncgjnmaojaaGreatDoorGr2
namespace Go.Proofs.YtpbhncgjnmaojaaGreatDoor
open Go.RowKit
set_option linter.unusedVariables false
set_option linter.unusedSimpArgs false

abbrev BK (l : List (Int × Int × Int)) (n f i : Nat) : List Nat := backP (RL l) (LL l) (WL l) n f i
theorem bk_zero {l : List (Int × Int × Int)} {n f : Nat} : BK l n f 0 = [] := by cases f <;> rfl
theorem bk_same {l : List (Int × Int × Int)} {n f i : Nat} (h : dpV (RL l) (LL l) (WL l) n (i + 1) = dpV (RL l) (LL l) (WL l) n i) : BK l n (f + 1) (i + 1) = BK l n f i := by
  unfold BK; rw [backP, if_pos h]
theorem bk_take {l : List (Int × Int × Int)} {n f i o : Nat} (ho : (ordP (RL l) n)[i]? = some o) (h : ¬ dpV (RL l) (LL l) (WL l) n (i + 1) = dpV (RL l) (LL l) (WL l) n i) : BK l n (f + 1) (i + 1) = o :: BK l n f (freeP (RL l) (LL l) n o) := by
  have e : (ordP (RL l) n).getD i 0 = o := by rw [List.getD_eq_getElem?_getD, ho]; rfl
  unfold BK; rw [backP, if_neg h, e]
theorem bk_ok (l : List (Int × Int × Int)) (n : Nat) : (BK l n n n).Nodup ∧ (∀ a ∈ BK l n n n, a < n) := by
  obtain ⟨_, h2, _, h4⟩ := back_ok (Wt := WL l) (n := n) (LL_RL l) n n (Nat.le_refl _) (Nat.le_refl _)
  exact ⟨h4, fun a ha => by
    obtain ⟨q, hq⟩ := List.getElem?_of_mem (List.mem_of_mem_take (h2 a ha))
    exact ordP_lt hq⟩
def rBest (l : List (Int × Int × Int)) : List Int × Int := if ckL l = 0 then (kept (BK l l.length l.length l.length) l.length, 0) else ([], ckL l)
theorem rBest_len (l : List (Int × Int × Int)) : (rBest l).1.length ≤ 1048576 := by
  unfold rBest
  split
  · rename_i h
    have := (ckL_zero h).1
    have := kept_length (BK l l.length l.length l.length) l.length
    simp only
    omega
  · simp
set_option maxRecDepth 100000 in
set_option maxHeartbeats 16000000 in
theorem iBestChoice_any (A : Option Addr) (n c : Nat) (l : List (Int × Int × Int)) (w : World) (hl : l.length = n) (hn : n ≤ 1048576) (hs : Sees w w.heap.size A (cells3 l)) (hT : Tab w) :
    Calls Tryz.prog 6 #[.slice A n c] w (GivesS 2 1 (rBest l).1.length ((rBest l).1.map (Value.int .i64)) (rBest l).2 w) := by
  have CK := checkLabels_any A n c l w hl hn hs
  by_cases h0 : ckL l = 0
  · obtain ⟨hn40, hok⟩ := ckL_zero h0
    replace hn40 : n ≤ 40 := by omega
    have HL := Lib.hid hl
    have HOK := Lib.hid hok
    have Hv := Lib.hid (show rBest l = (kept (BK l n n n) n, 0) by rw [rBest, if_pos h0, hl])
    have PO := fun W (b1 : Below w.heap.size w W) => proofOrder_any A n c l W hl hn40 hok ((hs.over b1).wider b1.size) (hT.over b1)
    have PR := fun W (b1 : Below w.heap.size w W) => labelProof_any A n c l W hl hn40 hok ((hs.over b1).wider b1.size) (hT.over b1)
    obtain ⟨i0, hi', hz0, hz1, hz2⟩ := info_parts infoI64
    rw [h0] at CK
    clear h0 hl hok hs
    go_enter Tryz.func6, Tryz.ntmps6
    go_wp2_with fail
    refine CK.mono ?_
    rintro e w0 ⟨rfl, b0⟩
    go_wp2_with fail
    refine (PO _ b0).mono ?_
    rintro e w1 ⟨v0, u0, rfl, ov, ou, b1⟩
    have B1 := b0.trans (b1.mono b0.size)
    rw [natV_ints] at ov
    rw [natV_ints2] at ou
    obtain ⟨vA, vc, rfl⟩ := ownShape ov
    obtain ⟨uA, uc, rfl⟩ := ownShape ou
    clear PO CK b0 b1
    go_wp2_with fail
    refine (PR _ B1).mono ?_
    rintro e w2 ⟨p0, rfl, op, b2⟩
    have B2 := B1.trans (b2.mono B1.size)
    replace ov := ownOver ov b2
    replace ou := ownOver ou b2
    rw [dpP_length] at op
    obtain ⟨pA, pc, rfl⟩ := ownShape op
    have z2 := B2.size
    clear PR b2
    go_wp2_with fail
    go_loopw [8, 9] (fun u a wr => ∃ (i f : Nat) (z : Int) (K : List Nat), a = .int .i64 z ∧ z = (i : Int) ∧ i ≤ n ∧ i ≤ f ∧ Hid (BK l n n n = K ++ BK l n f i) ∧ wr.ownsRow w2.heap.size 2 1 u K.length ((K.map fun (k : Nat) => (k : Int)).map (Value.int .i64)) ∧ u ≠ .slice none 0 0 ∧ Below w2.heap.size w2 wr) (fun u a _ => (intOf a).toNat)
    case atStart => exact ⟨n, n, n, [], rfl, rfl, Nat.le_refl _, Nat.le_refl _, Lib.hid rfl, World.ownsRow_made (base := w2.heap.size) (e := 2) (size := 1) w2 #[] 0 (Nat.le_refl _) (Nat.zero_le _) rfl, (by simp), by repeat' (first | (with_reducible exact Below.refl _ _) | (with_reducible assumption) | (with_reducible refine Below.alloc ?_ ?_ _) | (with_reducible refine Below.drew ?_) | (with_reducible refine belowDraws ?_ _) | (with_reducible refine Below.setCell ?_ ?_ _) | omega | (simp; done) | (simp; omega))⟩
    case round =>
      obtain ⟨i, f, z, K, rfl, hz', hin, hif, HK, hown, hnil, hB⟩ := hrel
      have HNIL := Lib.hid hnil
      have zr := hB.size
      have HKN := Lib.hid (bk_ok l n)
      have hKlen : K.length ≤ 40 := by
        have h1 := nodupLe HKN.out.1 HKN.out.2
        rw [HK.out, List.length_append] at h1
        omega
      clear hnil
      by_cases hi0 : i = 0
      · obtain rfl : z = 0 := by omega
        have HKE := Lib.hid (show BK l n n n = K by rw [HK.out, hi0, bk_zero, List.append_nil])
        have inv := HKN.out
        rw [HKE.out] at inv
        have HKl := Lib.hid inv.2
        have HS := Lib.hid (sorted_kept inv.1 HKl.out)
        have HLn := Lib.hid (kept_perm inv.1 HKl.out).length_eq
        have Hv2 := Lib.hid (show rBest l = (kept K n, 0) by rw [Hv.out, HKE.out])
        rcases ownRow hown with ⟨hv, _⟩ | ⟨g, cap, cur, rfl, hbg, _⟩
        · exact absurd hv HNIL.out
        have hown3 : wr.ownsRow w2.heap.size 2 1 (.slice (some ⟨g, 0, none⟩) (K.map fun (k : Nat) => (k : Int)).length cap) (K.map fun (k : Nat) => (k : Int)).length ((K.map fun (k : Nat) => (k : Int)).map (Value.int .i64)) := by
          rw [List.length_map]
          exact hown
        have SO := sortIntsG w2.heap.size g cap (K.map fun (k : Nat) => (k : Int)) wr hown3 (by rw [List.length_map]; omega)
        rw [HS.out, HLn.out] at SO
        have hle : K.length = (kept K n).length := by have h := HLn.out; rwa [List.length_map] at h
        rw [hle]
        clear hown hown3 hle hz' hi0 inv ov ou op
        go_wp2_with fail
        refine SO.mono ?_
        rintro e w5 ⟨rfl, own5, gr5⟩
        go_wp2_with fail
        go_ret2
        rw [Hv2.out]
        exact ⟨_, rfl, ownLower2 own5 z2, B2.trans ((hB.grown gr5 zr (fun j hj => by cases hj; exact hbg)).mono z2)⟩
      · obtain ⟨j, rfl⟩ : ∃ j, i = j + 1 := ⟨i - 1, by omega⟩
        obtain ⟨f, rfl⟩ : ∃ f', f = f' + 1 := ⟨f - 1, by omega⟩
        obtain rfl : z = (j : Int) + 1 := by omega
        clear hz' hi0 HKN
        obtain ⟨o, ho, hon⟩ := ordP_at (R := RL l) (n := n) (show j < n by omega)
        have hfp := freeP_pos (LL_RL l) ho
        obtain ⟨ob, ooff, rfl, hob, HO⟩ := intAll (Sees.ofOwn ov) (by rw [List.length_map, ordP_length]; omega)
        obtain ⟨ub, uoff, rfl, hub, HU⟩ := intAll (Sees.ofOwn ou) (by rw [List.length_map, ordP_length]; omega)
        obtain ⟨pb, poff, rfl, hpb, HP⟩ := intAll (Sees.ofOwn op) (by rw [dpP_length]; omega)
        have HSM := Lib.hid (fun h => bk_same (l := l) (n := n) (f := f) (i := j) h)
        have HTA := Lib.hid (fun h => bk_take (l := l) (n := n) (f := f) (i := j) ho h)
        have q1 := HP.out wr hB (j + 1) _ (dpP_at (by omega))
        have q2 := HP.out wr hB j _ (dpP_at (by omega))
        generalize dpV (RL l) (LL l) (WL l) n (j + 1) = d1 at *
        generalize dpV (RL l) (LL l) (WL l) n j = d0 at *
        have lp : pb < wr.heap.size := by omega
        have j0 : (0 : Int) ≤ (j : Int) := by omega
        have j1 : (j : Int) < (n : Int) := by omega
        have j2 : ((j : Int) + 1).toNat = j + 1 := by omega
        have j3 : (j : Int) + 1 - 1 = (j : Int) := by omega
        have j4 : IntKind.i64.wrap ((j : Int) + 1 - 1) = (j : Int) := (IntWalk.i64_in _ (by omega)).trans j3
        have j5 : IntKind.i64.wrap (j : Int) = (j : Int) := IntWalk.i64_in _ (by omega)
        have j6 : (0 : Int) ≤ (j : Int) + 1 := by omega
        have j7 : (j : Int) + 1 < (n : Int) + 1 := by omega
        have j8 : (j : Int) < (n : Int) + 1 := by omega
        have j9 : decide ((0 : Int) < (j : Int) + 1) = true := decide_eq_true (by omega)
        by_cases hd : d1 = d0
        · have td : (d1 == d0) = true := beq_iff_eq.2 hd
          have HKN := Lib.hid (HK.out.trans (congrArg (K ++ ·) (HSM.out hd)))
          clear hd HSM HTA ho ov ou op
          go_wp2_with fail
          go_quiet (fail)
          go_wp2_with fail
          go_roundw
          case rel => exact ⟨j, f, j, K, rfl, rfl, by omega, by omega, HKN, hown, HNIL.out, belowDraws hB _⟩
          case measure => simp [intOf]
        · have td : (d1 == d0) = false := by simpa using hd
          have HKN := Lib.hid (HK.out.trans (congrArg (K ++ ·) (HTA.out hd)))
          have HIO := Lib.hid (show ∀ W : World, Below w2.heap.size w2 W → W.cell? ⟨ob, ooff + j, none⟩ = some (.int .i64 (o : Int)) from fun W hW => HO.out W hW j _ (ints_at ho))
          have HIU := Lib.hid (show ∀ W : World, Below w2.heap.size w2 W → W.cell? ⟨ub, uoff + j, none⟩ = some (.int .i64 (freeP (RL l) (LL l) n o : Int)) from fun W hW => HU.out W hW j _ (ints_at2 ho))
          generalize freeP (RL l) (LL l) n o = fo at *
          clear hd HSM HTA ho ov ou op
          go_wp2_with fail
          go_quiet (fail)
          obtain ⟨wq, hwq⟩ : ∃ W : World, W = wr.drewN nq := ⟨_, rfl⟩
          have hown2 : wq.ownsRow w2.heap.size 2 1 u8 K.length ((K.map fun (k : Nat) => (k : Int)).map (Value.int .i64)) := by rw [hwq]; exact hown
          have hBq : Below w2.heap.size w2 wq := by rw [hwq]; exact belowDraws hB nq
          rw [← hwq]
          clear hwq hown hB zr q1 q2 lp
          have zr := hBq.size
          have e1 := HIO.out wq hBq
          have lo : ob < wq.heap.size := by omega
          go_wp2_with (at_builtin; refine wpList_append_own_at _ rfl _ _ 26 rfl w2.heap.size 2 i0 (.int .i64 0) 1 8 Tryz.underlying26 hi' hz0 hz1 hz2 rfl (by decide) _ _ _ rfl (hown2.alloc _) ⟨wq.heap.size, 0, none⟩ 1 1 [.int .i64 (o : Int)] rfl rfl ?_ ?_ ?_ ?_ ?_ ?_; exact cell_one_new _ _ _; (intro u hu; simp at hu; subst hu; rfl); (unfold maxLen; omega); omega; (simp; omega); intro v' w4 hown1 hgr1 hnil1 hat1; have B4 : Below w2.heap.size w2 w4 := (hBq.alloc zr (.cells #[.int .i64 (o : Int)] 2)).grown hgr1 (by simp; omega) (fun q hq => (hown2.lt q hq).1); have z4 : wq.heap.size < w4.heap.size := Nat.lt_of_lt_of_le (by simp) hgr1.size; have e2 := HIU.out w4 B4; have lu : ub < w4.heap.size := by omega)
          have HN4 := Lib.hid (show v' ≠ .slice none 0 0 from fun e => HNIL.out (hnil1.1 e).1)
          clear hgr1 hat1 hnil1 e1
          go_wp2_with fail
          go_roundw
          case rel =>
            refine ⟨fo, f, fo, K ++ [o], rfl, rfl, by omega, by omega, Lib.hid (HKN.out.trans (by simp)), ?_, HN4.out, B4⟩
            rw [List.length_append, List.map_append, List.map_append]
            exact hown1
          case measure => simp [intOf]; omega
  · have Hv := Lib.hid (show rBest l = ([], ckL l) by rw [rBest, if_neg h0])
    generalize ckL l = ck at *
    have t1 : (ck != 0) = true := by simpa using h0
    clear hl hs h0
    go_enter Tryz.func6, Tryz.ntmps6
    go_wp2_with fail
    refine CK.mono ?_
    rintro e w1 ⟨rfl, b1⟩
    go_wp2_with fail
    go_ret2
    rw [Hv.out]
    exact ⟨_, rfl, World.ownsRow_nil _ _ _ _, b1⟩
set_option maxRecDepth 100000 in
set_option maxHeartbeats 16000000 in
theorem sBestChoice_any (A : Option Addr) (n c : Nat) (l : List (Int × Int × Int)) (w : World) (hl : l.length = n) (hn : n ≤ 1048576) (hs : Sees w w.heap.size A (cells3 l)) :
    Calls Tryz.prog 7 #[.slice A n c] w (GivesS 2 1 (rBest l).1.length ((rBest l).1.map (Value.int .i64)) (rBest l).2 w) := by
  have CK := l09Code_any A n c l w hl hn hs
  by_cases h0 : ckL l = 0
  · obtain ⟨hn40, hok⟩ := ckL_zero h0
    replace hn40 : n ≤ 40 := by omega
    have HL := Lib.hid hl
    have HOK := Lib.hid hok
    have Hv := Lib.hid (show rBest l = (kept (BK l n n n) n, 0) by rw [rBest, if_pos h0, hl])
    have PO := fun W (b1 : Below w.heap.size w W) => l09Order_any A n c l W hl hn40 hok ((hs.over b1).wider b1.size)
    have PR := fun W (b1 : Below w.heap.size w W) => l09Proof_any A n c l W hl hn40 hok ((hs.over b1).wider b1.size)
    obtain ⟨i0, hi', hz0, hz1, hz2⟩ := info_parts infoI64
    obtain ⟨ib, hib, bz0, bz1, bz2⟩ := info_parts infoBoolG
    have hmk : ∀ W, (Instr.makeSlice 46 (.int .i64 (n : Int)) (.int .i64 (n : Int))).run Tryz.prog W = .ok (.slice (some ⟨W.heap.size, 0, none⟩) n n) (W.alloc (.cells (boolsG [] n).toArray 4)) := fun W => by
      have := makeRow (P := Tryz.prog) 46 4 ib _ Tryz.underlying46 hib bz0 n (by rw [bz2]; omega) (by omega) W
      rw [bz1, boolsG_none] at this
      exact this
    rw [h0] at CK
    clear h0 hl hok hib bz0 bz1 bz2
    go_enter Tryz.func7, Tryz.ntmps7
    go_wp2_with fail
    refine CK.mono ?_
    rintro e w0 ⟨rfl, b0⟩
    go_wp2_with fail
    refine (PO _ b0).mono ?_
    intro e w1 hgo
    obtain ⟨v0, rfl, ov, b1⟩ := hgo.use
    have B1 := b0.trans (b1.mono b0.size)
    rw [natV_ints] at ov
    obtain ⟨vA, vc, rfl⟩ := ownShape ov
    clear PO CK b0 b1 hgo
    go_wp2_with fail
    refine (PR _ B1).mono ?_
    rintro e w2 ⟨p0, rfl, op, b2⟩
    have B2 := B1.trans (b2.mono B1.size)
    replace ov := ownOver ov b2
    rw [dpP_length] at op
    obtain ⟨pA, pc, rfl⟩ := ownShape op
    have z2 := B2.size
    replace hs := (hs.over B2).wider z2
    clear PR b2
    go_wp2_with fail
    go_loopw [8] (fun a wr => ∃ (i f : Nat) (z : Int) (K : List Nat), a = .int .i64 z ∧ z = (i : Int) ∧ i ≤ n ∧ i ≤ f ∧ Hid (BK l n n n = K ++ BK l n f i) ∧ Full wr w2.heap.size 4 (boolsG K n).toArray ∧ Below w2.heap.size w2 wr) (fun a _ => (intOf a).toNat)
    case atStart => exact ⟨n, n, n, [], rfl, rfl, Nat.le_refl _, Nat.le_refl _, Lib.hid rfl, Full.made _ _ _, by repeat' (first | (with_reducible exact Below.refl _ _) | (with_reducible assumption) | (with_reducible refine Below.alloc ?_ ?_ _) | (with_reducible refine Below.drew ?_) | (with_reducible refine belowDraws ?_ _) | (with_reducible refine Below.setCell ?_ ?_ _) | omega | (simp; done) | (simp; omega))⟩
    case round =>
      obtain ⟨i, f, z, K, rfl, hz', hin, hif, HK, hF0, hB⟩ := hrel
      obtain ⟨wo, rfl⟩ : ∃ W : World, W = wr := ⟨_, rfl⟩
      have zr := hB.size
      have hgw := hF0.inside
      by_cases hi0 : i = 0
      · obtain rfl : z = 0 := by omega
        have HKE := Lib.hid (show BK l n n n = K by rw [HK.out, hi0, bk_zero, List.append_nil])
        have Hv2 := Lib.hid (show rBest l = (kept K n, 0) by rw [Hv.out, HKE.out])
        have t0 : decide ((0 : Int) < 0) = false := by decide
        clear hz' hi0 ov op hs hmk
        go_wp2_with fail
        go_loopw [10, 11] (fun v b wr => ∃ k : Nat, b = .int .i64 k ∧ k ≤ n ∧ wr.ownsRow (w2.heap.size + 1) 2 1 v (kept K k).length ((kept K k).map (Value.int .i64)) ∧ some w2.heap.size ≠ v.ownBlock ∧ Full wr w2.heap.size 4 (boolsG K n).toArray ∧ Below w2.heap.size w2 wr) (fun v b _ => n - (intOf b).toNat)
        case atStart => exact ⟨0, rfl, Nat.zero_le _, World.ownsRow_made (base := w2.heap.size + 1) (e := 2) (size := 1) wo #[] 0 (by omega) (Nat.zero_le _) rfl, (by simp [Value.ownBlock]; omega), hF0.block _, by repeat' (first | (with_reducible exact Below.refl _ _) | (with_reducible assumption) | (with_reducible refine Below.alloc ?_ ?_ _) | (with_reducible refine Below.drew ?_) | (with_reducible refine belowDraws ?_ _) | (with_reducible refine Below.setCell ?_ ?_ _) | omega | (simp; done) | (simp; omega))⟩
        case round =>
          obtain ⟨k, rfl, hk, hown2, hne, hFr, hBr⟩ := hrel
          obtain ⟨wq, rfl⟩ : ∃ W : World, W = wr := ⟨_, rfl⟩
          have hzq := hBr.size
          have hgq := hFr.inside
          by_cases hlt : k < n
          · have c0 := (hFr.at_ k).trans (boolsG_at (K := K) hlt)
            have hll : (kept K k).length ≤ 150 := Nat.le_trans (kept_length _ _) (by omega)
            have j0 : (0 : Int) ≤ (k : Int) := by omega
            have j1 : (k : Int) < (n : Int) := by omega
            have HFr := Lib.hid hFr
            have HN := Lib.hid (kept_next (K := K) (k := k))
            clear hFr hF0
            by_cases hm : k ∈ K
            · have HY := Lib.hid (HN.out.trans (if_pos hm))
              rw [decide_eq_true hm] at c0
              go_wp2_with (at_builtin; refine wpList_append_own_at _ rfl _ _ 26 rfl (w2.heap.size + 1) 2 i0 (.int .i64 0) 1 8 Tryz.underlying26 hi' hz0 hz1 hz2 rfl (by decide) _ _ _ rfl (hown2.alloc _) ⟨wq.heap.size, 0, none⟩ 1 1 [.int .i64 (k : Int)] rfl rfl ?_ ?_ ?_ ?_ ?_ ?_; exact cell_one_new _ _ _; (intro u hu; simp at hu; subst hu; rfl); (unfold maxLen; omega); omega; (simp; omega); intro v' w4 hown1 hgr1 _ hat1)
              go_roundw
              case rel =>
                refine ⟨k + 1, by go_num, by omega, ?_, ?_, Full.grow (HFr.out.block _) hgr1 hne, (hBr.alloc hzq (.cells #[.int .i64 (k : Int)] 2)).grown hgr1 (by simp; omega) (fun j hj => by have := (hown2.lt j hj).1; omega)⟩
                · rw [HY.out, List.map_append, List.length_append]
                  exact hown1
                · rcases hat1 with e | e
                  · rw [e]; exact hne
                  · rw [e]; intro e2; injection e2 with e2; simp at e2; omega
              case measure => simp [intOf]; omega
            · have HY := Lib.hid (HN.out.trans (if_neg hm))
              rw [decide_eq_false hm] at c0
              go_wp2_with fail
              go_roundw
              case rel => exact ⟨k + 1, by go_num, by omega, by rw [HY.out]; exact hown2, hne, HFr.out, hBr⟩
              case measure => simp [intOf]; omega
          · obtain rfl : k = n := by omega
            go_wp2_with fail
            go_ret2
            rw [Hv2.out]
            exact ⟨_, rfl, ownLower2 hown2 (Nat.le_trans z2 (by omega)), B2.trans (hBr.mono z2)⟩
      · obtain ⟨j, rfl⟩ : ∃ j, i = j + 1 := ⟨i - 1, by omega⟩
        obtain ⟨f, rfl⟩ : ∃ f', f = f' + 1 := ⟨f - 1, by omega⟩
        obtain rfl : z = (j : Int) + 1 := by omega
        clear hz' hi0 hmk
        obtain ⟨o, ho, hon⟩ := ordP_at (R := RL l) (n := n) (show j < n by omega)
        have hfp := freeP_pos (LL_RL l) ho
        have FO := fun W (hW : Below w2.heap.size w2 W) => l09Free_any A n c l o W HL.out hn40 HOK.out hon ((hs.over hW).wider hW.size)
        obtain ⟨ob, ooff, rfl, hob, HO⟩ := intAll (Sees.ofOwn ov) (by rw [List.length_map, ordP_length]; omega)
        obtain ⟨pb, poff, rfl, hpb, HP⟩ := intAll (Sees.ofOwn op) (by rw [dpP_length]; omega)
        obtain ⟨tb, tof, rfl, htb, HTK⟩ := tickAll hs HL.out HOK.out (by omega)
        have HSM := Lib.hid (fun h => bk_same (l := l) (n := n) (f := f) (i := j) h)
        have HTA := Lib.hid (fun h => bk_take (l := l) (n := n) (f := f) (i := j) ho h)
        have q0 := HO.out wo hB j _ (ints_at ho)
        have q1 := HP.out wo hB (j + 1) _ (dpP_at (by omega))
        have q2 := HP.out wo hB j _ (dpP_at (by omega))
        have HTI := Lib.hid (fun W hW => HTK.out W hW o hon)
        generalize dpV (RL l) (LL l) (WL l) n (j + 1) = d1 at *
        generalize dpV (RL l) (LL l) (WL l) n j = d0 at *
        generalize freeP (RL l) (LL l) n o = fo at *
        generalize (mkA l o : Int) = mo at *
        generalize plA l o = po at *
        generalize htA l o = ho' at *
        have lp : pb < wo.heap.size := by omega
        have lo : ob < wo.heap.size := by omega
        have j0 : (0 : Int) ≤ (j : Int) := by omega
        have j1 : (j : Int) < (n : Int) := by omega
        have j2 : ((j : Int) + 1).toNat = j + 1 := by omega
        have j3 : (j : Int) + 1 - 1 = (j : Int) := by omega
        have j4 : IntKind.i64.wrap ((j : Int) + 1 - 1) = (j : Int) := (IntWalk.i64_in _ (by omega)).trans j3
        have j5 : IntKind.i64.wrap (j : Int) = (j : Int) := IntWalk.i64_in _ (by omega)
        have j6 : (0 : Int) ≤ (j : Int) + 1 := by omega
        have j7 : (j : Int) + 1 < (n : Int) + 1 := by omega
        have j8 : (j : Int) < (n : Int) + 1 := by omega
        have j9 : decide ((0 : Int) < (j : Int) + 1) = true := decide_eq_true (by omega)
        by_cases hd : d1 = d0
        · have td : (d1 == d0) = true := beq_iff_eq.2 hd
          have HKN := Lib.hid (HK.out.trans (congrArg (K ++ ·) (HSM.out hd)))
          clear hd HSM HTA ho ov op hs FO
          go_wp2_with fail
          go_quiet (fail)
          go_wp2_with fail
          go_roundw
          case rel => exact ⟨j, f, j, K, rfl, rfl, by omega, by omega, HKN, hF0, belowDraws hB _⟩
          case measure => simp [intOf]
        · have td : (d1 == d0) = false := by simpa using hd
          have HKN := Lib.hid (HK.out.trans (congrArg (K ++ ·) (HTA.out hd)))
          clear hd HSM HTA ho ov op hs
          go_wp2_with fail
          go_quiet (fail)
          obtain ⟨wq, hwq⟩ : ∃ W : World, W = wo.drewN nq := ⟨_, rfl⟩
          have hFq : Full wq w2.heap.size 4 (boolsG K n).toArray := by rw [hwq]; exact hF0
          have hBq : Below w2.heap.size w2 wq := by rw [hwq]; exact belowDraws hB nq
          rw [← hwq]
          clear hwq hF0 hB zr q0 q1 q2 lp lo hgw
          have zr := hBq.size
          have hgq := hFq.inside
          have HP2 := Lib.hid (boolsG_put (K := K) (n := n) (i := o) hon)
          have c8 := hFq.at_ o
          have f8 := hFq.free o
          rw [boolsG_at hon] at c8
          have HF := Lib.hid hFq
          have o0 : (0 : Int) ≤ (o : Int) := by omega
          have o1 : (o : Int) < (n : Int) := by omega
          have lt : tb < wq.heap.size := by omega
          have ltn : tb ≠ w2.heap.size := by omega
          obtain ⟨t0, t1, t2⟩ := HTI.out wq hBq
          clear hFq
          go_wp2_with fail
          refine (FO _ (by repeat' (first | (with_reducible exact Below.refl _ _) | (with_reducible assumption) | (with_reducible refine Below.alloc ?_ ?_ _) | (with_reducible refine Below.drew ?_) | (with_reducible refine belowDraws ?_ _) | (with_reducible refine Below.setCell ?_ ?_ _) | omega | (simp; done) | (simp; omega)))).mono ?_
          rintro e w4 ⟨rfl, hb4⟩
          have hF4 : Full w4 w2.heap.size 4 (boolsG (K ++ [o]) n).toArray := by
            have h := HF.out.put o (.bool true)
            rw [HP2.out] at h
            exact h.over hb4 h.inside
          have B4 : Below w2.heap.size w2 w4 := Below.trans (by repeat' (first | (with_reducible exact Below.refl _ _) | (with_reducible assumption) | (with_reducible refine Below.alloc ?_ ?_ _) | (with_reducible refine Below.drew ?_) | (with_reducible refine belowDraws ?_ _) | (with_reducible refine Below.setCell ?_ ?_ _) | omega | (simp; done) | (simp; omega))) (hb4.mono (by first | omega | (simp; done) | (simp; omega)))
          clear hb4
          go_wp2_with fail
          go_roundw
          case rel => exact ⟨fo, f, fo, K ++ [o], rfl, rfl, by omega, by omega, Lib.hid (HKN.out.trans (by simp)), hF4, B4⟩
          case measure => simp [intOf]; omega
  · have Hv := Lib.hid (show rBest l = ([], ckL l) by rw [rBest, if_neg h0])
    generalize ckL l = ck at *
    have t1 : (ck != 0) = true := by simpa using h0
    clear hl hs h0
    go_enter Tryz.func7, Tryz.ntmps7
    go_wp2_with fail
    refine CK.mono ?_
    rintro e w1 ⟨rfl, b1⟩
    go_wp2_with fail
    go_ret2
    rw [Hv.out]
    exact ⟨_, rfl, World.ownsRow_nil _ _ _ _, b1⟩
end Go.Proofs.YtpbhncgjnmaojaaGreatDoor

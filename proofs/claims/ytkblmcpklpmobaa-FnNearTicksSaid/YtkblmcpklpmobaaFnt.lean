/- The law FnNearTicks (layer 8). No condition. -/
import Derived.Test.YtkblmcpklpmobaaDr6
import Derived.Test.YtkblmcpklpmobaaTk4
import Derived.Test.YtkblmcpklpmobaaTk2
import Derived.Test.YtkblmcpklpmobaaLike
namespace Go.Proofs.Ytkblmcpklpmobaa
open Go.RowKit
set_option linter.unusedVariables false
set_option linter.unusedSimpArgs false

theorem nearUp_min (l : List (Int × Int × Int)) (x : Int) : ∀ k j, j < k → dist (plc l (nearUp l x k)) x ≤ dist (plc l j) x
  | k + 1, j, h => by
    rw [nearUp]
    by_cases e : j = k
    · subst e
      split
      · exact Int.le_refl _
      · omega
    · have := nearUp_min l x k j (by omega)
      split
      · omega
      · exact this
theorem inTo_min (l : List (Int × Int × Int)) (i : Nat) (st : Nat × Nat) : ∀ m, dist (plc l (inTo l i st m).1) (plc l (inTo l i st m).2) ≤ dist (plc l st.1) (plc l st.2) ∧ ∀ t, t < m → dist (plc l (inTo l i st m).1) (plc l (inTo l i st m).2) ≤ dist (plc l i) (plc l (i + 1 + t))
  | 0 => ⟨Int.le_refl _, fun t ht => by omega⟩
  | m + 1 => by
    obtain ⟨h1, h2⟩ := inTo_min l i st m
    rw [inTo]
    split
    · rename_i h
      refine ⟨by simp only; omega, fun t ht => ?_⟩
      by_cases e : t = m
      · subst e; exact Int.le_refl _
      · have := h2 t (by omega); simp only; omega
    · rename_i h
      refine ⟨h1, fun t ht => ?_⟩
      by_cases e : t = m
      · subst e; omega
      · exact h2 t (by omega)
theorem outTo_min (l : List (Int × Int × Int)) : ∀ i a b, a < i → a < b → b < l.length → dist (plc l (outTo l i).1) (plc l (outTo l i).2) ≤ dist (plc l a) (plc l b)
  | i + 1, a, b, h1, h2, h3 => by
    obtain ⟨k1, k2⟩ := inTo_min l i (outTo l i) (l.length - (i + 1))
    rw [outTo]
    by_cases e : a = i
    · subst e
      have := k2 (b - (a + 1)) (by omega)
      rwa [show a + 1 + (b - (a + 1)) = b by omega] at this
    · exact Int.le_trans k1 (outTo_min l i a b (by omega) h2 h3)
theorem dist_comm (a b : Int) : dist a b = dist b a := by unfold dist; omega
theorem near_ok {l : List (Int × Int × Int)} {x m : Int} (h : rNear l x = (m, 0)) : ∃ k : Nat, m = (k : Int) ∧ k < l.length ∧ (-1000000000000 ≤ x ∧ x ≤ 1000000000000) ∧ (∀ p ∈ l, -1000000000000 ≤ p.2.1 ∧ p.2.1 ≤ 1000000000000) ∧ ∀ j, j < l.length → dist (plc l k) x ≤ dist (plc l j) x := by
  rw [rNear] at h
  split at h
  · rename_i h0
    obtain ⟨_, hy, hp⟩ := ckT_zero h0
    split at h
    · simp at h
    · simp only [Prod.mk.injEq, and_true] at h
      have := nearUp_le l x l.length
      exact ⟨nearUp l x l.length, h.symm, by omega, inB_iff.1 (hy x (by simp)), hp, fun j hj => nearUp_min l x _ j hj⟩
  · rename_i h0
    simp only [Prod.mk.injEq] at h
    exact absurd h.2 h0
theorem close_ok {l : List (Int × Int × Int)} {a b : Int} (h : rClose l = (a, b, 0)) : ∃ i j : Nat, a = (i : Int) ∧ b = (j : Int) ∧ i < l.length ∧ j < l.length ∧ (∀ p ∈ l, -1000000000000 ≤ p.2.1 ∧ p.2.1 ≤ 1000000000000) ∧ ∀ u v, u < l.length → v < u → dist (plc l i) (plc l j) ≤ dist (plc l u) (plc l v) := by
  rw [rClose] at h
  split at h
  · rename_i h0
    obtain ⟨_, hy, hp⟩ := ckT_zero h0
    split at h
    · simp at h
    · simp only [Prod.mk.injEq, and_true] at h
      have := outTo_lt l (by omega) l.length (Nat.le_refl _)
      exact ⟨_, _, h.1.symm, h.2.symm, this.1, this.2, hp, fun u v hu hv => by rw [dist_comm (plc l u)]; exact outTo_min l _ v u (by omega) hv hu⟩
  · rename_i h0
    simp only [Prod.mk.injEq] at h
    exact absurd h.2.2 h0
theorem split4 {d e x y z t : Int} (h : dist x y ≤ dist z t) (hd : d = z - t) (he : e = x - y) : (e ≤ d ∨ e ≤ -d) ∧ (-e ≤ d ∨ -e ≤ -d) := by
  unfold dist at h
  omega
/-- the places of ticks that a slice shows, where it has one -/
theorem Sees.places {w : World} {B : Nat} {A : Option Addr} {T : List (Int × Int × Int)} (h : Sees w B A (cells3 T)) (hT : 0 < T.length) : ∃ b off, A = some ⟨b, off, none⟩ ∧ b < B ∧ ∀ k, k < T.length → w.cell? ⟨b, off + k * 3 + 1, none⟩ = some (.int .i64 (plc T k)) := by
  obtain ⟨b, off, rfl, hb, hc⟩ := h.addr (by rw [cells3_length]; omega)
  refine ⟨b, off, rfl, hb, fun k hk => ?_⟩
  have hp : T[k]? = some T[k] := List.getElem?_eq_getElem hk
  have := (cells3_at T k _ hp).2.1
  rw [Nat.mul_comm] at this
  rw [plc_at hp]
  exact hc _ _ this
set_option maxRecDepth 100000 in
set_option maxHeartbeats 8000000 in
theorem fnNearTicks_walk (A : Option Addr) (n c : Nat) (l : List Int) (w : World) (hl : l.length = n) (_hc : n ≤ c) (hm : c ≤ maxLen) (hs : Sees w w.heap.size A (l.map (Value.int .u8))) (h8 : U8s l) :
    Calls Try.prog 4 #[.slice A n c] w fun e w' => e = .returned (.bool true) ∧ Below w.heap.size w w' := by
  unfold maxLen at hm
  have BG := fun W => big_small A n c W (by omega)
  by_cases hbig : 4096 < n
  · rw [show decide (4096 < n) = true from decide_eq_true hbig] at BG
    go_enter Try.func4, Try.ntmps4
    go_wp2_with (go_at_call 9; refine (BG _).mono ?_; rintro e w' ⟨rfl, rfl⟩)
    go_ret
    exact ⟨rfl, Below.refl _ _⟩
  · rw [show decide (4096 < n) = false from decide_eq_false hbig] at BG
    have hn : n ≤ 1048576 := by omega
    go_enter Try.func4, Try.ntmps4
    go_wp2_with (go_at_call 9; refine (BG _).mono ?_; rintro e w' ⟨rfl, rfl⟩)
    clear BG
    go_wp2_with fail
    refine ((DrawNearestTick_any A n c l _ hl hn h8 hs).mono fun e w' h => GivesTN.one h).mono ?_
    rintro e w1 ⟨a, L, x, rfl, ix, a12, aI, oa, hb1⟩
    obtain ⟨aA, ac, rfl⟩ := ownShape oa
    have B1 : Below w.heap.size w w1 := (Below.refl w.heap.size w).trans (hb1.mono (Below.refl w.heap.size w).size)
    clear hb1
    have I1 := fun W hW => iNearestTick_any aA L.length ac L x W rfl (by omega) hW ix
    have S1 := fun W hW => sNearestTick_any aA L.length ac L x W rfl (by omega) hW ix
    obtain ⟨⟨m1, bad⟩, H1⟩ : ∃ p, Hid (rNear L x = p) := ⟨_, Lib.hid rfl⟩
    rw [H1.out] at I1 S1
    simp only at I1 S1
    go_wp2_with fail
    refine (I1 _ (Sees.ofOwn oa)).mono ?_
    rintro e w2 ⟨rfl, hb2⟩
    replace oa := ownOver oa hb2
    have B2 : Below w.heap.size w w2 := B1.trans (hb2.mono B1.size)
    clear hb2
    go_wp2_with fail
    refine (S1 _ (Sees.ofOwn oa)).mono ?_
    rintro e w3 ⟨rfl, hb3⟩
    replace oa := ownOver oa hb3
    have B3 : Below w.heap.size w w3 := B2.trans (hb3.mono B2.size)
    clear hb3
    go_wp2_with fail
    refine ((DrawTicksBetween_any A n c l _ hl hn h8 ((hs.over B3).wider B3.size)).mono fun e w' h => GivesTN.two h).mono ?_
    rintro e w4 ⟨d, D, fr, tl, rfl, ifr, itl, d12, dI, od, hb4⟩
    replace oa := ownOver oa hb4
    obtain ⟨dA, dc, rfl⟩ := ownShape od
    have B4 : Below w.heap.size w w4 := B3.trans (hb4.mono B3.size)
    clear hb4
    have I2 := fun W hW => iTicksBetween_any dA D.length dc D fr tl W rfl (by omega) hW
    have S2 := fun W hW => sTicksBetween_any dA D.length dc D fr tl W rfl (by omega) hW
    obtain ⟨⟨m2, one⟩, H2⟩ : ∃ p, Hid (rBetween D fr tl = p) := ⟨_, Lib.hid rfl⟩
    rw [H2.out] at I2 S2
    simp only at I2 S2
    go_wp2_with fail
    refine (I2 _ (Sees.ofOwn od)).mono ?_
    rintro e w5 ⟨rfl, hb5⟩
    replace oa := ownOver oa hb5
    replace od := ownOver od hb5
    have B5 : Below w.heap.size w w5 := B4.trans (hb5.mono B4.size)
    clear hb5
    go_wp2_with fail
    refine (S2 _ (Sees.ofOwn od)).mono ?_
    rintro e w6 ⟨rfl, hb6⟩
    replace oa := ownOver oa hb6
    replace od := ownOver od hb6
    have B6 : Below w.heap.size w w6 := B5.trans (hb6.mono B5.size)
    clear hb6
    go_wp2_with fail
    refine ((DrawClosestTicks_any A n c l _ hl hn h8 ((hs.over B6).wider B6.size)).mono fun e w' h => GivesTN.none h).mono ?_
    rintro e w7 ⟨g, G, rfl, g12, gI, og, hb7⟩
    replace oa := ownOver oa hb7
    replace od := ownOver od hb7
    obtain ⟨gA, gc, rfl⟩ := ownShape og
    have B7 : Below w.heap.size w w7 := B6.trans (hb7.mono B6.size)
    clear hb7
    have I3 := fun W hW => iClosestTicks_any gA G.length gc G W rfl (by omega) hW
    have S3 := fun W hW => sClosestTicks_any gA G.length gc G W rfl (by omega) hW
    obtain ⟨⟨p3, q3, three⟩, H3⟩ : ∃ p, Hid (rClose G = p) := ⟨_, Lib.hid rfl⟩
    rw [H3.out] at I3 S3
    simp only at I3 S3
    go_wp2_with fail
    refine (I3 _ (Sees.ofOwn og)).mono ?_
    rintro e w8 ⟨rfl, hb8⟩
    replace oa := ownOver oa hb8
    replace od := ownOver od hb8
    replace og := ownOver og hb8
    have B8 : Below w.heap.size w w8 := B7.trans (hb8.mono B7.size)
    clear hb8
    go_wp2_with fail
    refine (S3 _ (Sees.ofOwn og)).mono ?_
    rintro e w9 ⟨rfl, hb9⟩
    replace oa := ownOver oa hb9
    replace od := ownOver od hb9
    replace og := ownOver og hb9
    have B9 : Below w.heap.size w w9 := B8.trans (hb9.mono B8.size)
    clear hb9
    clear I1 S1 I2 S2 I3 S3 hl h8 hs od
    have N1 := Lib.hid (fun (h : bad = 0) => near_ok (H1.out.trans (by rw [h])))
    have N3 := Lib.hid (fun (h : three = 0) => close_ok (H3.out.trans (by rw [h])))
    have oa2 := Sees.ofOwn oa
    have og2 := Sees.ofOwn og
    clear oa og
    obtain ⟨w0, rfl⟩ : ∃ w0 : World, w0 = w9 := ⟨_, rfl⟩
    by_cases h3 : three = 0
    · have t3 : (three == 0) = true := beq_iff_eq.2 h3
      obtain ⟨u, v, rfl, rfl, hu, hv, hp, hmin⟩ := N3.out h3
      obtain ⟨gb, go, rfl, hgb, hgc⟩ := og2.places (by omega)
      have cu := hgc u hu
      have cv := hgc v hv
      have bu : -1000000000000 ≤ plc G u ∧ plc G u ≤ 1000000000000 := by rw [plc_at (List.getElem?_eq_getElem hu)]; exact hp _ (List.getElem_mem hu)
      have bv : -1000000000000 ≤ plc G v ∧ plc G v ≤ 1000000000000 := by rw [plc_at (List.getElem?_eq_getElem hv)]; exact hp _ (List.getElem_mem hv)
      have HM := Lib.hid hmin
      have HC := Lib.hid hgc
      have HP := Lib.hid hp
      have u0 : (0 : Int) ≤ (u : Int) := by omega
      have u1 : (u : Int) < (G.length : Int) := by omega
      have v0 : (0 : Int) ≤ (v : Int) := by omega
      have v1 : (v : Int) < (G.length : Int) := by omega
      clear h3 hmin hgc hp N3 og2
      generalize hpu : plc G u = pu at *
      generalize hpv : plc G v = pv at *
      have HPU := Lib.hid (And.intro hpu hpv)
      clear hpu hpv
      have e1 : IntKind.i64.wrap (pu - pv) = pu - pv := IntWalk.i64_in _ (by omega)
      go_wp2_with fail
      go_quiet (fail)
      clear e1
      go_wp2_with fail
      go_loopw [24] (fun iv wr => ∃ i q : Nat, iv = .int .i64 i ∧ i ≤ G.length ∧ wr = w0.drewN q) (fun iv _ => G.length - (intOf iv).toNat)
      case atStart => exact ⟨0, nq, rfl, Nat.zero_le _, rfl⟩
      case round =>
        obtain ⟨i, q, rfl, hi, rfl⟩ := hrel
        by_cases hlt : i < G.length
        · have ci := HC.out i hlt
          have bi : -1000000000000 ≤ plc G i ∧ plc G i ≤ 1000000000000 := by rw [plc_at (List.getElem?_eq_getElem hlt)]; exact HP.out _ (List.getElem_mem hlt)
          have i0 : (0 : Int) ≤ (i : Int) := by omega
          have i1 : (i : Int) < (G.length : Int) := by omega
          generalize hpi : plc G i = pi at *
          have HPI := Lib.hid hpi
          clear hpi
          go_wp2_with fail
          go_loopw [25] (fun jv wr => ∃ j q : Nat, jv = .int .i64 j ∧ j ≤ i ∧ wr = w0.drewN q) (fun jv _ => i - (intOf jv).toNat)
          case atStart => exact ⟨0, q, rfl, Nat.zero_le _, rfl⟩
          case round =>
            obtain ⟨j, q2, rfl, hj, rfl⟩ := hrel
            by_cases hlt2 : j < i
            · have cj := HC.out j (by omega)
              have bj : -1000000000000 ≤ plc G j ∧ plc G j ≤ 1000000000000 := by rw [plc_at (List.getElem?_eq_getElem (by omega))]; exact HP.out _ (List.getElem_mem _)
              have fj := split4 (HM.out i j hlt hlt2) rfl rfl
              rw [HPI.out] at fj
              have j0 : (0 : Int) ≤ (j : Int) := by omega
              have j1 : (j : Int) < (G.length : Int) := by omega
              generalize plc G j = pj at *
              have e1 : IntKind.i64.wrap (pi - pj) = pi - pj := IntWalk.i64_in _ (by omega)
              go_wp2_with fail
              go_quiet (fail)
              clear e1
              go_wp2_with fail
              all_goals go_roundw
              all_goals first
                | (case rel => exact ⟨j + 1, q2 + nq, by go_num, by omega, rfl⟩)
                | (case measure => simp [intOf]; omega)
            · obtain rfl : j = i := by omega
              go_wp2_with fail
              go_roundw
              case rel => exact ⟨j + 1, q2, by go_num, by omega, rfl⟩
              case measure => simp [intOf]; omega
        · obtain rfl : i = G.length := by omega
          clear HC HM HP cu cv
          by_cases h1 : bad = 0
          · have t1 : (bad == 0) = true := beq_iff_eq.2 h1
            obtain ⟨k, rfl, hk, hx, hp, hmin⟩ := N1.out h1
            obtain ⟨ab, ao, rfl, hab, hac⟩ := oa2.places (by omega)
            have HM := Lib.hid hmin
            have HC := Lib.hid hac
            have HP := Lib.hid hp
            have ck := hac k hk
            have bk : -1000000000000 ≤ plc L k ∧ plc L k ≤ 1000000000000 := by rw [plc_at (List.getElem?_eq_getElem hk)]; exact hp _ (List.getElem_mem hk)
            have k0 : (0 : Int) ≤ (k : Int) := by omega
            have k1 : (k : Int) < (L.length : Int) := by omega
            clear h1 hmin hac hp N1 
            generalize hpk : plc L k = pk at *
            have HPK := Lib.hid hpk
            clear hpk
            go_wp2_with fail
            go_loopw [27] (fun iv wr => ∃ j q : Nat, iv = .int .i64 j ∧ j ≤ L.length ∧ wr = w0.drewN q) (fun iv _ => L.length - (intOf iv).toNat)
            case atStart => exact ⟨0, q, rfl, Nat.zero_le _, rfl⟩
            case round =>
              obtain ⟨j, q, rfl, hj, rfl⟩ := hrel
              by_cases hlt : j < L.length
              · have cj := HC.out j hlt
                have bj : -1000000000000 ≤ plc L j ∧ plc L j ≤ 1000000000000 := by rw [plc_at (List.getElem?_eq_getElem hlt)]; exact HP.out _ (List.getElem_mem hlt)
                have fj := split4 (HM.out j hlt) rfl rfl
                have j0 : (0 : Int) ≤ (j : Int) := by omega
                have j1 : (j : Int) < (L.length : Int) := by omega
                generalize plc L j = pj at *
                have e1 : IntKind.i64.wrap (pj - x) = pj - x := IntWalk.i64_in _ (by omega)
                have e2 : IntKind.i64.wrap (pk - x) = pk - x := IntWalk.i64_in _ (by omega)
                go_wp2_with fail
                go_quiet (fail)
                clear e1 e2
                go_wp2_with fail
                all_goals go_roundw
                all_goals first
                  | (case rel => exact ⟨j + 1, q + nq, by go_num, by omega, rfl⟩)
                  | (case measure => simp [intOf]; omega)
              · obtain rfl : j = L.length := by omega
                go_wp2_with fail
                go_ret
                exact ⟨rfl, belowDraws B9 _⟩
          · have t1 : (bad == 0) = false := by simpa using h1
            clear h1 N1 
            go_wp2_with fail
            go_loopw [27] (fun iv wr => iv = .int .i64 0 ∧ ∃ q : Nat, wr = w0.drewN q) (fun iv _ => 0)
            case atStart => exact ⟨rfl, q, rfl⟩
            case round =>
              obtain ⟨rfl, q, rfl⟩ := hrel
              go_wp2_with fail
              go_ret
              exact ⟨rfl, belowDraws B9 _⟩
    · have t3 : (three == 0) = false := by simpa using h3
      clear h3
      by_cases h1 : bad = 0
      · have t1 : (bad == 0) = true := beq_iff_eq.2 h1
        obtain ⟨k, rfl, hk, hx, hp, hmin⟩ := N1.out h1
        obtain ⟨ab, ao, rfl, hab, hac⟩ := oa2.places (by omega)
        have HM := Lib.hid hmin
        have HC := Lib.hid hac
        have HP := Lib.hid hp
        have ck := hac k hk
        have bk : -1000000000000 ≤ plc L k ∧ plc L k ≤ 1000000000000 := by rw [plc_at (List.getElem?_eq_getElem hk)]; exact hp _ (List.getElem_mem hk)
        have k0 : (0 : Int) ≤ (k : Int) := by omega
        have k1 : (k : Int) < (L.length : Int) := by omega
        clear h1 hmin hac hp N1 N3 og2
        generalize hpk : plc L k = pk at *
        have HPK := Lib.hid hpk
        clear hpk
        go_wp2_with fail
        go_loopw [27] (fun iv wr => ∃ j q : Nat, iv = .int .i64 j ∧ j ≤ L.length ∧ wr = w0.drewN q) (fun iv _ => L.length - (intOf iv).toNat)
        case atStart => exact ⟨0, 0, rfl, Nat.zero_le _, rfl⟩
        case round =>
          obtain ⟨j, q, rfl, hj, rfl⟩ := hrel
          by_cases hlt : j < L.length
          · have cj := HC.out j hlt
            have bj : -1000000000000 ≤ plc L j ∧ plc L j ≤ 1000000000000 := by rw [plc_at (List.getElem?_eq_getElem hlt)]; exact HP.out _ (List.getElem_mem hlt)
            have fj := split4 (HM.out j hlt) rfl rfl
            have j0 : (0 : Int) ≤ (j : Int) := by omega
            have j1 : (j : Int) < (L.length : Int) := by omega
            generalize plc L j = pj at *
            have e1 : IntKind.i64.wrap (pj - x) = pj - x := IntWalk.i64_in _ (by omega)
            have e2 : IntKind.i64.wrap (pk - x) = pk - x := IntWalk.i64_in _ (by omega)
            go_wp2_with fail
            go_quiet (fail)
            clear e1 e2
            go_wp2_with fail
            all_goals go_roundw
            all_goals first
              | (case rel => exact ⟨j + 1, q + nq, by go_num, by omega, rfl⟩)
              | (case measure => simp [intOf]; omega)
          · obtain rfl : j = L.length := by omega
            go_wp2_with fail
            go_ret
            exact ⟨rfl, belowDraws B9 _⟩
      · have t1 : (bad == 0) = false := by simpa using h1
        clear h1 N1 N3 og2
        go_wp2_with fail
        go_loopw [27] (fun iv wr => iv = .int .i64 0 ∧ ∃ q : Nat, wr = w0.drewN q) (fun iv _ => 0)
        case atStart => exact ⟨rfl, 0, rfl⟩
        case round =>
          obtain ⟨rfl, q, rfl⟩ := hrel
          go_wp2_with fail
          go_ret
          exact ⟨rfl, belowDraws B9 _⟩
end Go.Proofs.Ytkblmcpklpmobaa

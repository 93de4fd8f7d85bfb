/- Draws of ticks with a table of a proof (layer 9). No condition. -/
import Derived.Test.YtpbhncgjnmaojaaDoorDrN
import Derived.Test.YtpbhncgjnmaojaaDoorPo6
import Derived.Test.YtpbhncgjnmaojaaDoorLike
namespace Go.Proofs.YtpbhncgjnmaojaaDoor
open Go.RowKit
set_option linter.unusedVariables false
set_option linter.unusedSimpArgs false

theorem rProof_small {l : List (Int × Int × Int)} (h : (rProof l).2 = 0) : (rProof l).1.length = l.length + 1 ∧ l.length ≤ 40 ∧ SmallV 2000 (rProof l).1 ∧ ∀ x ∈ (rProof l).1, 0 ≤ x := by
  rw [rProof] at h ⊢
  split at h
  · rename_i h0
    rw [if_pos h0]
    obtain ⟨h40, hok⟩ := ckL_zero h0
    simp only
    have key : ∀ x ∈ dpP (RL l) (LL l) (WL l) l.length l.length, 0 ≤ x ∧ x ≤ 1640 := by
      intro x hx
      obtain ⟨j, hj⟩ := List.getElem?_of_mem hx
      have hjl : j < (dpP (RL l) (LL l) (WL l) l.length l.length).length := by
        rcases Nat.lt_or_ge j (dpP (RL l) (LL l) (WL l) l.length l.length).length with h | h
        · exact h
        · rw [List.getElem?_eq_none h] at hj; cases hj
      rw [dpP_length] at hjl
      rw [dpP_at (by omega : j ≤ l.length)] at hj
      have := dpL_bd rfl h40 hok j (by omega)
      injection hj with hj
      omega
    exact ⟨dpP_length _, h40, fun x hx => by have := key x hx; omega, fun x hx => (key x hx).1⟩
  · rename_i h0
    exact absurd h h0
theorem rProof_zero {l : List (Int × Int × Int)} : (rProof l).2 = ckL l := by
  rw [rProof]
  split <;> simp_all
theorem ownAddr {w : World} {base size n c : Nat} {A : Option Addr} {e : TypeId} {xs : List Value} (h : w.ownsRow base e size (.slice A n c) n xs) (hn : 0 < n) (hx : xs.length = n * size) (hs : 0 < size) : ∃ g, A = some ⟨g, 0, none⟩ ∧ base ≤ g := by
  rcases ownRow h with ⟨hv, _, _⟩ | ⟨g', cap', cur, hv, hb, F, _⟩
  · injection hv with _ h2 _; omega
  · injection hv with hA _ _
    exact ⟨g', hA, hb⟩
/-- ticks drawn with a table -/
def GivesTV (w : World) (e : Ending) (w' : World) : Prop := ∃ (tv vv : Value) (T : List (Int × Int × Int)) (V : List Int), e = .returned (.tuple #[tv, vv]) ∧ T.length ≤ 41 ∧ I64s3 T ∧ V.length ≤ 100 ∧ I64s V ∧ w'.ownsRow w.heap.size 26 3 tv T.length (cells3 T) ∧ w'.ownsRow w.heap.size 2 1 vv V.length (V.map (Value.int .i64)) ∧ Below w.heap.size w w'
set_option maxRecDepth 100000 in
set_option maxHeartbeats 8000000 in
theorem DrawIsProof_any (A : Option Addr) (n c : Nat) (l : List Int) (w : World) (hl : l.length = n) (hn : n ≤ 1048576) (h8 : U8s l) (hs : Sees w w.heap.size A (l.map (Value.int .u8))) :
    Calls Tryd.prog 34 #[.slice A n c] w (GivesTV w) := by
  go_enter Tryd.func34, Tryd.ntmps34
  go_wp2_with fail
  refine (l01From_any A n c l _ hl hn h8 ?_).mono ?_
  · exact (hs.over (by repeat' (first | exact Below.refl _ _ | assumption | refine Below.alloc ?_ (by first | omega | (simp; done) | (simp; omega)) _ | refine Below.drew ?_ | refine Below.setCell ?_ (by first | omega | (simp; done) | (simp; omega)) _))).wider (by first | omega | (simp; done) | (simp; omega))
  rintro e w0 ⟨b, rfl, hb0, S0, B0⟩
  have hb : w.heap.size + 0 ≤ b := by first | omega | (simp at hb0; omega)
  have y0 := S0.inside
  replace B0 : Below w.heap.size w w0 := Below.trans (by repeat' (first | exact Below.refl _ _ | assumption | refine Below.alloc ?_ (by first | omega | (simp; done) | (simp; omega)) _ | refine Below.drew ?_ | refine Below.setCell ?_ (by first | omega | (simp; done) | (simp; omega)) _)) (B0.mono (by first | omega | (simp; done) | (simp; omega)))
  have z0 := B0.size
  have hbw : w.heap.size ≤ b := by omega
  clear hb0 hs
  go_wp2_with fail
  refine (l09Draw_any b A n c l _ hl hn h8 S0).mono ?_
  rintro e w1 ⟨tv, T, rfl, hT41, IT, oT1, S1, g1⟩
  obtain ⟨tA, tc, rfl⟩ := ownShape oT1
  have oT0 := oT1
  replace oT1 := ownLower oT1 z0
  have HI := Lib.hid IT
  have B1 : Below w.heap.size w w1 := B0.trans (gBelow g1 hbw z0)
  have y1 := S1.inside
  have z1 := B1.size
  clear g1 IT
  go_wp2_with fail
  refine (sLabelProof_any tA T.length tc T _ rfl (by omega) (Sees.ofOwn oT1)).mono ?_
  have RZ := fun h => rProof_small (l := T) h
  generalize rProof T = pr at *
  obtain ⟨V, code⟩ := pr
  simp only at RZ ⊢
  rintro e w2 ⟨vv, rfl, oV2, b2⟩
  obtain ⟨vA, vc, rfl⟩ := ownShape oV2
  have HTB := Lib.hid (show ∀ q, (Value.slice tA T.length tc).ownBlock = some q → q ≠ b from fun q hq => by have := (oT0.lt q hq).1; omega)
  have HTV := Lib.hid (show ∀ q, (Value.slice tA T.length tc).ownBlock = some q → q < w1.heap.size from fun q hq => (oT0.lt q hq).2)
  have HVB := Lib.hid (show ∀ q, (Value.slice vA V.length vc).ownBlock = some q → q ≠ b from fun q hq => by have := (oV2.lt q hq).1; omega)
  have HV1 := Lib.hid (show ∀ q, (Value.slice vA V.length vc).ownBlock = some q → w1.heap.size ≤ q from fun q hq => (oV2.lt q hq).1)
  have S2 := S1.over b2
  have B2 : Below w.heap.size w w2 := B1.trans (b2.mono z1)
  have oT2 := ownOver oT1 b2
  replace oV2 := ownLower oV2 z1
  have y2 := S2.inside
  have z2 := b2.size
  clear b2 oT0 oT1 S1
  by_cases hc : code = 0
  · obtain ⟨hVl, hT40, SV, SV0⟩ := RZ hc
    have HS0 := Lib.hid SV0
    have HSV := Lib.hid SV
    have HSV2 := HSV
    have tc0 : (code != 0) = false := by simpa using hc
    have hVp : 0 < V.length := by omega
    have hV41 : V.length ≤ 41 := by omega
    obtain ⟨gv, rfl, hgv⟩ := ownAddr oV2 hVp (by simp) (by decide)
    have hgv1 : w1.heap.size ≤ gv := HV1.out gv rfl
    have HTG := Lib.hid (show ∀ q, (Value.slice tA T.length tc).ownBlock = some q → q ≠ gv from fun q hq => by have := HTV.out q hq; omega)
    have hcap : V.length ≤ vc := by
      rcases ownRow oV2 with ⟨hv, _, _⟩ | ⟨g', cap', cur, hv, _, _, h1, _⟩
      · cases hv
      · injection hv with _ _ h3; omega
    have hvc : vc ≤ maxLen := by
      rcases ownRow oV2 with ⟨hv, _, _⟩ | ⟨g', cap', cur, hv, _, _, h1, h2, _⟩
      · cases hv
      · injection hv with _ _ h3; omega
    clear hc RZ SV SV0 HV1 HTV hVl
    go_wp2_with fail
    refine (l01Next_any _ b A n c l _ hl hn h8 S2).mono ?_
    rintro e w3 ⟨v3, rfl, lo3, hi3, S3, g3⟩
    have y3 := S3.inside
    have z3 := g3.size
    have hv3 : v3 < (V.length : Int) := by omega
    have oT3 := ownGrown oT2 g3 (ownNo (fun q hq => HTB.out q hq))
    have oV3 := ownGrown oV2 g3 (ownNo (fun q hq => HVB.out q hq))
    have B3 : Below w.heap.size w w3 := B2.trans (gBelow g3 hbw B2.size)
    have hv3 : v3 ≤ 40 := by omega
    clear g3 hi3
    obtain ⟨k, rfl⟩ : ∃ k : Nat, v3 = (k : Int) := ⟨v3.toNat, by omega⟩
    have hk : k < V.length := by omega
    clear hv3 lo3
    go_wp2_with fail
    refine (l01Next_any _ b A n c l _ hl hn h8 S3).mono ?_
    rintro e w4 ⟨v4, rfl, lo4, hi4, S4, g4⟩
    have y4 := S4.inside
    have z4 := g4.size
    have oT4 := ownGrown oT3 g4 (ownNo (fun q hq => HTB.out q hq))
    have oV4 := ownGrown oV3 g4 (ownNo (fun q hq => HVB.out q hq))
    have B4 : Below w.heap.size w w4 := B3.trans (gBelow g4 hbw B3.size)
    have hv4 : v4 ≤ 3 := by omega
    clear g4 hi4
    by_cases q0 : v4 = 0
    · have t0 : (v4 == 0) = true := beq_iff_eq.2 q0
      clear q0
      obtain ⟨x, hx⟩ : ∃ x, V[k]? = some x := ⟨_, List.getElem?_eq_getElem hk⟩
      have ck : w4.cell? ⟨gv, k, none⟩ = some (.int .i64 x) := ownAt oV4 k _ (by rw [List.getElem?_map, hx]; rfl)
      have lg : gv < w4.heap.size := by simpa using World.block_lt_of_cell? w4 _ ck
      have gb : gv ≠ b := HVB.out gv rfl
      have hxb := HSV.out.at_ hx
      have hx0 : 0 ≤ x := HS0.out x (List.mem_of_getElem? hx)
      have HX := Lib.hid hx
      have i0 : (0 : Int) ≤ (k : Int) := by omega
      have i1 : (k : Int) < (V.length : Int) := by omega
      have kn : ((k : Int)).toNat = k := Int.toNat_natCast k
      clear hx
      go_wp2_with fail
      go_region_with (first
        | (go_at_call 61; (with_reducible refine (l01Next_any _ b A n c l _ hl hn h8 ?_).mono ?_); (focus (repeat' (first | (with_reducible assumption) | (with_reducible refine Src.alloc ?_ _) | (with_reducible refine Src.drew ?_) | (with_reducible refine Src.drewN ?_ _) | (with_reducible refine Src.set ?_ ?_ _) | omega | (simp; done) | (simp; omega)))); rintro e w5 ⟨v5, rfl, lo5, hi5, S5, g5⟩; have g5' : w4.grownBy w5 (some b) := grownTrans (by repeat' (first | (with_reducible exact grownRefl _ _) | (with_reducible assumption) | (with_reducible refine gAlloc ?_ _) | (with_reducible refine grownDrew ?_) | (with_reducible refine gDrewN ?_ _) | (with_reducible refine gSet ?_ ?_ _) | (left; with_reducible rfl) | (right; first | omega | (simp; done) | (simp; omega)) | (with_reducible refine gBel ?_ (by with_reducible assumption)))) g5; have ck5 := (gCell (j := k) g5' lg gb).trans ck; have oT5 := ownGrown oT4 g5' (ownNo (fun q hq => HTB.out q hq)); have oV5 := ownGrown oV4 g5' (ownNo (fun q hq => HVB.out q hq)); have cf5 := ownFree oV5 k; have B5 : Below w.heap.size w w5 := B4.trans (gBelow g5' hbw B4.size); have e5 : IntKind.i64.wrap (x + v5) = x + v5 := IntWalk.i64_in _ (by omega); have e6 : IntKind.i64.wrap (x + v5 - 2) = x + v5 - 2 := IntWalk.i64_in _ (by omega); have hv5 : v5 ≤ 4 := (by omega); clear g5 g5' hi5))
      all_goals go_wp2_with fail
      all_goals (refine bodyPost_ret (v := .tuple #[.slice tA T.length tc, .slice (some ⟨gv, 0, none⟩) V.length vc]) ?_ rfl ?_; (focus (simp [results, Tryd.results34, go_sem]; done)))
      all_goals exact ⟨_, _, T, V.set k (x + v5 - 2), rfl, hT41, HI.out, by simp; omega, (HSV.out.put (p := 3000) (by omega) (by omega) (by omega)).i64 (by omega), ownGrown oT5 (gSet (grownRefl _ _) (Or.inl rfl) _) (ownNo (fun q hq => HTG.out q hq)), by have := ownSet (x := x + v5 - 2) oV5 hk; rw [List.length_set]; exact this, by repeat' (first | (with_reducible exact Below.refl _ _) | (with_reducible assumption) | (with_reducible refine Below.alloc ?_ ?_ _) | (with_reducible refine Below.drew ?_) | (with_reducible refine belowDraws ?_ _) | (with_reducible refine Below.setCell ?_ ?_ _) | omega | (simp; done) | (simp; omega))⟩
    · have t0 : (v4 == 0) = false := by simpa using q0
      by_cases q1 : v4 = 1
      · have t1 : (v4 == 1) = true := beq_iff_eq.2 q1
        clear q0 q1
        go_wp2_with fail
        go_loopw [9] (fun nv wr => ∃ (i : Nat) (V' : List Int), nv = .int .i64 i ∧ i ≤ V.length ∧ Hid (V'.length = V.length) ∧ Hid (SmallV (2000 + 5 * (i : Int)) V') ∧ wr.ownsRow w.heap.size 26 3 (.slice tA T.length tc) T.length (cells3 T) ∧ wr.ownsRow w.heap.size 2 1 (.slice (some ⟨gv, 0, none⟩) V.length vc) V.length (V'.map (Value.int .i64)) ∧ Below w.heap.size w wr) (fun nv _ => V.length - (intOf nv).toNat)
        case atStart => exact ⟨k, V, rfl, by omega, Lib.hid rfl, Lib.hid (HSV.out.wide (by omega)), oT4, oV4, B4⟩
        case round =>
          obtain ⟨i, V', rfl, hi, HL, HS, oT, oV, hB⟩ := hrel
          have hz := hB.size
          clear oT4 oV4 B4 oT3 oV3 B3 oT2 oV2 B2 HSV
          have RT : ∀ W, W.ownsRow w.heap.size 26 3 (.slice tA T.length tc) T.length (cells3 T) → W.ownsRow w.heap.size 2 1 (.slice (some ⟨gv, 0, none⟩) V.length vc) V.length (V'.map (Value.int .i64)) → Below w.heap.size w W → GivesTV w (.returned (.tuple #[.slice tA T.length tc, .slice (some ⟨gv, 0, none⟩) V.length vc])) W := fun W h1 h2 h3 => by
            refine ⟨_, _, T, V', rfl, hT41, HI.out, by have := HL.out; omega, HS.out.i64 (by omega), h1, ?_, h3⟩
            rw [HL.out]
            exact h2
          by_cases hlt : (i : Int) < (V.length : Int)
          · have tl : decide ((i : Int) < (V.length : Int)) = true := decide_eq_true hlt
            by_cases hp : (0 : Int) < (i : Int)
            · have tp : decide ((0 : Int) < (i : Int)) = true := decide_eq_true hp
              obtain ⟨x, hx⟩ : ∃ x, V'[i]? = some x := ⟨_, List.getElem?_eq_getElem (by have := HL.out; omega)⟩
              have ck : wr.cell? ⟨gv, i, none⟩ = some (.int .i64 x) := ownAt oV i _ (by rw [List.getElem?_map, hx]; rfl)
              have cf := ownFree oV i
              have hxb := HS.out.at_ hx
              have HX := Lib.hid hx
              have kn : ((i : Int)).toNat = i := Int.toNat_natCast i
              clear hx RT
              go_wp2_with fail
              go_roundw
              case rel =>
                refine ⟨i + 1, V'.set i (x + 5), by simp, by omega, Lib.hid (by have := HL.out; simp; omega), Lib.hid (HS.out.put (by omega) (by omega) (by omega)), ownGrown oT (gSet (grownRefl _ _) (Or.inl rfl) _) (ownNo (fun q hq => HTG.out q hq)), ownSet oV (by omega), by repeat' (first | (with_reducible exact Below.refl _ _) | (with_reducible assumption) | (with_reducible refine Below.alloc ?_ ?_ _) | (with_reducible refine Below.drew ?_) | (with_reducible refine belowDraws ?_ _) | (with_reducible refine Below.setCell ?_ ?_ _) | omega | (simp; done) | (simp; omega))⟩
              case measure => simp [intOf]; omega
            · have tp : decide ((0 : Int) < (i : Int)) = false := decide_eq_false hp
              clear HL HS
              go_wp2_with fail
              (refine bodyPost_ret (v := .tuple #[.slice tA T.length tc, .slice (some ⟨gv, 0, none⟩) V.length vc]) ?_ rfl ?_; (focus (simp [results, Tryd.results34, go_sem]; done)))
              exact RT _ oT oV hB
          · have tl : decide ((i : Int) < (V.length : Int)) = false := decide_eq_false hlt
            clear HL HS
            go_wp2_with fail
            (refine bodyPost_ret (v := .tuple #[.slice tA T.length tc, .slice (some ⟨gv, 0, none⟩) V.length vc]) ?_ rfl ?_; (focus (simp [results, Tryd.results34, go_sem]; done)))
            exact RT _ oT oV hB
      · have t1 : (v4 == 1) = false := by simpa using q1
        have R0 : ∀ W, W.ownsRow w.heap.size 26 3 (.slice tA T.length tc) T.length (cells3 T) → W.ownsRow w.heap.size 2 1 (.slice (some ⟨gv, 0, none⟩) V.length vc) V.length (V.map (Value.int .i64)) → Below w.heap.size w W → GivesTV w (.returned (.tuple #[.slice tA T.length tc, .slice (some ⟨gv, 0, none⟩) V.length vc])) W := fun W h1 h2 h3 => ⟨_, _, T, V, rfl, hT41, HI.out, by omega, HSV.out.i64 (by omega), h1, h2, h3⟩
        by_cases q2 : v4 = 2
        · have t2 : (v4 == 2) = true := beq_iff_eq.2 q2
          clear q0 q1 q2
          go_wp2_with fail
          refine (l01Next_any _ b A n c l _ hl hn h8 S4).mono ?_
          rintro e w6 ⟨v6, rfl, lo6, hi6, S6, g6⟩
          have y6 := S6.inside
          have z6 := g6.size
          have oT6 := ownGrown oT4 g6 (ownNo (fun q hq => HTB.out q hq))
          have oV6 := ownGrown oV4 g6 (ownNo (fun q hq => HVB.out q hq))
          have B6 : Below w.heap.size w w6 := B4.trans (gBelow g6 hbw B4.size)
          have hv6 : v6 ≤ 3 := by omega
          clear g6 hi6
          by_cases q6 : v6 = 0
          · have t6 : (v6 == 0) = true := beq_iff_eq.2 q6
            have i0 : (0 : Int) ≤ (k : Int) := by omega
            have i1 : (k : Int) ≤ (vc : Int) := by omega
            have kn : ((k : Int)).toNat = k := Int.toNat_natCast k
            have R1 := Lib.hid (show GivesTV w (.returned (.tuple #[.slice tA T.length tc, .slice (some ⟨gv, 0, none⟩) k vc])) w6.drew from ⟨_, _, T, V.take k, rfl, hT41, HI.out, by simp; omega, (show SmallV 2000 (V.take k) from fun x hx => HSV2.out x (List.mem_of_mem_take hx)).i64 (by omega), ownDrewI oT6, by have := ownDrewI (ownCut oV6 (Nat.le_of_lt hk)); rw [List.length_take, Nat.min_eq_left (Nat.le_of_lt hk)]; exact this, by repeat' (first | (with_reducible exact Below.refl _ _) | (with_reducible assumption) | (with_reducible refine Below.alloc ?_ ?_ _) | (with_reducible refine Below.drew ?_) | (with_reducible refine belowDraws ?_ _) | (with_reducible refine Below.setCell ?_ ?_ _) | omega | (simp; done) | (simp; omega))⟩)
            clear q6 R0
            go_wp2_with fail
            go_region
            all_goals go_wp2_with fail
            all_goals (refine bodyPost_ret (v := .tuple #[.slice tA T.length tc, .slice (some ⟨gv, 0, none⟩) k vc]) ?_ rfl ?_; (focus (simp [results, Tryd.results34, go_sem]; done)))
            all_goals exact R1.out
          · have t6 : (v6 == 0) = false := by simpa using q6
            clear q6
            go_wp2_with fail
            (refine bodyPost_ret (v := .tuple #[.slice tA T.length tc, .slice (some ⟨gv, 0, none⟩) V.length vc]) ?_ rfl ?_; (focus (simp [results, Tryd.results34, go_sem]; done)))
            exact R0 _ oT6 oV6 B6
        · have t2 : (v4 == 2) = false := by simpa using q2
          clear q0 q1 q2
          go_wp2_with fail
          (refine bodyPost_ret (v := .tuple #[.slice tA T.length tc, .slice (some ⟨gv, 0, none⟩) V.length vc]) ?_ rfl ?_; (focus (simp [results, Tryd.results34, go_sem]; done)))
          exact R0 _ oT4 oV4 B4
  · have tc0 : (code != 0) = true := by simpa using hc
    clear hc RZ
    go_wp2_with fail
    (refine bodyPost_ret (v := .tuple #[.slice tA T.length tc, .slice (some ⟨w2.heap.size, 0, none⟩) 1 1]) ?_ rfl ?_; (focus (simp [results, Tryd.results34, go_sem]; done)))
    refine ⟨_, _, T, [0], rfl, hT41, HI.out, by simp, fun x hx => by simp at hx; subst hx; unfold I64; omega, ownOver oT2 (by repeat' (first | (with_reducible exact Below.refl _ _) | (with_reducible assumption) | (with_reducible refine Below.alloc ?_ ?_ _) | (with_reducible refine Below.drew ?_) | (with_reducible refine belowDraws ?_ _) | (with_reducible refine Below.setCell ?_ ?_ _) | omega | (simp; done) | (simp; omega))), ?_, by repeat' (first | (with_reducible exact Below.refl _ _) | (with_reducible assumption) | (with_reducible refine Below.alloc ?_ ?_ _) | (with_reducible refine Below.drew ?_) | (with_reducible refine belowDraws ?_ _) | (with_reducible refine Below.setCell ?_ ?_ _) | omega | (simp; done) | (simp; omega))⟩
    exact ownLower (ownOfFull (n := 1) (size := 1) (xs := [.int .i64 0]) (Full.made _ _ _) rfl (by unfold maxLen; omega)) B2.size
end Go.Proofs.YtpbhncgjnmaojaaDoor

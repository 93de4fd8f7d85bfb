/- The law FnTicks (layer 8). No condition. -/
import Derived.Test.YtkblmcpklpmobaaDr6
import Derived.Test.YtkblmcpklpmobaaTi
import Derived.Test.YtkblmcpklpmobaaCh
import Derived.Test.YtkblmcpklpmobaaLike
import Derived.Test.YtkblmcpklpmobaaFm
namespace Go.Proofs.Ytkblmcpklpmobaa
open Go.RowKit
set_option linter.unusedVariables false
set_option linter.unusedSimpArgs false

theorem counts_sum (m : List Int) : cntH m 0 + cntH m 1 + cntH m 2 + cntH m 3 + cntH m 4 = m.length := by
  induction m with
  | nil => rfl
  | cons y m ih =>
    have hb := heightOf_bd y
    simp only [cntH, List.filter_cons] at *
    rcases (show heightOf y = 0 ∨ heightOf y = 1 ∨ heightOf y = 2 ∨ heightOf y = 3 ∨ heightOf y = 4 by omega) with h | h | h | h | h <;> simp [h] at * <;> omega
theorem ticks_ok {l T : List (Int × Int × Int)} {s len lo hi : Int} (h : rTicks l s len lo hi = (T, 0)) : (∀ p ∈ T, rHeight p.1 = (p.2.2, 0) ∧ rMark l p.1 = (true, 0)) ∧ Srt plcOf T 0 T.length := by
  rw [rTicks] at h
  split at h
  · rename_i hg
    split at h
    · rename_i hb
      split at h
      · simp only [Prod.mk.injEq, and_true] at h
        subst h
        refine ⟨fun p hp => ?_, ticksIn_srt _ _ _⟩
        obtain ⟨x, hx, rfl⟩ := ticksIn_mem hp
        obtain ⟨hm, hlo, hhi⟩ := keepL_mem hx
        simp only [Bool.and_eq_true] at hb
        have a := inB_iff.1 hb.1.2
        have b := inB_iff.1 hb.2
        refine ⟨?_, ?_⟩
        · show rHeight x = (heightOf x, 0)
          rw [rHeight, if_pos (inB_iff.2 ⟨by omega, by omega⟩)]
        · show rMark l x = (true, 0)
          rw [rMark, if_pos hg, decide_eq_true hm]
      · simp at h
    · simp at h
  · simp at h
theorem counts_ok {l : List (Int × Int × Int)} {K : List Int} (h : rCounts l = (K, 0)) : rCount l = (K.sum, 0) ∧ K.length = 5 ∧ ∀ x ∈ K, 0 ≤ x ∧ x ≤ 108000 := by
  rw [rCounts] at h
  split at h
  · rename_i hg
    simp only [Prod.mk.injEq, and_true] at h
    subst h
    obtain ⟨hp, _, h12⟩ := gradB_in hg
    have hm := marks_count hp
    have hl := marks_length hp
    refine ⟨?_, countsOf_length _, fun x hx => ?_⟩
    · rw [rCount, if_pos hg]
      have := counts_sum (marks l)
      congr 1
      rw [← hm, ← this]
      simp [countsOf, List.range_succ]
      omega
    · obtain ⟨q, _, rfl⟩ := List.mem_map.1 hx
      have := cntH_bd (marks l) q
      omega
  · simp at h
theorem sum_take {l : List Int} {k : Nat} {x : Int} (h : l[k]? = some x) : (l.take (k + 1)).sum = (l.take k).sum + x := by
  rw [List.take_add_one, h]
  simp
theorem sum_bd {l : List Int} (h : ∀ x ∈ l, 0 ≤ x ∧ x ≤ 108000) : ∀ k, 0 ≤ (l.take k).sum ∧ (l.take k).sum ≤ 108000 * (k : Int)
  | 0 => by simp
  | k + 1 => by
    have ih := sum_bd h k
    cases hk : l[k]? with
    | none => rw [List.take_add_one, hk]; simp; omega
    | some x =>
      rw [sum_take hk]
      have := h x (List.mem_of_getElem? hk)
      omega
set_option maxHeartbeats 1000000 in
theorem sum_any (A : Option Addr) (n c : Nat) (l : List Int) (w : World) (B : Nat) (hl : l.length = n) (hn : n ≤ 1000) (hs : Sees w B A (l.map (Value.int .i64))) (hb : ∀ x ∈ l, 0 ≤ x ∧ x ≤ 108000) :
    Calls Try.prog 58 #[.slice A n c] w fun e w' => e = .returned (.int .i64 l.sum) ∧ w = w' := by
  have HB := Lib.hid hb
  clear hb
  go_enter Try.func58, Try.ntmps58
  go_wp2
  go_loop [3, 4] (fun q i => ∃ k : Nat, k ≤ n ∧ i = .int .i64 k ∧ q = .int .i64 (l.take k).sum) (fun _ i => n - (intOf i).toNat)
  case atStart => exact ⟨0, Nat.zero_le _, rfl, rfl⟩
  case round =>
    obtain ⟨k, hk, rfl, rfl⟩ := hrel
    have sb := sum_bd HB.out k
    by_cases hlt : k < n
    · obtain ⟨b, off, x, rfl, _, hx, c0⟩ := hs.one (k := k) (by omega)
      have hxb := HB.out x (List.mem_of_getElem? hx)
      have HS := Lib.hid (sum_take hx)
      have i0 : (0 : Int) ≤ (k : Int) := by omega
      have i1 : (k : Int) < (n : Int) := by omega
      clear hx hs hl
      generalize (l.take k).sum = q at *
      go_wp2
      go_round
      case rel => exact ⟨k + 1, by omega, by go_num, by rw [HS.out]⟩
      case measure => simp [intOf]; omega
    · obtain rfl : k = n := by omega
      have HT := Lib.hid (show (l.take k).sum = l.sum by rw [List.take_of_length_le (by omega)])
      clear hs hl
      go_wp2
      go_ret
      exact ⟨endInt HT.out, rfl⟩
set_option maxRecDepth 100000 in
set_option maxHeartbeats 8000000 in
theorem fnTicks_walk (A : Option Addr) (n c : Nat) (l : List Int) (w : World) (hl : l.length = n) (_hc : n ≤ c) (hm : c ≤ maxLen) (hs : Sees w w.heap.size A (l.map (Value.int .u8))) (h8 : U8s l) :
    Calls Try.prog 7 #[.slice A n c] w fun e w' => e = .returned (.bool true) ∧ Below w.heap.size w w' := by
  unfold maxLen at hm
  have BG := fun W => big_small A n c W (by omega)
  by_cases hbig : 4096 < n
  · rw [show decide (4096 < n) = true from decide_eq_true hbig] at BG
    go_enter Try.func7, Try.ntmps7
    go_wp2_with (go_at_call 9; refine (BG _).mono ?_; rintro e w' ⟨rfl, rfl⟩)
    go_ret
    exact ⟨rfl, Below.refl _ _⟩
  · rw [show decide (4096 < n) = false from decide_eq_false hbig] at BG
    have hn : n ≤ 1048576 := by omega
    go_enter Try.func7, Try.ntmps7
    go_wp2_with (go_at_call 9; refine (BG _).mono ?_; rintro e w' ⟨rfl, rfl⟩)
    clear BG
    go_wp2_with fail
    refine ((DrawTicksOf_any A n c l _ hl hn h8 hs).mono fun e w' h => GivesGM.four h).mono ?_
    rintro e w1 ⟨g, G, sc, len, lo, hi, rfl, g12, gI, og, hb1⟩
    obtain ⟨gA, gc, rfl⟩ := ownShape og
    have B1 : Below w.heap.size w w1 := (Below.refl w.heap.size w).trans (hb1.mono (Below.refl w.heap.size w).size)
    clear hb1
    have I1 := fun W hW => iTicksOf_any gA G.length gc G sc len lo hi W rfl (by omega) hW gI
    have S1 := fun W hW => sTicksOf_any gA G.length gc G sc len lo hi W rfl (by omega) hW gI
    obtain ⟨⟨T, bad⟩, H1⟩ : ∃ p, Hid (rTicks G sc len lo hi = p) := ⟨_, Lib.hid rfl⟩
    rw [H1.out] at I1 S1
    simp only at I1 S1
    go_wp2_with fail
    refine (I1 _ (Sees.ofOwn og)).mono ?_
    rintro e w2 ⟨x, rfl, ox, hb2⟩
    replace og := ownOver og hb2
    obtain ⟨xA, xc, rfl⟩ := ownShape ox
    have B2 : Below w.heap.size w w2 := B1.trans (hb2.mono B1.size)
    clear hb2
    go_wp2_with fail
    refine (S1 _ (Sees.ofOwn og)).mono ?_
    rintro e w3 ⟨y, rfl, oy, hb3⟩
    replace og := ownOver og hb3
    replace ox := ownOver ox hb3
    obtain ⟨yA, yc, rfl⟩ := ownShape oy
    have B3 : Below w.heap.size w w3 := B2.trans (hb3.mono B2.size)
    clear hb3
    go_wp2_with fail
    refine (DrawTickHeight_any A n c l _ hl hn h8 ((hs.over B3).wider B3.size)).mono ?_
    rintro e w4 ⟨k, rfl, hb4⟩
    replace og := ownOver og hb4
    replace ox := ownOver ox hb4
    replace oy := ownOver oy hb4
    have B4 : Below w.heap.size w w4 := B3.trans (hb4.mono B3.size)
    clear hb4
    have I2 := fun W => iTickHeight_any k W
    have S2 := fun W => sTickHeight_any k W
    obtain ⟨⟨m2, one⟩, H2⟩ : ∃ p, Hid (rHeight k = p) := ⟨_, Lib.hid rfl⟩
    rw [H2.out] at I2 S2
    simp only at I2 S2
    go_wp2_with fail
    refine (I2 _).mono ?_
    rintro e w5 ⟨rfl, hb5⟩
    replace og := ownOver og hb5
    replace ox := ownOver ox hb5
    replace oy := ownOver oy hb5
    have B5 : Below w.heap.size w w5 := B4.trans (hb5.mono B4.size)
    clear hb5
    go_wp2_with fail
    refine (S2 _).mono ?_
    rintro e w6 ⟨rfl, hb6⟩
    replace og := ownOver og hb6
    replace ox := ownOver ox hb6
    replace oy := ownOver oy hb6
    have B6 : Below w.heap.size w w6 := B5.trans (hb6.mono B5.size)
    clear hb6
    go_wp2_with fail
    refine ((DrawCountHeights_any A n c l _ hl hn h8 ((hs.over B6).wider B6.size)).mono fun e w' h => GivesGN.none h).mono ?_
    rintro e w7 ⟨d, D, rfl, d12, dI, od, hb7⟩
    replace og := ownOver og hb7
    replace ox := ownOver ox hb7
    replace oy := ownOver oy hb7
    obtain ⟨dA, dc, rfl⟩ := ownShape od
    have B7 : Below w.heap.size w w7 := B6.trans (hb7.mono B6.size)
    clear hb7
    have I3 := fun W hW => iCountHeights_any dA D.length dc D W rfl (by omega) hW dI
    have S3 := fun W hW => sCountHeights_any dA D.length dc D W rfl (by omega) hW dI
    obtain ⟨⟨K, three⟩, H3⟩ : ∃ p, Hid (rCounts D = p) := ⟨_, Lib.hid rfl⟩
    rw [H3.out] at I3 S3
    simp only at I3 S3
    go_wp2_with fail
    refine (I3 _ (Sees.ofOwn od)).mono ?_
    rintro e w8 ⟨u, rfl, ou, hb8⟩
    replace og := ownOver og hb8
    replace ox := ownOver ox hb8
    replace oy := ownOver oy hb8
    replace od := ownOver od hb8
    obtain ⟨uA, uc, rfl⟩ := ownShape ou
    have B8 : Below w.heap.size w w8 := B7.trans (hb8.mono B7.size)
    clear hb8
    go_wp2_with fail
    refine (S3 _ (Sees.ofOwn od)).mono ?_
    rintro e w9 ⟨v, rfl, ov, hb9⟩
    replace og := ownOver og hb9
    replace ox := ownOver ox hb9
    replace oy := ownOver oy hb9
    replace od := ownOver od hb9
    replace ou := ownOver ou hb9
    obtain ⟨vA, vc, rfl⟩ := ownShape ov
    have B9 : Below w.heap.size w w9 := B8.trans (hb9.mono B8.size)
    clear hb9
    have hTl : T.length ≤ 1048576 := by have := rTicks_len G sc len lo hi; rw [H1.out] at this; exact this
    have hKl : K.length ≤ 1048576 := by have := rCounts_len D; rw [H3.out] at this; exact this
    have N1 := Lib.hid (fun (h : bad = 0) => ticks_ok (H1.out.trans (by rw [h])))
    have N3 := Lib.hid (fun (h : three = 0) => counts_ok (H3.out.trans (by rw [h])))
    have I4 := fun W hW => iCountMarks_any dA D.length dc D W rfl (by omega) hW dI
    clear I1 S1 I2 S2 I3 S3 hl h8 hs
    go_wp2_with fail
    refine (likeTicks_same _ _ _ _ _ T _ rfl hTl (Sees.ofOwn ox) (Sees.ofOwn oy)).mono ?_
    rintro e w10 ⟨rfl, hb10⟩
    replace og := ownOver og hb10
    replace ox := ownOver ox hb10
    replace oy := ownOver oy hb10
    replace od := ownOver od hb10
    replace ou := ownOver ou hb10
    replace ov := ownOver ov hb10
    have B10 : Below w.heap.size w w10 := B9.trans (hb10.mono B9.size)
    clear hb10
    go_wp2_with fail
    refine (likeInts_same _ _ _ _ _ K _ rfl hKl (Sees.ofOwn ou) (Sees.ofOwn ov)).mono ?_
    rintro e w11 ⟨rfl, hb11⟩
    replace og := ownOver og hb11
    replace ox := ownOver ox hb11
    replace oy := ownOver oy hb11
    replace od := ownOver od hb11
    replace ou := ownOver ou hb11
    replace ov := ownOver ov hb11
    have B11 : Below w.heap.size w w11 := B10.trans (hb11.mono B10.size)
    clear hb11
    clear oy ov
    by_cases h3 : three = 0
    · have t3 : (three == 0) = true := beq_iff_eq.2 h3
      obtain ⟨f1, f2, f3⟩ := N3.out h3
      rw [f1] at I4
      simp only at I4
      have HF3 := Lib.hid f3
      have hK5 : K.length ≤ 1000 := by omega
      clear h3 f1 f2 f3 N3
      go_wp2_with fail
      refine (I4 _ (Sees.ofOwn od)).mono ?_
      rintro e w12 ⟨rfl, hb12⟩
      replace og := ownOver og hb12
      replace ox := ownOver ox hb12
      replace od := ownOver od hb12
      replace ou := ownOver ou hb12
      have B12 : Below w.heap.size w w12 := B11.trans (hb12.mono B11.size)
      clear hb12
      have SU := fun W B hW => sum_any uA K.length uc K W B rfl hK5 hW HF3.out
      generalize K.sum = ks at *
      go_wp2_with fail
      refine (SU _ _ (Sees.ofOwn ou)).mono ?_
      rintro e w' ⟨rfl, rfl⟩
      clear SU I4 ou od
      have ox2 := Sees.ofOwn ox
      obtain ⟨w0, rfl⟩ : ∃ w0 : World, w0 = w12 := ⟨_, rfl⟩
      by_cases h1 : bad = 0
      · have t1 : (bad == 0) = true := beq_iff_eq.2 h1
        obtain ⟨hT, hsr⟩ := N1.out h1
        have HT := Lib.hid hT
        have HSR := Lib.hid (show ∀ p q x y, 0 ≤ p → p < q → q < T.length → T[p]? = some x → T[q]? = some y → x.2.1 ≤ y.2.1 from hsr)
        clear h1 hT hsr N1
        go_wp2_with fail
        go_loopw [24] (fun iv wr => ∃ j : Nat, iv = .int .i64 j ∧ j ≤ T.length ∧ Below w0.heap.size w0 wr) (fun iv _ => T.length - (intOf iv).toNat)
        case atStart => exact ⟨0, rfl, Nat.zero_le _, Below.refl _ _⟩
        case round =>
          obtain ⟨j, rfl, hj, hW⟩ := hrel
          have hz := hW.size
          by_cases hlt : j < T.length
          · have i0 : (0 : Int) ≤ (j : Int) := by omega
            have i1 : (j : Int) < (T.length : Int) := by omega
            obtain ⟨tb, tof, p, rfl, htb, hp, c0, c1, c2⟩ := ox2.three (k := j) hlt
            obtain ⟨e1, e2⟩ := HT.out p (List.mem_of_getElem? hp)
            have HP := Lib.hid hp
            obtain ⟨p0, p1, p2⟩ := p
            simp only at c0 c1 c2 e1 e2
            have d0 := (hW.cell (p := ⟨tb, tof + j * 3, none⟩) htb).trans c0
            have E1 := Lib.hid (And.intro e1 e2)
            clear e1 e2 hp
            by_cases hj0 : j = 0
            · subst hj0
              have d00 : wr.cell? ⟨tb, tof, none⟩ = some (.int .i64 p0) := d0
              have J5 := fun W => iTickHeight_any p0 W
              have J6 := fun W hW => iIsMark_any gA G.length gc G p0 W rfl (by omega) hW gI
              rw [E1.out.1] at J5
              rw [E1.out.2] at J6
              simp only at J5 J6
              have og3 := ownOver og hW
              clear ox2
              go_wp2_with fail
              refine (J5 _).mono ?_
              rintro e w8 ⟨rfl, hb8⟩
              have HWX : Below w0.heap.size w0 w8 := hW.trans (hb8.mono hW.size)
              have f0 := (HWX.cell (p := ⟨tb, tof + 0 * 3, none⟩) htb).trans c0
              have f0z : w8.cell? ⟨tb, tof, none⟩ = some (.int .i64 p0) := by simpa using f0
              have og4 := ownOver og3 hb8
              clear d0 hb8 og3 J5
              go_wp2_with fail
              refine (J6 _ (Sees.ofOwn og4)).mono ?_
              rintro e w9 ⟨rfl, hb9⟩
              replace HWX : Below w0.heap.size w0 w9 := HWX.trans (hb9.mono HWX.size)
              have g1 := (HWX.cell (p := ⟨tb, tof + 0 * 3 + 1, none⟩) htb).trans c1
              have g1z : w9.cell? ⟨tb, tof + 1, none⟩ = some (.int .i64 p1) := by simpa using g1
              have g2 := (HWX.cell (p := ⟨tb, tof + 0 * 3 + 2, none⟩) htb).trans c2
              have g2z : w9.cell? ⟨tb, tof + 2, none⟩ = some (.int .i64 p2) := by simpa using g2
              clear hb9 og4 J6 f0
              go_wp2_with fail
              go_quiet (fail)
              go_wp2_with fail
              go_roundw
              case rel => exact ⟨1, by go_num, by omega, belowDraws HWX _⟩
              case measure => simp [intOf]; omega
            · obtain ⟨j', rfl⟩ : ∃ j', j = j' + 1 := ⟨j - 1, by omega⟩
              obtain ⟨tb', tof', p', hA, htb', hp', c0', c1', c2'⟩ := ox2.three (k := j') (by omega)
              injection hA with hA
              injection hA with hA1 hA2
              subst hA1 hA2
              have le0 : p'.2.1 ≤ p1 := HSR.out j' (j' + 1) p' _ (Nat.zero_le _) (by omega) hlt hp' HP.out
              obtain ⟨p0', p1', p2'⟩ := p'
              simp only at c0' c1' c2' le0
              have i2 : (j' : Int) < (T.length : Int) := by omega
              have i3 : (0 : Int) ≤ (j' : Int) := by omega
              have n0 : ((j' : Int) + 1).toNat = j' + 1 := by omega
              have e0 : (j' : Int) + 1 - 1 = (j' : Int) := by omega
              have e4 : IntKind.i64.wrap ((j' : Int) + 1 - 1) = (j' : Int) := (IntWalk.i64_in _ (by omega)).trans e0
              have e5 : IntKind.i64.wrap (j' : Int) = (j' : Int) := IntWalk.i64_in _ (by omega)
              have t2 : decide (p1 < p1') = false := decide_eq_false (by omega)
              clear hp'
              have J5 := fun W => iTickHeight_any p0 W
              have J6 := fun W hW => iIsMark_any gA G.length gc G p0 W rfl (by omega) hW gI
              rw [E1.out.1] at J5
              rw [E1.out.2] at J6
              simp only at J5 J6
              have og3 := ownOver og hW
              clear ox2
              go_wp2_with fail
              refine (J5 _).mono ?_
              rintro e w8 ⟨rfl, hb8⟩
              have HWX : Below w0.heap.size w0 w8 := hW.trans (hb8.mono hW.size)
              have f0 := (HWX.cell (p := ⟨tb, tof + (j' + 1) * 3, none⟩) htb).trans c0
              have og4 := ownOver og3 hb8
              clear d0 hb8 og3 J5
              go_wp2_with fail
              refine (J6 _ (Sees.ofOwn og4)).mono ?_
              rintro e w9 ⟨rfl, hb9⟩
              replace HWX : Below w0.heap.size w0 w9 := HWX.trans (hb9.mono HWX.size)
              have g1 := (HWX.cell (p := ⟨tb, tof + (j' + 1) * 3 + 1, none⟩) htb).trans c1
              have g2 := (HWX.cell (p := ⟨tb, tof + (j' + 1) * 3 + 2, none⟩) htb).trans c2
              have g1' := (HWX.cell (p := ⟨tb, tof + j' * 3 + 1, none⟩) htb').trans c1'
              clear hb9 og4 J6 f0
              go_wp2_with fail
              go_quiet (fail)
              go_wp2_with fail
              go_roundw
              case rel => exact ⟨j' + 2, by go_num, by omega, belowDraws HWX _⟩
              case measure => simp [intOf]; omega
          · obtain rfl : j = T.length := by omega
            go_wp2_with fail
            go_ret
            exact ⟨rfl, B12.trans (hW.mono B12.size)⟩
      · have t1 : (bad == 0) = false := by simpa using h1
        clear h1 N1
        go_wp2_with fail
        go_loopw [24] (fun iv wr => iv = .int .i64 0 ∧ wr = w0) (fun iv _ => 0)
        case atStart => exact ⟨rfl, rfl⟩
        case round =>
          obtain ⟨rfl, rfl⟩ := hrel
          go_wp2_with fail
          go_ret
          exact ⟨rfl, B12⟩
    · have t3 : (three == 0) = false := by simpa using h3
      clear h3 N3 I4 ou od
      have ox2 := Sees.ofOwn ox
      obtain ⟨w0, rfl⟩ : ∃ w0 : World, w0 = w11 := ⟨_, rfl⟩
      by_cases h1 : bad = 0
      · have t1 : (bad == 0) = true := beq_iff_eq.2 h1
        obtain ⟨hT, hsr⟩ := N1.out h1
        have HT := Lib.hid hT
        have HSR := Lib.hid (show ∀ p q x y, 0 ≤ p → p < q → q < T.length → T[p]? = some x → T[q]? = some y → x.2.1 ≤ y.2.1 from hsr)
        clear h1 hT hsr N1
        go_wp2_with fail
        go_loopw [24] (fun iv wr => ∃ j : Nat, iv = .int .i64 j ∧ j ≤ T.length ∧ Below w0.heap.size w0 wr) (fun iv _ => T.length - (intOf iv).toNat)
        case atStart => exact ⟨0, rfl, Nat.zero_le _, Below.refl _ _⟩
        case round =>
          obtain ⟨j, rfl, hj, hW⟩ := hrel
          have hz := hW.size
          by_cases hlt : j < T.length
          · have i0 : (0 : Int) ≤ (j : Int) := by omega
            have i1 : (j : Int) < (T.length : Int) := by omega
            obtain ⟨tb, tof, p, rfl, htb, hp, c0, c1, c2⟩ := ox2.three (k := j) hlt
            obtain ⟨e1, e2⟩ := HT.out p (List.mem_of_getElem? hp)
            have HP := Lib.hid hp
            obtain ⟨p0, p1, p2⟩ := p
            simp only at c0 c1 c2 e1 e2
            have d0 := (hW.cell (p := ⟨tb, tof + j * 3, none⟩) htb).trans c0
            have E1 := Lib.hid (And.intro e1 e2)
            clear e1 e2 hp
            by_cases hj0 : j = 0
            · subst hj0
              have d00 : wr.cell? ⟨tb, tof, none⟩ = some (.int .i64 p0) := d0
              have J5 := fun W => iTickHeight_any p0 W
              have J6 := fun W hW => iIsMark_any gA G.length gc G p0 W rfl (by omega) hW gI
              rw [E1.out.1] at J5
              rw [E1.out.2] at J6
              simp only at J5 J6
              have og3 := ownOver og hW
              clear ox2
              go_wp2_with fail
              refine (J5 _).mono ?_
              rintro e w8 ⟨rfl, hb8⟩
              have HWX : Below w0.heap.size w0 w8 := hW.trans (hb8.mono hW.size)
              have f0 := (HWX.cell (p := ⟨tb, tof + 0 * 3, none⟩) htb).trans c0
              have f0z : w8.cell? ⟨tb, tof, none⟩ = some (.int .i64 p0) := by simpa using f0
              have og4 := ownOver og3 hb8
              clear d0 hb8 og3 J5
              go_wp2_with fail
              refine (J6 _ (Sees.ofOwn og4)).mono ?_
              rintro e w9 ⟨rfl, hb9⟩
              replace HWX : Below w0.heap.size w0 w9 := HWX.trans (hb9.mono HWX.size)
              have g1 := (HWX.cell (p := ⟨tb, tof + 0 * 3 + 1, none⟩) htb).trans c1
              have g1z : w9.cell? ⟨tb, tof + 1, none⟩ = some (.int .i64 p1) := by simpa using g1
              have g2 := (HWX.cell (p := ⟨tb, tof + 0 * 3 + 2, none⟩) htb).trans c2
              have g2z : w9.cell? ⟨tb, tof + 2, none⟩ = some (.int .i64 p2) := by simpa using g2
              clear hb9 og4 J6 f0
              go_wp2_with fail
              go_quiet (fail)
              go_wp2_with fail
              go_roundw
              case rel => exact ⟨1, by go_num, by omega, belowDraws HWX _⟩
              case measure => simp [intOf]; omega
            · obtain ⟨j', rfl⟩ : ∃ j', j = j' + 1 := ⟨j - 1, by omega⟩
              obtain ⟨tb', tof', p', hA, htb', hp', c0', c1', c2'⟩ := ox2.three (k := j') (by omega)
              injection hA with hA
              injection hA with hA1 hA2
              subst hA1 hA2
              have le0 : p'.2.1 ≤ p1 := HSR.out j' (j' + 1) p' _ (Nat.zero_le _) (by omega) hlt hp' HP.out
              obtain ⟨p0', p1', p2'⟩ := p'
              simp only at c0' c1' c2' le0
              have i2 : (j' : Int) < (T.length : Int) := by omega
              have i3 : (0 : Int) ≤ (j' : Int) := by omega
              have n0 : ((j' : Int) + 1).toNat = j' + 1 := by omega
              have e0 : (j' : Int) + 1 - 1 = (j' : Int) := by omega
              have e4 : IntKind.i64.wrap ((j' : Int) + 1 - 1) = (j' : Int) := (IntWalk.i64_in _ (by omega)).trans e0
              have e5 : IntKind.i64.wrap (j' : Int) = (j' : Int) := IntWalk.i64_in _ (by omega)
              have t2 : decide (p1 < p1') = false := decide_eq_false (by omega)
              clear hp'
              have J5 := fun W => iTickHeight_any p0 W
              have J6 := fun W hW => iIsMark_any gA G.length gc G p0 W rfl (by omega) hW gI
              rw [E1.out.1] at J5
              rw [E1.out.2] at J6
              simp only at J5 J6
              have og3 := ownOver og hW
              clear ox2
              go_wp2_with fail
              refine (J5 _).mono ?_
              rintro e w8 ⟨rfl, hb8⟩
              have HWX : Below w0.heap.size w0 w8 := hW.trans (hb8.mono hW.size)
              have f0 := (HWX.cell (p := ⟨tb, tof + (j' + 1) * 3, none⟩) htb).trans c0
              have og4 := ownOver og3 hb8
              clear d0 hb8 og3 J5
              go_wp2_with fail
              refine (J6 _ (Sees.ofOwn og4)).mono ?_
              rintro e w9 ⟨rfl, hb9⟩
              replace HWX : Below w0.heap.size w0 w9 := HWX.trans (hb9.mono HWX.size)
              have g1 := (HWX.cell (p := ⟨tb, tof + (j' + 1) * 3 + 1, none⟩) htb).trans c1
              have g2 := (HWX.cell (p := ⟨tb, tof + (j' + 1) * 3 + 2, none⟩) htb).trans c2
              have g1' := (HWX.cell (p := ⟨tb, tof + j' * 3 + 1, none⟩) htb').trans c1'
              clear hb9 og4 J6 f0
              go_wp2_with fail
              go_quiet (fail)
              go_wp2_with fail
              go_roundw
              case rel => exact ⟨j' + 2, by go_num, by omega, belowDraws HWX _⟩
              case measure => simp [intOf]; omega
          · obtain rfl : j = T.length := by omega
            go_wp2_with fail
            go_ret
            exact ⟨rfl, B11.trans (hW.mono B11.size)⟩
      · have t1 : (bad == 0) = false := by simpa using h1
        clear h1 N1
        go_wp2_with fail
        go_loopw [24] (fun iv wr => iv = .int .i64 0 ∧ wr = w0) (fun iv _ => 0)
        case atStart => exact ⟨rfl, rfl⟩
        case round =>
          obtain ⟨rfl, rfl⟩ := hrel
          go_wp2_with fail
          go_ret
          exact ⟨rfl, B11⟩
end Go.Proofs.Ytkblmcpklpmobaa

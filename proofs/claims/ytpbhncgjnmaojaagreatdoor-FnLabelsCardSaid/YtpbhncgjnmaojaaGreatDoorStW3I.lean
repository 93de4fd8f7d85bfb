/- The library's stable sort at one instance: the whole. No condition. -/
import Derived.Test.YtpbhncgjnmaojaaGreatDoorStW2I
namespace Go.Proofs.YtpbhncgjnmaojaaGreatDoor
open Go.RowKit
set_option linter.unusedVariables false
set_option linter.unusedSimpArgs false
variable {N : Nat}
theorem srtPastI {key : Fin N → Int} {l : List (Fin N)} {a b : Nat} (h : l.length ≤ a) : Srt key l a b := fun p q x y h1 h2 h3 hx hy => absurd (List.getElem?_eq_some_iff.1 hx).1 (by omega)
theorem srtExtI {key : Fin N → Int} {l : List (Fin N)} {a b c : Nat} (h : Srt key l a b) (hb : l.length ≤ b) : Srt key l a c := fun p q x y h1 h2 h3 hx hy => h p q x y h1 h2 (Nat.lt_of_lt_of_le (List.getElem?_eq_some_iff.1 hy).1 hb) hx hy
set_option maxRecDepth 100000 in
set_option maxHeartbeats 8000000 in
theorem stableI_any (bx : Nat) (key : Fin N → Int) (g n cap : Nat) (l : List (Fin N)) (w : World) (hn160 : n ≤ 160) (hl : l.length = n) (hH : HdI cap w g l) (hC : CmpCI key bx g w) :
    Calls Tryz.prog 56 #[.slice (some ⟨g, 0, none⟩) n cap, .int .i64 (n : Int), .func (.func 44) #[] #[.pointer (some ⟨bx, 0, none⟩)]] w fun e w' => e = .returned (.tuple #[]) ∧ ∃ r, Stab key l r ∧ Srt key r 0 n ∧ HdI cap w' g r ∧ w.grownBy w' (some g) := by
  have HC := Lib.hid hC
  have hn : n ≤ 1000 := by omega
  clear hC
  go_enter Tryz.func56, Tryz.ntmps56
  go_wp2_with fail
  go_loopw [7, 8] (fun av bv wr => ∃ (a : Nat) (r : List (Fin N)), av = .int .i64 (a : Int) ∧ bv = .int .i64 ((a : Int) + 20) ∧ a ≤ n ∧ Hid (Stab key l r ∧ ∃ t, a = 20 * t ∧ ∀ i, i < t → Srt key r (20 * i) (20 * i + 20)) ∧ HdI cap wr g r ∧ w.grownBy wr (some g)) (fun av _ _ => n - (intOf av).toNat)
  case atStart => exact ⟨0, l, rfl, rfl, Nat.zero_le _, Lib.hid ⟨Stab.refl _, 0, by omega, (fun i hi => by omega)⟩, hH, grownRefl _ _⟩
  case round =>
    clear hH
    obtain ⟨a, r, rfl, rfl, han, HI, hH, hG⟩ := hrel
    have HR := Lib.hid (HI.out.1.length.symm.trans hl)
    by_cases hc : a + 20 ≤ n
    · go_wp2_with fail
      refine (insSortI_any a (a + 20) _ _ bx key g n cap r _ HR.out hn hH (HC.out.grown hG) rfl (by omega) (by omega) hc).mono ?_
      rintro e w4 ⟨rfl, r4, M4, H4, G4⟩
      have M4' := Lib.hid M4
      clear M4
      go_wp2_with fail
      go_roundw
      case rel =>
        refine ⟨a + 20, r4, congrArg (Value.int .i64) (by omega), congrArg (Value.int .i64) (by omega), hc, Lib.hid ⟨HI.out.1.trans M4'.out.1, ?_⟩, H4, grownTrans hG G4⟩
        obtain ⟨t, ht, h1⟩ := HI.out.2
        refine ⟨t + 1, by omega, fun i hi => ?_⟩
        by_cases e : i = t
        · subst e; rw [← ht]; exact M4'.out.2.1
        · exact (h1 i (by omega)).out M4'.out.2.2 (by omega)
      case measure => simp [intOf]; omega
    · have tb1 : decide ((a : Int) + 20 ≤ (n : Int)) = false := decide_eq_false (by omega)
      go_wp2_with fail
      refine (insSortI_any a n _ _ bx key g n cap r _ HR.out hn hH (HC.out.grown hG) rfl rfl han (Nat.le_refl _)).mono ?_
      rintro e w4 ⟨rfl, r4, M4, H4, G4⟩
      have HB := Lib.hid (show Stab key l r4 ∧ ∀ i, Srt key r4 (20 * i) (20 * i + 20) from ⟨HI.out.1.trans M4.1, fun i => by
        obtain ⟨t, ht, h1⟩ := HI.out.2
        have hr4 : r4.length = n := M4.1.length.symm.trans HR.out
        by_cases e : i < t
        · exact (h1 i e).out M4.2.2 (by omega)
        · by_cases e2 : i = t
          · subst e2; exact srtExtI (by rw [← ht]; exact M4.2.1) (by omega)
          · exact srtPastI (by omega)⟩)
      have G4' : w.grownBy w4 (some g) := grownTrans hG G4
      clear M4 G4 HI hH hG HR hc han
      go_wp2_with fail
      go_loopw [6] (fun zv wr => ∃ (z : Nat) (zz : Int) (r : List (Fin N)), zv = .int .i64 zz ∧ ((z = 20 ∧ zz = 20) ∨ (z = 40 ∧ zz = 40) ∨ (z = 80 ∧ zz = 80) ∨ (z = 160 ∧ zz = 160)) ∧ Hid (Stab key l r ∧ ∀ i, Srt key r (z * i) (z * i + z)) ∧ HdI cap wr g r ∧ w.grownBy wr (some g)) (fun zv _ => 160 - (intOf zv).toNat)
      case atStart => exact ⟨20, 20, r4, rfl, .inl ⟨rfl, rfl⟩, HB, H4, G4'⟩
      case round =>
        clear H4 G4' HB
        obtain ⟨z, zz, r, rfl, hz, HI, hH, hG⟩ := hrel
        have HR := Lib.hid (HI.out.1.length.symm.trans hl)
        by_cases hc : z < n
        · rcases hz with ⟨rfl, rfl⟩ | ⟨rfl, rfl⟩ | ⟨rfl, rfl⟩ | ⟨rfl, rfl⟩
          · have tb2 : decide ((20 : Int) < (n : Int)) = true := decide_eq_true (by omega)
            go_wp2_with fail
            go_loopw [7, 8] (fun av bv wr => ∃ (a : Nat) (r : List (Fin N)), av = .int .i64 (a : Int) ∧ bv = .int .i64 ((a : Int) + 40) ∧ a ≤ n ∧ Hid (Stab key l r ∧ ∃ t, a = 40 * t ∧ (∀ i, i < t → Srt key r (40 * i) (40 * i + 40)) ∧ ∀ i, 2 * t ≤ i → Srt key r (20 * i) (20 * i + 20)) ∧ HdI cap wr g r ∧ w.grownBy wr (some g)) (fun av _ _ => n - (intOf av).toNat)
            case atStart => exact ⟨0, r, rfl, rfl, Nat.zero_le _, Lib.hid ⟨HI.out.1, 0, by omega, (fun i hi => by omega), fun i _ => HI.out.2 i⟩, hH, hG⟩
            case round =>
              clear HI hH hG
              obtain ⟨a, r, rfl, rfl, han, HI, hH, hG⟩ := hrel
              have HR := Lib.hid (HI.out.1.length.symm.trans hl)
              by_cases hc : a + 40 ≤ n
              · go_wp2_with fail
                refine (symMergeI_any bx key g n cap hn 40 a (a + 20) (a + 40) _ _ _ r _ (by omega) rfl (by omega) (by omega) (by omega) (by omega) hc HR.out hH (HC.out.grown hG) ?_ ?_).mono ?_
                · obtain ⟨t, ht, _, h2⟩ := HI.out.2
                  have := h2 (2 * t) (Nat.le_refl _)
                  exact this.sub (by omega) (by omega)
                · obtain ⟨t, ht, _, h2⟩ := HI.out.2
                  have := h2 (2 * t + 1) (by omega)
                  exact this.sub (by omega) (by omega)
                rintro e w4 ⟨rfl, r4, M4, H4, G4⟩
                have M4' := Lib.hid M4
                clear M4
                go_wp2_with fail
                go_roundw
                case rel =>
                  refine ⟨a + 40, r4, congrArg (Value.int .i64) (by omega), congrArg (Value.int .i64) (by omega), hc, Lib.hid ⟨HI.out.1.trans M4'.out.1, ?_⟩, H4, grownTrans hG G4⟩
                  obtain ⟨t, ht, h1, h2⟩ := HI.out.2
                  refine ⟨t + 1, by omega, fun i hi => ?_, fun i hi => (h2 i (by omega)).out M4'.out.2.2 (by omega)⟩
                  by_cases e : i = t
                  · subst e; exact M4'.out.2.1.sub (by omega) (by omega)
                  · exact (h1 i (by omega)).out M4'.out.2.2 (by omega)
                case measure => simp [intOf]; omega
              · by_cases hm : a + 20 < n
                · go_wp2_with fail
                  refine (symMergeI_any bx key g n cap hn n a (a + 20) n _ _ _ r _ (by omega) rfl (by omega) rfl (by omega) hm (Nat.le_refl _) HR.out hH (HC.out.grown hG) ?_ ?_).mono ?_
                  · obtain ⟨t, ht, _, h2⟩ := HI.out.2
                    have := h2 (2 * t) (Nat.le_refl _)
                    exact this.sub (by omega) (by omega)
                  · obtain ⟨t, ht, _, h2⟩ := HI.out.2
                    have := h2 (2 * t + 1) (by omega)
                    exact this.sub (by omega) (by omega)
                  rintro e w4 ⟨rfl, r4, M4, H4, G4⟩
                  have M4' := Lib.hid M4
                  clear M4
                  go_wp2_with fail
                  go_roundw
                  case rel =>
                    refine ⟨40, _, r4, rfl, by omega, Lib.hid ⟨HI.out.1.trans M4'.out.1, fun i => ?_⟩, H4, grownTrans hG G4⟩
                    obtain ⟨t, ht, h1, h2⟩ := HI.out.2
                    have hr4 : r4.length = n := M4'.out.1.length.symm.trans HR.out
                    by_cases e : i < t
                    · exact (h1 i e).out M4'.out.2.2 (by omega)
                    · by_cases e2 : i = t
                      · subst e2; exact srtExtI (by rw [← ht]; exact M4'.out.2.1) (by omega)
                      · exact srtPastI (by omega)
                  case measure => simp [intOf]
                · go_wp2_with fail
                  go_roundw
                  case rel =>
                    refine ⟨40, _, r, rfl, by omega, Lib.hid ⟨HI.out.1, fun i => ?_⟩, hH, hG⟩
                    obtain ⟨t, ht, h1, h2⟩ := HI.out.2
                    have hr := HR.out
                    by_cases e : i < t
                    · exact h1 i e
                    · by_cases e2 : i = t
                      · subst e2
                        have := h2 (2 * i) (Nat.le_refl _)
                        exact srtExtI (this.sub (c := 40 * i) (by omega) (Nat.le_refl _)) (by omega)
                      · exact srtPastI (by omega)
                  case measure => simp [intOf]
          · have tb2 : decide ((40 : Int) < (n : Int)) = true := decide_eq_true (by omega)
            go_wp2_with fail
            go_loopw [7, 8] (fun av bv wr => ∃ (a : Nat) (r : List (Fin N)), av = .int .i64 (a : Int) ∧ bv = .int .i64 ((a : Int) + 80) ∧ a ≤ n ∧ Hid (Stab key l r ∧ ∃ t, a = 80 * t ∧ (∀ i, i < t → Srt key r (80 * i) (80 * i + 80)) ∧ ∀ i, 2 * t ≤ i → Srt key r (40 * i) (40 * i + 40)) ∧ HdI cap wr g r ∧ w.grownBy wr (some g)) (fun av _ _ => n - (intOf av).toNat)
            case atStart => exact ⟨0, r, rfl, rfl, Nat.zero_le _, Lib.hid ⟨HI.out.1, 0, by omega, (fun i hi => by omega), fun i _ => HI.out.2 i⟩, hH, hG⟩
            case round =>
              clear HI hH hG
              obtain ⟨a, r, rfl, rfl, han, HI, hH, hG⟩ := hrel
              have HR := Lib.hid (HI.out.1.length.symm.trans hl)
              by_cases hc : a + 80 ≤ n
              · go_wp2_with fail
                refine (symMergeI_any bx key g n cap hn 80 a (a + 40) (a + 80) _ _ _ r _ (by omega) rfl (by omega) (by omega) (by omega) (by omega) hc HR.out hH (HC.out.grown hG) ?_ ?_).mono ?_
                · obtain ⟨t, ht, _, h2⟩ := HI.out.2
                  have := h2 (2 * t) (Nat.le_refl _)
                  exact this.sub (by omega) (by omega)
                · obtain ⟨t, ht, _, h2⟩ := HI.out.2
                  have := h2 (2 * t + 1) (by omega)
                  exact this.sub (by omega) (by omega)
                rintro e w4 ⟨rfl, r4, M4, H4, G4⟩
                have M4' := Lib.hid M4
                clear M4
                go_wp2_with fail
                go_roundw
                case rel =>
                  refine ⟨a + 80, r4, congrArg (Value.int .i64) (by omega), congrArg (Value.int .i64) (by omega), hc, Lib.hid ⟨HI.out.1.trans M4'.out.1, ?_⟩, H4, grownTrans hG G4⟩
                  obtain ⟨t, ht, h1, h2⟩ := HI.out.2
                  refine ⟨t + 1, by omega, fun i hi => ?_, fun i hi => (h2 i (by omega)).out M4'.out.2.2 (by omega)⟩
                  by_cases e : i = t
                  · subst e; exact M4'.out.2.1.sub (by omega) (by omega)
                  · exact (h1 i (by omega)).out M4'.out.2.2 (by omega)
                case measure => simp [intOf]; omega
              · by_cases hm : a + 40 < n
                · go_wp2_with fail
                  refine (symMergeI_any bx key g n cap hn n a (a + 40) n _ _ _ r _ (by omega) rfl (by omega) rfl (by omega) hm (Nat.le_refl _) HR.out hH (HC.out.grown hG) ?_ ?_).mono ?_
                  · obtain ⟨t, ht, _, h2⟩ := HI.out.2
                    have := h2 (2 * t) (Nat.le_refl _)
                    exact this.sub (by omega) (by omega)
                  · obtain ⟨t, ht, _, h2⟩ := HI.out.2
                    have := h2 (2 * t + 1) (by omega)
                    exact this.sub (by omega) (by omega)
                  rintro e w4 ⟨rfl, r4, M4, H4, G4⟩
                  have M4' := Lib.hid M4
                  clear M4
                  go_wp2_with fail
                  go_roundw
                  case rel =>
                    refine ⟨80, _, r4, rfl, by omega, Lib.hid ⟨HI.out.1.trans M4'.out.1, fun i => ?_⟩, H4, grownTrans hG G4⟩
                    obtain ⟨t, ht, h1, h2⟩ := HI.out.2
                    have hr4 : r4.length = n := M4'.out.1.length.symm.trans HR.out
                    by_cases e : i < t
                    · exact (h1 i e).out M4'.out.2.2 (by omega)
                    · by_cases e2 : i = t
                      · subst e2; exact srtExtI (by rw [← ht]; exact M4'.out.2.1) (by omega)
                      · exact srtPastI (by omega)
                  case measure => simp [intOf]
                · go_wp2_with fail
                  go_roundw
                  case rel =>
                    refine ⟨80, _, r, rfl, by omega, Lib.hid ⟨HI.out.1, fun i => ?_⟩, hH, hG⟩
                    obtain ⟨t, ht, h1, h2⟩ := HI.out.2
                    have hr := HR.out
                    by_cases e : i < t
                    · exact h1 i e
                    · by_cases e2 : i = t
                      · subst e2
                        have := h2 (2 * i) (Nat.le_refl _)
                        exact srtExtI (this.sub (c := 80 * i) (by omega) (Nat.le_refl _)) (by omega)
                      · exact srtPastI (by omega)
                  case measure => simp [intOf]
          · have tb2 : decide ((80 : Int) < (n : Int)) = true := decide_eq_true (by omega)
            go_wp2_with fail
            go_loopw [7, 8] (fun av bv wr => ∃ (a : Nat) (r : List (Fin N)), av = .int .i64 (a : Int) ∧ bv = .int .i64 ((a : Int) + 160) ∧ a ≤ n ∧ Hid (Stab key l r ∧ ∃ t, a = 160 * t ∧ (∀ i, i < t → Srt key r (160 * i) (160 * i + 160)) ∧ ∀ i, 2 * t ≤ i → Srt key r (80 * i) (80 * i + 80)) ∧ HdI cap wr g r ∧ w.grownBy wr (some g)) (fun av _ _ => n - (intOf av).toNat)
            case atStart => exact ⟨0, r, rfl, rfl, Nat.zero_le _, Lib.hid ⟨HI.out.1, 0, by omega, (fun i hi => by omega), fun i _ => HI.out.2 i⟩, hH, hG⟩
            case round =>
              clear HI hH hG
              obtain ⟨a, r, rfl, rfl, han, HI, hH, hG⟩ := hrel
              have HR := Lib.hid (HI.out.1.length.symm.trans hl)
              by_cases hc : a + 160 ≤ n
              · go_wp2_with fail
                refine (symMergeI_any bx key g n cap hn 160 a (a + 80) (a + 160) _ _ _ r _ (by omega) rfl (by omega) (by omega) (by omega) (by omega) hc HR.out hH (HC.out.grown hG) ?_ ?_).mono ?_
                · obtain ⟨t, ht, _, h2⟩ := HI.out.2
                  have := h2 (2 * t) (Nat.le_refl _)
                  exact this.sub (by omega) (by omega)
                · obtain ⟨t, ht, _, h2⟩ := HI.out.2
                  have := h2 (2 * t + 1) (by omega)
                  exact this.sub (by omega) (by omega)
                rintro e w4 ⟨rfl, r4, M4, H4, G4⟩
                have M4' := Lib.hid M4
                clear M4
                go_wp2_with fail
                go_roundw
                case rel =>
                  refine ⟨a + 160, r4, congrArg (Value.int .i64) (by omega), congrArg (Value.int .i64) (by omega), hc, Lib.hid ⟨HI.out.1.trans M4'.out.1, ?_⟩, H4, grownTrans hG G4⟩
                  obtain ⟨t, ht, h1, h2⟩ := HI.out.2
                  refine ⟨t + 1, by omega, fun i hi => ?_, fun i hi => (h2 i (by omega)).out M4'.out.2.2 (by omega)⟩
                  by_cases e : i = t
                  · subst e; exact M4'.out.2.1.sub (by omega) (by omega)
                  · exact (h1 i (by omega)).out M4'.out.2.2 (by omega)
                case measure => simp [intOf]; omega
              · by_cases hm : a + 80 < n
                · go_wp2_with fail
                  refine (symMergeI_any bx key g n cap hn n a (a + 80) n _ _ _ r _ (by omega) rfl (by omega) rfl (by omega) hm (Nat.le_refl _) HR.out hH (HC.out.grown hG) ?_ ?_).mono ?_
                  · obtain ⟨t, ht, _, h2⟩ := HI.out.2
                    have := h2 (2 * t) (Nat.le_refl _)
                    exact this.sub (by omega) (by omega)
                  · obtain ⟨t, ht, _, h2⟩ := HI.out.2
                    have := h2 (2 * t + 1) (by omega)
                    exact this.sub (by omega) (by omega)
                  rintro e w4 ⟨rfl, r4, M4, H4, G4⟩
                  have M4' := Lib.hid M4
                  clear M4
                  go_wp2_with fail
                  go_roundw
                  case rel =>
                    refine ⟨160, _, r4, rfl, by omega, Lib.hid ⟨HI.out.1.trans M4'.out.1, fun i => ?_⟩, H4, grownTrans hG G4⟩
                    obtain ⟨t, ht, h1, h2⟩ := HI.out.2
                    have hr4 : r4.length = n := M4'.out.1.length.symm.trans HR.out
                    by_cases e : i < t
                    · exact (h1 i e).out M4'.out.2.2 (by omega)
                    · by_cases e2 : i = t
                      · subst e2; exact srtExtI (by rw [← ht]; exact M4'.out.2.1) (by omega)
                      · exact srtPastI (by omega)
                  case measure => simp [intOf]
                · go_wp2_with fail
                  go_roundw
                  case rel =>
                    refine ⟨160, _, r, rfl, by omega, Lib.hid ⟨HI.out.1, fun i => ?_⟩, hH, hG⟩
                    obtain ⟨t, ht, h1, h2⟩ := HI.out.2
                    have hr := HR.out
                    by_cases e : i < t
                    · exact h1 i e
                    · by_cases e2 : i = t
                      · subst e2
                        have := h2 (2 * i) (Nat.le_refl _)
                        exact srtExtI (this.sub (c := 160 * i) (by omega) (Nat.le_refl _)) (by omega)
                      · exact srtPastI (by omega)
                  case measure => simp [intOf]
          · omega
        · have hz2 : zz = (z : Int) := by omega
          have hz3 : ¬ zz < (n : Int) := by omega
          clear hz hz2
          go_wp2_with fail
          go_end0
          refine ⟨rfl, r, HI.out.1, ?_, hH, hG⟩
          have := HI.out.2 0
          rw [Nat.mul_zero, Nat.zero_add] at this
          exact srtExtI this (by rw [HR.out]; omega)
set_option maxRecDepth 100000 in
set_option maxHeartbeats 400000 in
theorem sortStableI_any (bx : Nat) (key : Fin N → Int) (g n cap : Nat) (l : List (Fin N)) (w : World) (hn160 : n ≤ 160) (hl : l.length = n) (hH : HdI cap w g l) (hC : CmpCI key bx g w) :
    Calls Tryz.prog 43 #[.slice (some ⟨g, 0, none⟩) n cap, .func (.func 44) #[] #[.pointer (some ⟨bx, 0, none⟩)]] w fun e w' => e = .returned (.tuple #[]) ∧ ∃ r, r = stabSort key l ∧ HdI cap w' g r ∧ w.grownBy w' (some g) := by
  have C := fun W hW hC2 => stableI_any bx key g n cap l W hn160 hl hW hC2
  go_enter Tryz.func43, Tryz.ntmps43
  go_wp2_with fail
  refine (C _ hH hC).mono ?_
  rintro e w2 ⟨rfl, r, st, sr, H2, G2⟩
  have HS := Lib.hid (stabSort_eq st (by rw [← st.length, hl]; exact sr))
  clear C st sr
  go_wp2_with fail
  go_end0
  exact ⟨rfl, r, HS.out, H2, G2⟩
end Go.Proofs.YtpbhncgjnmaojaaGreatDoor

/- Graduations (layer 7): when a list of parts is one; walks of both functions that say so; the law. No condition. -/
import Derived.Test.YtibcbhphkafgjaaDoorSl
import Derived.Test.YtibcbhphkafgjaaDoorErr2
namespace Go.Proofs.YtibcbhphkafgjaaDoor
open Go.RowKit
set_option linter.unusedVariables false

def partOk (at_ : Int) (p : Int × Int × Int) : Prop := p.1 = at_ ∧ p.1 < p.2.1 ∧ p.2.1 ≤ 10000 ∧ 1 ≤ p.2.2 ∧ (p.2.1 - p.1) % p.2.2 = 0
instance (at_ : Int) (p : Int × Int × Int) : Decidable (partOk at_ p) := by unfold partOk; infer_instance
def gradRun : Int → List (Int × Int × Int) → Option Int
  | at_, [] => some at_
  | at_, p :: r => if partOk at_ p then gradRun p.2.1 r else none
def gradB (l : List (Int × Int × Int)) : Bool := decide (1 ≤ l.length) && decide (l.length ≤ 12) && decide (gradRun 1000 l = some 10000)
theorem gradB_short {l : List (Int × Int × Int)} (h : ¬ (1 ≤ l.length ∧ l.length ≤ 12)) : gradB l = false := by
  simp only [gradB, Bool.and_eq_false_iff, decide_eq_false_iff_not]
  omega
theorem gradB_of {l : List (Int × Int × Int)} (h1 : 1 ≤ l.length) (h2 : l.length ≤ 12) : gradB l = decide (gradRun 1000 l = some 10000) := by
  simp [gradB, h1, h2]
theorem gradRun_step {l : List (Int × Int × Int)} {k : Nat} {p : Int × Int × Int} {at_ : Int} (hp : l[k]? = some p) : gradRun at_ (l.drop k) = if partOk at_ p then gradRun p.2.1 (l.drop (k + 1)) else none := by
  obtain ⟨hk, e⟩ := List.getElem?_eq_some_iff.1 hp
  rw [List.drop_eq_getElem_cons hk, e, gradRun]
theorem gradRun_no {l : List (Int × Int × Int)} {k : Nat} {p : Int × Int × Int} {at_ : Int} (hp : l[k]? = some p) (h : ¬ partOk at_ p) : gradRun at_ (l.drop k) = none := by
  rw [gradRun_step hp, if_neg h]
theorem gradRun_yes {l : List (Int × Int × Int)} {k : Nat} {p : Int × Int × Int} {at_ : Int} (hp : l[k]? = some p) (h : partOk at_ p) : gradRun at_ (l.drop k) = gradRun p.2.1 (l.drop (k + 1)) := by
  rw [gradRun_step hp, if_pos h]
theorem none_no {x : Option Int} {y : Int} (h : x = none) : decide (x = some y) = false := by subst h; rfl
set_option maxHeartbeats 1000000 in
theorem iIsGraduation_any (A : Option Addr) (n c : Nat) (l : List (Int × Int × Int)) (w : World) (hl : l.length = n) (hn : n ≤ 1048576) (hs : Sees w w.heap.size A (cells3 l)) (hr : I64s3 l) :
    Calls Tryd.prog 28 #[.slice A n c] w fun e w' => e = .returned (.bool (gradB l)) ∧ Below w.heap.size w w' := by
  by_cases hlen : 1 ≤ l.length ∧ l.length ≤ 12
  · have HG := Lib.hid (gradB_of hlen.1 hlen.2)
    rw [hl] at hlen
    obtain ⟨hlen1, hlen2⟩ := hlen
    go_enter Tryd.func28, Tryd.ntmps28
    go_wp2
    go_loopw [3, 16] (fun u i wr => ∃ (k : Nat) (at_ : Int), k ≤ n ∧ i = .int .i64 k ∧ u = .int .i64 at_ ∧ 1000 ≤ at_ ∧ at_ ≤ 10000 ∧ gradRun 1000 l = gradRun at_ (l.drop k) ∧ Below w.heap.size w wr) (fun u i _ => n - (intOf i).toNat)
    case atStart => exact ⟨0, 1000, Nat.zero_le _, rfl, rfl, by omega, by omega, rfl, Below.refl _ _⟩
    case round =>
      obtain ⟨k, at_, hk, rfl, rfl, hat1, hat2, hrun, hB⟩ := hrel
      have HR := Lib.hid hrun
      clear hrun
      by_cases hlt : k < n
      · obtain ⟨b, off, p, rfl, hb, hp, c0, c1, c2⟩ := (hs.over hB).three (k := k) (by omega)
        have Hp := Lib.hid hp
        have hI := hr p (List.mem_of_getElem? hp)
        unfold I64 at hI
        obtain ⟨⟨i0, i1⟩, ⟨i2, i3⟩, i4, i5⟩ := hI
        have hz := hB.size
        have Hl := Lib.hid hl
        clear hp hs hr hl
        by_cases h1 : p.1 = at_
        · have h1' := h1
          subst h1'
          by_cases h2 : p.1 < p.2.1
          · by_cases h3 : p.2.1 ≤ 10000
            · by_cases h4 : 1 ≤ p.2.2
              · by_cases h5 : (p.2.1 - p.1) % p.2.2 = 0
                · have Hy := Lib.hid (gradRun_yes (at_ := p.1) Hp.out ⟨h1, h2, h3, h4, h5⟩)
                  have t5 : ((p.2.1 - p.1) % p.2.2 != 0) = false := by simp [h5]
                  clear h1 h5
                  go_wp2
                  go_roundw
                  case rel => exact ⟨k + 1, p.2.1, by omega, by go_num, rfl, by omega, by omega, HR.out.trans Hy.out, by repeat' (first | exact Below.refl _ _ | assumption | refine Below.alloc ?_ (by first | omega | (simp; done) | (simp; omega)) _ | refine Below.drew ?_ | refine Below.setCell ?_ (by first | omega | (simp; done) | (simp; omega)) _)⟩
                  case measure => simp [intOf]; omega
                · skip
                  have t5 : ((p.2.1 - p.1) % p.2.2 != 0) = true := by simp [h5]
                  have Hv := Lib.hid (none_no (y := 10000) (gradRun_no (at_ := p.1) Hp.out (fun h => h5 h.2.2.2.2)))
                  clear h1 h5
                  go_wp2
                  go_ret
                  exact ⟨endBool (Hv.out.symm.trans (by rw [HG.out, HR.out])), by repeat' (first | exact Below.refl _ _ | assumption | refine Below.alloc ?_ (by first | omega | (simp; done) | (simp; omega)) _ | refine Below.drew ?_ | refine Below.setCell ?_ (by first | omega | (simp; done) | (simp; omega)) _)⟩
              · skip
                have Hv := Lib.hid (none_no (y := 10000) (gradRun_no (at_ := p.1) Hp.out (fun h => h4 h.2.2.2.1)))
                clear h1
                go_wp2
                go_ret
                exact ⟨endBool (Hv.out.symm.trans (by rw [HG.out, HR.out])), by repeat' (first | exact Below.refl _ _ | assumption | refine Below.alloc ?_ (by first | omega | (simp; done) | (simp; omega)) _ | refine Below.drew ?_ | refine Below.setCell ?_ (by first | omega | (simp; done) | (simp; omega)) _)⟩
            · skip
              have Hv := Lib.hid (none_no (y := 10000) (gradRun_no (at_ := p.1) Hp.out (fun h => h3 h.2.2.1)))
              clear h1
              go_wp2
              go_ret
              exact ⟨endBool (Hv.out.symm.trans (by rw [HG.out, HR.out])), by repeat' (first | exact Below.refl _ _ | assumption | refine Below.alloc ?_ (by first | omega | (simp; done) | (simp; omega)) _ | refine Below.drew ?_ | refine Below.setCell ?_ (by first | omega | (simp; done) | (simp; omega)) _)⟩
          · have Hv := Lib.hid (none_no (y := 10000) (gradRun_no (at_ := p.1) Hp.out (fun h => h2 h.2.1)))
            clear h1
            go_wp2
            go_ret
            exact ⟨endBool (Hv.out.symm.trans (by rw [HG.out, HR.out])), by repeat' (first | exact Below.refl _ _ | assumption | refine Below.alloc ?_ (by first | omega | (simp; done) | (simp; omega)) _ | refine Below.drew ?_ | refine Below.setCell ?_ (by first | omega | (simp; done) | (simp; omega)) _)⟩
        · have t1 : (p.1 != at_) = true := by simp [h1]
          have Hv := Lib.hid (none_no (y := 10000) (gradRun_no (at_ := at_) Hp.out (fun h => h1 h.1)))
          clear h1
          go_wp2
          go_ret
          exact ⟨endBool (Hv.out.symm.trans (by rw [HG.out, HR.out])), by repeat' (first | exact Below.refl _ _ | assumption | refine Below.alloc ?_ (by first | omega | (simp; done) | (simp; omega)) _ | refine Below.drew ?_ | refine Below.setCell ?_ (by first | omega | (simp; done) | (simp; omega)) _)⟩
      · obtain rfl : k = n := by omega
        have He := Lib.hid (show gradRun 1000 l = some at_ by rw [HR.out, List.drop_of_length_le (by omega), gradRun])
        go_wp2
        go_ret
        refine ⟨endBool ?_, hB⟩
        rw [HG.out, He.out]
        by_cases h : at_ = 10000
        · simp [h]
        · simp [h]
  · have Hv := Lib.hid (gradB_short hlen)
    rw [hl] at hlen
    by_cases hn1 : n < 1
    · go_enter Tryd.func28, Tryd.ntmps28
      go_wp2
      go_ret
      exact ⟨endBool Hv.out.symm, Below.refl _ _⟩
    · have hn2 : 12 < n := by omega
      clear hlen
      go_enter Tryd.func28, Tryd.ntmps28
      go_wp2
      go_ret
      exact ⟨endBool Hv.out.symm, Below.refl _ _⟩
set_option maxHeartbeats 1000000 in
theorem sIsGraduation_any (A : Option Addr) (n c : Nat) (l : List (Int × Int × Int)) (w : World) (hl : l.length = n) (hn : n ≤ 1048576) (hs : Sees w w.heap.size A (cells3 l)) (hr : I64s3 l) :
    Calls Tryd.prog 25 #[.slice A n c] w fun e w' => e = .returned (.bool (gradB l)) ∧ Below w.heap.size w w' := by
  by_cases hlen : 1 ≤ l.length ∧ l.length ≤ 12
  · have HG := Lib.hid (gradB_of hlen.1 hlen.2)
    rw [hl] at hlen
    obtain ⟨hlen1, hlen2⟩ := hlen
    have hin0 : inB (n : Int) 1 12 = true := inB_iff.2 ⟨by omega, by omega⟩
    go_enter Tryd.func25, Tryd.ntmps25
    go_wp2_with (go_at_call 48; refine (l01In_any _ _ _ _).mono ?_; rintro e w' ⟨rfl, rfl⟩)
    go_loopw [3, 4] (fun u i wr => ∃ (k : Nat) (at_ : Int), k ≤ n ∧ i = .int .i64 k ∧ u = .int .i64 at_ ∧ 1000 ≤ at_ ∧ at_ ≤ 10000 ∧ gradRun 1000 l = gradRun at_ (l.drop k) ∧ Below w.heap.size w wr) (fun u i _ => n - (intOf i).toNat)
    case atStart => exact ⟨0, 1000, Nat.zero_le _, rfl, rfl, by omega, by omega, rfl, Below.refl _ _⟩
    case round =>
      obtain ⟨k, at_, hk, rfl, rfl, hat1, hat2, hrun, hB⟩ := hrel
      have HR := Lib.hid hrun
      clear hrun
      by_cases hlt : k < n
      · obtain ⟨b, off, p, rfl, hb, hp, c0, c1, c2⟩ := (hs.over hB).three (k := k) (by omega)
        have Hp := Lib.hid hp
        have hI := hr p (List.mem_of_getElem? hp)
        unfold I64 at hI
        obtain ⟨⟨i0, i1⟩, ⟨i2, i3⟩, i4, i5⟩ := hI
        have hz := hB.size
        have Hl := Lib.hid hl
        clear hp hs hr hl
        by_cases h1 : p.1 = at_
        · have h1' := h1
          subst h1'
          by_cases h2 : p.1 < p.2.1
          · by_cases h3 : p.2.1 ≤ 10000
            · by_cases h4 : 1 ≤ p.2.2
              · by_cases h5 : (p.2.1 - p.1) % p.2.2 = 0
                · have Hy := Lib.hid (gradRun_yes (at_ := p.1) Hp.out ⟨h1, h2, h3, h4, h5⟩)
                  have t5 : ((p.2.1 - p.1) % p.2.2 != 0) = false := by simp [h5]
                  clear h1 h5
                  have hin : inB p.2.1 (p.1 + 1) 10000 = true := by simp only [inB_iff]; omega
                  go_wp2_with (go_at_call 48; refine (l01In_any _ _ _ _).mono ?_; rintro e w' ⟨rfl, rfl⟩)
                  go_roundw
                  case rel => exact ⟨k + 1, p.2.1, by omega, by go_num, rfl, by omega, by omega, HR.out.trans Hy.out, by repeat' (first | exact Below.refl _ _ | assumption | refine Below.alloc ?_ (by first | omega | (simp; done) | (simp; omega)) _ | refine Below.drew ?_ | refine Below.setCell ?_ (by first | omega | (simp; done) | (simp; omega)) _)⟩
                  case measure => simp [intOf]; omega
                · skip
                  have t5 : ((p.2.1 - p.1) % p.2.2 != 0) = true := by simp [h5]
                  have Hv := Lib.hid (none_no (y := 10000) (gradRun_no (at_ := p.1) Hp.out (fun h => h5 h.2.2.2.2)))
                  clear h1 h5
                  have hin : inB p.2.1 (p.1 + 1) 10000 = true := by simp only [inB_iff]; omega
                  go_wp2_with (go_at_call 48; refine (l01In_any _ _ _ _).mono ?_; rintro e w' ⟨rfl, rfl⟩)
                  go_ret
                  exact ⟨endBool (Hv.out.symm.trans (by rw [HG.out, HR.out])), by repeat' (first | exact Below.refl _ _ | assumption | refine Below.alloc ?_ (by first | omega | (simp; done) | (simp; omega)) _ | refine Below.drew ?_ | refine Below.setCell ?_ (by first | omega | (simp; done) | (simp; omega)) _)⟩
              · skip
                have Hv := Lib.hid (none_no (y := 10000) (gradRun_no (at_ := p.1) Hp.out (fun h => h4 h.2.2.2.1)))
                clear h1
                have hin : inB p.2.1 (p.1 + 1) 10000 = true := by simp only [inB_iff]; omega
                go_wp2_with (go_at_call 48; refine (l01In_any _ _ _ _).mono ?_; rintro e w' ⟨rfl, rfl⟩)
                go_ret
                exact ⟨endBool (Hv.out.symm.trans (by rw [HG.out, HR.out])), by repeat' (first | exact Below.refl _ _ | assumption | refine Below.alloc ?_ (by first | omega | (simp; done) | (simp; omega)) _ | refine Below.drew ?_ | refine Below.setCell ?_ (by first | omega | (simp; done) | (simp; omega)) _)⟩
            · skip
              have Hv := Lib.hid (none_no (y := 10000) (gradRun_no (at_ := p.1) Hp.out (fun h => h3 h.2.2.1)))
              have hin : inB p.2.1 (p.1 + 1) 10000 = false := by simp only [inB_false]; omega
              clear h1
              go_wp2_with (go_at_call 48; refine (l01In_any _ _ _ _).mono ?_; rintro e w' ⟨rfl, rfl⟩)
              go_ret
              exact ⟨endBool (Hv.out.symm.trans (by rw [HG.out, HR.out])), by repeat' (first | exact Below.refl _ _ | assumption | refine Below.alloc ?_ (by first | omega | (simp; done) | (simp; omega)) _ | refine Below.drew ?_ | refine Below.setCell ?_ (by first | omega | (simp; done) | (simp; omega)) _)⟩
          · have Hv := Lib.hid (none_no (y := 10000) (gradRun_no (at_ := p.1) Hp.out (fun h => h2 h.2.1)))
            have hin : inB p.2.1 (p.1 + 1) 10000 = false := by simp only [inB_false]; omega
            clear h1
            go_wp2_with (go_at_call 48; refine (l01In_any _ _ _ _).mono ?_; rintro e w' ⟨rfl, rfl⟩)
            go_ret
            exact ⟨endBool (Hv.out.symm.trans (by rw [HG.out, HR.out])), by repeat' (first | exact Below.refl _ _ | assumption | refine Below.alloc ?_ (by first | omega | (simp; done) | (simp; omega)) _ | refine Below.drew ?_ | refine Below.setCell ?_ (by first | omega | (simp; done) | (simp; omega)) _)⟩
        · have t1 : (p.1 != at_) = true := by simp [h1]
          have Hv := Lib.hid (none_no (y := 10000) (gradRun_no (at_ := at_) Hp.out (fun h => h1 h.1)))
          clear h1
          go_wp2_with (go_at_call 48; refine (l01In_any _ _ _ _).mono ?_; rintro e w' ⟨rfl, rfl⟩)
          go_ret
          exact ⟨endBool (Hv.out.symm.trans (by rw [HG.out, HR.out])), by repeat' (first | exact Below.refl _ _ | assumption | refine Below.alloc ?_ (by first | omega | (simp; done) | (simp; omega)) _ | refine Below.drew ?_ | refine Below.setCell ?_ (by first | omega | (simp; done) | (simp; omega)) _)⟩
      · obtain rfl : k = n := by omega
        have He := Lib.hid (show gradRun 1000 l = some at_ by rw [HR.out, List.drop_of_length_le (by omega), gradRun])
        go_wp2_with (go_at_call 48; refine (l01In_any _ _ _ _).mono ?_; rintro e w' ⟨rfl, rfl⟩)
        go_ret
        refine ⟨endBool ?_, hB⟩
        rw [HG.out, He.out]
        by_cases h : at_ = 10000
        · simp [h]
        · simp [h]
  · have Hv := Lib.hid (gradB_short hlen)
    rw [hl] at hlen
    have hin0 : inB (n : Int) 1 12 = false := inB_false.2 (by omega)
    clear hlen
    go_enter Tryd.func25, Tryd.ntmps25
    go_wp2_with (go_at_call 48; refine (l01In_any _ _ _ _).mono ?_; rintro e w' ⟨rfl, rfl⟩)
    go_ret
    exact ⟨endBool Hv.out.symm, Below.refl _ _⟩
end Go.Proofs.YtibcbhphkafgjaaDoor

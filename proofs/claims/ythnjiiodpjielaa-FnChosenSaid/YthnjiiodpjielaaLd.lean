/- leastDistance, LeastDistance, FinestStep (layer 7). No condition. -/
import Derived.Test.YthnjiiodpjielaaPt
import Derived.Test.YthnjiiodpjielaaNm
namespace Go.Proofs.Ythnjiiodpjielaa
open Go.RowKit
set_option linter.unusedVariables false
set_option linter.unusedSimpArgs false

/-- the middle of the place of a mark -/
def mid (s len d : Int) : Int := (plL s d 0 len + plU s d 0 len) / 2
/-- one mark more: p the mark before, y the mark, a the least up to here -/
def leastStep (s len p y a : Int) : Int := if s = 4 ∧ p ≤ 3142 ∧ 3142 < y then a else (if a < 0 ∨ dist (mid s len p) (mid s len y) < a then dist (mid s len p) (mid s len y) else a)
def leastR (s len : Int) : Int → List Int → Int → Int
  | _, [], a => a
  | p, y :: r, a => leastR s len y r (leastStep s len p y a)
def leastOf (s len : Int) : List Int → Int
  | [] => -1
  | x :: r => leastR s len x r (-1)
def MarksAll (m : List Int) : Prop := ∀ y ∈ m, Dig y
theorem mid_bd {s len d : Int} (hd : Dig d) (h1 : 1 ≤ len) (h2 : len ≤ 100000) : -200001 ≤ mid s len d ∧ mid s len d ≤ 200001 := by
  have := pl_bd (s := s) (t := 0) hd h1 h2
  unfold mid
  omega
theorem middleM_any (s d len : Int) (w : World) (hd : Dig d) (h1 : 1 ≤ len) (h2 : len ≤ 100000) :
    Calls Try.prog 134 #[.int .i64 s, .int .i64 d, .int .i64 len] w fun e w' => e = .returned (.int .i64 (mid s len d)) ∧ Below w.heap.size w w' := middle_any s d len w hd h1 h2
theorem l07MiddleM_any (s d len : Int) (w : World) (hd : Dig d) (h1 : 1 ≤ len) (h2 : len ≤ 100000) :
    Calls Try.prog 135 #[.int .i64 s, .int .i64 d, .int .i64 len] w fun e w' => e = .returned (.int .i64 (mid s len d)) ∧ Below w.heap.size w w' := l07Middle_any s d len w hd h1 h2
theorem leastR_snoc (s len : Int) : ∀ (m : List Int) (p q y a : Int), (p :: m).getLast? = some q → leastR s len p (m ++ [y]) a = leastStep s len q y (leastR s len p m a)
  | [], p, q, y, a, h => by simp at h; subst h; rfl
  | z :: m, p, q, y, a, h => by
    rw [List.cons_append, leastR, leastR]
    exact leastR_snoc s len m z q y _ (by simpa using h)
set_option maxRecDepth 100000 in
set_option maxHeartbeats 4000000 in
theorem leastDistance_any (A : Option Addr) (n c : Nat) (m : List Int) (s len : Int) (w : World) (hl : m.length = n) (hn0 : 1 ≤ n) (hn : n ≤ 1000000) (hs : Sees w w.heap.size A (m.map (Value.int .i64))) (hm : MarksAll m) (h1 : 1 ≤ len) (h2 : len ≤ 100000) :
    Calls Try.prog 75 #[.slice A n c, .int .i64 s, .int .i64 len] w fun e w' => e = .returned (.tuple #[.int .i64 (leastOf s len m), .bool (decide (0 ≤ leastOf s len m))]) ∧ Below w.heap.size w w' := by
  go_enter Try.func75, Try.ntmps75
  go_wp2_with fail
  go_loopw [8, 9] (fun u i wr => ∃ (k : Nat) (a p : Int), k + 1 ≤ n ∧ m[k]? = some p ∧ i = .int .i64 ((k : Int) + 1) ∧ u = .int .i64 a ∧ leastOf s len m = leastR s len p (m.drop (k + 1)) a ∧ -1 ≤ a ∧ a ≤ 1000000 ∧ Below w.heap.size w wr) (fun _ i _ => n - (intOf i).toNat)
  case atStart =>
    clear hs hm
    match m, hl with
    | [], hl => simp at hl; omega
    | x :: r, _ => exact ⟨0, -1, x, by omega, rfl, by simp, rfl, rfl, by omega, by omega, Below.refl _ _⟩
  case round =>
    obtain ⟨k, a, p, hk, hp0, rfl, rfl, hf, ha1, ha2, hB⟩ := hrel
    have Hf := Lib.hid hf
    clear hf
    have hp := hm p (List.mem_of_getElem? hp0)
    have Hm := Lib.hid hm
    clear hm
    by_cases hlt : k + 1 < n
    · obtain ⟨b, off, y, rfl, hb, hy0, c1⟩ := (hs.over hB).one (k := k + 1) (by omega)
      obtain ⟨b', off', p', hA, hb', hpp, c0⟩ := (hs.over hB).one (k := k) (by omega)
      injection hA with hA
      injection hA with hA1 hA2
      subst hA1 hA2
      have ep : p' = p := by rw [hp0] at hpp; injection hpp with hpp; exact hpp.symm
      subst ep
      have hy := Hm.out y (List.mem_of_getElem? hy0)
      have HS := Lib.hid (show leastOf s len m = leastR s len y (m.drop (k + 1 + 1)) (leastStep s len p' y a) by
        obtain ⟨hk', e⟩ := List.getElem?_eq_some_iff.1 hy0
        rw [Hf.out, List.drop_eq_getElem_cons hk', e, leastR])
      have Hy := Lib.hid hy0
      have hz := hB.size
      have hbw : b < wr.heap.size := by omega
      have mp := mid_bd (s := s) hp h1 h2
      have my := mid_bd (s := s) hy h1 h2
      have HE := Lib.hid (show leastStep s len p' y a = _ from leastStep.eq_1 s len p' y a)
      unfold dist at HE
      have dp := hp
      have dy := hy
      unfold Dig at dp dy
      have ek : IntKind.i64.wrap ((k : Int) + 1 - 1) = k := IntWalk.i64_in _ (by omega) |>.trans (by omega)
      have ek0 : IntKind.i64.wrap (k : Int) = k := IntWalk.i64_in _ (by omega)
      have i0 : (0 : Int) ≤ (k : Int) := by omega
      have i1 : (k : Int) < (n : Int) := by omega
      have i2 : (0 : Int) ≤ (k : Int) + 1 := by omega
      have i3 : (k : Int) + 1 < (n : Int) := by omega
      have i4 : ((k : Int) + 1).toNat = k + 1 := by omega
      have i5 : (k : Int) + 1 - 1 = k := by omega
      clear hs hy0 hp0 hpp
      by_cases g4' : s = 4
      · have gb : (s == 4) = true := by simpa using g4'
        have g4 := Lib.hid g4'
        clear g4'
        by_cases gp : p' ≤ 3142
        · by_cases gy : 3142 < y
          · have HS2 := Lib.hid (HS.out.trans (congrArg _ (HE.out.trans (if_pos ⟨g4.out, gp, gy⟩))))
            go_wp2_with fail
            go_roundw
            case rel => exact ⟨k + 1, a, y, by omega, Hy.out, by go_num, by go_num, HS2.out, by omega, by omega, hB⟩
            case measure => simp [intOf]; omega
          · have HN := Lib.hid (HS.out.trans (congrArg _ (HE.out.trans (if_neg (fun h => gy h.2.2)))))
            clear HE HS
            go_wp2_with fail
            go_region_held3 (fun w' => w'.cell? ⟨b, off + k, none⟩ = some (.int .i64 p') ∧ w'.cell? ⟨b, off + (k + 1), none⟩ = some (.int .i64 y)) (go_keep) (first
              | (go_at_call 134; refine (middleM_any _ _ _ _ ?_ h1 h2).mono ?_; (first | exact hp | exact hy); rintro e w2 ⟨rfl, hb2⟩; have hB2 : Below w.heap.size w w2 := Below.trans (by repeat' (first | exact Below.refl _ _ | assumption | refine Below.alloc ?_ (by first | omega | (simp; done) | (simp; omega)) _ | refine Below.drew ?_ | refine Below.setCell ?_ (by first | omega | (simp; done) | (simp; omega)) _)) (hb2.mono (by first | omega | (simp; done) | (simp; omega))); have hz2 := hB2.size; have q0 : w2.cell? ⟨b, off + k, none⟩ = some (.int .i64 p') := (by rw [hb2.cell (by first | omega | (simp; done) | (simp; omega))]; simp [go_sem, *]); have q1 : w2.cell? ⟨b, off + (k + 1), none⟩ = some (.int .i64 y) := (by rw [hb2.cell (by first | omega | (simp; done) | (simp; omega))]; simp [go_sem, *]); have hbl : b < w2.heap.size := (by omega); clear hb2)
              | (go_at_call 133; refine (distance_any _ _ _ (by omega) (by omega) (by omega) (by omega)).mono ?_; rintro e w' ⟨rfl, rfl⟩))
            clear ek ek0 i0 i1 i2 i3 i4 i5
            have mpd := mp
            have dd : max (mid s len p' - mid s len y) (-(mid s len p' - mid s len y)) ≤ 1000000 := by omega
            have dd0 : 0 ≤ max (mid s len p' - mid s len y) (-(mid s len p' - mid s len y)) := by omega
            by_cases ha : a < 0
            · have HM := Lib.hid (HN.out.trans (congrArg _ (if_pos (Or.inl ha))))
              go_wp2
              go_roundw
              case rel => exact ⟨k + 1, _, y, by omega, Hy.out, by go_num, rfl, HM.out, by omega, by omega, by repeat' (first | exact Below.refl _ _ | assumption | refine Below.alloc ?_ (by first | omega | (simp; done) | (simp; omega)) _ | refine Below.drew ?_ | refine Below.setCell ?_ (by first | omega | (simp; done) | (simp; omega)) _)⟩
              case measure => simp [intOf]; omega
            · by_cases hb : max (mid s len p' - mid s len y) (-(mid s len p' - mid s len y)) < a
              · have HM := Lib.hid (HN.out.trans (congrArg _ (if_pos (Or.inr hb))))
                go_wp2
                go_roundw
                case rel => exact ⟨k + 1, _, y, by omega, Hy.out, by go_num, rfl, HM.out, by omega, by omega, by repeat' (first | exact Below.refl _ _ | assumption | refine Below.alloc ?_ (by first | omega | (simp; done) | (simp; omega)) _ | refine Below.drew ?_ | refine Below.setCell ?_ (by first | omega | (simp; done) | (simp; omega)) _)⟩
                case measure => simp [intOf]; omega
              · have HM := Lib.hid (HN.out.trans (congrArg _ (if_neg (fun h => h.elim ha hb))))
                go_wp2
                go_roundw
                case rel => exact ⟨k + 1, _, y, by omega, Hy.out, by go_num, rfl, HM.out, by omega, by omega, by repeat' (first | exact Below.refl _ _ | assumption | refine Below.alloc ?_ (by first | omega | (simp; done) | (simp; omega)) _ | refine Below.drew ?_ | refine Below.setCell ?_ (by first | omega | (simp; done) | (simp; omega)) _)⟩
                case measure => simp [intOf]; omega
        · have HN := Lib.hid (HS.out.trans (congrArg _ (HE.out.trans (if_neg (fun h => gp h.2.1)))))
          clear HE HS
          go_wp2_with fail
          go_region_held3 (fun w' => w'.cell? ⟨b, off + k, none⟩ = some (.int .i64 p') ∧ w'.cell? ⟨b, off + (k + 1), none⟩ = some (.int .i64 y)) (go_keep) (first
            | (go_at_call 134; refine (middleM_any _ _ _ _ ?_ h1 h2).mono ?_; (first | exact hp | exact hy); rintro e w2 ⟨rfl, hb2⟩; have hB2 : Below w.heap.size w w2 := Below.trans (by repeat' (first | exact Below.refl _ _ | assumption | refine Below.alloc ?_ (by first | omega | (simp; done) | (simp; omega)) _ | refine Below.drew ?_ | refine Below.setCell ?_ (by first | omega | (simp; done) | (simp; omega)) _)) (hb2.mono (by first | omega | (simp; done) | (simp; omega))); have hz2 := hB2.size; have q0 : w2.cell? ⟨b, off + k, none⟩ = some (.int .i64 p') := (by rw [hb2.cell (by first | omega | (simp; done) | (simp; omega))]; simp [go_sem, *]); have q1 : w2.cell? ⟨b, off + (k + 1), none⟩ = some (.int .i64 y) := (by rw [hb2.cell (by first | omega | (simp; done) | (simp; omega))]; simp [go_sem, *]); have hbl : b < w2.heap.size := (by omega); clear hb2)
            | (go_at_call 133; refine (distance_any _ _ _ (by omega) (by omega) (by omega) (by omega)).mono ?_; rintro e w' ⟨rfl, rfl⟩))
          clear ek ek0 i0 i1 i2 i3 i4 i5
          have mpd := mp
          have dd : max (mid s len p' - mid s len y) (-(mid s len p' - mid s len y)) ≤ 1000000 := by omega
          have dd0 : 0 ≤ max (mid s len p' - mid s len y) (-(mid s len p' - mid s len y)) := by omega
          by_cases ha : a < 0
          · have HM := Lib.hid (HN.out.trans (congrArg _ (if_pos (Or.inl ha))))
            go_wp2
            go_roundw
            case rel => exact ⟨k + 1, _, y, by omega, Hy.out, by go_num, rfl, HM.out, by omega, by omega, by repeat' (first | exact Below.refl _ _ | assumption | refine Below.alloc ?_ (by first | omega | (simp; done) | (simp; omega)) _ | refine Below.drew ?_ | refine Below.setCell ?_ (by first | omega | (simp; done) | (simp; omega)) _)⟩
            case measure => simp [intOf]; omega
          · by_cases hb : max (mid s len p' - mid s len y) (-(mid s len p' - mid s len y)) < a
            · have HM := Lib.hid (HN.out.trans (congrArg _ (if_pos (Or.inr hb))))
              go_wp2
              go_roundw
              case rel => exact ⟨k + 1, _, y, by omega, Hy.out, by go_num, rfl, HM.out, by omega, by omega, by repeat' (first | exact Below.refl _ _ | assumption | refine Below.alloc ?_ (by first | omega | (simp; done) | (simp; omega)) _ | refine Below.drew ?_ | refine Below.setCell ?_ (by first | omega | (simp; done) | (simp; omega)) _)⟩
              case measure => simp [intOf]; omega
            · have HM := Lib.hid (HN.out.trans (congrArg _ (if_neg (fun h => h.elim ha hb))))
              go_wp2
              go_roundw
              case rel => exact ⟨k + 1, _, y, by omega, Hy.out, by go_num, rfl, HM.out, by omega, by omega, by repeat' (first | exact Below.refl _ _ | assumption | refine Below.alloc ?_ (by first | omega | (simp; done) | (simp; omega)) _ | refine Below.drew ?_ | refine Below.setCell ?_ (by first | omega | (simp; done) | (simp; omega)) _)⟩
              case measure => simp [intOf]; omega
      · have gb : (s == 4) = false := by simpa using g4'
        have g4 := Lib.hid g4'
        clear g4'
        have HN := Lib.hid (HS.out.trans (congrArg _ (HE.out.trans (if_neg (fun h => g4.out h.1)))))
        clear HE HS
        go_wp2_with fail
        go_region_held3 (fun w' => w'.cell? ⟨b, off + k, none⟩ = some (.int .i64 p') ∧ w'.cell? ⟨b, off + (k + 1), none⟩ = some (.int .i64 y)) (go_keep) (first
          | (go_at_call 134; refine (middleM_any _ _ _ _ ?_ h1 h2).mono ?_; (first | exact hp | exact hy); rintro e w2 ⟨rfl, hb2⟩; have hB2 : Below w.heap.size w w2 := Below.trans (by repeat' (first | exact Below.refl _ _ | assumption | refine Below.alloc ?_ (by first | omega | (simp; done) | (simp; omega)) _ | refine Below.drew ?_ | refine Below.setCell ?_ (by first | omega | (simp; done) | (simp; omega)) _)) (hb2.mono (by first | omega | (simp; done) | (simp; omega))); have hz2 := hB2.size; have q0 : w2.cell? ⟨b, off + k, none⟩ = some (.int .i64 p') := (by rw [hb2.cell (by first | omega | (simp; done) | (simp; omega))]; simp [go_sem, *]); have q1 : w2.cell? ⟨b, off + (k + 1), none⟩ = some (.int .i64 y) := (by rw [hb2.cell (by first | omega | (simp; done) | (simp; omega))]; simp [go_sem, *]); have hbl : b < w2.heap.size := (by omega); clear hb2)
          | (go_at_call 133; refine (distance_any _ _ _ (by omega) (by omega) (by omega) (by omega)).mono ?_; rintro e w' ⟨rfl, rfl⟩))
        clear ek ek0 i0 i1 i2 i3 i4 i5
        have mpd := mp
        have dd : max (mid s len p' - mid s len y) (-(mid s len p' - mid s len y)) ≤ 1000000 := by omega
        have dd0 : 0 ≤ max (mid s len p' - mid s len y) (-(mid s len p' - mid s len y)) := by omega
        by_cases ha : a < 0
        · have HM := Lib.hid (HN.out.trans (congrArg _ (if_pos (Or.inl ha))))
          go_wp2
          go_roundw
          case rel => exact ⟨k + 1, _, y, by omega, Hy.out, by go_num, rfl, HM.out, by omega, by omega, by repeat' (first | exact Below.refl _ _ | assumption | refine Below.alloc ?_ (by first | omega | (simp; done) | (simp; omega)) _ | refine Below.drew ?_ | refine Below.setCell ?_ (by first | omega | (simp; done) | (simp; omega)) _)⟩
          case measure => simp [intOf]; omega
        · by_cases hb : max (mid s len p' - mid s len y) (-(mid s len p' - mid s len y)) < a
          · have HM := Lib.hid (HN.out.trans (congrArg _ (if_pos (Or.inr hb))))
            go_wp2
            go_roundw
            case rel => exact ⟨k + 1, _, y, by omega, Hy.out, by go_num, rfl, HM.out, by omega, by omega, by repeat' (first | exact Below.refl _ _ | assumption | refine Below.alloc ?_ (by first | omega | (simp; done) | (simp; omega)) _ | refine Below.drew ?_ | refine Below.setCell ?_ (by first | omega | (simp; done) | (simp; omega)) _)⟩
            case measure => simp [intOf]; omega
          · have HM := Lib.hid (HN.out.trans (congrArg _ (if_neg (fun h => h.elim ha hb))))
            go_wp2
            go_roundw
            case rel => exact ⟨k + 1, _, y, by omega, Hy.out, by go_num, rfl, HM.out, by omega, by omega, by repeat' (first | exact Below.refl _ _ | assumption | refine Below.alloc ?_ (by first | omega | (simp; done) | (simp; omega)) _ | refine Below.drew ?_ | refine Below.setCell ?_ (by first | omega | (simp; done) | (simp; omega)) _)⟩
            case measure => simp [intOf]; omega
    · obtain rfl : n = k + 1 := by omega
      have HZ := Lib.hid (show leastOf s len m = a by rw [Hf.out, List.drop_of_length_le (by omega), leastR])
      clear hs
      go_wp2
      go_ret2
      exact ⟨by rw [HZ.out]; rfl, hB⟩
/-- what holds at the head of round k of the reference's loop -/
def LInv (s len : Int) (m : List Int) (k : Nat) (a bf : Int) : Prop := (k = 0 ∧ a = -1) ∨ ∃ j p, k = j + 1 ∧ m[j]? = some p ∧ bf = mid s len p ∧ leastOf s len m = leastR s len p (m.drop (j + 1)) a
theorem LInv.end_ {s len : Int} {m : List Int} {a bf : Int} (h : LInv s len m m.length a bf) : leastOf s len m = a := by
  rcases h with ⟨h, rfl⟩ | ⟨j, p, h, hp, rfl, e⟩
  · match m, h with
    | [], _ => rfl
  · rw [e, List.drop_of_length_le (by omega), leastR]
set_option maxRecDepth 100000 in
set_option maxHeartbeats 4000000 in
theorem l07Least_any (A : Option Addr) (n c : Nat) (m : List Int) (s len : Int) (w : World) (hl : m.length = n) (hn : n ≤ 1000000) (hs : Sees w w.heap.size A (m.map (Value.int .i64))) (hm : MarksAll m) (h1 : 1 ≤ len) (h2 : len ≤ 100000) :
    Calls Try.prog 78 #[.slice A n c, .int .i64 s, .int .i64 len] w fun e w' => e = .returned (.int .i64 (leastOf s len m)) ∧ Below w.heap.size w w' := by
  go_enter Try.func78, Try.ntmps78
  go_wp2_with fail
  go_loopw [7, 8, 9] (fun u v i wr => ∃ (k : Nat) (a bf : Int), k ≤ n ∧ i = .int .i64 (k : Int) ∧ u = .int .i64 a ∧ v = .int .i64 bf ∧ -1 ≤ a ∧ a ≤ 1000000 ∧ -200001 ≤ bf ∧ bf ≤ 200001 ∧ LInv s len m k a bf ∧ Below w.heap.size w wr) (fun _ _ i _ => n - (intOf i).toNat)
  case atStart => exact ⟨0, -1, 0, by omega, rfl, rfl, rfl, by omega, by omega, by omega, by omega, Or.inl ⟨rfl, rfl⟩, Below.refl _ _⟩
  case round =>
    obtain ⟨k, a, bf, hk, rfl, rfl, rfl, ha1, ha2, hbf1, hbf2, hI, hB⟩ := hrel
    by_cases hlt : k < n
    · rcases hI with ⟨rfl, rfl⟩ | ⟨j, p, rfl, hp0, rfl, hf⟩
      · obtain ⟨b, off, y, rfl, hb, hy0, c1⟩ := (hs.over hB).one (k := 0) (by omega)
        rw [Nat.add_zero] at c1
        have hy := hm y (List.mem_of_getElem? hy0)
        have HI := Lib.hid (show LInv s len m 1 (-1) (mid s len y) by
          refine Or.inr ⟨0, y, rfl, hy0, rfl, ?_⟩
          match m, hy0 with
          | x :: r, h => simp at h; subst h; rfl)
        have my := mid_bd (s := s) hy h1 h2
        have hz := hB.size
        have hlt' : (0 : Int) < (n : Int) := by omega
        clear hy0 hs hm hl
        go_wp2_with (first
          | (go_at_call 135; refine (l07MiddleM_any _ _ _ _ hy h1 h2).mono ?_; rintro e w2 ⟨rfl, hb2⟩; have hB2 : Below w.heap.size w w2 := Below.trans (by repeat' (first | exact Below.refl _ _ | assumption | refine Below.alloc ?_ (by first | omega | (simp; done) | (simp; omega)) _ | refine Below.drew ?_ | refine Below.setCell ?_ (by first | omega | (simp; done) | (simp; omega)) _)) (hb2.mono (by first | omega | (simp; done) | (simp; omega)))))
        go_roundw
        case rel => exact ⟨1, _, _, by omega, rfl, rfl, rfl, by omega, by omega, by omega, by omega, HI.out, by repeat' (first | exact Below.refl _ _ | assumption | refine Below.alloc ?_ (by first | omega | (simp; done) | (simp; omega)) _ | refine Below.drew ?_ | refine Below.setCell ?_ (by first | omega | (simp; done) | (simp; omega)) _)⟩
        case measure => simp [intOf]; omega
      · obtain ⟨k, rfl⟩ : ∃ k, k = j := ⟨j, rfl⟩
        obtain ⟨b, off, y, rfl, hb, hy0, c1⟩ := (hs.over hB).one (k := k + 1) (by omega)
        obtain ⟨b', off', p', hA, hb', hpp, c0⟩ := (hs.over hB).one (k := k) (by omega)
        injection hA with hA
        injection hA with hA1 hA2
        subst hA1 hA2
        have ep : p' = p := by rw [hp0] at hpp; injection hpp with hpp; exact hpp.symm
        subst ep
        have Hf := Lib.hid hf
        clear hf
        have hy := hm y (List.mem_of_getElem? hy0)
        have hp := hm p' (List.mem_of_getElem? hp0)
        have HS := Lib.hid (show leastOf s len m = leastR s len y (m.drop (k + 1 + 1)) (leastStep s len p' y a) by
          obtain ⟨hk', e⟩ := List.getElem?_eq_some_iff.1 hy0
          rw [Hf.out, List.drop_eq_getElem_cons hk', e, leastR])
        have Hy := Lib.hid hy0
        have hz := hB.size
        have hbw : b < wr.heap.size := by omega
        have mp := mid_bd (s := s) hp h1 h2
        have my := mid_bd (s := s) hy h1 h2
        have HE := Lib.hid (show leastStep s len p' y a = _ from leastStep.eq_1 s len p' y a)
        unfold dist at HE
        rw [Int.max_comm (mid s len p' - mid s len y), show -(mid s len p' - mid s len y) = mid s len y - mid s len p' by omega, show mid s len p' - mid s len y = -(mid s len y - mid s len p') by omega] at HE
        have dp := hp
        have dy := hy
        unfold Dig at dp dy
        clear hs hm hy0 hp0 hpp
        by_cases g4' : s = 4
        · have gb : (s == 4) = true := by simpa using g4'
          have g4 := Lib.hid g4'
          clear g4'
          by_cases gp : p' ≤ 3142
          · by_cases gy : 3142 < y
            · have gyd : decide (3142 < y) = true := by simpa using gy
              have HS2 := Lib.hid (HS.out.trans (congrArg _ (HE.out.trans (if_pos ⟨g4.out, gp, gy⟩))))
              go_wp2_with (first
                | (go_at_call 135; refine (l07MiddleM_any _ _ _ _ hy h1 h2).mono ?_; rintro e w2 ⟨rfl, hb2⟩; have hB2 : Below w.heap.size w w2 := Below.trans (by repeat' (first | exact Below.refl _ _ | assumption | refine Below.alloc ?_ (by first | omega | (simp; done) | (simp; omega)) _ | refine Below.drew ?_ | refine Below.setCell ?_ (by first | omega | (simp; done) | (simp; omega)) _)) (hb2.mono (by first | omega | (simp; done) | (simp; omega))); have hz2 := hB2.size; have q0 : w2.cell? ⟨b, off + k, none⟩ = some (.int .i64 p') := (by rw [hb2.cell (by first | omega | (simp; done) | (simp; omega))]; simp [go_sem, *]); have q1 : w2.cell? ⟨b, off + (k + 1), none⟩ = some (.int .i64 y) := (by rw [hb2.cell (by first | omega | (simp; done) | (simp; omega))]; simp [go_sem, *]); have hbl : b < w2.heap.size := (by omega); clear hb2))
              go_roundw
              case rel => exact ⟨k + 1 + 1, a, _, by omega, by go_num, rfl, rfl, by omega, by omega, by omega, by omega, Or.inr ⟨k + 1, y, rfl, Hy.out, rfl, HS2.out⟩, by repeat' (first | exact Below.refl _ _ | assumption | refine Below.alloc ?_ (by first | omega | (simp; done) | (simp; omega)) _ | refine Below.drew ?_ | refine Below.setCell ?_ (by first | omega | (simp; done) | (simp; omega)) _)⟩
              case measure => simp [intOf]; omega
            · have gyd : decide (3142 < y) = false := by simpa using gy
              have HN := Lib.hid (HS.out.trans (congrArg _ (HE.out.trans (if_neg (fun h => gy h.2.2)))))
              clear HE HS
              have dd : max (mid s len y - mid s len p') (-(mid s len y - mid s len p')) ≤ 1000000 := by omega
              have dd0 : 0 ≤ max (mid s len y - mid s len p') (-(mid s len y - mid s len p')) := by omega
              by_cases ha : a < 0
              · clear dd
                have HM := Lib.hid (HN.out.trans (congrArg _ (if_pos (Or.inl ha))))
                go_wp2_with (first
                  | (go_at_call 135; refine (l07MiddleM_any _ _ _ _ hy h1 h2).mono ?_; rintro e w2 ⟨rfl, hb2⟩; have hB2 : Below w.heap.size w w2 := Below.trans (by repeat' (first | exact Below.refl _ _ | assumption | refine Below.alloc ?_ (by first | omega | (simp; done) | (simp; omega)) _ | refine Below.drew ?_ | refine Below.setCell ?_ (by first | omega | (simp; done) | (simp; omega)) _)) (hb2.mono (by first | omega | (simp; done) | (simp; omega))); have hz2 := hB2.size; have q0 : w2.cell? ⟨b, off + k, none⟩ = some (.int .i64 p') := (by rw [hb2.cell (by first | omega | (simp; done) | (simp; omega))]; simp [go_sem, *]); have q1 : w2.cell? ⟨b, off + (k + 1), none⟩ = some (.int .i64 y) := (by rw [hb2.cell (by first | omega | (simp; done) | (simp; omega))]; simp [go_sem, *]); have hbl : b < w2.heap.size := (by omega); clear hb2)
                  | (go_at_call 136; refine (l01Abs_any _ _ (by omega) (by omega)).mono ?_; rintro e w' ⟨rfl, rfl⟩))
                go_roundw
                case rel => exact ⟨k + 1 + 1, _, _, by omega, by go_num, rfl, rfl, by omega, by omega, by omega, by omega, Or.inr ⟨k + 1, y, rfl, Hy.out, rfl, HM.out⟩, by repeat' (first | exact Below.refl _ _ | assumption | refine Below.alloc ?_ (by first | omega | (simp; done) | (simp; omega)) _ | refine Below.drew ?_ | refine Below.setCell ?_ (by first | omega | (simp; done) | (simp; omega)) _)⟩
                case measure => simp [intOf]; omega
              · by_cases hb : max (mid s len y - mid s len p') (-(mid s len y - mid s len p')) < a
                · clear dd
                  have HM := Lib.hid (HN.out.trans (congrArg _ (if_pos (Or.inr hb))))
                  go_wp2_with (first
                    | (go_at_call 135; refine (l07MiddleM_any _ _ _ _ hy h1 h2).mono ?_; rintro e w2 ⟨rfl, hb2⟩; have hB2 : Below w.heap.size w w2 := Below.trans (by repeat' (first | exact Below.refl _ _ | assumption | refine Below.alloc ?_ (by first | omega | (simp; done) | (simp; omega)) _ | refine Below.drew ?_ | refine Below.setCell ?_ (by first | omega | (simp; done) | (simp; omega)) _)) (hb2.mono (by first | omega | (simp; done) | (simp; omega))); have hz2 := hB2.size; have q0 : w2.cell? ⟨b, off + k, none⟩ = some (.int .i64 p') := (by rw [hb2.cell (by first | omega | (simp; done) | (simp; omega))]; simp [go_sem, *]); have q1 : w2.cell? ⟨b, off + (k + 1), none⟩ = some (.int .i64 y) := (by rw [hb2.cell (by first | omega | (simp; done) | (simp; omega))]; simp [go_sem, *]); have hbl : b < w2.heap.size := (by omega); clear hb2)
                    | (go_at_call 136; refine (l01Abs_any _ _ (by omega) (by omega)).mono ?_; rintro e w' ⟨rfl, rfl⟩))
                  go_roundw
                  case rel => exact ⟨k + 1 + 1, _, _, by omega, by go_num, rfl, rfl, by omega, by omega, by omega, by omega, Or.inr ⟨k + 1, y, rfl, Hy.out, rfl, HM.out⟩, by repeat' (first | exact Below.refl _ _ | assumption | refine Below.alloc ?_ (by first | omega | (simp; done) | (simp; omega)) _ | refine Below.drew ?_ | refine Below.setCell ?_ (by first | omega | (simp; done) | (simp; omega)) _)⟩
                  case measure => simp [intOf]; omega
                · clear dd
                  have HM := Lib.hid (HN.out.trans (congrArg _ (if_neg (fun h => h.elim ha hb))))
                  go_wp2_with (first
                    | (go_at_call 135; refine (l07MiddleM_any _ _ _ _ hy h1 h2).mono ?_; rintro e w2 ⟨rfl, hb2⟩; have hB2 : Below w.heap.size w w2 := Below.trans (by repeat' (first | exact Below.refl _ _ | assumption | refine Below.alloc ?_ (by first | omega | (simp; done) | (simp; omega)) _ | refine Below.drew ?_ | refine Below.setCell ?_ (by first | omega | (simp; done) | (simp; omega)) _)) (hb2.mono (by first | omega | (simp; done) | (simp; omega))); have hz2 := hB2.size; have q0 : w2.cell? ⟨b, off + k, none⟩ = some (.int .i64 p') := (by rw [hb2.cell (by first | omega | (simp; done) | (simp; omega))]; simp [go_sem, *]); have q1 : w2.cell? ⟨b, off + (k + 1), none⟩ = some (.int .i64 y) := (by rw [hb2.cell (by first | omega | (simp; done) | (simp; omega))]; simp [go_sem, *]); have hbl : b < w2.heap.size := (by omega); clear hb2)
                    | (go_at_call 136; refine (l01Abs_any _ _ (by omega) (by omega)).mono ?_; rintro e w' ⟨rfl, rfl⟩))
                  go_roundw
                  case rel => exact ⟨k + 1 + 1, _, _, by omega, by go_num, rfl, rfl, by omega, by omega, by omega, by omega, Or.inr ⟨k + 1, y, rfl, Hy.out, rfl, HM.out⟩, by repeat' (first | exact Below.refl _ _ | assumption | refine Below.alloc ?_ (by first | omega | (simp; done) | (simp; omega)) _ | refine Below.drew ?_ | refine Below.setCell ?_ (by first | omega | (simp; done) | (simp; omega)) _)⟩
                  case measure => simp [intOf]; omega
          · have gpd : decide (p' ≤ 3142) = false := by simpa using gp
            have HN := Lib.hid (HS.out.trans (congrArg _ (HE.out.trans (if_neg (fun h => gp h.2.1)))))
            clear HE HS
            have dd : max (mid s len y - mid s len p') (-(mid s len y - mid s len p')) ≤ 1000000 := by omega
            have dd0 : 0 ≤ max (mid s len y - mid s len p') (-(mid s len y - mid s len p')) := by omega
            by_cases ha : a < 0
            · clear dd
              have HM := Lib.hid (HN.out.trans (congrArg _ (if_pos (Or.inl ha))))
              go_wp2_with (first
                | (go_at_call 135; refine (l07MiddleM_any _ _ _ _ hy h1 h2).mono ?_; rintro e w2 ⟨rfl, hb2⟩; have hB2 : Below w.heap.size w w2 := Below.trans (by repeat' (first | exact Below.refl _ _ | assumption | refine Below.alloc ?_ (by first | omega | (simp; done) | (simp; omega)) _ | refine Below.drew ?_ | refine Below.setCell ?_ (by first | omega | (simp; done) | (simp; omega)) _)) (hb2.mono (by first | omega | (simp; done) | (simp; omega))); have hz2 := hB2.size; have q0 : w2.cell? ⟨b, off + k, none⟩ = some (.int .i64 p') := (by rw [hb2.cell (by first | omega | (simp; done) | (simp; omega))]; simp [go_sem, *]); have q1 : w2.cell? ⟨b, off + (k + 1), none⟩ = some (.int .i64 y) := (by rw [hb2.cell (by first | omega | (simp; done) | (simp; omega))]; simp [go_sem, *]); have hbl : b < w2.heap.size := (by omega); clear hb2)
                | (go_at_call 136; refine (l01Abs_any _ _ (by omega) (by omega)).mono ?_; rintro e w' ⟨rfl, rfl⟩))
              go_roundw
              case rel => exact ⟨k + 1 + 1, _, _, by omega, by go_num, rfl, rfl, by omega, by omega, by omega, by omega, Or.inr ⟨k + 1, y, rfl, Hy.out, rfl, HM.out⟩, by repeat' (first | exact Below.refl _ _ | assumption | refine Below.alloc ?_ (by first | omega | (simp; done) | (simp; omega)) _ | refine Below.drew ?_ | refine Below.setCell ?_ (by first | omega | (simp; done) | (simp; omega)) _)⟩
              case measure => simp [intOf]; omega
            · by_cases hb : max (mid s len y - mid s len p') (-(mid s len y - mid s len p')) < a
              · clear dd
                have HM := Lib.hid (HN.out.trans (congrArg _ (if_pos (Or.inr hb))))
                go_wp2_with (first
                  | (go_at_call 135; refine (l07MiddleM_any _ _ _ _ hy h1 h2).mono ?_; rintro e w2 ⟨rfl, hb2⟩; have hB2 : Below w.heap.size w w2 := Below.trans (by repeat' (first | exact Below.refl _ _ | assumption | refine Below.alloc ?_ (by first | omega | (simp; done) | (simp; omega)) _ | refine Below.drew ?_ | refine Below.setCell ?_ (by first | omega | (simp; done) | (simp; omega)) _)) (hb2.mono (by first | omega | (simp; done) | (simp; omega))); have hz2 := hB2.size; have q0 : w2.cell? ⟨b, off + k, none⟩ = some (.int .i64 p') := (by rw [hb2.cell (by first | omega | (simp; done) | (simp; omega))]; simp [go_sem, *]); have q1 : w2.cell? ⟨b, off + (k + 1), none⟩ = some (.int .i64 y) := (by rw [hb2.cell (by first | omega | (simp; done) | (simp; omega))]; simp [go_sem, *]); have hbl : b < w2.heap.size := (by omega); clear hb2)
                  | (go_at_call 136; refine (l01Abs_any _ _ (by omega) (by omega)).mono ?_; rintro e w' ⟨rfl, rfl⟩))
                go_roundw
                case rel => exact ⟨k + 1 + 1, _, _, by omega, by go_num, rfl, rfl, by omega, by omega, by omega, by omega, Or.inr ⟨k + 1, y, rfl, Hy.out, rfl, HM.out⟩, by repeat' (first | exact Below.refl _ _ | assumption | refine Below.alloc ?_ (by first | omega | (simp; done) | (simp; omega)) _ | refine Below.drew ?_ | refine Below.setCell ?_ (by first | omega | (simp; done) | (simp; omega)) _)⟩
                case measure => simp [intOf]; omega
              · clear dd
                have HM := Lib.hid (HN.out.trans (congrArg _ (if_neg (fun h => h.elim ha hb))))
                go_wp2_with (first
                  | (go_at_call 135; refine (l07MiddleM_any _ _ _ _ hy h1 h2).mono ?_; rintro e w2 ⟨rfl, hb2⟩; have hB2 : Below w.heap.size w w2 := Below.trans (by repeat' (first | exact Below.refl _ _ | assumption | refine Below.alloc ?_ (by first | omega | (simp; done) | (simp; omega)) _ | refine Below.drew ?_ | refine Below.setCell ?_ (by first | omega | (simp; done) | (simp; omega)) _)) (hb2.mono (by first | omega | (simp; done) | (simp; omega))); have hz2 := hB2.size; have q0 : w2.cell? ⟨b, off + k, none⟩ = some (.int .i64 p') := (by rw [hb2.cell (by first | omega | (simp; done) | (simp; omega))]; simp [go_sem, *]); have q1 : w2.cell? ⟨b, off + (k + 1), none⟩ = some (.int .i64 y) := (by rw [hb2.cell (by first | omega | (simp; done) | (simp; omega))]; simp [go_sem, *]); have hbl : b < w2.heap.size := (by omega); clear hb2)
                  | (go_at_call 136; refine (l01Abs_any _ _ (by omega) (by omega)).mono ?_; rintro e w' ⟨rfl, rfl⟩))
                go_roundw
                case rel => exact ⟨k + 1 + 1, _, _, by omega, by go_num, rfl, rfl, by omega, by omega, by omega, by omega, Or.inr ⟨k + 1, y, rfl, Hy.out, rfl, HM.out⟩, by repeat' (first | exact Below.refl _ _ | assumption | refine Below.alloc ?_ (by first | omega | (simp; done) | (simp; omega)) _ | refine Below.drew ?_ | refine Below.setCell ?_ (by first | omega | (simp; done) | (simp; omega)) _)⟩
                case measure => simp [intOf]; omega
        · have gb : (s == 4) = false := by simpa using g4'
          have g4 := Lib.hid g4'
          clear g4'
          have HN := Lib.hid (HS.out.trans (congrArg _ (HE.out.trans (if_neg (fun h => g4.out h.1)))))
          clear HE HS
          have dd : max (mid s len y - mid s len p') (-(mid s len y - mid s len p')) ≤ 1000000 := by omega
          have dd0 : 0 ≤ max (mid s len y - mid s len p') (-(mid s len y - mid s len p')) := by omega
          by_cases ha : a < 0
          · clear dd
            have HM := Lib.hid (HN.out.trans (congrArg _ (if_pos (Or.inl ha))))
            go_wp2_with (first
              | (go_at_call 135; refine (l07MiddleM_any _ _ _ _ hy h1 h2).mono ?_; rintro e w2 ⟨rfl, hb2⟩; have hB2 : Below w.heap.size w w2 := Below.trans (by repeat' (first | exact Below.refl _ _ | assumption | refine Below.alloc ?_ (by first | omega | (simp; done) | (simp; omega)) _ | refine Below.drew ?_ | refine Below.setCell ?_ (by first | omega | (simp; done) | (simp; omega)) _)) (hb2.mono (by first | omega | (simp; done) | (simp; omega))); have hz2 := hB2.size; have q0 : w2.cell? ⟨b, off + k, none⟩ = some (.int .i64 p') := (by rw [hb2.cell (by first | omega | (simp; done) | (simp; omega))]; simp [go_sem, *]); have q1 : w2.cell? ⟨b, off + (k + 1), none⟩ = some (.int .i64 y) := (by rw [hb2.cell (by first | omega | (simp; done) | (simp; omega))]; simp [go_sem, *]); have hbl : b < w2.heap.size := (by omega); clear hb2)
              | (go_at_call 136; refine (l01Abs_any _ _ (by omega) (by omega)).mono ?_; rintro e w' ⟨rfl, rfl⟩))
            go_roundw
            case rel => exact ⟨k + 1 + 1, _, _, by omega, by go_num, rfl, rfl, by omega, by omega, by omega, by omega, Or.inr ⟨k + 1, y, rfl, Hy.out, rfl, HM.out⟩, by repeat' (first | exact Below.refl _ _ | assumption | refine Below.alloc ?_ (by first | omega | (simp; done) | (simp; omega)) _ | refine Below.drew ?_ | refine Below.setCell ?_ (by first | omega | (simp; done) | (simp; omega)) _)⟩
            case measure => simp [intOf]; omega
          · by_cases hb : max (mid s len y - mid s len p') (-(mid s len y - mid s len p')) < a
            · clear dd
              have HM := Lib.hid (HN.out.trans (congrArg _ (if_pos (Or.inr hb))))
              go_wp2_with (first
                | (go_at_call 135; refine (l07MiddleM_any _ _ _ _ hy h1 h2).mono ?_; rintro e w2 ⟨rfl, hb2⟩; have hB2 : Below w.heap.size w w2 := Below.trans (by repeat' (first | exact Below.refl _ _ | assumption | refine Below.alloc ?_ (by first | omega | (simp; done) | (simp; omega)) _ | refine Below.drew ?_ | refine Below.setCell ?_ (by first | omega | (simp; done) | (simp; omega)) _)) (hb2.mono (by first | omega | (simp; done) | (simp; omega))); have hz2 := hB2.size; have q0 : w2.cell? ⟨b, off + k, none⟩ = some (.int .i64 p') := (by rw [hb2.cell (by first | omega | (simp; done) | (simp; omega))]; simp [go_sem, *]); have q1 : w2.cell? ⟨b, off + (k + 1), none⟩ = some (.int .i64 y) := (by rw [hb2.cell (by first | omega | (simp; done) | (simp; omega))]; simp [go_sem, *]); have hbl : b < w2.heap.size := (by omega); clear hb2)
                | (go_at_call 136; refine (l01Abs_any _ _ (by omega) (by omega)).mono ?_; rintro e w' ⟨rfl, rfl⟩))
              go_roundw
              case rel => exact ⟨k + 1 + 1, _, _, by omega, by go_num, rfl, rfl, by omega, by omega, by omega, by omega, Or.inr ⟨k + 1, y, rfl, Hy.out, rfl, HM.out⟩, by repeat' (first | exact Below.refl _ _ | assumption | refine Below.alloc ?_ (by first | omega | (simp; done) | (simp; omega)) _ | refine Below.drew ?_ | refine Below.setCell ?_ (by first | omega | (simp; done) | (simp; omega)) _)⟩
              case measure => simp [intOf]; omega
            · clear dd
              have HM := Lib.hid (HN.out.trans (congrArg _ (if_neg (fun h => h.elim ha hb))))
              go_wp2_with (first
                | (go_at_call 135; refine (l07MiddleM_any _ _ _ _ hy h1 h2).mono ?_; rintro e w2 ⟨rfl, hb2⟩; have hB2 : Below w.heap.size w w2 := Below.trans (by repeat' (first | exact Below.refl _ _ | assumption | refine Below.alloc ?_ (by first | omega | (simp; done) | (simp; omega)) _ | refine Below.drew ?_ | refine Below.setCell ?_ (by first | omega | (simp; done) | (simp; omega)) _)) (hb2.mono (by first | omega | (simp; done) | (simp; omega))); have hz2 := hB2.size; have q0 : w2.cell? ⟨b, off + k, none⟩ = some (.int .i64 p') := (by rw [hb2.cell (by first | omega | (simp; done) | (simp; omega))]; simp [go_sem, *]); have q1 : w2.cell? ⟨b, off + (k + 1), none⟩ = some (.int .i64 y) := (by rw [hb2.cell (by first | omega | (simp; done) | (simp; omega))]; simp [go_sem, *]); have hbl : b < w2.heap.size := (by omega); clear hb2)
                | (go_at_call 136; refine (l01Abs_any _ _ (by omega) (by omega)).mono ?_; rintro e w' ⟨rfl, rfl⟩))
              go_roundw
              case rel => exact ⟨k + 1 + 1, _, _, by omega, by go_num, rfl, rfl, by omega, by omega, by omega, by omega, Or.inr ⟨k + 1, y, rfl, Hy.out, rfl, HM.out⟩, by repeat' (first | exact Below.refl _ _ | assumption | refine Below.alloc ?_ (by first | omega | (simp; done) | (simp; omega)) _ | refine Below.drew ?_ | refine Below.setCell ?_ (by first | omega | (simp; done) | (simp; omega)) _)⟩
              case measure => simp [intOf]; omega
    · obtain rfl : k = n := by omega
      have HZ := Lib.hid (show leastOf s len m = a by subst hl; exact hI.end_)
      clear hs hI hm hl
      go_wp2
      go_ret
      exact ⟨endInt HZ.out.symm, hB⟩
end Go.Proofs.Ythnjiiodpjielaa

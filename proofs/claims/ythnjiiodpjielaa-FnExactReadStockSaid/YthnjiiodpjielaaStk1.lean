/- Reading a stock: the reference's search (layer 11). No condition. -/
import Derived.Test.YthnjiiodpjielaaStk0
namespace Go.Proofs.Ythnjiiodpjielaa
open Go.RowKit
set_option linter.unusedVariables false
set_option linter.unusedSimpArgs false

theorem FB.solo (g : Int → Int) (n : Int) : FB g n (n + 1) n := ⟨Int.le_refl _, by omega, fun k h1 h2 => by
  obtain rfl : k = n := by omega
  exact Int.le_refl _, fun k h1 h2 => by omega⟩
theorem FB.more {g : Int → Int} {a n m : Int} (h : FB g a n m) : FB g a (n + 1) (if g n < g m then n else m) := h.join (FB.solo g n)
def SrchIs (g : Int → Int) (a b : Int) (w : World) (e : Ending) (w' : World) : Prop := ∃ m, e = .returned (.int .i64 m) ∧ FB g a b m ∧ Below w.heap.size w w'
def ReadIs (s tg : Int) (w : World) (e : Ending) (w' : World) : Prop := ∃ m, e = .returned (.agg #[.int .i64 (nD m), .int .i64 (nT m)]) ∧ FB (off s tg) 0 (9000 * decades s) m ∧ Below w.heap.size w w'
theorem sp_bd (s n : Int) : -1 ≤ sp s n ∧ sp s n ≤ 2097152 := by
  have := p_bd (s := s) (t := nT n) (nD_dig n)
  unfold sp ptOf
  omega
set_option maxHeartbeats 1000000 in
theorem l11At_any (n : Int) (w : World) (h1 : 0 ≤ n) (h2 : n ≤ 100000) :
    Calls Try.prog 171 #[.int .i64 n] w fun e w' => e = .returned (.agg #[.int .i64 (nD n), .int .i64 (nT n)]) ∧ Below w.heap.size w w' := by
  go_enter Try.func171, Try.ntmps171
  go_wp2
  exact bodyPost_ret (v := .agg #[.int .i64 (1000 + n % 9000), .int .i64 (n / 9000)]) (by simp [results, Try.results171, go_sem]) rfl ⟨rfl, by repeat' (first | (with_reducible exact Below.refl _ _) | (with_reducible assumption) | (with_reducible refine Below.alloc ?_ ?_ _) | (with_reducible refine Below.drew ?_) | (with_reducible refine belowDraws ?_ _) | (with_reducible refine Below.setCell ?_ ?_ _) | omega | (simp; done) | (simp; omega))⟩
/-- the window's loop -/
def WI (g : Int → Int) (st n be le : Int) : Prop := (st = n ∧ be = -1 ∧ le = 0) ∨ (st < n ∧ FB g st n be ∧ le = g be)
theorem WI.start {g : Int → Int} {st n y : Int} (h : st = n) (hy : y = g n) : WI g st (n + 1) n y := by
  subst h
  exact Or.inr ⟨by omega, FB.solo g _, hy⟩
theorem WI.fb {g : Int → Int} {st n be le : Int} (h : WI g st n be le) (h1 : st < n) : FB g st n be := by
  rcases h with ⟨h, _⟩ | ⟨_, h, _⟩
  · omega
  · exact h
set_option maxRecDepth 100000 in
set_option maxHeartbeats 8000000 in
theorem l11Search_any (s a b tg : Int) (fl : Bool) (w : World) (hS : Seg s a b) (hab : a < b) (hfl : fl = true ↔ s = 3) (g1 : -2097152 ≤ tg) (g2 : tg ≤ 2097152) :
    Calls Try.prog 169 #[.int .i64 s, .int .i64 a, .int .i64 b, .int .i64 tg, .bool fl] w (SrchIs (off s tg) a b w) := by
  have ha0 : 0 ≤ a := hS.2.2.1
  have hb9 : b ≤ 27000 := by have := hS.2.2.2.1; have := decades_bd s; omega
  have hs0 : 0 ≤ s := hS.1
  have hs4 : s ≤ 4 := hS.2.1
  have HWIN := Lib.hid (fun (i : Int) (hC : Cut s tg a b i) (x y m : Int) h1 h2 h3 h4 h5 => hC.window (x := x) (y := y) (m := m) hS h1 h2 h3 h4 h5)
  have hg := Lib.hid (fun n => show off s tg n = max (sp s n - tg) (-(sp s n - tg)) from rfl)
  have hnn := Lib.hid (off_nn s tg)
  generalize off s tg = g at *
  cases fl with
  | true =>
    have hs3 := Lib.hid (hfl.1 rfl)
    clear hfl
    go_enter Try.func169, Try.ntmps169
    go_wp2_with fail
    go_loopw [11, 12] (fun u v wr => ∃ lo hi : Int, u = .int .i64 lo ∧ v = .int .i64 hi ∧ a - 1 ≤ lo ∧ lo < hi ∧ hi ≤ b ∧ (lo = a - 1 ∨ reach s tg lo = false) ∧ (hi = b ∨ reach s tg hi = true) ∧ Below w.heap.size w wr) (fun u v _ => (intOf v - intOf u).toNat)
    case atStart => exact ⟨a - 1, b, rfl, rfl, by omega, by omega, by omega, .inl rfl, .inl rfl, Below.refl _ _⟩
    case round =>
      obtain ⟨lo, hi, rfl, rfl, hlo1, hlt, hhi1, hlo, hhi, hB⟩ := hrel
      have hz := hB.size
      by_cases hgt : 1 < hi - lo
      · obtain ⟨m, hm⟩ : ∃ m, (lo + hi) / 2 = m := ⟨_, rfl⟩
        have m1 : lo < m := by omega
        have m2 : m < hi := by omega
        have HM := Lib.hid hm
        clear hm
        have HR := Lib.hid (show reach s tg m = decide (sp s m ≤ tg) by rw [reach, if_pos hs3.out])
        have bp := sp_bd s m
        have PT := fun W => (fun h1 h2 => l11Point_any s (nD m) (nT m) W (nD_dig m) (by unfold nT; omega) (by unfold nT; omega) : (0 ≤ m) → (m ≤ 100000) → _)
        rw [show ptOf s (nD m) (nT m) = sp s m from rfl] at PT
        generalize sp s m = p at *
        have m0 : 0 ≤ m := by omega
        have m9 : m ≤ 100000 := by omega
        have hs2 : 0 ≤ lo + hi := by omega
        by_cases hp : p ≤ tg
        · have hr := Lib.hid (HR.out.trans (decide_eq_true hp))
          clear HR
          go_wp2_with (first
            | (go_at_call 171; rw [HM.out]; (with_reducible refine (l11At_any m _ m0 m9).mono ?_); rintro e w1 ⟨rfl, hb1⟩; have hB1 : Below w.heap.size w w1 := Below.trans (by repeat' (first | (with_reducible exact Below.refl _ _) | (with_reducible assumption) | (with_reducible refine Below.alloc ?_ ?_ _) | (with_reducible refine Below.drew ?_) | (with_reducible refine belowDraws ?_ _) | (with_reducible refine Below.setCell ?_ ?_ _) | omega | (simp; done) | (simp; omega))) (hb1.mono (by first | omega | (simp; done) | (simp; omega))); have hz1 := hB1.size; clear hb1)
            | (go_at_call 170; (with_reducible refine (PT _ m0 m9).mono ?_); rintro e w2 ⟨rfl, hb2⟩; have hB2 : Below w.heap.size w w2 := Below.trans (by repeat' (first | (with_reducible exact Below.refl _ _) | (with_reducible assumption) | (with_reducible refine Below.alloc ?_ ?_ _) | (with_reducible refine Below.drew ?_) | (with_reducible refine belowDraws ?_ _) | (with_reducible refine Below.setCell ?_ ?_ _) | omega | (simp; done) | (simp; omega))) (hb2.mono (by first | omega | (simp; done) | (simp; omega))); have hz2 := hB2.size; clear hb2))
          go_roundw
          case rel => exact ⟨lo, m, rfl, (by first | rfl | rw [HM.out]), by omega, by omega, by omega, hlo, .inr hr.out, by repeat' (first | (with_reducible exact Below.refl _ _) | (with_reducible assumption) | (with_reducible refine Below.alloc ?_ ?_ _) | (with_reducible refine Below.drew ?_) | (with_reducible refine belowDraws ?_ _) | (with_reducible refine Below.setCell ?_ ?_ _) | omega | (simp; done) | (simp; omega))⟩
          case measure => simp [intOf]; omega
        · have hr := Lib.hid (HR.out.trans (decide_eq_false hp))
          clear HR
          go_wp2_with (first
            | (go_at_call 171; rw [HM.out]; (with_reducible refine (l11At_any m _ m0 m9).mono ?_); rintro e w1 ⟨rfl, hb1⟩; have hB1 : Below w.heap.size w w1 := Below.trans (by repeat' (first | (with_reducible exact Below.refl _ _) | (with_reducible assumption) | (with_reducible refine Below.alloc ?_ ?_ _) | (with_reducible refine Below.drew ?_) | (with_reducible refine belowDraws ?_ _) | (with_reducible refine Below.setCell ?_ ?_ _) | omega | (simp; done) | (simp; omega))) (hb1.mono (by first | omega | (simp; done) | (simp; omega))); have hz1 := hB1.size; clear hb1)
            | (go_at_call 170; (with_reducible refine (PT _ m0 m9).mono ?_); rintro e w2 ⟨rfl, hb2⟩; have hB2 : Below w.heap.size w w2 := Below.trans (by repeat' (first | (with_reducible exact Below.refl _ _) | (with_reducible assumption) | (with_reducible refine Below.alloc ?_ ?_ _) | (with_reducible refine Below.drew ?_) | (with_reducible refine belowDraws ?_ _) | (with_reducible refine Below.setCell ?_ ?_ _) | omega | (simp; done) | (simp; omega))) (hb2.mono (by first | omega | (simp; done) | (simp; omega))); have hz2 := hB2.size; clear hb2))
          go_roundw
          case rel => exact ⟨m, hi, (by first | rfl | rw [HM.out]), rfl, by omega, by omega, by omega, .inr hr.out, hhi, by repeat' (first | (with_reducible exact Below.refl _ _) | (with_reducible assumption) | (with_reducible refine Below.alloc ?_ ?_ _) | (with_reducible refine Below.drew ?_) | (with_reducible refine belowDraws ?_ _) | (with_reducible refine Below.setCell ?_ ?_ _) | omega | (simp; done) | (simp; omega))⟩
          case measure => simp [intOf]; omega
      · have hi1 : lo = hi - 1 := by omega
        have hC : Cut s tg a b hi := ⟨by omega, by omega, by rcases hlo with h | h; · left; omega
                                                             · right; rw [← hi1]; exact h, hhi⟩
        have hwin := Lib.hid (HWIN.out hi hC)
        clear hlo hhi hC hi1
        obtain ⟨w1, rfl⟩ : ∃ W : World, W = wr := ⟨_, rfl⟩
        by_cases hst : a < hi - 3
        · go_wp2_with fail
          go_loopw [15, 16, 17] (fun u v n' wr => ∃ be le n : Int, u = .int .i64 be ∧ v = .int .i64 le ∧ n' = .int .i64 n ∧ hi - 3 ≤ n ∧ n ≤ b ∧ n ≤ hi + 3 ∧ WI g (hi - 3) n be le ∧ Below w.heap.size w wr) (fun u v n' _ => (b - intOf n').toNat)
          case atStart => exact ⟨-1, 0, _, rfl, rfl, rfl, by omega, by omega, by omega, Or.inl ⟨rfl, rfl, rfl⟩, hB⟩
          case round =>
            obtain ⟨wq, rfl⟩ : ∃ W : World, W = wr := ⟨_, rfl⟩
            obtain ⟨be, le, n, rfl, rfl, rfl, n1, n2, n3, hW, hBq⟩ := hrel
            have hzq := hBq.size
            by_cases c1 : n < b
            · by_cases c2 : n < hi + 3
              · have bp := sp_bd s n
                have PT := fun W => l11Point_any s (nD n) (nT n) W (nD_dig n) (by unfold nT; omega) (by unfold nT; omega)
                rw [show ptOf s (nD n) (nT n) = sp s n from rfl] at PT
                have HG := Lib.hid (hg.out n)
                have gn := hnn.out n
                generalize sp s n = p at *
                have AB := fun W => l01Abs_any (p - tg) W (by omega) (by omega)
                rw [← HG.out] at AB
                obtain ⟨y, hy⟩ : ∃ y, g n = y := ⟨_, rfl⟩
                rw [hy] at AB gn
                have HY := Lib.hid hy
                clear hy HG
                have n0 : 0 ≤ n := by omega
                rcases hW with ⟨hn0, rfl, rfl⟩ | ⟨q1, q2, q3⟩
                · have HQ := Lib.hid (WI.start (g := g) hn0 HY.out.symm)
                  clear HY hn0
                  go_wp2_with (first
                    | (go_at_call 171; (with_reducible refine (l11At_any n _ (by omega) (by omega)).mono ?_); rintro e w5 ⟨rfl, hb5⟩; have hB5 : Below w.heap.size w w5 := Below.trans (by repeat' (first | (with_reducible exact Below.refl _ _) | (with_reducible assumption) | (with_reducible refine Below.alloc ?_ ?_ _) | (with_reducible refine Below.drew ?_) | (with_reducible refine belowDraws ?_ _) | (with_reducible refine Below.setCell ?_ ?_ _) | omega | (simp; done) | (simp; omega))) (hb5.mono (by first | omega | (simp; done) | (simp; omega))); have hz5 := hB5.size; clear hb5)
                    | (go_at_call 170; (with_reducible refine (PT _).mono ?_); rintro e w6 ⟨rfl, hb6⟩; have hB6 : Below w.heap.size w w6 := Below.trans (by repeat' (first | (with_reducible exact Below.refl _ _) | (with_reducible assumption) | (with_reducible refine Below.alloc ?_ ?_ _) | (with_reducible refine Below.drew ?_) | (with_reducible refine belowDraws ?_ _) | (with_reducible refine Below.setCell ?_ ?_ _) | omega | (simp; done) | (simp; omega))) (hb6.mono (by first | omega | (simp; done) | (simp; omega))); have hz6 := hB6.size; clear hb6)
                    | (go_at_call 136; (with_reducible refine (AB _).mono ?_); rintro e w' ⟨rfl, rfl⟩))
                  go_roundw
                  case rel => exact ⟨_, _, n + 1, rfl, rfl, rfl, by omega, by omega, by omega, HQ.out, by repeat' (first | (with_reducible exact Below.refl _ _) | (with_reducible assumption) | (with_reducible refine Below.alloc ?_ ?_ _) | (with_reducible refine Below.drew ?_) | (with_reducible refine belowDraws ?_ _) | (with_reducible refine Below.setCell ?_ ?_ _) | omega | (simp; done) | (simp; omega))⟩
                  case measure => simp [intOf]; omega
                · have hbe : 0 ≤ be := by have := q2.1; omega
                  have hq3 := Lib.hid q3
                  by_cases c3 : y < le
                  · have HQ := Lib.hid (show WI g (hi - 3) (n + 1) n y from Or.inr ⟨by omega, by have h := q2.more; rwa [if_pos (by rw [HY.out, ← hq3.out]; exact c3)] at h, HY.out.symm⟩)
                    clear HY hq3 q3 q2
                    go_wp2_with (first
                      | (go_at_call 171; (with_reducible refine (l11At_any n _ (by omega) (by omega)).mono ?_); rintro e w5 ⟨rfl, hb5⟩; have hB5 : Below w.heap.size w w5 := Below.trans (by repeat' (first | (with_reducible exact Below.refl _ _) | (with_reducible assumption) | (with_reducible refine Below.alloc ?_ ?_ _) | (with_reducible refine Below.drew ?_) | (with_reducible refine belowDraws ?_ _) | (with_reducible refine Below.setCell ?_ ?_ _) | omega | (simp; done) | (simp; omega))) (hb5.mono (by first | omega | (simp; done) | (simp; omega))); have hz5 := hB5.size; clear hb5)
                      | (go_at_call 170; (with_reducible refine (PT _).mono ?_); rintro e w6 ⟨rfl, hb6⟩; have hB6 : Below w.heap.size w w6 := Below.trans (by repeat' (first | (with_reducible exact Below.refl _ _) | (with_reducible assumption) | (with_reducible refine Below.alloc ?_ ?_ _) | (with_reducible refine Below.drew ?_) | (with_reducible refine belowDraws ?_ _) | (with_reducible refine Below.setCell ?_ ?_ _) | omega | (simp; done) | (simp; omega))) (hb6.mono (by first | omega | (simp; done) | (simp; omega))); have hz6 := hB6.size; clear hb6)
                      | (go_at_call 136; (with_reducible refine (AB _).mono ?_); rintro e w' ⟨rfl, rfl⟩))
                    go_roundw
                    case rel => exact ⟨_, _, n + 1, rfl, rfl, rfl, by omega, by omega, by omega, HQ.out, by repeat' (first | (with_reducible exact Below.refl _ _) | (with_reducible assumption) | (with_reducible refine Below.alloc ?_ ?_ _) | (with_reducible refine Below.drew ?_) | (with_reducible refine belowDraws ?_ _) | (with_reducible refine Below.setCell ?_ ?_ _) | omega | (simp; done) | (simp; omega))⟩
                    case measure => simp [intOf]; omega
                  · have HQ := Lib.hid (show WI g (hi - 3) (n + 1) be le from Or.inr ⟨by omega, by have h := q2.more; rwa [if_neg (by rw [HY.out, ← hq3.out]; exact c3)] at h, hq3.out⟩)
                    clear HY hq3 q3 q2
                    go_wp2_with (first
                      | (go_at_call 171; (with_reducible refine (l11At_any n _ (by omega) (by omega)).mono ?_); rintro e w5 ⟨rfl, hb5⟩; have hB5 : Below w.heap.size w w5 := Below.trans (by repeat' (first | (with_reducible exact Below.refl _ _) | (with_reducible assumption) | (with_reducible refine Below.alloc ?_ ?_ _) | (with_reducible refine Below.drew ?_) | (with_reducible refine belowDraws ?_ _) | (with_reducible refine Below.setCell ?_ ?_ _) | omega | (simp; done) | (simp; omega))) (hb5.mono (by first | omega | (simp; done) | (simp; omega))); have hz5 := hB5.size; clear hb5)
                      | (go_at_call 170; (with_reducible refine (PT _).mono ?_); rintro e w6 ⟨rfl, hb6⟩; have hB6 : Below w.heap.size w w6 := Below.trans (by repeat' (first | (with_reducible exact Below.refl _ _) | (with_reducible assumption) | (with_reducible refine Below.alloc ?_ ?_ _) | (with_reducible refine Below.drew ?_) | (with_reducible refine belowDraws ?_ _) | (with_reducible refine Below.setCell ?_ ?_ _) | omega | (simp; done) | (simp; omega))) (hb6.mono (by first | omega | (simp; done) | (simp; omega))); have hz6 := hB6.size; clear hb6)
                      | (go_at_call 136; (with_reducible refine (AB _).mono ?_); rintro e w' ⟨rfl, rfl⟩))
                    go_roundw
                    case rel => exact ⟨_, _, n + 1, rfl, rfl, rfl, by omega, by omega, by omega, HQ.out, by repeat' (first | (with_reducible exact Below.refl _ _) | (with_reducible assumption) | (with_reducible refine Below.alloc ?_ ?_ _) | (with_reducible refine Below.drew ?_) | (with_reducible refine belowDraws ?_ _) | (with_reducible refine Below.setCell ?_ ?_ _) | omega | (simp; done) | (simp; omega))⟩
                    case measure => simp [intOf]; omega
              · have hF : FB g a b be := hwin.out _ n be (by omega) n2 (by omega) (by omega) (hW.fb (by omega))
                go_wp2_with fail
                go_ret
                exact ⟨_, rfl, hF, hBq⟩
            · have hF : FB g a b be := hwin.out _ n be (by omega) n2 (by omega) (by omega) (hW.fb (by omega))
              go_wp2_with fail
              go_ret
              exact ⟨_, rfl, hF, hBq⟩
        · by_cases hst2 : hi - 3 < a
          · go_wp2_with fail
            go_loopw [15, 16, 17] (fun u v n' wr => ∃ be le n : Int, u = .int .i64 be ∧ v = .int .i64 le ∧ n' = .int .i64 n ∧ a ≤ n ∧ n ≤ b ∧ n ≤ hi + 3 ∧ WI g (a) n be le ∧ Below w.heap.size w wr) (fun u v n' _ => (b - intOf n').toNat)
            case atStart => exact ⟨-1, 0, _, rfl, rfl, rfl, by omega, by omega, by omega, Or.inl ⟨rfl, rfl, rfl⟩, hB⟩
            case round =>
              obtain ⟨wq, rfl⟩ : ∃ W : World, W = wr := ⟨_, rfl⟩
              obtain ⟨be, le, n, rfl, rfl, rfl, n1, n2, n3, hW, hBq⟩ := hrel
              have hzq := hBq.size
              by_cases c1 : n < b
              · by_cases c2 : n < hi + 3
                · have bp := sp_bd s n
                  have PT := fun W => l11Point_any s (nD n) (nT n) W (nD_dig n) (by unfold nT; omega) (by unfold nT; omega)
                  rw [show ptOf s (nD n) (nT n) = sp s n from rfl] at PT
                  have HG := Lib.hid (hg.out n)
                  have gn := hnn.out n
                  generalize sp s n = p at *
                  have AB := fun W => l01Abs_any (p - tg) W (by omega) (by omega)
                  rw [← HG.out] at AB
                  obtain ⟨y, hy⟩ : ∃ y, g n = y := ⟨_, rfl⟩
                  rw [hy] at AB gn
                  have HY := Lib.hid hy
                  clear hy HG
                  have n0 : 0 ≤ n := by omega
                  rcases hW with ⟨hn0, rfl, rfl⟩ | ⟨q1, q2, q3⟩
                  · have HQ := Lib.hid (WI.start (g := g) hn0 HY.out.symm)
                    clear HY hn0
                    go_wp2_with (first
                      | (go_at_call 171; (with_reducible refine (l11At_any n _ (by omega) (by omega)).mono ?_); rintro e w5 ⟨rfl, hb5⟩; have hB5 : Below w.heap.size w w5 := Below.trans (by repeat' (first | (with_reducible exact Below.refl _ _) | (with_reducible assumption) | (with_reducible refine Below.alloc ?_ ?_ _) | (with_reducible refine Below.drew ?_) | (with_reducible refine belowDraws ?_ _) | (with_reducible refine Below.setCell ?_ ?_ _) | omega | (simp; done) | (simp; omega))) (hb5.mono (by first | omega | (simp; done) | (simp; omega))); have hz5 := hB5.size; clear hb5)
                      | (go_at_call 170; (with_reducible refine (PT _).mono ?_); rintro e w6 ⟨rfl, hb6⟩; have hB6 : Below w.heap.size w w6 := Below.trans (by repeat' (first | (with_reducible exact Below.refl _ _) | (with_reducible assumption) | (with_reducible refine Below.alloc ?_ ?_ _) | (with_reducible refine Below.drew ?_) | (with_reducible refine belowDraws ?_ _) | (with_reducible refine Below.setCell ?_ ?_ _) | omega | (simp; done) | (simp; omega))) (hb6.mono (by first | omega | (simp; done) | (simp; omega))); have hz6 := hB6.size; clear hb6)
                      | (go_at_call 136; (with_reducible refine (AB _).mono ?_); rintro e w' ⟨rfl, rfl⟩))
                    go_roundw
                    case rel => exact ⟨_, _, n + 1, rfl, rfl, rfl, by omega, by omega, by omega, HQ.out, by repeat' (first | (with_reducible exact Below.refl _ _) | (with_reducible assumption) | (with_reducible refine Below.alloc ?_ ?_ _) | (with_reducible refine Below.drew ?_) | (with_reducible refine belowDraws ?_ _) | (with_reducible refine Below.setCell ?_ ?_ _) | omega | (simp; done) | (simp; omega))⟩
                    case measure => simp [intOf]; omega
                  · have hbe : 0 ≤ be := by have := q2.1; omega
                    have hq3 := Lib.hid q3
                    by_cases c3 : y < le
                    · have HQ := Lib.hid (show WI g (a) (n + 1) n y from Or.inr ⟨by omega, by have h := q2.more; rwa [if_pos (by rw [HY.out, ← hq3.out]; exact c3)] at h, HY.out.symm⟩)
                      clear HY hq3 q3 q2
                      go_wp2_with (first
                        | (go_at_call 171; (with_reducible refine (l11At_any n _ (by omega) (by omega)).mono ?_); rintro e w5 ⟨rfl, hb5⟩; have hB5 : Below w.heap.size w w5 := Below.trans (by repeat' (first | (with_reducible exact Below.refl _ _) | (with_reducible assumption) | (with_reducible refine Below.alloc ?_ ?_ _) | (with_reducible refine Below.drew ?_) | (with_reducible refine belowDraws ?_ _) | (with_reducible refine Below.setCell ?_ ?_ _) | omega | (simp; done) | (simp; omega))) (hb5.mono (by first | omega | (simp; done) | (simp; omega))); have hz5 := hB5.size; clear hb5)
                        | (go_at_call 170; (with_reducible refine (PT _).mono ?_); rintro e w6 ⟨rfl, hb6⟩; have hB6 : Below w.heap.size w w6 := Below.trans (by repeat' (first | (with_reducible exact Below.refl _ _) | (with_reducible assumption) | (with_reducible refine Below.alloc ?_ ?_ _) | (with_reducible refine Below.drew ?_) | (with_reducible refine belowDraws ?_ _) | (with_reducible refine Below.setCell ?_ ?_ _) | omega | (simp; done) | (simp; omega))) (hb6.mono (by first | omega | (simp; done) | (simp; omega))); have hz6 := hB6.size; clear hb6)
                        | (go_at_call 136; (with_reducible refine (AB _).mono ?_); rintro e w' ⟨rfl, rfl⟩))
                      go_roundw
                      case rel => exact ⟨_, _, n + 1, rfl, rfl, rfl, by omega, by omega, by omega, HQ.out, by repeat' (first | (with_reducible exact Below.refl _ _) | (with_reducible assumption) | (with_reducible refine Below.alloc ?_ ?_ _) | (with_reducible refine Below.drew ?_) | (with_reducible refine belowDraws ?_ _) | (with_reducible refine Below.setCell ?_ ?_ _) | omega | (simp; done) | (simp; omega))⟩
                      case measure => simp [intOf]; omega
                    · have HQ := Lib.hid (show WI g (a) (n + 1) be le from Or.inr ⟨by omega, by have h := q2.more; rwa [if_neg (by rw [HY.out, ← hq3.out]; exact c3)] at h, hq3.out⟩)
                      clear HY hq3 q3 q2
                      go_wp2_with (first
                        | (go_at_call 171; (with_reducible refine (l11At_any n _ (by omega) (by omega)).mono ?_); rintro e w5 ⟨rfl, hb5⟩; have hB5 : Below w.heap.size w w5 := Below.trans (by repeat' (first | (with_reducible exact Below.refl _ _) | (with_reducible assumption) | (with_reducible refine Below.alloc ?_ ?_ _) | (with_reducible refine Below.drew ?_) | (with_reducible refine belowDraws ?_ _) | (with_reducible refine Below.setCell ?_ ?_ _) | omega | (simp; done) | (simp; omega))) (hb5.mono (by first | omega | (simp; done) | (simp; omega))); have hz5 := hB5.size; clear hb5)
                        | (go_at_call 170; (with_reducible refine (PT _).mono ?_); rintro e w6 ⟨rfl, hb6⟩; have hB6 : Below w.heap.size w w6 := Below.trans (by repeat' (first | (with_reducible exact Below.refl _ _) | (with_reducible assumption) | (with_reducible refine Below.alloc ?_ ?_ _) | (with_reducible refine Below.drew ?_) | (with_reducible refine belowDraws ?_ _) | (with_reducible refine Below.setCell ?_ ?_ _) | omega | (simp; done) | (simp; omega))) (hb6.mono (by first | omega | (simp; done) | (simp; omega))); have hz6 := hB6.size; clear hb6)
                        | (go_at_call 136; (with_reducible refine (AB _).mono ?_); rintro e w' ⟨rfl, rfl⟩))
                      go_roundw
                      case rel => exact ⟨_, _, n + 1, rfl, rfl, rfl, by omega, by omega, by omega, HQ.out, by repeat' (first | (with_reducible exact Below.refl _ _) | (with_reducible assumption) | (with_reducible refine Below.alloc ?_ ?_ _) | (with_reducible refine Below.drew ?_) | (with_reducible refine belowDraws ?_ _) | (with_reducible refine Below.setCell ?_ ?_ _) | omega | (simp; done) | (simp; omega))⟩
                      case measure => simp [intOf]; omega
                · have hF : FB g a b be := hwin.out _ n be (by omega) n2 (by omega) (by omega) (hW.fb (by omega))
                  go_wp2_with fail
                  go_ret
                  exact ⟨_, rfl, hF, hBq⟩
              · have hF : FB g a b be := hwin.out _ n be (by omega) n2 (by omega) (by omega) (hW.fb (by omega))
                go_wp2_with fail
                go_ret
                exact ⟨_, rfl, hF, hBq⟩
          · obtain rfl : hi = a + 3 := by omega
            go_wp2_with fail
            go_loopw [15, 16, 17] (fun u v n' wr => ∃ be le n : Int, u = .int .i64 be ∧ v = .int .i64 le ∧ n' = .int .i64 n ∧ a ≤ n ∧ n ≤ b ∧ n ≤ (a + 3) + 3 ∧ WI g (a) n be le ∧ Below w.heap.size w wr) (fun u v n' _ => (b - intOf n').toNat)
            case atStart => exact ⟨-1, 0, _, rfl, rfl, rfl, by omega, by omega, by omega, Or.inl ⟨rfl, rfl, rfl⟩, hB⟩
            case round =>
              obtain ⟨wq, rfl⟩ : ∃ W : World, W = wr := ⟨_, rfl⟩
              obtain ⟨be, le, n, rfl, rfl, rfl, n1, n2, n3, hW, hBq⟩ := hrel
              have hzq := hBq.size
              by_cases c1 : n < b
              · by_cases c2 : n < (a + 3) + 3
                · have bp := sp_bd s n
                  have PT := fun W => l11Point_any s (nD n) (nT n) W (nD_dig n) (by unfold nT; omega) (by unfold nT; omega)
                  rw [show ptOf s (nD n) (nT n) = sp s n from rfl] at PT
                  have HG := Lib.hid (hg.out n)
                  have gn := hnn.out n
                  generalize sp s n = p at *
                  have AB := fun W => l01Abs_any (p - tg) W (by omega) (by omega)
                  rw [← HG.out] at AB
                  obtain ⟨y, hy⟩ : ∃ y, g n = y := ⟨_, rfl⟩
                  rw [hy] at AB gn
                  have HY := Lib.hid hy
                  clear hy HG
                  have n0 : 0 ≤ n := by omega
                  rcases hW with ⟨hn0, rfl, rfl⟩ | ⟨q1, q2, q3⟩
                  · have HQ := Lib.hid (WI.start (g := g) hn0 HY.out.symm)
                    clear HY hn0
                    go_wp2_with (first
                      | (go_at_call 171; (with_reducible refine (l11At_any n _ (by omega) (by omega)).mono ?_); rintro e w5 ⟨rfl, hb5⟩; have hB5 : Below w.heap.size w w5 := Below.trans (by repeat' (first | (with_reducible exact Below.refl _ _) | (with_reducible assumption) | (with_reducible refine Below.alloc ?_ ?_ _) | (with_reducible refine Below.drew ?_) | (with_reducible refine belowDraws ?_ _) | (with_reducible refine Below.setCell ?_ ?_ _) | omega | (simp; done) | (simp; omega))) (hb5.mono (by first | omega | (simp; done) | (simp; omega))); have hz5 := hB5.size; clear hb5)
                      | (go_at_call 170; (with_reducible refine (PT _).mono ?_); rintro e w6 ⟨rfl, hb6⟩; have hB6 : Below w.heap.size w w6 := Below.trans (by repeat' (first | (with_reducible exact Below.refl _ _) | (with_reducible assumption) | (with_reducible refine Below.alloc ?_ ?_ _) | (with_reducible refine Below.drew ?_) | (with_reducible refine belowDraws ?_ _) | (with_reducible refine Below.setCell ?_ ?_ _) | omega | (simp; done) | (simp; omega))) (hb6.mono (by first | omega | (simp; done) | (simp; omega))); have hz6 := hB6.size; clear hb6)
                      | (go_at_call 136; (with_reducible refine (AB _).mono ?_); rintro e w' ⟨rfl, rfl⟩))
                    go_roundw
                    case rel => exact ⟨_, _, n + 1, rfl, rfl, rfl, by omega, by omega, by omega, HQ.out, by repeat' (first | (with_reducible exact Below.refl _ _) | (with_reducible assumption) | (with_reducible refine Below.alloc ?_ ?_ _) | (with_reducible refine Below.drew ?_) | (with_reducible refine belowDraws ?_ _) | (with_reducible refine Below.setCell ?_ ?_ _) | omega | (simp; done) | (simp; omega))⟩
                    case measure => simp [intOf]; omega
                  · have hbe : 0 ≤ be := by have := q2.1; omega
                    have hq3 := Lib.hid q3
                    by_cases c3 : y < le
                    · have HQ := Lib.hid (show WI g (a) (n + 1) n y from Or.inr ⟨by omega, by have h := q2.more; rwa [if_pos (by rw [HY.out, ← hq3.out]; exact c3)] at h, HY.out.symm⟩)
                      clear HY hq3 q3 q2
                      go_wp2_with (first
                        | (go_at_call 171; (with_reducible refine (l11At_any n _ (by omega) (by omega)).mono ?_); rintro e w5 ⟨rfl, hb5⟩; have hB5 : Below w.heap.size w w5 := Below.trans (by repeat' (first | (with_reducible exact Below.refl _ _) | (with_reducible assumption) | (with_reducible refine Below.alloc ?_ ?_ _) | (with_reducible refine Below.drew ?_) | (with_reducible refine belowDraws ?_ _) | (with_reducible refine Below.setCell ?_ ?_ _) | omega | (simp; done) | (simp; omega))) (hb5.mono (by first | omega | (simp; done) | (simp; omega))); have hz5 := hB5.size; clear hb5)
                        | (go_at_call 170; (with_reducible refine (PT _).mono ?_); rintro e w6 ⟨rfl, hb6⟩; have hB6 : Below w.heap.size w w6 := Below.trans (by repeat' (first | (with_reducible exact Below.refl _ _) | (with_reducible assumption) | (with_reducible refine Below.alloc ?_ ?_ _) | (with_reducible refine Below.drew ?_) | (with_reducible refine belowDraws ?_ _) | (with_reducible refine Below.setCell ?_ ?_ _) | omega | (simp; done) | (simp; omega))) (hb6.mono (by first | omega | (simp; done) | (simp; omega))); have hz6 := hB6.size; clear hb6)
                        | (go_at_call 136; (with_reducible refine (AB _).mono ?_); rintro e w' ⟨rfl, rfl⟩))
                      go_roundw
                      case rel => exact ⟨_, _, n + 1, rfl, rfl, rfl, by omega, by omega, by omega, HQ.out, by repeat' (first | (with_reducible exact Below.refl _ _) | (with_reducible assumption) | (with_reducible refine Below.alloc ?_ ?_ _) | (with_reducible refine Below.drew ?_) | (with_reducible refine belowDraws ?_ _) | (with_reducible refine Below.setCell ?_ ?_ _) | omega | (simp; done) | (simp; omega))⟩
                      case measure => simp [intOf]; omega
                    · have HQ := Lib.hid (show WI g (a) (n + 1) be le from Or.inr ⟨by omega, by have h := q2.more; rwa [if_neg (by rw [HY.out, ← hq3.out]; exact c3)] at h, hq3.out⟩)
                      clear HY hq3 q3 q2
                      go_wp2_with (first
                        | (go_at_call 171; (with_reducible refine (l11At_any n _ (by omega) (by omega)).mono ?_); rintro e w5 ⟨rfl, hb5⟩; have hB5 : Below w.heap.size w w5 := Below.trans (by repeat' (first | (with_reducible exact Below.refl _ _) | (with_reducible assumption) | (with_reducible refine Below.alloc ?_ ?_ _) | (with_reducible refine Below.drew ?_) | (with_reducible refine belowDraws ?_ _) | (with_reducible refine Below.setCell ?_ ?_ _) | omega | (simp; done) | (simp; omega))) (hb5.mono (by first | omega | (simp; done) | (simp; omega))); have hz5 := hB5.size; clear hb5)
                        | (go_at_call 170; (with_reducible refine (PT _).mono ?_); rintro e w6 ⟨rfl, hb6⟩; have hB6 : Below w.heap.size w w6 := Below.trans (by repeat' (first | (with_reducible exact Below.refl _ _) | (with_reducible assumption) | (with_reducible refine Below.alloc ?_ ?_ _) | (with_reducible refine Below.drew ?_) | (with_reducible refine belowDraws ?_ _) | (with_reducible refine Below.setCell ?_ ?_ _) | omega | (simp; done) | (simp; omega))) (hb6.mono (by first | omega | (simp; done) | (simp; omega))); have hz6 := hB6.size; clear hb6)
                        | (go_at_call 136; (with_reducible refine (AB _).mono ?_); rintro e w' ⟨rfl, rfl⟩))
                      go_roundw
                      case rel => exact ⟨_, _, n + 1, rfl, rfl, rfl, by omega, by omega, by omega, HQ.out, by repeat' (first | (with_reducible exact Below.refl _ _) | (with_reducible assumption) | (with_reducible refine Below.alloc ?_ ?_ _) | (with_reducible refine Below.drew ?_) | (with_reducible refine belowDraws ?_ _) | (with_reducible refine Below.setCell ?_ ?_ _) | omega | (simp; done) | (simp; omega))⟩
                      case measure => simp [intOf]; omega
                · have hF : FB g a b be := hwin.out _ n be (by omega) n2 (by omega) (by omega) (hW.fb (by omega))
                  go_wp2_with fail
                  go_ret
                  exact ⟨_, rfl, hF, hBq⟩
              · have hF : FB g a b be := hwin.out _ n be (by omega) n2 (by omega) (by omega) (hW.fb (by omega))
                go_wp2_with fail
                go_ret
                exact ⟨_, rfl, hF, hBq⟩
  | false =>
    have hs3 := Lib.hid (show ¬ s = 3 from fun h => nomatch (hfl.2 h))
    clear hfl
    go_enter Try.func169, Try.ntmps169
    go_wp2_with fail
    go_loopw [11, 12] (fun u v wr => ∃ lo hi : Int, u = .int .i64 lo ∧ v = .int .i64 hi ∧ a - 1 ≤ lo ∧ lo < hi ∧ hi ≤ b ∧ (lo = a - 1 ∨ reach s tg lo = false) ∧ (hi = b ∨ reach s tg hi = true) ∧ Below w.heap.size w wr) (fun u v _ => (intOf v - intOf u).toNat)
    case atStart => exact ⟨a - 1, b, rfl, rfl, by omega, by omega, by omega, .inl rfl, .inl rfl, Below.refl _ _⟩
    case round =>
      obtain ⟨lo, hi, rfl, rfl, hlo1, hlt, hhi1, hlo, hhi, hB⟩ := hrel
      have hz := hB.size
      by_cases hgt : 1 < hi - lo
      · obtain ⟨m, hm⟩ : ∃ m, (lo + hi) / 2 = m := ⟨_, rfl⟩
        have m1 : lo < m := by omega
        have m2 : m < hi := by omega
        have HM := Lib.hid hm
        clear hm
        have HR := Lib.hid (show reach s tg m = decide (tg ≤ sp s m) by rw [reach, if_neg hs3.out])
        have bp := sp_bd s m
        have PT := fun W => (fun h1 h2 => l11Point_any s (nD m) (nT m) W (nD_dig m) (by unfold nT; omega) (by unfold nT; omega) : (0 ≤ m) → (m ≤ 100000) → _)
        rw [show ptOf s (nD m) (nT m) = sp s m from rfl] at PT
        generalize sp s m = p at *
        have m0 : 0 ≤ m := by omega
        have m9 : m ≤ 100000 := by omega
        have hs2 : 0 ≤ lo + hi := by omega
        by_cases hp : tg ≤ p
        · have hr := Lib.hid (HR.out.trans (decide_eq_true hp))
          clear HR
          go_wp2_with (first
            | (go_at_call 171; rw [HM.out]; (with_reducible refine (l11At_any m _ m0 m9).mono ?_); rintro e w1 ⟨rfl, hb1⟩; have hB1 : Below w.heap.size w w1 := Below.trans (by repeat' (first | (with_reducible exact Below.refl _ _) | (with_reducible assumption) | (with_reducible refine Below.alloc ?_ ?_ _) | (with_reducible refine Below.drew ?_) | (with_reducible refine belowDraws ?_ _) | (with_reducible refine Below.setCell ?_ ?_ _) | omega | (simp; done) | (simp; omega))) (hb1.mono (by first | omega | (simp; done) | (simp; omega))); have hz1 := hB1.size; clear hb1)
            | (go_at_call 170; (with_reducible refine (PT _ m0 m9).mono ?_); rintro e w2 ⟨rfl, hb2⟩; have hB2 : Below w.heap.size w w2 := Below.trans (by repeat' (first | (with_reducible exact Below.refl _ _) | (with_reducible assumption) | (with_reducible refine Below.alloc ?_ ?_ _) | (with_reducible refine Below.drew ?_) | (with_reducible refine belowDraws ?_ _) | (with_reducible refine Below.setCell ?_ ?_ _) | omega | (simp; done) | (simp; omega))) (hb2.mono (by first | omega | (simp; done) | (simp; omega))); have hz2 := hB2.size; clear hb2))
          go_roundw
          case rel => exact ⟨lo, m, rfl, (by first | rfl | rw [HM.out]), by omega, by omega, by omega, hlo, .inr hr.out, by repeat' (first | (with_reducible exact Below.refl _ _) | (with_reducible assumption) | (with_reducible refine Below.alloc ?_ ?_ _) | (with_reducible refine Below.drew ?_) | (with_reducible refine belowDraws ?_ _) | (with_reducible refine Below.setCell ?_ ?_ _) | omega | (simp; done) | (simp; omega))⟩
          case measure => simp [intOf]; omega
        · have hr := Lib.hid (HR.out.trans (decide_eq_false hp))
          clear HR
          go_wp2_with (first
            | (go_at_call 171; rw [HM.out]; (with_reducible refine (l11At_any m _ m0 m9).mono ?_); rintro e w1 ⟨rfl, hb1⟩; have hB1 : Below w.heap.size w w1 := Below.trans (by repeat' (first | (with_reducible exact Below.refl _ _) | (with_reducible assumption) | (with_reducible refine Below.alloc ?_ ?_ _) | (with_reducible refine Below.drew ?_) | (with_reducible refine belowDraws ?_ _) | (with_reducible refine Below.setCell ?_ ?_ _) | omega | (simp; done) | (simp; omega))) (hb1.mono (by first | omega | (simp; done) | (simp; omega))); have hz1 := hB1.size; clear hb1)
            | (go_at_call 170; (with_reducible refine (PT _ m0 m9).mono ?_); rintro e w2 ⟨rfl, hb2⟩; have hB2 : Below w.heap.size w w2 := Below.trans (by repeat' (first | (with_reducible exact Below.refl _ _) | (with_reducible assumption) | (with_reducible refine Below.alloc ?_ ?_ _) | (with_reducible refine Below.drew ?_) | (with_reducible refine belowDraws ?_ _) | (with_reducible refine Below.setCell ?_ ?_ _) | omega | (simp; done) | (simp; omega))) (hb2.mono (by first | omega | (simp; done) | (simp; omega))); have hz2 := hB2.size; clear hb2))
          go_roundw
          case rel => exact ⟨m, hi, (by first | rfl | rw [HM.out]), rfl, by omega, by omega, by omega, .inr hr.out, hhi, by repeat' (first | (with_reducible exact Below.refl _ _) | (with_reducible assumption) | (with_reducible refine Below.alloc ?_ ?_ _) | (with_reducible refine Below.drew ?_) | (with_reducible refine belowDraws ?_ _) | (with_reducible refine Below.setCell ?_ ?_ _) | omega | (simp; done) | (simp; omega))⟩
          case measure => simp [intOf]; omega
      · have hi1 : lo = hi - 1 := by omega
        have hC : Cut s tg a b hi := ⟨by omega, by omega, by rcases hlo with h | h; · left; omega
                                                             · right; rw [← hi1]; exact h, hhi⟩
        have hwin := Lib.hid (HWIN.out hi hC)
        clear hlo hhi hC hi1
        obtain ⟨w1, rfl⟩ : ∃ W : World, W = wr := ⟨_, rfl⟩
        by_cases hst : a < hi - 3
        · go_wp2_with fail
          go_loopw [15, 16, 17] (fun u v n' wr => ∃ be le n : Int, u = .int .i64 be ∧ v = .int .i64 le ∧ n' = .int .i64 n ∧ hi - 3 ≤ n ∧ n ≤ b ∧ n ≤ hi + 3 ∧ WI g (hi - 3) n be le ∧ Below w.heap.size w wr) (fun u v n' _ => (b - intOf n').toNat)
          case atStart => exact ⟨-1, 0, _, rfl, rfl, rfl, by omega, by omega, by omega, Or.inl ⟨rfl, rfl, rfl⟩, hB⟩
          case round =>
            obtain ⟨wq, rfl⟩ : ∃ W : World, W = wr := ⟨_, rfl⟩
            obtain ⟨be, le, n, rfl, rfl, rfl, n1, n2, n3, hW, hBq⟩ := hrel
            have hzq := hBq.size
            by_cases c1 : n < b
            · by_cases c2 : n < hi + 3
              · have bp := sp_bd s n
                have PT := fun W => l11Point_any s (nD n) (nT n) W (nD_dig n) (by unfold nT; omega) (by unfold nT; omega)
                rw [show ptOf s (nD n) (nT n) = sp s n from rfl] at PT
                have HG := Lib.hid (hg.out n)
                have gn := hnn.out n
                generalize sp s n = p at *
                have AB := fun W => l01Abs_any (p - tg) W (by omega) (by omega)
                rw [← HG.out] at AB
                obtain ⟨y, hy⟩ : ∃ y, g n = y := ⟨_, rfl⟩
                rw [hy] at AB gn
                have HY := Lib.hid hy
                clear hy HG
                have n0 : 0 ≤ n := by omega
                rcases hW with ⟨hn0, rfl, rfl⟩ | ⟨q1, q2, q3⟩
                · have HQ := Lib.hid (WI.start (g := g) hn0 HY.out.symm)
                  clear HY hn0
                  go_wp2_with (first
                    | (go_at_call 171; (with_reducible refine (l11At_any n _ (by omega) (by omega)).mono ?_); rintro e w5 ⟨rfl, hb5⟩; have hB5 : Below w.heap.size w w5 := Below.trans (by repeat' (first | (with_reducible exact Below.refl _ _) | (with_reducible assumption) | (with_reducible refine Below.alloc ?_ ?_ _) | (with_reducible refine Below.drew ?_) | (with_reducible refine belowDraws ?_ _) | (with_reducible refine Below.setCell ?_ ?_ _) | omega | (simp; done) | (simp; omega))) (hb5.mono (by first | omega | (simp; done) | (simp; omega))); have hz5 := hB5.size; clear hb5)
                    | (go_at_call 170; (with_reducible refine (PT _).mono ?_); rintro e w6 ⟨rfl, hb6⟩; have hB6 : Below w.heap.size w w6 := Below.trans (by repeat' (first | (with_reducible exact Below.refl _ _) | (with_reducible assumption) | (with_reducible refine Below.alloc ?_ ?_ _) | (with_reducible refine Below.drew ?_) | (with_reducible refine belowDraws ?_ _) | (with_reducible refine Below.setCell ?_ ?_ _) | omega | (simp; done) | (simp; omega))) (hb6.mono (by first | omega | (simp; done) | (simp; omega))); have hz6 := hB6.size; clear hb6)
                    | (go_at_call 136; (with_reducible refine (AB _).mono ?_); rintro e w' ⟨rfl, rfl⟩))
                  go_roundw
                  case rel => exact ⟨_, _, n + 1, rfl, rfl, rfl, by omega, by omega, by omega, HQ.out, by repeat' (first | (with_reducible exact Below.refl _ _) | (with_reducible assumption) | (with_reducible refine Below.alloc ?_ ?_ _) | (with_reducible refine Below.drew ?_) | (with_reducible refine belowDraws ?_ _) | (with_reducible refine Below.setCell ?_ ?_ _) | omega | (simp; done) | (simp; omega))⟩
                  case measure => simp [intOf]; omega
                · have hbe : 0 ≤ be := by have := q2.1; omega
                  have hq3 := Lib.hid q3
                  by_cases c3 : y < le
                  · have HQ := Lib.hid (show WI g (hi - 3) (n + 1) n y from Or.inr ⟨by omega, by have h := q2.more; rwa [if_pos (by rw [HY.out, ← hq3.out]; exact c3)] at h, HY.out.symm⟩)
                    clear HY hq3 q3 q2
                    go_wp2_with (first
                      | (go_at_call 171; (with_reducible refine (l11At_any n _ (by omega) (by omega)).mono ?_); rintro e w5 ⟨rfl, hb5⟩; have hB5 : Below w.heap.size w w5 := Below.trans (by repeat' (first | (with_reducible exact Below.refl _ _) | (with_reducible assumption) | (with_reducible refine Below.alloc ?_ ?_ _) | (with_reducible refine Below.drew ?_) | (with_reducible refine belowDraws ?_ _) | (with_reducible refine Below.setCell ?_ ?_ _) | omega | (simp; done) | (simp; omega))) (hb5.mono (by first | omega | (simp; done) | (simp; omega))); have hz5 := hB5.size; clear hb5)
                      | (go_at_call 170; (with_reducible refine (PT _).mono ?_); rintro e w6 ⟨rfl, hb6⟩; have hB6 : Below w.heap.size w w6 := Below.trans (by repeat' (first | (with_reducible exact Below.refl _ _) | (with_reducible assumption) | (with_reducible refine Below.alloc ?_ ?_ _) | (with_reducible refine Below.drew ?_) | (with_reducible refine belowDraws ?_ _) | (with_reducible refine Below.setCell ?_ ?_ _) | omega | (simp; done) | (simp; omega))) (hb6.mono (by first | omega | (simp; done) | (simp; omega))); have hz6 := hB6.size; clear hb6)
                      | (go_at_call 136; (with_reducible refine (AB _).mono ?_); rintro e w' ⟨rfl, rfl⟩))
                    go_roundw
                    case rel => exact ⟨_, _, n + 1, rfl, rfl, rfl, by omega, by omega, by omega, HQ.out, by repeat' (first | (with_reducible exact Below.refl _ _) | (with_reducible assumption) | (with_reducible refine Below.alloc ?_ ?_ _) | (with_reducible refine Below.drew ?_) | (with_reducible refine belowDraws ?_ _) | (with_reducible refine Below.setCell ?_ ?_ _) | omega | (simp; done) | (simp; omega))⟩
                    case measure => simp [intOf]; omega
                  · have HQ := Lib.hid (show WI g (hi - 3) (n + 1) be le from Or.inr ⟨by omega, by have h := q2.more; rwa [if_neg (by rw [HY.out, ← hq3.out]; exact c3)] at h, hq3.out⟩)
                    clear HY hq3 q3 q2
                    go_wp2_with (first
                      | (go_at_call 171; (with_reducible refine (l11At_any n _ (by omega) (by omega)).mono ?_); rintro e w5 ⟨rfl, hb5⟩; have hB5 : Below w.heap.size w w5 := Below.trans (by repeat' (first | (with_reducible exact Below.refl _ _) | (with_reducible assumption) | (with_reducible refine Below.alloc ?_ ?_ _) | (with_reducible refine Below.drew ?_) | (with_reducible refine belowDraws ?_ _) | (with_reducible refine Below.setCell ?_ ?_ _) | omega | (simp; done) | (simp; omega))) (hb5.mono (by first | omega | (simp; done) | (simp; omega))); have hz5 := hB5.size; clear hb5)
                      | (go_at_call 170; (with_reducible refine (PT _).mono ?_); rintro e w6 ⟨rfl, hb6⟩; have hB6 : Below w.heap.size w w6 := Below.trans (by repeat' (first | (with_reducible exact Below.refl _ _) | (with_reducible assumption) | (with_reducible refine Below.alloc ?_ ?_ _) | (with_reducible refine Below.drew ?_) | (with_reducible refine belowDraws ?_ _) | (with_reducible refine Below.setCell ?_ ?_ _) | omega | (simp; done) | (simp; omega))) (hb6.mono (by first | omega | (simp; done) | (simp; omega))); have hz6 := hB6.size; clear hb6)
                      | (go_at_call 136; (with_reducible refine (AB _).mono ?_); rintro e w' ⟨rfl, rfl⟩))
                    go_roundw
                    case rel => exact ⟨_, _, n + 1, rfl, rfl, rfl, by omega, by omega, by omega, HQ.out, by repeat' (first | (with_reducible exact Below.refl _ _) | (with_reducible assumption) | (with_reducible refine Below.alloc ?_ ?_ _) | (with_reducible refine Below.drew ?_) | (with_reducible refine belowDraws ?_ _) | (with_reducible refine Below.setCell ?_ ?_ _) | omega | (simp; done) | (simp; omega))⟩
                    case measure => simp [intOf]; omega
              · have hF : FB g a b be := hwin.out _ n be (by omega) n2 (by omega) (by omega) (hW.fb (by omega))
                go_wp2_with fail
                go_ret
                exact ⟨_, rfl, hF, hBq⟩
            · have hF : FB g a b be := hwin.out _ n be (by omega) n2 (by omega) (by omega) (hW.fb (by omega))
              go_wp2_with fail
              go_ret
              exact ⟨_, rfl, hF, hBq⟩
        · by_cases hst2 : hi - 3 < a
          · go_wp2_with fail
            go_loopw [15, 16, 17] (fun u v n' wr => ∃ be le n : Int, u = .int .i64 be ∧ v = .int .i64 le ∧ n' = .int .i64 n ∧ a ≤ n ∧ n ≤ b ∧ n ≤ hi + 3 ∧ WI g (a) n be le ∧ Below w.heap.size w wr) (fun u v n' _ => (b - intOf n').toNat)
            case atStart => exact ⟨-1, 0, _, rfl, rfl, rfl, by omega, by omega, by omega, Or.inl ⟨rfl, rfl, rfl⟩, hB⟩
            case round =>
              obtain ⟨wq, rfl⟩ : ∃ W : World, W = wr := ⟨_, rfl⟩
              obtain ⟨be, le, n, rfl, rfl, rfl, n1, n2, n3, hW, hBq⟩ := hrel
              have hzq := hBq.size
              by_cases c1 : n < b
              · by_cases c2 : n < hi + 3
                · have bp := sp_bd s n
                  have PT := fun W => l11Point_any s (nD n) (nT n) W (nD_dig n) (by unfold nT; omega) (by unfold nT; omega)
                  rw [show ptOf s (nD n) (nT n) = sp s n from rfl] at PT
                  have HG := Lib.hid (hg.out n)
                  have gn := hnn.out n
                  generalize sp s n = p at *
                  have AB := fun W => l01Abs_any (p - tg) W (by omega) (by omega)
                  rw [← HG.out] at AB
                  obtain ⟨y, hy⟩ : ∃ y, g n = y := ⟨_, rfl⟩
                  rw [hy] at AB gn
                  have HY := Lib.hid hy
                  clear hy HG
                  have n0 : 0 ≤ n := by omega
                  rcases hW with ⟨hn0, rfl, rfl⟩ | ⟨q1, q2, q3⟩
                  · have HQ := Lib.hid (WI.start (g := g) hn0 HY.out.symm)
                    clear HY hn0
                    go_wp2_with (first
                      | (go_at_call 171; (with_reducible refine (l11At_any n _ (by omega) (by omega)).mono ?_); rintro e w5 ⟨rfl, hb5⟩; have hB5 : Below w.heap.size w w5 := Below.trans (by repeat' (first | (with_reducible exact Below.refl _ _) | (with_reducible assumption) | (with_reducible refine Below.alloc ?_ ?_ _) | (with_reducible refine Below.drew ?_) | (with_reducible refine belowDraws ?_ _) | (with_reducible refine Below.setCell ?_ ?_ _) | omega | (simp; done) | (simp; omega))) (hb5.mono (by first | omega | (simp; done) | (simp; omega))); have hz5 := hB5.size; clear hb5)
                      | (go_at_call 170; (with_reducible refine (PT _).mono ?_); rintro e w6 ⟨rfl, hb6⟩; have hB6 : Below w.heap.size w w6 := Below.trans (by repeat' (first | (with_reducible exact Below.refl _ _) | (with_reducible assumption) | (with_reducible refine Below.alloc ?_ ?_ _) | (with_reducible refine Below.drew ?_) | (with_reducible refine belowDraws ?_ _) | (with_reducible refine Below.setCell ?_ ?_ _) | omega | (simp; done) | (simp; omega))) (hb6.mono (by first | omega | (simp; done) | (simp; omega))); have hz6 := hB6.size; clear hb6)
                      | (go_at_call 136; (with_reducible refine (AB _).mono ?_); rintro e w' ⟨rfl, rfl⟩))
                    go_roundw
                    case rel => exact ⟨_, _, n + 1, rfl, rfl, rfl, by omega, by omega, by omega, HQ.out, by repeat' (first | (with_reducible exact Below.refl _ _) | (with_reducible assumption) | (with_reducible refine Below.alloc ?_ ?_ _) | (with_reducible refine Below.drew ?_) | (with_reducible refine belowDraws ?_ _) | (with_reducible refine Below.setCell ?_ ?_ _) | omega | (simp; done) | (simp; omega))⟩
                    case measure => simp [intOf]; omega
                  · have hbe : 0 ≤ be := by have := q2.1; omega
                    have hq3 := Lib.hid q3
                    by_cases c3 : y < le
                    · have HQ := Lib.hid (show WI g (a) (n + 1) n y from Or.inr ⟨by omega, by have h := q2.more; rwa [if_pos (by rw [HY.out, ← hq3.out]; exact c3)] at h, HY.out.symm⟩)
                      clear HY hq3 q3 q2
                      go_wp2_with (first
                        | (go_at_call 171; (with_reducible refine (l11At_any n _ (by omega) (by omega)).mono ?_); rintro e w5 ⟨rfl, hb5⟩; have hB5 : Below w.heap.size w w5 := Below.trans (by repeat' (first | (with_reducible exact Below.refl _ _) | (with_reducible assumption) | (with_reducible refine Below.alloc ?_ ?_ _) | (with_reducible refine Below.drew ?_) | (with_reducible refine belowDraws ?_ _) | (with_reducible refine Below.setCell ?_ ?_ _) | omega | (simp; done) | (simp; omega))) (hb5.mono (by first | omega | (simp; done) | (simp; omega))); have hz5 := hB5.size; clear hb5)
                        | (go_at_call 170; (with_reducible refine (PT _).mono ?_); rintro e w6 ⟨rfl, hb6⟩; have hB6 : Below w.heap.size w w6 := Below.trans (by repeat' (first | (with_reducible exact Below.refl _ _) | (with_reducible assumption) | (with_reducible refine Below.alloc ?_ ?_ _) | (with_reducible refine Below.drew ?_) | (with_reducible refine belowDraws ?_ _) | (with_reducible refine Below.setCell ?_ ?_ _) | omega | (simp; done) | (simp; omega))) (hb6.mono (by first | omega | (simp; done) | (simp; omega))); have hz6 := hB6.size; clear hb6)
                        | (go_at_call 136; (with_reducible refine (AB _).mono ?_); rintro e w' ⟨rfl, rfl⟩))
                      go_roundw
                      case rel => exact ⟨_, _, n + 1, rfl, rfl, rfl, by omega, by omega, by omega, HQ.out, by repeat' (first | (with_reducible exact Below.refl _ _) | (with_reducible assumption) | (with_reducible refine Below.alloc ?_ ?_ _) | (with_reducible refine Below.drew ?_) | (with_reducible refine belowDraws ?_ _) | (with_reducible refine Below.setCell ?_ ?_ _) | omega | (simp; done) | (simp; omega))⟩
                      case measure => simp [intOf]; omega
                    · have HQ := Lib.hid (show WI g (a) (n + 1) be le from Or.inr ⟨by omega, by have h := q2.more; rwa [if_neg (by rw [HY.out, ← hq3.out]; exact c3)] at h, hq3.out⟩)
                      clear HY hq3 q3 q2
                      go_wp2_with (first
                        | (go_at_call 171; (with_reducible refine (l11At_any n _ (by omega) (by omega)).mono ?_); rintro e w5 ⟨rfl, hb5⟩; have hB5 : Below w.heap.size w w5 := Below.trans (by repeat' (first | (with_reducible exact Below.refl _ _) | (with_reducible assumption) | (with_reducible refine Below.alloc ?_ ?_ _) | (with_reducible refine Below.drew ?_) | (with_reducible refine belowDraws ?_ _) | (with_reducible refine Below.setCell ?_ ?_ _) | omega | (simp; done) | (simp; omega))) (hb5.mono (by first | omega | (simp; done) | (simp; omega))); have hz5 := hB5.size; clear hb5)
                        | (go_at_call 170; (with_reducible refine (PT _).mono ?_); rintro e w6 ⟨rfl, hb6⟩; have hB6 : Below w.heap.size w w6 := Below.trans (by repeat' (first | (with_reducible exact Below.refl _ _) | (with_reducible assumption) | (with_reducible refine Below.alloc ?_ ?_ _) | (with_reducible refine Below.drew ?_) | (with_reducible refine belowDraws ?_ _) | (with_reducible refine Below.setCell ?_ ?_ _) | omega | (simp; done) | (simp; omega))) (hb6.mono (by first | omega | (simp; done) | (simp; omega))); have hz6 := hB6.size; clear hb6)
                        | (go_at_call 136; (with_reducible refine (AB _).mono ?_); rintro e w' ⟨rfl, rfl⟩))
                      go_roundw
                      case rel => exact ⟨_, _, n + 1, rfl, rfl, rfl, by omega, by omega, by omega, HQ.out, by repeat' (first | (with_reducible exact Below.refl _ _) | (with_reducible assumption) | (with_reducible refine Below.alloc ?_ ?_ _) | (with_reducible refine Below.drew ?_) | (with_reducible refine belowDraws ?_ _) | (with_reducible refine Below.setCell ?_ ?_ _) | omega | (simp; done) | (simp; omega))⟩
                      case measure => simp [intOf]; omega
                · have hF : FB g a b be := hwin.out _ n be (by omega) n2 (by omega) (by omega) (hW.fb (by omega))
                  go_wp2_with fail
                  go_ret
                  exact ⟨_, rfl, hF, hBq⟩
              · have hF : FB g a b be := hwin.out _ n be (by omega) n2 (by omega) (by omega) (hW.fb (by omega))
                go_wp2_with fail
                go_ret
                exact ⟨_, rfl, hF, hBq⟩
          · obtain rfl : hi = a + 3 := by omega
            go_wp2_with fail
            go_loopw [15, 16, 17] (fun u v n' wr => ∃ be le n : Int, u = .int .i64 be ∧ v = .int .i64 le ∧ n' = .int .i64 n ∧ a ≤ n ∧ n ≤ b ∧ n ≤ (a + 3) + 3 ∧ WI g (a) n be le ∧ Below w.heap.size w wr) (fun u v n' _ => (b - intOf n').toNat)
            case atStart => exact ⟨-1, 0, _, rfl, rfl, rfl, by omega, by omega, by omega, Or.inl ⟨rfl, rfl, rfl⟩, hB⟩
            case round =>
              obtain ⟨wq, rfl⟩ : ∃ W : World, W = wr := ⟨_, rfl⟩
              obtain ⟨be, le, n, rfl, rfl, rfl, n1, n2, n3, hW, hBq⟩ := hrel
              have hzq := hBq.size
              by_cases c1 : n < b
              · by_cases c2 : n < (a + 3) + 3
                · have bp := sp_bd s n
                  have PT := fun W => l11Point_any s (nD n) (nT n) W (nD_dig n) (by unfold nT; omega) (by unfold nT; omega)
                  rw [show ptOf s (nD n) (nT n) = sp s n from rfl] at PT
                  have HG := Lib.hid (hg.out n)
                  have gn := hnn.out n
                  generalize sp s n = p at *
                  have AB := fun W => l01Abs_any (p - tg) W (by omega) (by omega)
                  rw [← HG.out] at AB
                  obtain ⟨y, hy⟩ : ∃ y, g n = y := ⟨_, rfl⟩
                  rw [hy] at AB gn
                  have HY := Lib.hid hy
                  clear hy HG
                  have n0 : 0 ≤ n := by omega
                  rcases hW with ⟨hn0, rfl, rfl⟩ | ⟨q1, q2, q3⟩
                  · have HQ := Lib.hid (WI.start (g := g) hn0 HY.out.symm)
                    clear HY hn0
                    go_wp2_with (first
                      | (go_at_call 171; (with_reducible refine (l11At_any n _ (by omega) (by omega)).mono ?_); rintro e w5 ⟨rfl, hb5⟩; have hB5 : Below w.heap.size w w5 := Below.trans (by repeat' (first | (with_reducible exact Below.refl _ _) | (with_reducible assumption) | (with_reducible refine Below.alloc ?_ ?_ _) | (with_reducible refine Below.drew ?_) | (with_reducible refine belowDraws ?_ _) | (with_reducible refine Below.setCell ?_ ?_ _) | omega | (simp; done) | (simp; omega))) (hb5.mono (by first | omega | (simp; done) | (simp; omega))); have hz5 := hB5.size; clear hb5)
                      | (go_at_call 170; (with_reducible refine (PT _).mono ?_); rintro e w6 ⟨rfl, hb6⟩; have hB6 : Below w.heap.size w w6 := Below.trans (by repeat' (first | (with_reducible exact Below.refl _ _) | (with_reducible assumption) | (with_reducible refine Below.alloc ?_ ?_ _) | (with_reducible refine Below.drew ?_) | (with_reducible refine belowDraws ?_ _) | (with_reducible refine Below.setCell ?_ ?_ _) | omega | (simp; done) | (simp; omega))) (hb6.mono (by first | omega | (simp; done) | (simp; omega))); have hz6 := hB6.size; clear hb6)
                      | (go_at_call 136; (with_reducible refine (AB _).mono ?_); rintro e w' ⟨rfl, rfl⟩))
                    go_roundw
                    case rel => exact ⟨_, _, n + 1, rfl, rfl, rfl, by omega, by omega, by omega, HQ.out, by repeat' (first | (with_reducible exact Below.refl _ _) | (with_reducible assumption) | (with_reducible refine Below.alloc ?_ ?_ _) | (with_reducible refine Below.drew ?_) | (with_reducible refine belowDraws ?_ _) | (with_reducible refine Below.setCell ?_ ?_ _) | omega | (simp; done) | (simp; omega))⟩
                    case measure => simp [intOf]; omega
                  · have hbe : 0 ≤ be := by have := q2.1; omega
                    have hq3 := Lib.hid q3
                    by_cases c3 : y < le
                    · have HQ := Lib.hid (show WI g (a) (n + 1) n y from Or.inr ⟨by omega, by have h := q2.more; rwa [if_pos (by rw [HY.out, ← hq3.out]; exact c3)] at h, HY.out.symm⟩)
                      clear HY hq3 q3 q2
                      go_wp2_with (first
                        | (go_at_call 171; (with_reducible refine (l11At_any n _ (by omega) (by omega)).mono ?_); rintro e w5 ⟨rfl, hb5⟩; have hB5 : Below w.heap.size w w5 := Below.trans (by repeat' (first | (with_reducible exact Below.refl _ _) | (with_reducible assumption) | (with_reducible refine Below.alloc ?_ ?_ _) | (with_reducible refine Below.drew ?_) | (with_reducible refine belowDraws ?_ _) | (with_reducible refine Below.setCell ?_ ?_ _) | omega | (simp; done) | (simp; omega))) (hb5.mono (by first | omega | (simp; done) | (simp; omega))); have hz5 := hB5.size; clear hb5)
                        | (go_at_call 170; (with_reducible refine (PT _).mono ?_); rintro e w6 ⟨rfl, hb6⟩; have hB6 : Below w.heap.size w w6 := Below.trans (by repeat' (first | (with_reducible exact Below.refl _ _) | (with_reducible assumption) | (with_reducible refine Below.alloc ?_ ?_ _) | (with_reducible refine Below.drew ?_) | (with_reducible refine belowDraws ?_ _) | (with_reducible refine Below.setCell ?_ ?_ _) | omega | (simp; done) | (simp; omega))) (hb6.mono (by first | omega | (simp; done) | (simp; omega))); have hz6 := hB6.size; clear hb6)
                        | (go_at_call 136; (with_reducible refine (AB _).mono ?_); rintro e w' ⟨rfl, rfl⟩))
                      go_roundw
                      case rel => exact ⟨_, _, n + 1, rfl, rfl, rfl, by omega, by omega, by omega, HQ.out, by repeat' (first | (with_reducible exact Below.refl _ _) | (with_reducible assumption) | (with_reducible refine Below.alloc ?_ ?_ _) | (with_reducible refine Below.drew ?_) | (with_reducible refine belowDraws ?_ _) | (with_reducible refine Below.setCell ?_ ?_ _) | omega | (simp; done) | (simp; omega))⟩
                      case measure => simp [intOf]; omega
                    · have HQ := Lib.hid (show WI g (a) (n + 1) be le from Or.inr ⟨by omega, by have h := q2.more; rwa [if_neg (by rw [HY.out, ← hq3.out]; exact c3)] at h, hq3.out⟩)
                      clear HY hq3 q3 q2
                      go_wp2_with (first
                        | (go_at_call 171; (with_reducible refine (l11At_any n _ (by omega) (by omega)).mono ?_); rintro e w5 ⟨rfl, hb5⟩; have hB5 : Below w.heap.size w w5 := Below.trans (by repeat' (first | (with_reducible exact Below.refl _ _) | (with_reducible assumption) | (with_reducible refine Below.alloc ?_ ?_ _) | (with_reducible refine Below.drew ?_) | (with_reducible refine belowDraws ?_ _) | (with_reducible refine Below.setCell ?_ ?_ _) | omega | (simp; done) | (simp; omega))) (hb5.mono (by first | omega | (simp; done) | (simp; omega))); have hz5 := hB5.size; clear hb5)
                        | (go_at_call 170; (with_reducible refine (PT _).mono ?_); rintro e w6 ⟨rfl, hb6⟩; have hB6 : Below w.heap.size w w6 := Below.trans (by repeat' (first | (with_reducible exact Below.refl _ _) | (with_reducible assumption) | (with_reducible refine Below.alloc ?_ ?_ _) | (with_reducible refine Below.drew ?_) | (with_reducible refine belowDraws ?_ _) | (with_reducible refine Below.setCell ?_ ?_ _) | omega | (simp; done) | (simp; omega))) (hb6.mono (by first | omega | (simp; done) | (simp; omega))); have hz6 := hB6.size; clear hb6)
                        | (go_at_call 136; (with_reducible refine (AB _).mono ?_); rintro e w' ⟨rfl, rfl⟩))
                      go_roundw
                      case rel => exact ⟨_, _, n + 1, rfl, rfl, rfl, by omega, by omega, by omega, HQ.out, by repeat' (first | (with_reducible exact Below.refl _ _) | (with_reducible assumption) | (with_reducible refine Below.alloc ?_ ?_ _) | (with_reducible refine Below.drew ?_) | (with_reducible refine belowDraws ?_ _) | (with_reducible refine Below.setCell ?_ ?_ _) | omega | (simp; done) | (simp; omega))⟩
                      case measure => simp [intOf]; omega
                · have hF : FB g a b be := hwin.out _ n be (by omega) n2 (by omega) (by omega) (hW.fb (by omega))
                  go_wp2_with fail
                  go_ret
                  exact ⟨_, rfl, hF, hBq⟩
              · have hF : FB g a b be := hwin.out _ n be (by omega) n2 (by omega) (by omega) (hW.fb (by omega))
                go_wp2_with fail
                go_ret
                exact ⟨_, rfl, hF, hBq⟩
set_option maxRecDepth 100000 in
set_option maxHeartbeats 4000000 in
theorem l11Read_any (s tg : Int) (w : World) (s0 : 0 ≤ s) (s4 : s ≤ 4) (g1 : -2097152 ≤ tg) (g2 : tg ≤ 2097152) :
    Calls Try.prog 124 #[.int .i64 s, .int .i64 tg] w (ReadIs s tg w) := by
  have dd := decades_bd s
  by_cases hcf : s = 4
  · subst hcf
    have SA := fun W => l11Search_any 4 0 2143 tg false W ⟨by omega, by omega, by omega, by decide, fun _ => .inl (by omega)⟩ (by omega) (by simp) g1 g2
    have SB := fun W => l11Search_any 4 2143 9000 tg false W ⟨by omega, by omega, by omega, by decide, fun _ => .inr (by omega)⟩ (by omega) (by simp) g1 g2
    have hg := Lib.hid (fun n => show off 4 tg n = max (sp 4 n - tg) (-(sp 4 n - tg)) from rfl)
    have hnn := Lib.hid (off_nn 4 tg)
    have HOUT := Lib.hid (fun m (h : FB (off 4 tg) 0 9000 m) => show FB (off 4 tg) 0 (9000 * decades 4) m from h)
    unfold ReadIs
    generalize off 4 tg = g at *
    clear dd
    go_enter Try.func124, Try.ntmps124
    go_wp2_with (first
      | (go_at_call 169; (with_reducible refine (SA _).mono ?_); rintro e w1 ⟨ma, rfl, f1, hb1⟩; have hB1 : Below w.heap.size w w1 := Below.trans (by repeat' (first | (with_reducible exact Below.refl _ _) | (with_reducible assumption) | (with_reducible refine Below.alloc ?_ ?_ _) | (with_reducible refine Below.drew ?_) | (with_reducible refine belowDraws ?_ _) | (with_reducible refine Below.setCell ?_ ?_ _) | omega | (simp; done) | (simp; omega))) (hb1.mono (by first | omega | (simp; done) | (simp; omega))); have hz1 := hB1.size; have q1_0 : w1.cell? ⟨w.heap.size, 0, none⟩ = some (.int .i64 0) := (by rw [hb1.cell (by first | omega | (simp; done) | (simp; omega))]; simp [go_sem, *]); have r1_0 : w1.frozen? ⟨w.heap.size, 0, none⟩ = false := (by rw [hb1.frozen (by first | omega | (simp; done) | (simp; omega))]; simp [go_sem, *]); have q1_1 : w1.cell? ⟨w.heap.size, 1, none⟩ = some (.int .i64 0) := (by rw [hb1.cell (by first | omega | (simp; done) | (simp; omega))]; simp [go_sem, *]); have r1_1 : w1.frozen? ⟨w.heap.size, 1, none⟩ = false := (by rw [hb1.frozen (by first | omega | (simp; done) | (simp; omega))]; simp [go_sem, *]); have hl1 : w.heap.size < w1.heap.size := Nat.lt_of_lt_of_le (by first | omega | (simp; done) | (simp; omega)) hb1.size; clear hb1))
    go_wp2_with (first
      | (go_at_call 169; (with_reducible refine (SB _).mono ?_); rintro e w2 ⟨mb, rfl, f2, hb2⟩; have hB2 : Below w.heap.size w w2 := Below.trans (by repeat' (first | (with_reducible exact Below.refl _ _) | (with_reducible assumption) | (with_reducible refine Below.alloc ?_ ?_ _) | (with_reducible refine Below.drew ?_) | (with_reducible refine belowDraws ?_ _) | (with_reducible refine Below.setCell ?_ ?_ _) | omega | (simp; done) | (simp; omega))) (hb2.mono (by first | omega | (simp; done) | (simp; omega))); have hz2 := hB2.size; have q2_0 : w2.cell? ⟨w.heap.size, 0, none⟩ = some (.int .i64 0) := (by rw [hb2.cell (by first | omega | (simp; done) | (simp; omega))]; simp [go_sem, *]); have r2_0 : w2.frozen? ⟨w.heap.size, 0, none⟩ = false := (by rw [hb2.frozen (by first | omega | (simp; done) | (simp; omega))]; simp [go_sem, *]); have q2_1 : w2.cell? ⟨w.heap.size, 1, none⟩ = some (.int .i64 0) := (by rw [hb2.cell (by first | omega | (simp; done) | (simp; omega))]; simp [go_sem, *]); have r2_1 : w2.frozen? ⟨w.heap.size, 1, none⟩ = false := (by rw [hb2.frozen (by first | omega | (simp; done) | (simp; omega))]; simp [go_sem, *]); have hl2 : w.heap.size < w2.heap.size := Nat.lt_of_lt_of_le (by first | omega | (simp; done) | (simp; omega)) hb2.size; clear hb2))
    have a1 : 0 ≤ ma := f1.1
    have a2 : ma < 2143 := f1.2.1
    have b1 : 2143 ≤ mb := f2.1
    have b2 : mb < 9000 := f2.2.1
    have HJ := Lib.hid (f1.join f2)
    have PA := fun W => l11Point_any 4 (nD ma) (nT ma) W (nD_dig ma) (by unfold nT; omega) (by unfold nT; omega)
    have PB := fun W => l11Point_any 4 (nD mb) (nT mb) W (nD_dig mb) (by unfold nT; omega) (by unfold nT; omega)
    rw [show ptOf 4 (nD ma) (nT ma) = sp 4 ma from rfl] at PA
    rw [show ptOf 4 (nD mb) (nT mb) = sp 4 mb from rfl] at PB
    have ba := sp_bd 4 ma
    have bb := sp_bd 4 mb
    have ga := Lib.hid (hg.out ma)
    have gb := Lib.hid (hg.out mb)
    have na := hnn.out ma
    have nb := hnn.out mb
    generalize sp 4 ma = pa at *
    generalize sp 4 mb = pb at *
    have XA := fun W => l01Abs_any (pa - tg) W (by omega) (by omega)
    have XB := fun W => l01Abs_any (pb - tg) W (by omega) (by omega)
    rw [← ga.out] at XA
    rw [← gb.out] at XB
    clear ga gb f1 f2 SA SB hg hnn
    have HA := Lib.hid (show g ma = g ma from rfl)
    obtain ⟨ya, hya⟩ : ∃ y, g ma = y := ⟨_, rfl⟩
    obtain ⟨yb, hyb⟩ : ∃ y, g mb = y := ⟨_, rfl⟩
    rw [hya] at XA na
    rw [hyb] at XB nb
    have HY := Lib.hid (And.intro hya hyb)
    clear hya hyb HA
    by_cases hc : yb < ya
    · have HF := Lib.hid (HOUT.out mb (by have h := HJ.out; rwa [if_pos (by rw [HY.out.1, HY.out.2]; exact hc)] at h))
      clear HJ HY HOUT
      go_wp2_with (first
        | (go_at_call 171; (with_reducible refine (l11At_any mb _ (by omega) (by omega)).mono ?_); rintro e w3 ⟨rfl, hb3⟩; have hB3 : Below w.heap.size w w3 := Below.trans (by repeat' (first | (with_reducible exact Below.refl _ _) | (with_reducible assumption) | (with_reducible refine Below.alloc ?_ ?_ _) | (with_reducible refine Below.drew ?_) | (with_reducible refine belowDraws ?_ _) | (with_reducible refine Below.setCell ?_ ?_ _) | omega | (simp; done) | (simp; omega))) (hb3.mono (by first | omega | (simp; done) | (simp; omega))); have hz3 := hB3.size; have q3_0 : w3.cell? ⟨w.heap.size, 0, none⟩ = some (.int .i64 0) := (by rw [hb3.cell (by first | omega | (simp; done) | (simp; omega))]; simp [go_sem, *]); have r3_0 : w3.frozen? ⟨w.heap.size, 0, none⟩ = false := (by rw [hb3.frozen (by first | omega | (simp; done) | (simp; omega))]; simp [go_sem, *]); have q3_1 : w3.cell? ⟨w.heap.size, 1, none⟩ = some (.int .i64 0) := (by rw [hb3.cell (by first | omega | (simp; done) | (simp; omega))]; simp [go_sem, *]); have r3_1 : w3.frozen? ⟨w.heap.size, 1, none⟩ = false := (by rw [hb3.frozen (by first | omega | (simp; done) | (simp; omega))]; simp [go_sem, *]); have hl3 : w.heap.size < w3.heap.size := Nat.lt_of_lt_of_le (by first | omega | (simp; done) | (simp; omega)) hb3.size; clear hb3)
        | (go_at_call 170; (with_reducible refine (PB _).mono ?_); rintro e w4 ⟨rfl, hb4⟩; have hB4 : Below w.heap.size w w4 := Below.trans (by repeat' (first | (with_reducible exact Below.refl _ _) | (with_reducible assumption) | (with_reducible refine Below.alloc ?_ ?_ _) | (with_reducible refine Below.drew ?_) | (with_reducible refine belowDraws ?_ _) | (with_reducible refine Below.setCell ?_ ?_ _) | omega | (simp; done) | (simp; omega))) (hb4.mono (by first | omega | (simp; done) | (simp; omega))); have hz4 := hB4.size; have q4_0 : w4.cell? ⟨w.heap.size, 0, none⟩ = some (.int .i64 0) := (by rw [hb4.cell (by first | omega | (simp; done) | (simp; omega))]; simp [go_sem, *]); have r4_0 : w4.frozen? ⟨w.heap.size, 0, none⟩ = false := (by rw [hb4.frozen (by first | omega | (simp; done) | (simp; omega))]; simp [go_sem, *]); have q4_1 : w4.cell? ⟨w.heap.size, 1, none⟩ = some (.int .i64 0) := (by rw [hb4.cell (by first | omega | (simp; done) | (simp; omega))]; simp [go_sem, *]); have r4_1 : w4.frozen? ⟨w.heap.size, 1, none⟩ = false := (by rw [hb4.frozen (by first | omega | (simp; done) | (simp; omega))]; simp [go_sem, *]); have hl4 : w.heap.size < w4.heap.size := Nat.lt_of_lt_of_le (by first | omega | (simp; done) | (simp; omega)) hb4.size; clear hb4)
        | (go_at_call 136; (with_reducible refine (XB _).mono ?_); rintro e w' ⟨rfl, rfl⟩)
        | (go_at_call 171; (with_reducible refine (l11At_any ma _ (by omega) (by omega)).mono ?_); rintro e w5 ⟨rfl, hb5⟩; have hB5 : Below w.heap.size w w5 := Below.trans (by repeat' (first | (with_reducible exact Below.refl _ _) | (with_reducible assumption) | (with_reducible refine Below.alloc ?_ ?_ _) | (with_reducible refine Below.drew ?_) | (with_reducible refine belowDraws ?_ _) | (with_reducible refine Below.setCell ?_ ?_ _) | omega | (simp; done) | (simp; omega))) (hb5.mono (by first | omega | (simp; done) | (simp; omega))); have hz5 := hB5.size; have q5_0 : w5.cell? ⟨w.heap.size, 0, none⟩ = some (.int .i64 0) := (by rw [hb5.cell (by first | omega | (simp; done) | (simp; omega))]; simp [go_sem, *]); have r5_0 : w5.frozen? ⟨w.heap.size, 0, none⟩ = false := (by rw [hb5.frozen (by first | omega | (simp; done) | (simp; omega))]; simp [go_sem, *]); have q5_1 : w5.cell? ⟨w.heap.size, 1, none⟩ = some (.int .i64 0) := (by rw [hb5.cell (by first | omega | (simp; done) | (simp; omega))]; simp [go_sem, *]); have r5_1 : w5.frozen? ⟨w.heap.size, 1, none⟩ = false := (by rw [hb5.frozen (by first | omega | (simp; done) | (simp; omega))]; simp [go_sem, *]); have hl5 : w.heap.size < w5.heap.size := Nat.lt_of_lt_of_le (by first | omega | (simp; done) | (simp; omega)) hb5.size; clear hb5)
        | (go_at_call 170; (with_reducible refine (PA _).mono ?_); rintro e w6 ⟨rfl, hb6⟩; have hB6 : Below w.heap.size w w6 := Below.trans (by repeat' (first | (with_reducible exact Below.refl _ _) | (with_reducible assumption) | (with_reducible refine Below.alloc ?_ ?_ _) | (with_reducible refine Below.drew ?_) | (with_reducible refine belowDraws ?_ _) | (with_reducible refine Below.setCell ?_ ?_ _) | omega | (simp; done) | (simp; omega))) (hb6.mono (by first | omega | (simp; done) | (simp; omega))); have hz6 := hB6.size; have q6_0 : w6.cell? ⟨w.heap.size, 0, none⟩ = some (.int .i64 0) := (by rw [hb6.cell (by first | omega | (simp; done) | (simp; omega))]; simp [go_sem, *]); have r6_0 : w6.frozen? ⟨w.heap.size, 0, none⟩ = false := (by rw [hb6.frozen (by first | omega | (simp; done) | (simp; omega))]; simp [go_sem, *]); have q6_1 : w6.cell? ⟨w.heap.size, 1, none⟩ = some (.int .i64 0) := (by rw [hb6.cell (by first | omega | (simp; done) | (simp; omega))]; simp [go_sem, *]); have r6_1 : w6.frozen? ⟨w.heap.size, 1, none⟩ = false := (by rw [hb6.frozen (by first | omega | (simp; done) | (simp; omega))]; simp [go_sem, *]); have hl6 : w.heap.size < w6.heap.size := Nat.lt_of_lt_of_le (by first | omega | (simp; done) | (simp; omega)) hb6.size; clear hb6)
        | (go_at_call 136; (with_reducible refine (XA _).mono ?_); rintro e w' ⟨rfl, rfl⟩)
        | (go_at_call 171; (with_reducible refine (l11At_any mb _ (by omega) (by omega)).mono ?_); rintro e w7 ⟨rfl, hb7⟩; have hB7 : Below w.heap.size w w7 := Below.trans (by repeat' (first | (with_reducible exact Below.refl _ _) | (with_reducible assumption) | (with_reducible refine Below.alloc ?_ ?_ _) | (with_reducible refine Below.drew ?_) | (with_reducible refine belowDraws ?_ _) | (with_reducible refine Below.setCell ?_ ?_ _) | omega | (simp; done) | (simp; omega))) (hb7.mono (by first | omega | (simp; done) | (simp; omega))); have hz7 := hB7.size; have q7_0 : w7.cell? ⟨w.heap.size, 0, none⟩ = some (.int .i64 0) := (by rw [hb7.cell (by first | omega | (simp; done) | (simp; omega))]; simp [go_sem, *]); have r7_0 : w7.frozen? ⟨w.heap.size, 0, none⟩ = false := (by rw [hb7.frozen (by first | omega | (simp; done) | (simp; omega))]; simp [go_sem, *]); have q7_1 : w7.cell? ⟨w.heap.size, 1, none⟩ = some (.int .i64 0) := (by rw [hb7.cell (by first | omega | (simp; done) | (simp; omega))]; simp [go_sem, *]); have r7_1 : w7.frozen? ⟨w.heap.size, 1, none⟩ = false := (by rw [hb7.frozen (by first | omega | (simp; done) | (simp; omega))]; simp [go_sem, *]); have hl7 : w.heap.size < w7.heap.size := Nat.lt_of_lt_of_le (by first | omega | (simp; done) | (simp; omega)) hb7.size; clear hb7))
      (refine bodyPost_ret (v := .agg #[.int .i64 (nD mb), .int .i64 (nT mb)]) ?_ rfl ?_; (focus (simp [results, Try.results124, go_sem, *])); exact ⟨_, rfl, HF.out, by repeat' (first | (with_reducible exact Below.refl _ _) | (with_reducible assumption) | (with_reducible refine Below.alloc ?_ ?_ _) | (with_reducible refine Below.drew ?_) | (with_reducible refine belowDraws ?_ _) | (with_reducible refine Below.setCell ?_ ?_ _) | omega | (simp; done) | (simp; omega))⟩)
    · have HF := Lib.hid (HOUT.out ma (by have h := HJ.out; rwa [if_neg (by rw [HY.out.1, HY.out.2]; exact hc)] at h))
      clear HJ HY HOUT
      go_wp2_with (first
        | (go_at_call 171; (with_reducible refine (l11At_any mb _ (by omega) (by omega)).mono ?_); rintro e w3 ⟨rfl, hb3⟩; have hB3 : Below w.heap.size w w3 := Below.trans (by repeat' (first | (with_reducible exact Below.refl _ _) | (with_reducible assumption) | (with_reducible refine Below.alloc ?_ ?_ _) | (with_reducible refine Below.drew ?_) | (with_reducible refine belowDraws ?_ _) | (with_reducible refine Below.setCell ?_ ?_ _) | omega | (simp; done) | (simp; omega))) (hb3.mono (by first | omega | (simp; done) | (simp; omega))); have hz3 := hB3.size; have q3_0 : w3.cell? ⟨w.heap.size, 0, none⟩ = some (.int .i64 0) := (by rw [hb3.cell (by first | omega | (simp; done) | (simp; omega))]; simp [go_sem, *]); have r3_0 : w3.frozen? ⟨w.heap.size, 0, none⟩ = false := (by rw [hb3.frozen (by first | omega | (simp; done) | (simp; omega))]; simp [go_sem, *]); have q3_1 : w3.cell? ⟨w.heap.size, 1, none⟩ = some (.int .i64 0) := (by rw [hb3.cell (by first | omega | (simp; done) | (simp; omega))]; simp [go_sem, *]); have r3_1 : w3.frozen? ⟨w.heap.size, 1, none⟩ = false := (by rw [hb3.frozen (by first | omega | (simp; done) | (simp; omega))]; simp [go_sem, *]); have hl3 : w.heap.size < w3.heap.size := Nat.lt_of_lt_of_le (by first | omega | (simp; done) | (simp; omega)) hb3.size; clear hb3)
        | (go_at_call 170; (with_reducible refine (PB _).mono ?_); rintro e w4 ⟨rfl, hb4⟩; have hB4 : Below w.heap.size w w4 := Below.trans (by repeat' (first | (with_reducible exact Below.refl _ _) | (with_reducible assumption) | (with_reducible refine Below.alloc ?_ ?_ _) | (with_reducible refine Below.drew ?_) | (with_reducible refine belowDraws ?_ _) | (with_reducible refine Below.setCell ?_ ?_ _) | omega | (simp; done) | (simp; omega))) (hb4.mono (by first | omega | (simp; done) | (simp; omega))); have hz4 := hB4.size; have q4_0 : w4.cell? ⟨w.heap.size, 0, none⟩ = some (.int .i64 0) := (by rw [hb4.cell (by first | omega | (simp; done) | (simp; omega))]; simp [go_sem, *]); have r4_0 : w4.frozen? ⟨w.heap.size, 0, none⟩ = false := (by rw [hb4.frozen (by first | omega | (simp; done) | (simp; omega))]; simp [go_sem, *]); have q4_1 : w4.cell? ⟨w.heap.size, 1, none⟩ = some (.int .i64 0) := (by rw [hb4.cell (by first | omega | (simp; done) | (simp; omega))]; simp [go_sem, *]); have r4_1 : w4.frozen? ⟨w.heap.size, 1, none⟩ = false := (by rw [hb4.frozen (by first | omega | (simp; done) | (simp; omega))]; simp [go_sem, *]); have hl4 : w.heap.size < w4.heap.size := Nat.lt_of_lt_of_le (by first | omega | (simp; done) | (simp; omega)) hb4.size; clear hb4)
        | (go_at_call 136; (with_reducible refine (XB _).mono ?_); rintro e w' ⟨rfl, rfl⟩)
        | (go_at_call 171; (with_reducible refine (l11At_any ma _ (by omega) (by omega)).mono ?_); rintro e w5 ⟨rfl, hb5⟩; have hB5 : Below w.heap.size w w5 := Below.trans (by repeat' (first | (with_reducible exact Below.refl _ _) | (with_reducible assumption) | (with_reducible refine Below.alloc ?_ ?_ _) | (with_reducible refine Below.drew ?_) | (with_reducible refine belowDraws ?_ _) | (with_reducible refine Below.setCell ?_ ?_ _) | omega | (simp; done) | (simp; omega))) (hb5.mono (by first | omega | (simp; done) | (simp; omega))); have hz5 := hB5.size; have q5_0 : w5.cell? ⟨w.heap.size, 0, none⟩ = some (.int .i64 0) := (by rw [hb5.cell (by first | omega | (simp; done) | (simp; omega))]; simp [go_sem, *]); have r5_0 : w5.frozen? ⟨w.heap.size, 0, none⟩ = false := (by rw [hb5.frozen (by first | omega | (simp; done) | (simp; omega))]; simp [go_sem, *]); have q5_1 : w5.cell? ⟨w.heap.size, 1, none⟩ = some (.int .i64 0) := (by rw [hb5.cell (by first | omega | (simp; done) | (simp; omega))]; simp [go_sem, *]); have r5_1 : w5.frozen? ⟨w.heap.size, 1, none⟩ = false := (by rw [hb5.frozen (by first | omega | (simp; done) | (simp; omega))]; simp [go_sem, *]); have hl5 : w.heap.size < w5.heap.size := Nat.lt_of_lt_of_le (by first | omega | (simp; done) | (simp; omega)) hb5.size; clear hb5)
        | (go_at_call 170; (with_reducible refine (PA _).mono ?_); rintro e w6 ⟨rfl, hb6⟩; have hB6 : Below w.heap.size w w6 := Below.trans (by repeat' (first | (with_reducible exact Below.refl _ _) | (with_reducible assumption) | (with_reducible refine Below.alloc ?_ ?_ _) | (with_reducible refine Below.drew ?_) | (with_reducible refine belowDraws ?_ _) | (with_reducible refine Below.setCell ?_ ?_ _) | omega | (simp; done) | (simp; omega))) (hb6.mono (by first | omega | (simp; done) | (simp; omega))); have hz6 := hB6.size; have q6_0 : w6.cell? ⟨w.heap.size, 0, none⟩ = some (.int .i64 0) := (by rw [hb6.cell (by first | omega | (simp; done) | (simp; omega))]; simp [go_sem, *]); have r6_0 : w6.frozen? ⟨w.heap.size, 0, none⟩ = false := (by rw [hb6.frozen (by first | omega | (simp; done) | (simp; omega))]; simp [go_sem, *]); have q6_1 : w6.cell? ⟨w.heap.size, 1, none⟩ = some (.int .i64 0) := (by rw [hb6.cell (by first | omega | (simp; done) | (simp; omega))]; simp [go_sem, *]); have r6_1 : w6.frozen? ⟨w.heap.size, 1, none⟩ = false := (by rw [hb6.frozen (by first | omega | (simp; done) | (simp; omega))]; simp [go_sem, *]); have hl6 : w.heap.size < w6.heap.size := Nat.lt_of_lt_of_le (by first | omega | (simp; done) | (simp; omega)) hb6.size; clear hb6)
        | (go_at_call 136; (with_reducible refine (XA _).mono ?_); rintro e w' ⟨rfl, rfl⟩))
      (refine bodyPost_ret (v := .agg #[.int .i64 (nD ma), .int .i64 (nT ma)]) ?_ rfl ?_; (focus (simp [results, Try.results124, go_sem, *])); exact ⟨_, rfl, HF.out, by repeat' (first | (with_reducible exact Below.refl _ _) | (with_reducible assumption) | (with_reducible refine Below.alloc ?_ ?_ _) | (with_reducible refine Below.drew ?_) | (with_reducible refine belowDraws ?_ _) | (with_reducible refine Below.setCell ?_ ?_ _) | omega | (simp; done) | (simp; omega))⟩)
  · have SS := fun W => l11Search_any s 0 (9000 * decades s) tg (s == 3) W ⟨s0, s4, by omega, by omega, fun h => absurd h hcf⟩ (by omega) (by simp) g1 g2
    have DC := fun W => l05Decades_any s W
    unfold ReadIs
    generalize decades s = dcs at *
    generalize off s tg = g at *
    go_enter Try.func124, Try.ntmps124
    go_wp2_with (first
      | (go_at_call 137; refine (DC _).mono ?_; rintro e w' ⟨rfl, rfl⟩)
      | (go_at_call 169; (with_reducible refine (SS _).mono ?_); rintro e w1 ⟨m, rfl, f1, hb1⟩; have hB1 : Below w.heap.size w w1 := Below.trans (by repeat' (first | (with_reducible exact Below.refl _ _) | (with_reducible assumption) | (with_reducible refine Below.alloc ?_ ?_ _) | (with_reducible refine Below.drew ?_) | (with_reducible refine belowDraws ?_ _) | (with_reducible refine Below.setCell ?_ ?_ _) | omega | (simp; done) | (simp; omega))) (hb1.mono (by first | omega | (simp; done) | (simp; omega))); have hz1 := hB1.size; have q1_0 : w1.cell? ⟨w.heap.size, 0, none⟩ = some (.int .i64 0) := (by rw [hb1.cell (by first | omega | (simp; done) | (simp; omega))]; simp [go_sem, *]); have r1_0 : w1.frozen? ⟨w.heap.size, 0, none⟩ = false := (by rw [hb1.frozen (by first | omega | (simp; done) | (simp; omega))]; simp [go_sem, *]); have q1_1 : w1.cell? ⟨w.heap.size, 1, none⟩ = some (.int .i64 0) := (by rw [hb1.cell (by first | omega | (simp; done) | (simp; omega))]; simp [go_sem, *]); have r1_1 : w1.frozen? ⟨w.heap.size, 1, none⟩ = false := (by rw [hb1.frozen (by first | omega | (simp; done) | (simp; omega))]; simp [go_sem, *]); have hl1 : w.heap.size < w1.heap.size := Nat.lt_of_lt_of_le (by first | omega | (simp; done) | (simp; omega)) hb1.size; clear hb1))
    have a1 : 0 ≤ m := f1.1
    have a2 : m < 9000 * dcs := f1.2.1
    have HF := Lib.hid f1
    clear f1 SS DC
    go_wp2_with (first
      | (go_at_call 171; (with_reducible refine (l11At_any m _ (by omega) (by omega)).mono ?_); rintro e w3 ⟨rfl, hb3⟩; have hB3 : Below w.heap.size w w3 := Below.trans (by repeat' (first | (with_reducible exact Below.refl _ _) | (with_reducible assumption) | (with_reducible refine Below.alloc ?_ ?_ _) | (with_reducible refine Below.drew ?_) | (with_reducible refine belowDraws ?_ _) | (with_reducible refine Below.setCell ?_ ?_ _) | omega | (simp; done) | (simp; omega))) (hb3.mono (by first | omega | (simp; done) | (simp; omega))); have hz3 := hB3.size; have q3_0 : w3.cell? ⟨w.heap.size, 0, none⟩ = some (.int .i64 0) := (by rw [hb3.cell (by first | omega | (simp; done) | (simp; omega))]; simp [go_sem, *]); have r3_0 : w3.frozen? ⟨w.heap.size, 0, none⟩ = false := (by rw [hb3.frozen (by first | omega | (simp; done) | (simp; omega))]; simp [go_sem, *]); have q3_1 : w3.cell? ⟨w.heap.size, 1, none⟩ = some (.int .i64 0) := (by rw [hb3.cell (by first | omega | (simp; done) | (simp; omega))]; simp [go_sem, *]); have r3_1 : w3.frozen? ⟨w.heap.size, 1, none⟩ = false := (by rw [hb3.frozen (by first | omega | (simp; done) | (simp; omega))]; simp [go_sem, *]); have hl3 : w.heap.size < w3.heap.size := Nat.lt_of_lt_of_le (by first | omega | (simp; done) | (simp; omega)) hb3.size; clear hb3))
    (refine bodyPost_ret (v := .agg #[.int .i64 (nD m), .int .i64 (nT m)]) ?_ rfl ?_; (focus (simp [results, Try.results124, go_sem, *])); exact ⟨_, rfl, HF.out, by repeat' (first | (with_reducible exact Below.refl _ _) | (with_reducible assumption) | (with_reducible refine Below.alloc ?_ ?_ _) | (with_reducible refine Below.drew ?_) | (with_reducible refine belowDraws ?_ _) | (with_reducible refine Below.setCell ?_ ?_ _) | omega | (simp; done) | (simp; omega))⟩)
end Go.Proofs.Ythnjiiodpjielaa

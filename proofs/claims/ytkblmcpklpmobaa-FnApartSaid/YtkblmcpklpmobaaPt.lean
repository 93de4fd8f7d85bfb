/- PointOf (layer 11), middles (layer 7). No condition. -/
import Derived.Test.YtkblmcpklpmobaaMay
namespace Go.Proofs.Ytkblmcpklpmobaa
open Go.RowKit
set_option linter.unusedVariables false
set_option linter.unusedSimpArgs false

def ptOf (s d t : Int) : Int := (pL s d t + pU s d t) / 2
def rPoint (s d t : Int) : Int × Int := if ckShown s d t = 0 then (ptOf s d t, 0) else (0, ckShown s d t)
theorem ckShown_fig {s d t : Int} (h : ckShown s d t = 0) : figB d t = true := by
  by_cases hf : figB d t = true
  · exact hf
  · rw [ckShown, if_neg hf] at h
    omega
set_option maxHeartbeats 400000 in
theorem middle_any (s d len : Int) (w : World) (hd : Dig d) (h1 : 1 ≤ len) (h2 : len ≤ 100000) :
    Calls Try.prog 110 #[.int .i64 s, .int .i64 d, .int .i64 len] w fun e w' => e = .returned (.int .i64 ((plL s d 0 len + plU s d 0 len) / 2)) ∧ Below w.heap.size w w' := by
  have L := fun W => place_any s d 0 len W hd (by omega) (by omega) h1 h2
  have P := pl_bd (s := s) (t := 0) hd h1 h2
  have HV := Lib.hid (show (plL s d 0 len + plU s d 0 len) / 2 = (plL s d 0 len + plU s d 0 len) / 2 from rfl)
  generalize plL s d 0 len = x at *
  generalize plU s d 0 len = y at *
  unfold Dig at hd
  go_enter Try.func110, Try.ntmps110
  go_wp2_with (first
    | (go_at_call 132; refine (L _).mono ?_; rintro e w1 ⟨rfl, hb1⟩; have hB1 : Below w.heap.size w w1 := Below.trans (by repeat' (first | exact Below.refl _ _ | assumption | refine Below.alloc ?_ (by first | omega | (simp; done) | (simp; omega)) _ | refine Below.drew ?_ | refine Below.setCell ?_ (by first | omega | (simp; done) | (simp; omega)) _)) (hb1.mono (by first | omega | (simp; done) | (simp; omega))); have hz1 := hB1.size; clear hb1)
    | (go_at_call 133; refine (down_any _ _ _ (by omega) (by omega) (by omega) (by omega)).mono ?_; rintro e w' ⟨rfl, rfl⟩))
  go_ret
  exact ⟨rfl, by repeat' (first | exact Below.refl _ _ | assumption | refine Below.alloc ?_ (by first | omega | (simp; done) | (simp; omega)) _ | refine Below.drew ?_ | refine Below.setCell ?_ (by first | omega | (simp; done) | (simp; omega)) _)⟩
set_option maxHeartbeats 400000 in
theorem l07Middle_any (s d len : Int) (w : World) (hd : Dig d) (h1 : 1 ≤ len) (h2 : len ≤ 100000) :
    Calls Try.prog 88 #[.int .i64 s, .int .i64 d, .int .i64 len] w fun e w' => e = .returned (.int .i64 ((plL s d 0 len + plU s d 0 len) / 2)) ∧ Below w.heap.size w w' := by
  have Q := fun W => l05Position_any s d 0 W hd (by omega) (by omega)
  have B := p_bd (s := s) (t := 0) hd
  have L := fun W => l05Place_any (pL s d 0) (pU s d 0) len W B.1 B.2.1 B.2.2 h1 h2
  rw [show pL s d 0 * len / 1048576 = plL s d 0 len from rfl, show ceilDiv (pU s d 0 * len) 1048576 = plU s d 0 len from rfl] at L
  have P := pl_bd (s := s) (t := 0) hd h1 h2
  have HV := Lib.hid (show (plL s d 0 len + plU s d 0 len) / 2 = (plL s d 0 len + plU s d 0 len) / 2 from rfl)
  generalize plL s d 0 len = x at *
  generalize plU s d 0 len = y at *
  generalize pL s d 0 = p at *
  generalize pU s d 0 = q at *
  unfold Dig at hd
  go_enter Try.func88, Try.ntmps88
  go_wp2_with (first
    | (go_at_call 108; refine (Q _).mono ?_; rintro e w1 ⟨rfl, hb1⟩; have hB1 : Below w.heap.size w w1 := Below.trans (by repeat' (first | exact Below.refl _ _ | assumption | refine Below.alloc ?_ (by first | omega | (simp; done) | (simp; omega)) _ | refine Below.drew ?_ | refine Below.setCell ?_ (by first | omega | (simp; done) | (simp; omega)) _)) (hb1.mono (by first | omega | (simp; done) | (simp; omega))); have hz1 := hB1.size; clear hb1)
    | (go_at_call 107; refine (L _).mono ?_; rintro e w2 ⟨rfl, hb2⟩; have hB2 : Below w.heap.size w w2 := Below.trans (by repeat' (first | exact Below.refl _ _ | assumption | refine Below.alloc ?_ (by first | omega | (simp; done) | (simp; omega)) _ | refine Below.drew ?_ | refine Below.setCell ?_ (by first | omega | (simp; done) | (simp; omega)) _)) (hb2.mono (by first | omega | (simp; done) | (simp; omega))); have hz2 := hB2.size; clear hb2)
    | (go_at_call 109; refine (l01Floor_any _ _ _ (by omega) (by omega) (by omega) (by omega)).mono ?_; rintro e w' ⟨rfl, rfl⟩))
  go_ret
  exact ⟨rfl, by repeat' (first | exact Below.refl _ _ | assumption | refine Below.alloc ?_ (by first | omega | (simp; done) | (simp; omega)) _ | refine Below.drew ?_ | refine Below.setCell ?_ (by first | omega | (simp; done) | (simp; omega)) _)⟩
end Go.Proofs.Ytkblmcpklpmobaa

/- Labels: decimal and the program's label of a mark (layers 1, 9). No condition but the table. -/
import Derived.Test.YtpbhncgjnmaojaaGreatDoorShelfP
import Derived.Test.YtpbhncgjnmaojaaGreatDoorLab
import Derived.Test.YtpbhncgjnmaojaaGreatDoorWords
import Derived.Lib.LaidTab
import Derived.Shelf.Strconv.Itoa4
import Derived.Test.YtpbhncgjnmaojaaGreatDoorOpen
namespace Go.Proofs.YtpbhncgjnmaojaaGreatDoor
open Go.RowKit
set_option linter.unusedVariables false
set_option linter.unusedSimpArgs false

def Tab (w : World) : Prop := Lib.TabIs Tryz.prog w "internal/strconv.uint64pow10" .u64 Lib.pow10Tab
theorem grow_below {w : World} (k : Nat) (os : Array Obj) : Below w.heap.size w (Go.Sort.grow (w.drewN k) os) := by
  refine ⟨rfl, rfl, rfl, by simp [Go.Sort.grow], fun i hi => ?_⟩
  rw [Go.Sort.heap_grow_old _ _ (by simpa using hi)]
  rfl
set_option maxHeartbeats 1000000 in
theorem decimal_any (n : Int) (w : World) (h0 : 0 ≤ n) (h1 : n ≤ 1000000000) (hT : Tab w) :
    Calls Tryz.prog 72 #[.int .i64 n] w fun e w' => e = .returned (.string ⟨(Lib.itoa n).toArray⟩) ∧ Below w.heap.size w w' := by
  have C := Any.strconv_FormatInt_10 fmtInt n (by omega) (by omega) w hT
  go_enter Tryz.func72, Tryz.ntmps72
  go_wp2_with fail
  refine C.mono ?_
  rintro e w1 ⟨rfl, k, os, rfl⟩
  go_wp2_with fail
  go_ret
  exact ⟨rfl, grow_below k os⟩
theorem Tab.over {w v : World} (h : Tab w) (hb : Below w.heap.size w v) : Tab v := by
  unfold Tab Lib.TabIs at h ⊢
  rw [← h]
  have hg : Tryz.prog.globalNamed "internal/strconv.uint64pow10" = some 0 := by kernel_rfl
  simp only [World.var?, hg, Option.bind_some] at h ⊢
  cases hx : w.heap[0]? with
  | none => simp [hx] at h
  | some o => rw [hb.block 0 (Array.getElem?_eq_some_iff.1 hx).1, hx]
set_option maxHeartbeats 1000000 in
theorem labelText_any (m : Nat) (p h : Int) (w : World) (h0 : 1 ≤ m) (h1 : m ≤ 9999) (hT : Tab w) :
    Calls Tryz.prog 55 #[.agg #[.int .i64 (m : Int), .int .i64 p, .int .i64 h]] w fun e w' => e = .returned (.string ⟨(labN m).toArray⟩) ∧ Below w.heap.size w w' := by
  have D := fun W hW => decimal_any (m : Int) W (by omega) (by omega) hW
  have TR := fun (s : List UInt8) (hs : s.length ≤ 100) W => Any.strings_TrimRight_one trimR ⟨s.toArray⟩ 48 (by decide) W (by simp [ByteArray.size]; omega)
  have L := label_trim h0 h1
  go_enter Tryz.func55, Tryz.ntmps55
  go_wp2_with fail
  refine (D _ (hT.over (Below.alloc (Below.refl _ _) (Nat.le_refl _) _))).mono ?_
  rintro e w1 ⟨rfl, hb1⟩
  go_wp2_with fail
  refine (TR (Lib.itoa (m : Int)) ?_ _).mono ?_
  · rw [Lib.itoa, if_neg (by omega), Int.toNat_natCast]
    have := dec_len h1
    omega
  rintro e w2 ⟨rfl, rfl⟩
  go_wp2_with fail
  go_ret
  exact ⟨rfl, (Below.alloc (Below.refl _ _) (Nat.le_refl _) _).trans (hb1.mono (by simp))⟩
end Go.Proofs.YtpbhncgjnmaojaaGreatDoor

/- Numbers and rows of numbers as texts (layers 1, 7): the program's way (strconv, strings.Join). No condition but the table. -/
import Derived.Test.YtibcbhphkafgjaaDoorTextP
import Derived.Test.YtibcbhphkafgjaaDoorTx2
import Derived.Test.YtibcbhphkafgjaaDoorRule
import Derived.Test.YtibcbhphkafgjaaDoorApp
import Derived.Lib.LaidTab
import Derived.Lib.ItoaLen
namespace Go.Proofs.YtibcbhphkafgjaaDoor
open Go.RowKit
set_option linter.unusedVariables false
set_option linter.unusedSimpArgs false

def TabT (w : World) : Prop := Lib.TabIs Tryd.prog w "internal/strconv.uint64pow10" .u64 Lib.pow10Tab
theorem growT_below {w : World} (k : Nat) (os : Array Obj) : Below w.heap.size w (Go.Sort.grow (w.drewN k) os) := by
  refine ⟨rfl, rfl, rfl, by simp [Go.Sort.grow], fun i hi => ?_⟩
  rw [Go.Sort.heap_grow_old _ _ (by simpa using hi)]
  rfl
theorem TabT.over {w v : World} (h : TabT w) (hb : Below w.heap.size w v) : TabT v := by
  unfold TabT Lib.TabIs at h ⊢
  rw [← h]
  have hg : Tryd.prog.globalNamed "internal/strconv.uint64pow10" = some 0 := by kernel_rfl
  simp only [World.var?, hg, Option.bind_some] at h ⊢
  cases hx : w.heap[0]? with
  | none => simp [hx] at h
  | some o => rw [hb.block 0 (Array.getElem?_eq_some_iff.1 hx).1, hx]
theorem infoStr : (Tryd.prog.info? 9).map (fun i => (i.zero, i.size, i.bytes)) = some (some (.string ⟨#[]⟩), 1, 16) := by kernel_rfl
theorem joinX : Builder.Extra Tryd.prog joinS_ren where
  sizeBuilder := by kernel_rfl
  liesBuilder := by kernel_rfl
  t5 := Tryd.underlying5
  a5 := Tryd.isAgg5
  z5 := Tryd.sizeOf5
  v5 := Tryd.zeroValue5
  infoByte := by kernel_rfl
  cellsByte := by kernel_rfl
  sizeByte := by kernel_rfl
  neB5 := by decide
/-- a text as a value -/
def strL (l : List UInt8) : Value := .string ⟨l.toArray⟩
theorem join_len {c : UInt8} {m : Nat} : ∀ (xs : List (List UInt8)), (∀ x ∈ xs, x.length ≤ m) → (Lib.join xs [c]).length ≤ xs.length * (m + 1)
  | [], _ => by simp [Lib.join_nil]
  | [x], h => by
    have := h x (by simp)
    rw [Lib.join_one]; simp; omega
  | x :: y :: r, h => by
    have h1 := h x (by simp)
    have h2 := join_len (c := c) (y :: r) (fun z hz => h z (List.mem_cons_of_mem _ hz))
    rw [join_two _ _ (by simp)]
    simp only [List.length_append, List.length_cons] at h2 ⊢
    have e : (r.length + 1 + 1) * (m + 1) = (r.length + 1) * (m + 1) + (m + 1) := Nat.succ_mul _ _
    omega
theorem join_snoc {c : UInt8} (y : List UInt8) : ∀ (xs : List (List UInt8)), xs ≠ [] → Lib.join (xs ++ [y]) [c] = Lib.join xs [c] ++ c :: y
  | [], h => absurd rfl h
  | [x], _ => by
    show Lib.join (x :: [y]) [c] = _
    rw [join_two _ _ (by simp), Lib.join_one, Lib.join_one]
  | x :: z :: r, _ => by
    show Lib.join (x :: ((z :: r) ++ [y])) [c] = _
    rw [join_two _ _ (by simp), join_two x _ (by simp), join_snoc y (z :: r) (by simp)]
    simp
theorem take_map_snoc {α β : Type} {l : List α} {k : Nat} {x : α} (f : α → β) (h : l[k]? = some x) : (l.take (k + 1)).map f = (l.take k).map f ++ [f x] := by
  rw [List.take_add_one, h]
  simp
/-- strings.Join over a row of the call's own -/
theorem join_own (base g n cap : Nat) (xs : List (List UInt8)) (sep : UInt8) (W : World) (hown : W.ownsRow base 9 1 (.slice (some ⟨g, 0, none⟩) n cap) n (xs.map strL)) (hj : (Lib.join xs [sep]).length ≤ 1000000) (hn : n ≤ 1000000) :
    Calls Tryd.prog 51 #[.slice (some ⟨g, 0, none⟩) n cap, .string ⟨#[sep]⟩] W fun e w' => e = .returned (.string ⟨(Lib.join xs [sep]).toArray⟩) ∧ Below W.heap.size W w' := by
  have hx := hown.1
  rw [List.length_map, Nat.mul_one] at hx
  subst hx
  have hcell := hown.cells (g := g) rfl
  rcases ownRow hown with ⟨hv, _, _⟩ | ⟨g', cap', cur, hv, hbg, hF, hnc, hcm, hsz, htk⟩
  · cases hv
  injection hv with hA _ hc
  injection hA with hA
  injection hA with hA _
  subst hA hc
  have e1 : (xs.map fun l => (⟨l.toArray⟩ : ByteArray)).map (·.data.toList) = xs := by
    rw [List.map_map]
    conv => rhs; rw [← List.map_id xs]
    exact List.map_congr_left (fun l _ => rfl)
  have h := Any.strings_Join joinS joinX g 0 cap (xs.map fun l => (⟨l.toArray⟩ : ByteArray)) ⟨#[sep]⟩ W (fun j x hx => by
    rw [List.getElem?_map] at hx
    obtain ⟨y, hy, rfl⟩ := Option.map_eq_some_iff.1 hx
    have := hcell j (strL y) (by rw [List.getElem?_map, hy]; rfl)
    rw [Addr.add_lit] at this
    exact this) hF.inside (by rw [List.length_map]; omega) (by rw [List.length_map]; exact hnc) (by rw [e1]; show (Lib.join xs [sep]).length ≤ _; omega)
  rw [e1, List.length_map] at h
  exact h
set_option maxHeartbeats 1000000 in
theorem decI_any (n : Int) (w : World) (h0 : -9223372036854775808 ≤ n) (h1 : n ≤ 9223372036854775807) (hT : TabT w) :
    Calls Tryd.prog 36 #[.int .i64 n] w fun e w' => e = .returned (.string ⟨(Lib.itoa n).toArray⟩) ∧ Below w.heap.size w w' := by
  have C := Any.strconv_FormatInt_10 fmtInt n h0 h1 w hT
  go_enter Tryd.func36, Tryd.ntmps36
  go_wp2_with fail
  refine C.mono ?_
  rintro e w1 ⟨rfl, k, os, rfl⟩
  go_wp2_with fail
  go_ret
  exact ⟨rfl, growT_below k os⟩
set_option maxRecDepth 100000 in
set_option maxHeartbeats 2000000 in
theorem joined_any (A : Option Addr) (n c : Nat) (l : List Int) (sep : UInt8) (w : World) (hl : l.length = n) (h1 : 1 ≤ n) (hn : n ≤ 100) (hs : Sees w w.heap.size A (l.map (Value.int .i64))) (hr : I64s l) (hT : TabT w) :
    Calls Tryd.prog 50 #[.slice A n c, .string ⟨#[sep]⟩] w fun e w' => e = .returned (.string ⟨(Lib.join (l.map Lib.itoa) [sep]).toArray⟩) ∧ Below w.heap.size w w' := by
  obtain ⟨i0, hi', hz0, hz1, hz2⟩ := info_parts infoStr
  have HJ := Lib.hid (join_len (c := sep) (m := 21) (l.map Lib.itoa) (fun x hx => by
    obtain ⟨y, hy, rfl⟩ := List.mem_map.1 hx
    have := hr y hy
    exact Lib.itoa_length_le y this.1 this.2))
  go_enter Tryd.func50, Tryd.ntmps50
  go_wp2_with fail
  go_loopw [5, 11] (fun v i wr => ∃ k : Nat, k ≤ n ∧ i = .int .i64 k ∧ wr.ownsRow w.heap.size 9 1 v k (((l.take k).map Lib.itoa).map strL) ∧ Below w.heap.size w wr) (fun _ i _ => n - (intOf i).toNat)
  case atStart => exact ⟨0, Nat.zero_le _, rfl, World.ownsRow_made (base := w.heap.size) w #[] 0 (Nat.le_refl _) (Nat.zero_le _) rfl, (Below.refl _ _).alloc (Nat.le_refl _) _⟩
  case round =>
    obtain ⟨k, hk, rfl, hown, hB⟩ := hrel
    have zr := hB.size
    by_cases hlt : k < n
    · obtain ⟨b, off, x, rfl, hb, hx, c0⟩ := (hs.over hB).cellOf (k := k) (by omega)
      have hxr := hr x (List.mem_of_getElem? hx)
      have Hx := Lib.hid (take_map_snoc Lib.itoa hx)
      have D := fun W (hW : TabT W) => decI_any x W hxr.1 hxr.2 hW
      clear hx hs hr hl
      go_wp2_with fail
      refine (D _ (hT.over hB)).mono ?_
      rintro e w2 ⟨rfl, hb2⟩
      have B2 : Below w.heap.size w w2 := hB.trans (hb2.mono zr)
      have z2 := B2.size
      have own2 := ownOver hown hb2
      clear hown hb2 D
      go_wp2_with (at_builtin; refine wpList_append_own _ rfl _ _ 61 rfl w.heap.size 9 i0 (.string ⟨#[]⟩) 1 16 Tryd.underlying61 hi' hz0 hz1 hz2 rfl (by decide) _ _ _ rfl (own2.alloc _) ⟨w2.heap.size, 0, none⟩ 1 1 [strL (Lib.itoa x)] rfl rfl ?_ ?_ ?_ ?_ ?_ ?_; exact cell_one_new _ _ _; (intro u hu; simp at hu; subst hu; rfl); (unfold maxLen; omega); omega; (simp; omega); intro v' w3 hown3 hgr3 _)
      have B3 : Below w.heap.size w w3 := (B2.alloc z2 (.cells #[strL (Lib.itoa x)] 9)).grown hgr3 (by simp; omega) (fun j hj => (own2.lt j hj).1)
      go_wp2_with fail
      go_roundw
      case rel => exact ⟨k + 1, by omega, by go_num, by rw [Hx.out, List.map_append]; exact hown3, B3⟩
      case measure => simp [intOf]; omega
    · obtain rfl : k = n := by omega
      rcases ownRow hown with ⟨_, h0, _⟩ | ⟨g, cap, cur, rfl, hbg, hF, hnc, hcm, hsz, htk⟩
      · omega
      have J := join_own w.heap.size g k cap (l.map Lib.itoa) sep wr (by rw [← hl, List.take_length] at hown; rw [← hl]; exact hown) (by have := HJ.out; rw [List.length_map, hl] at this; omega) (by omega)
      go_wp2_with fail
      refine J.mono ?_
      rintro e w2 ⟨rfl, hb2⟩
      go_wp2_with fail
      go_ret
      exact ⟨rfl, hB.trans (hb2.mono zr)⟩
theorem partT_map (p : Int × Int × Int) : Lib.join ([p.1, p.2.1, p.2.2].map Lib.itoa) [47] = partT p := rfl
set_option maxRecDepth 100000 in
set_option maxHeartbeats 2000000 in
theorem graduationText_any (A : Option Addr) (n c : Nat) (l : List (Int × Int × Int)) (w : World) (hl : l.length = n) (h1 : 1 ≤ n) (hn : n ≤ 100) (hs : Sees w w.heap.size A (cells3 l)) (hr : I64s3 l) (hT : TabT w) :
    Calls Tryd.prog 29 #[.slice A n c] w fun e w' => e = .returned (.string ⟨(gradT l).toArray⟩) ∧ Below w.heap.size w w' := by
  obtain ⟨i0, hi', hz0, hz1, hz2⟩ := info_parts infoStr
  have HJ := Lib.hid (join_len (c := 32) (m := 65) (l.map partT) (fun x hx => by
    obtain ⟨y, hy, rfl⟩ := List.mem_map.1 hx
    exact partT_len (hr y hy)))
  go_enter Tryd.func29, Tryd.ntmps29
  go_wp2_with fail
  go_loopw [3, 9] (fun v i wr => ∃ k : Nat, k ≤ n ∧ i = .int .i64 k ∧ wr.ownsRow w.heap.size 9 1 v k (((l.take k).map partT).map strL) ∧ Below w.heap.size w wr) (fun _ i _ => n - (intOf i).toNat)
  case atStart => exact ⟨0, Nat.zero_le _, rfl, World.ownsRow_made (base := w.heap.size) w #[] 0 (Nat.le_refl _) (Nat.zero_le _) rfl, (Below.refl _ _).alloc (Nat.le_refl _) _⟩
  case round =>
    obtain ⟨k, hk, rfl, hown, hB⟩ := hrel
    have zr := hB.size
    by_cases hlt : k < n
    · obtain ⟨b, off, p, rfl, hb, hx, c0, c1, c2⟩ := (hs.over hB).three (k := k) (by omega)
      have hxr := hr p (List.mem_of_getElem? hx)
      have Hx := Lib.hid (take_map_snoc partT hx)
      have hbr : b < wr.heap.size := by omega
      have D := fun (W : World) (hs : Sees W W.heap.size (some ⟨wr.heap.size + 1, 0, none⟩) ([p.1, p.2.1, p.2.2].map (Value.int .i64))) (hW : TabT W) => joined_any (some ⟨wr.heap.size + 1, 0, none⟩) 3 3 [p.1, p.2.1, p.2.2] 47 W rfl (by omega) (by omega) hs (by unfold I64s; intro v hv; obtain ⟨a1, a2, a3⟩ := hxr; simp at hv; rcases hv with rfl | rfl | rfl <;> assumption) hW
      rw [partT_map] at D
      clear hx hs hr hl
      go_wp2_with fail
      refine (D _ ?_ ?_).mono ?_
      · have h := Full.made (wr.alloc (.cells #[.int .i64 p.1, .int .i64 p.2.1, .int .i64 p.2.2] 50)) 2 #[.int .i64 p.1, .int .i64 p.2.1, .int .i64 p.2.2]
        rw [show (wr.alloc (.cells #[.int .i64 p.1, .int .i64 p.2.1, .int .i64 p.2.2] 50)).heap.size = wr.heap.size + 1 by simp] at h
        exact Full.sees (xs := [.int .i64 p.1, .int .i64 p.2.1, .int .i64 p.2.2]) h
      · exact (hT.over hB).over (((Below.refl _ _).alloc (Nat.le_refl _) _).alloc (by simp) _)
      rintro e w2 ⟨rfl, hb2⟩
      have hb2' : Below wr.heap.size wr w2 := (((Below.refl _ _).alloc (Nat.le_refl _) _).alloc (by simp) _).trans (hb2.mono (by simp; omega))
      have B2 : Below w.heap.size w w2 := hB.trans (hb2'.mono zr)
      have z2 := B2.size
      have own2 := ownOver hown hb2'
      clear hown hb2 hb2' D
      go_wp2_with (at_builtin; refine wpList_append_own _ rfl _ _ 61 rfl w.heap.size 9 i0 (.string ⟨#[]⟩) 1 16 Tryd.underlying61 hi' hz0 hz1 hz2 rfl (by decide) _ _ _ rfl (own2.alloc _) ⟨w2.heap.size, 0, none⟩ 1 1 [strL (partT p)] rfl rfl ?_ ?_ ?_ ?_ ?_ ?_; exact cell_one_new _ _ _; (intro u hu; simp at hu; subst hu; rfl); (unfold maxLen; omega); omega; (simp; omega); intro v' w3 hown3 hgr3 _)
      have B3 : Below w.heap.size w w3 := (B2.alloc z2 (.cells #[strL (partT p)] 9)).grown hgr3 (by simp; omega) (fun j hj => (own2.lt j hj).1)
      go_wp2_with fail
      go_roundw
      case rel => exact ⟨k + 1, by omega, by go_num, by rw [Hx.out, List.map_append]; exact hown3, B3⟩
      case measure => simp [intOf]; omega
    · obtain rfl : k = n := by omega
      rcases ownRow hown with ⟨_, h0, _⟩ | ⟨g, cap, cur, rfl, hbg, hF, hnc, hcm, hsz, htk⟩
      · omega
      have J := join_own w.heap.size g k cap (l.map partT) 32 wr (by rw [← hl, List.take_length] at hown; rw [← hl]; exact hown) (by have := HJ.out; rw [List.length_map, hl] at this; omega) (by omega)
      go_wp2_with fail
      refine J.mono ?_
      rintro e w2 ⟨rfl, hb2⟩
      go_wp2_with fail
      go_ret
      exact ⟨rfl, hB.trans (hb2.mono zr)⟩
end Go.Proofs.YtibcbhphkafgjaaDoor

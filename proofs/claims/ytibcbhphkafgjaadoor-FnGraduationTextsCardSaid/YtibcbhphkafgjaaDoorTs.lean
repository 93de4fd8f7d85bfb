/- Cutting a text at a byte (layer 1): strings.Split and the reference's l01Split. No condition. -/
import Derived.Test.YtibcbhphkafgjaaDoorTh
import Derived.Test.YtibcbhphkafgjaaDoorOwn0
import Derived.Test.YtibcbhphkafgjaaDoorMk
import Derived.Lib.SplitLaws
namespace Go.Proofs.YtibcbhphkafgjaaDoor
open Go.RowKit
set_option linter.unusedVariables false
set_option linter.unusedSimpArgs false

theorem pieces_eq {l : List UInt8} {c : UInt8} : (Lib.splitB ⟨#[c]⟩ 0 (Lib.countB ⟨l.toArray⟩ ⟨#[c]⟩) ⟨l.toArray⟩).map Value.string = (splF c [] l).map strL := by
  have h := Lib.splitB_data ⟨#[c]⟩ 0 (Lib.countB ⟨l.toArray⟩ ⟨#[c]⟩) ⟨l.toArray⟩
  have h2 := splitK_splF c (Lib.count l [c]) l rfl
  have h3 : Lib.countB ⟨l.toArray⟩ ⟨#[c]⟩ = Lib.count l [c] := rfl
  have h4 : (Lib.splitB ⟨#[c]⟩ 0 (Lib.countB ⟨l.toArray⟩ ⟨#[c]⟩) ⟨l.toArray⟩).map (·.data.toList) = splF c [] l := h.trans (by rw [h3]; exact h2)
  rw [← h4, List.map_map]
  refine List.map_congr_left (fun x _ => ?_)
  show Value.string x = strL x.data.toList
  unfold strL
  rw [Lib.mk_data]
theorem pieces_len {l : List UInt8} {c : UInt8} : Lib.countB ⟨l.toArray⟩ ⟨#[c]⟩ + 1 = (splF c [] l).length := by
  have h := congrArg List.length (pieces_eq (l := l) (c := c))
  rw [List.length_map, List.length_map] at h
  rw [← h, Lib.splitB_all ⟨#[c]⟩ (Nat.le_refl 1) 0 _ ⟨l.toArray⟩ rfl]
/-- strings.Split at a byte: the pieces in a new row -/
theorem split_any (l : List UInt8) (c : UInt8) (w : World) (hlen : l.length ≤ 2000000) (hE : EnvT w) :
    Calls Tryd.prog 41 #[.string ⟨l.toArray⟩, .string ⟨#[c]⟩] w fun e w' => e = .returned (.slice (some ⟨w.heap.size, 0, none⟩) (splF c [] l).length (splF c [] l).length) ∧ Full w' w.heap.size 9 ((splF c [] l).map strL).toArray ∧ Below w.heap.size w w' := by
  obtain ⟨m, hm⟩ := hE.len
  have C := Any.strings_Split (ρ := splitS_ren) { splitS with } splitS.i9 ⟨l.toArray⟩ ⟨#[c]⟩ m w (by rw [Lib.size_eq]; show l.length < _; omega) hm (Nat.le_refl 1)
  refine C.mono ?_
  rintro e w' ⟨rfl, rfl⟩
  rw [pieces_eq, pieces_len]
  exact ⟨rfl, Full.made _ _ _, (Below.refl _ _).alloc (Nat.le_refl _) _⟩
/-- pieces in a row of the call's own -/
def GivesW (ws : List (List UInt8)) (w : World) (e : Ending) (w' : World) : Prop := ∃ v, e = .returned v ∧ w'.ownsRow w.heap.size 9 1 v ws.length (ws.map strL) ∧ Below w.heap.size w w'
/-- how far the cutting is -/
def CutI (c : UInt8) (l : List UInt8) (k j : Nat) (done : List (List UInt8)) : Prop :=
  (k ≤ l.length ∧ j ≤ k ∧ done ++ splF c ((l.drop j).take (k - j)) (l.drop k) = splF c [] l) ∨ (k = l.length + 1 ∧ done = splF c [] l)
theorem cutI_start (c : UInt8) (l : List UInt8) : CutI c l 0 0 [] := .inl ⟨Nat.zero_le _, Nat.le_refl _, by simp⟩
theorem cutI_hit {c : UInt8} {l : List UInt8} {k j : Nat} {done : List (List UInt8)} (h : CutI c l k j done) (hb : l[k]? = some c) : CutI c l (k + 1) (k + 1) (done ++ [(l.drop j).take (k - j)]) := by
  have hk := (List.getElem?_eq_some_iff.1 hb).1
  rcases h with ⟨h1, h2, h3⟩ | ⟨h1, _⟩
  · rw [splF_at _ hb, if_pos rfl] at h3
    exact .inl ⟨by omega, Nat.le_refl _, by rw [← h3]; simp⟩
  · omega
theorem cutI_miss {c b : UInt8} {l : List UInt8} {k j : Nat} {done : List (List UInt8)} (h : CutI c l k j done) (hb : l[k]? = some b) (hne : ¬ b = c) : CutI c l (k + 1) j done := by
  have hk := (List.getElem?_eq_some_iff.1 hb).1
  rcases h with ⟨h1, h2, h3⟩ | ⟨h1, _⟩
  · rw [splF_at _ hb, if_neg hne] at h3
    refine .inl ⟨by omega, by omega, ?_⟩
    rw [← h3]
    congr 2
    have e : (l.drop j)[k - j]? = some b := by rw [List.getElem?_drop, show j + (k - j) = k by omega]; exact hb
    rw [show k + 1 - j = (k - j) + 1 by omega, List.take_add_one, e]
    rfl
  · omega
theorem cutI_last {c : UInt8} {l : List UInt8} {k j : Nat} {done : List (List UInt8)} (h : CutI c l k j done) (hk : k = l.length) : CutI c l (k + 1) (k + 1) (done ++ [(l.drop j).take (k - j)]) := by
  rcases h with ⟨h1, h2, h3⟩ | ⟨h1, _⟩
  · refine .inr ⟨by omega, ?_⟩
    rw [← h3, List.drop_eq_nil_of_le (by omega : l.length ≤ k), splF]
  · omega
theorem cutI_end {c : UInt8} {l : List UInt8} {k j : Nat} {done : List (List UInt8)} (h : CutI c l k j done) (hk : l.length < k) : done = splF c [] l := by
  rcases h with ⟨h1, _, _⟩ | ⟨_, h2⟩
  · omega
  · exact h2
theorem cutI_bd {c : UInt8} {l : List UInt8} {k j : Nat} {done : List (List UInt8)} (h : CutI c l k j done) (hk : k ≤ l.length) : j ≤ k := by
  rcases h with ⟨_, h, _⟩ | ⟨h, _⟩ <;> omega
theorem cut_piece {s : ByteArray} {l : List UInt8} (h : s.data.toList = l) (j k : Nat) : Value.string (s.extract j k) = strL ((l.drop j).take (k - j)) := by
  subst h
  unfold strL
  rw [← Lib.extract_data, Lib.mk_data]
set_option maxRecDepth 100000 in
set_option maxHeartbeats 4000000 in
theorem l01Split_any (l : List UInt8) (c : UInt8) (w : World) (hlen : l.length ≤ 2000000) :
    Calls Tryd.prog 39 #[.string ⟨l.toArray⟩, .int .u8 (c.toNat : Int)] w (GivesW (splF c [] l) w) := by
  obtain ⟨i0, hi', hz0, hz1, hz2⟩ := info_parts infoStr
  obtain ⟨s, hs⟩ : ∃ s : ByteArray, s = ⟨l.toArray⟩ := ⟨_, rfl⟩
  have hsl : s.data.toList = l := by rw [hs]
  have hsz : s.size = l.length := by rw [← hsl, Lib.size_eq]
  have hs9 : s.size ≤ 2000000 := by omega
  rw [← hs]
  clear hs
  obtain ⟨y, hy⟩ : ∃ y : Nat, c.toNat = y := ⟨_, rfl⟩
  rw [hy]
  have HSZ := Lib.hid hsz
  have HSL := Lib.hid hsl
  clear hsz hsl hlen
  go_enter Tryd.func39, Tryd.ntmps39
  go_wp2_with fail
  go_loopw [5, 6, 7] (fun v jv iv wr => ∃ (k j : Nat) (done : List (List UInt8)), iv = .int .i64 k ∧ jv = .int .i64 j ∧ k ≤ s.size + 1 ∧ done.length ≤ k ∧ CutI c l k j done ∧ wr.ownsRow w.heap.size 9 1 v done.length (done.map strL) ∧ Below w.heap.size w wr) (fun _ _ i _ => s.size + 1 - (intOf i).toNat)
  case atStart => exact ⟨0, 0, [], rfl, rfl, Nat.zero_le _, Nat.le_refl _, cutI_start c l, World.ownsRow_made (base := w.heap.size) w #[] 0 (Nat.le_refl _) (Nat.zero_le _) rfl, (Below.refl _ _).alloc (Nat.le_refl _) _⟩
  case round =>
    obtain ⟨k, j, done, rfl, rfl, hk, hd, hI, hown, hB⟩ := hrel
    have HI := Lib.hid hI
    have zr := hB.size
    clear hI
    by_cases hlt : k < s.size
    · obtain ⟨b, hb⟩ : ∃ b, l[k]? = some b := ⟨_, List.getElem?_eq_getElem (by have := HSZ.out; omega)⟩
      have ki := idxStr s k b (by rw [HSL.out]; exact hb)
      have hjk := cutI_bd HI.out (by have := HSZ.out; omega)
      have n1 : ((k : Int) == (s.size : Int)) = false := beq_false_of_ne (by omega)
      have n2 : (k : Int) ≤ (s.size : Int) := by omega
      by_cases hbc : b = c
      · have HX := Lib.hid (cutI_hit HI.out (hbc ▸ hb))
        rw [hbc, hy] at ki
        have hp := Lib.hid (cut_piece (s := s) HSL.out j k)
        clear hb hbc
        go_wp2_with (at_builtin; refine wpList_append_own _ rfl _ _ 61 rfl w.heap.size 9 i0 (.string ⟨#[]⟩) 1 16 Tryd.underlying61 hi' hz0 hz1 hz2 rfl (by decide) _ _ _ rfl (hown.alloc _) ⟨wr.heap.size, 0, none⟩ 1 1 [strL ((l.drop j).take (k - j))] rfl rfl ?_ ?_ ?_ ?_ ?_ ?_; (rw [← hp.out]; exact cell_one_new _ _ _); (intro u hu; simp at hu; subst hu; rfl); (unfold maxLen; omega); omega; (simp; omega); intro v' w3 hown3 hgr3 _)
        have B3 : Below w.heap.size w w3 := (hB.alloc zr _).grown hgr3 (by simp; omega) (fun j hj => (hown.lt j hj).1)
        go_wp2_with fail
        go_roundw
        case rel => exact ⟨k + 1, k + 1, done ++ [(l.drop j).take (k - j)], by go_num, by go_num, by omega, by (rw [List.length_append]; show done.length + 1 ≤ _; omega), HX.out, by rw [List.length_append, List.map_append]; exact hown3, B3⟩
        case measure => simp [intOf]; omega
      · have HX := Lib.hid (cutI_miss HI.out hb hbc)
        obtain ⟨x, hx⟩ : ∃ x : Nat, b.toNat = x := ⟨_, rfl⟩
        have hxy : ((x : Int) == (y : Int)) = false := beq_false_of_ne (fun e => hbc (UInt8.toNat_inj.1 (by omega)))
        rw [hx] at ki
        clear hb hbc hx
        go_wp2_with fail
        go_roundw
        case rel => exact ⟨k + 1, j, done, by go_num, rfl, by omega, by omega, HX.out, hown, hB⟩
        case measure => simp [intOf]; omega
    · by_cases hke : k = s.size
      · subst hke
        have hjk := cutI_bd HI.out (by have := HSZ.out; omega)
        have HX := Lib.hid (cutI_last HI.out HSZ.out)
        have hp := Lib.hid (cut_piece (s := s) HSL.out j s.size)
        go_wp2_with (at_builtin; refine wpList_append_own _ rfl _ _ 61 rfl w.heap.size 9 i0 (.string ⟨#[]⟩) 1 16 Tryd.underlying61 hi' hz0 hz1 hz2 rfl (by decide) _ _ _ rfl (hown.alloc _) ⟨wr.heap.size, 0, none⟩ 1 1 [strL ((l.drop j).take (s.size - j))] rfl rfl ?_ ?_ ?_ ?_ ?_ ?_; (rw [← hp.out]; exact cell_one_new _ _ _); (intro u hu; simp at hu; subst hu; rfl); (unfold maxLen; omega); omega; (simp; omega); intro v' w3 hown3 hgr3 _)
        have B3 : Below w.heap.size w w3 := (hB.alloc zr _).grown hgr3 (by simp; omega) (fun j hj => (hown.lt j hj).1)
        go_wp2_with fail
        go_roundw
        case rel => exact ⟨s.size + 1, s.size + 1, done ++ [(l.drop j).take (s.size - j)], by go_num, by go_num, by omega, by (rw [List.length_append]; show done.length + 1 ≤ _; omega), HX.out, by rw [List.length_append, List.map_append]; exact hown3, B3⟩
        case measure => first | (simp [intOf]; done) | (simp [intOf]; omega)
      · have n2 : ¬ (k : Int) ≤ (s.size : Int) := by omega
        have he := cutI_end HI.out (by have := HSZ.out; omega)
        subst he
        go_wp2_with fail
        go_ret
        exact ⟨_, rfl, hown, hB⟩
end Go.Proofs.YtibcbhphkafgjaaDoor

/- Rows of numbers read (layer 1): numbers and the reference's l01Numbers. No condition but the variables. -/
import Derived.Test.YtibcbhphkafgjaaDoorTs
import Derived.Test.YtibcbhphkafgjaaDoorOwn
namespace Go.Proofs.YtibcbhphkafgjaaDoor
open Go.RowKit
set_option linter.unusedVariables false
set_option linter.unusedSimpArgs false

/-- numbers read: in a row of the call's own, or none -/
def GivesNs (o : Option (List Int)) (w : World) (e : Ending) (w' : World) : Prop :=
  match o with
  | none => e = .returned (.tuple #[.slice none 0 0, .bool false]) ∧ Below w.heap.size w w'
  | some L => ∃ v, e = .returned (.tuple #[v, .bool true]) ∧ w'.ownsRow w.heap.size 2 1 v L.length (L.map (Value.int .i64)) ∧ Below w.heap.size w w'
theorem GivesNs.no {o : Option (List Int)} {w : World} {w' : World} (h : o = none) (hb : Below w.heap.size w w') : GivesNs o w (.returned (.tuple #[.slice none 0 0, .bool false])) w' := by
  subst h
  exact ⟨rfl, hb⟩
theorem GivesNs.yes {o : Option (List Int)} {L : List Int} {w : World} {w' : World} {v : Value} {n : Nat} (h : o = some L) (hn : L.length = n) (ho : w'.ownsRow w.heap.size 2 1 v n (L.map (Value.int .i64))) (hb : Below w.heap.size w w') : GivesNs o w (.returned (.tuple #[v, .bool true])) w' := by
  subst h hn
  exact ⟨v, rfl, ho, hb⟩
theorem numsA_yes {f : List UInt8 → Int × Bool} {ws : List (List UInt8)} {k : Nat} {p : List UInt8} {L : List Int} {x : Int} (hp : ws[k]? = some p) (h : f p = (x, true)) : numsA f L (ws.drop k) = numsA f (L ++ [x]) (ws.drop (k + 1)) := by
  obtain ⟨hk, e⟩ := List.getElem?_eq_some_iff.1 hp
  rw [List.drop_eq_getElem_cons hk, e, numsA, h, if_pos rfl]
theorem numsA_no {f : List UInt8 → Int × Bool} {ws : List (List UInt8)} {k : Nat} {p : List UInt8} {L : List Int} {x : Int} (hp : ws[k]? = some p) (h : f p = (x, false)) : numsA f L (ws.drop k) = none := by
  obtain ⟨hk, e⟩ := List.getElem?_eq_some_iff.1 hp
  rw [List.drop_eq_getElem_cons hk, e, numsA, h, if_neg (by simp)]
theorem strCell {w : World} {g : Nat} {ws : List (List UInt8)} {t : TypeId} (hF : Full w g t (ws.map strL).toArray) {k : Nat} {p : List UInt8} (hp : ws[k]? = some p) : w.cell? ⟨g, k, none⟩ = some (.string ⟨p.toArray⟩) := by
  rw [hF.at_ k]
  simp [hp, strL]
set_option maxRecDepth 100000 in
set_option maxHeartbeats 4000000 in
theorem numbers_any (l : List UInt8) (c : UInt8) (w : World) (hlen : l.length ≤ 2000000) (hE : EnvT w) :
    Calls Tryd.prog 42 #[.string ⟨l.toArray⟩, .string ⟨#[c]⟩] w (GivesNs (numsA numR [] (splF c [] l)) w) := by
  have hpl := Lib.hid (fun p (hp : p ∈ splF c [] l) => splF_piece l [] p hp)
  have hnl := splF_len (c := c) l []
  have C := fun (W : World) (hW : W.heap.size = w.heap.size + 1) (hE : EnvT W) => (show Calls Tryd.prog 41 #[.string ⟨l.toArray⟩, .string ⟨#[c]⟩] W fun e w' => e = .returned (.slice (some ⟨w.heap.size + 1, 0, none⟩) (splF c [] l).length (splF c [] l).length) ∧ Full w' (w.heap.size + 1) 9 ((splF c [] l).map strL).toArray ∧ Below W.heap.size W w' by
    have := split_any l c W hlen hE
    rw [hW] at this ⊢
    exact this)
  have hHE := Lib.hid hE
  clear hE
  generalize splF c [] l = ws at *
  obtain ⟨n, hn⟩ : ∃ n, ws.length = n := ⟨_, rfl⟩
  rw [hn] at C hnl
  have HN := Lib.hid hn
  clear hn
  obtain ⟨i0, hi', hz0, hz1, hz2⟩ := info_parts infoI64'
  go_enter Tryd.func42, Tryd.ntmps42
  have o0 := World.ownsRow_made (e := 2) (base := w.heap.size) (size := 1) w #[] 0 (Nat.le_refl _) (Nat.zero_le _) rfl
  have b0 := Below.alloc (Below.refl w.heap.size w) (Nat.le_refl _) (.cells #[] 2)
  go_wp2_with fail
  refine (C _ (by simp) (hHE.out.over b0)).mono ?_
  rintro e w1 ⟨rfl, F1, b1⟩
  have B1 : Below w.heap.size w w1 := b0.trans (b1.mono (by simp))
  have o1 := ownOver o0 b1
  clear b0 b1 o0 C
  go_wp2_with fail
  go_loopw [6, 16] (fun v i wr => ∃ (k : Nat) (L : List Int), i = .int .i64 k ∧ k ≤ n ∧ L.length = k ∧ numsA numR L (ws.drop k) = numsA numR [] ws ∧ wr.ownsRow w.heap.size 2 1 v k (L.map (Value.int .i64)) ∧ Full wr (w.heap.size + 1) 9 (ws.map strL).toArray ∧ Below w.heap.size w wr) (fun _ i _ => n - (intOf i).toNat)
  case atStart => exact ⟨0, [], rfl, Nat.zero_le _, rfl, rfl, o1, F1, B1⟩
  case round =>
    obtain ⟨k, L, rfl, hk, hL, hI, hown, hF, hB⟩ := hrel
    have HI := Lib.hid hI
    have HL := Lib.hid hL
    have zr := hB.size
    clear hI hL
    by_cases hlt : k < n
    · obtain ⟨p, hp⟩ : ∃ p, ws[k]? = some p := ⟨_, List.getElem?_eq_getElem (by have := HN.out; omega)⟩
      have c0 := strCell hF hp
      have hne := ownNe hown hF (by decide)
      have hgr := hF.inside
      have D := number_any p wr (by have := hpl.out p (List.mem_of_getElem? hp); simp at this; omega) (hHE.out.over hB)
      obtain ⟨⟨x, ok⟩, HV⟩ : ∃ q, Hid (numR p = q) := ⟨_, Lib.hid rfl⟩
      rw [HV.out] at D
      have i0k : (k : Int) < (n : Int) := by omega
      cases ok with
      | true =>
        have HX := Lib.hid ((numsA_yes (f := numR) (L := L) hp HV.out).symm.trans HI.out)
        clear hp
        go_wp2_with fail
        refine D.mono ?_
        rintro e w2 ⟨rfl, hb2⟩
        have B2 : Below w.heap.size w w2 := hB.trans (hb2.mono zr)
        have z2 := B2.size
        have o2 := ownOver hown hb2
        have F2 := hF.over hb2 hF.inside
        clear hown hb2 D hF
        go_wp2_with (at_builtin; refine wpList_append_own _ rfl _ _ 30 rfl w.heap.size 2 i0 (.int .i64 0) 1 8 Tryd.underlying30 hi' hz0 hz1 hz2 rfl (by decide) _ _ _ rfl (o2.alloc _) ⟨w2.heap.size, 0, none⟩ 1 1 [.int .i64 x] rfl rfl ?_ ?_ ?_ ?_ ?_ ?_; exact cell_one_new _ _ _; (intro u hu; simp at hu; subst hu; rfl); (unfold maxLen; omega); omega; (simp; omega); intro v' w3 hown3 hgr3 _)
        have B3 : Below w.heap.size w w3 := (B2.alloc z2 _).grown hgr3 (by simp; omega) (fun j hj => (o2.lt j hj).1)
        have F3 := Full.grow (F2.block (.cells #[.int .i64 x] 2)) hgr3 hne
        go_wp2_with fail
        go_roundw
        case rel => exact ⟨k + 1, L ++ [x], by go_num, by omega, by (rw [List.length_append, HL.out]; rfl), HX.out, by (rw [List.map_append]; exact hown3), F3, B3⟩
        case measure => simp [intOf]; omega
      | false =>
        have HX := Lib.hid (HI.out.symm.trans (numsA_no (f := numR) (L := L) hp HV.out))
        clear hp
        go_wp2_with fail
        refine D.mono ?_
        rintro e w2 ⟨rfl, hb2⟩
        go_wp2_with fail
        go_ret2
        exact GivesNs.no HX.out (hB.trans (hb2.mono zr))
    · obtain rfl : k = n := by omega
      have HX := Lib.hid (show numsA numR [] ws = some L by rw [← HI.out, List.drop_eq_nil_of_le (by have := HN.out; omega)]; rfl)
      go_wp2_with fail
      go_ret2
      exact GivesNs.yes HX.out HL.out hown hB
set_option maxRecDepth 100000 in
set_option maxHeartbeats 4000000 in
theorem l01Numbers_any (A : Option Addr) (n cc : Nat) (ws : List (List UInt8)) (w : World) (hn : ws.length = n) (hnl : n ≤ 2000001) (hs : Sees w w.heap.size A (ws.map strL)) (hpl : ∀ p ∈ ws, p.length ≤ 2000000) :
    Calls Tryd.prog 40 #[.slice A n cc] w (GivesNs (numsA sgnR [] ws) w) := by
  have HN := Lib.hid hn
  have HP := Lib.hid hpl
  clear hn hpl
  obtain ⟨i0, hi', hz0, hz1, hz2⟩ := info_parts infoI64'
  go_enter Tryd.func40, Tryd.ntmps40
  go_wp2_with fail
  go_loopw [4, 5] (fun v i wr => ∃ (k : Nat) (L : List Int), i = .int .i64 k ∧ k ≤ n ∧ L.length = k ∧ numsA sgnR L (ws.drop k) = numsA sgnR [] ws ∧ wr.ownsRow w.heap.size 2 1 v k (L.map (Value.int .i64)) ∧ Below w.heap.size w wr) (fun _ i _ => n - (intOf i).toNat)
  case atStart => exact ⟨0, [], rfl, Nat.zero_le _, rfl, rfl, World.ownsRow_made (base := w.heap.size) w #[] 0 (Nat.le_refl _) (Nat.zero_le _) rfl, (Below.refl _ _).alloc (Nat.le_refl _) _⟩
  case round =>
    obtain ⟨k, L, rfl, hk, hL, hI, hown, hB⟩ := hrel
    have HI := Lib.hid hI
    have HL := Lib.hid hL
    have zr := hB.size
    clear hI hL
    by_cases hlt : k < n
    · obtain ⟨p, hp⟩ : ∃ p, ws[k]? = some p := ⟨_, List.getElem?_eq_getElem (by have := HN.out; omega)⟩
      obtain ⟨b, off, hA, hbk, hcell⟩ := (hs.over hB) k (strL p) (by rw [List.getElem?_map, hp]; rfl)
      subst hA
      have c0 : wr.cell? ⟨b, off + k, none⟩ = some (.string ⟨p.toArray⟩) := hcell
      clear hcell
      have D := l01Signed_any p wr (HP.out p (List.mem_of_getElem? hp))
      obtain ⟨⟨x, ok⟩, HV⟩ : ∃ q, Hid (sgnR p = q) := ⟨_, Lib.hid rfl⟩
      rw [HV.out] at D
      have i0k : (k : Int) < (n : Int) := by omega
      cases ok with
      | true =>
        have HX := Lib.hid ((numsA_yes (f := sgnR) (L := L) hp HV.out).symm.trans HI.out)
        clear hp
        go_wp2_with fail
        refine D.mono ?_
        rintro e w2 ⟨rfl, hb2⟩
        have B2 : Below w.heap.size w w2 := hB.trans (hb2.mono zr)
        have z2 := B2.size
        have o2 := ownOver hown hb2
        clear hown hb2 D 
        go_wp2_with (at_builtin; refine wpList_append_own _ rfl _ _ 30 rfl w.heap.size 2 i0 (.int .i64 0) 1 8 Tryd.underlying30 hi' hz0 hz1 hz2 rfl (by decide) _ _ _ rfl (o2.alloc _) ⟨w2.heap.size, 0, none⟩ 1 1 [.int .i64 x] rfl rfl ?_ ?_ ?_ ?_ ?_ ?_; exact cell_one_new _ _ _; (intro u hu; simp at hu; subst hu; rfl); (unfold maxLen; omega); omega; (simp; omega); intro v' w3 hown3 hgr3 _)
        have B3 : Below w.heap.size w w3 := (B2.alloc z2 _).grown hgr3 (by simp; omega) (fun j hj => (o2.lt j hj).1)
        go_wp2_with fail
        go_roundw
        case rel => exact ⟨k + 1, L ++ [x], by go_num, by omega, by (rw [List.length_append, HL.out]; rfl), HX.out, by (rw [List.map_append]; exact hown3), B3⟩
        case measure => simp [intOf]; omega
      | false =>
        have HX := Lib.hid (HI.out.symm.trans (numsA_no (f := sgnR) (L := L) hp HV.out))
        clear hp
        go_wp2_with fail
        refine D.mono ?_
        rintro e w2 ⟨rfl, hb2⟩
        go_wp2_with fail
        go_ret2
        exact GivesNs.no HX.out (hB.trans (hb2.mono zr))
    · obtain rfl : k = n := by omega
      have HX := Lib.hid (show numsA sgnR [] ws = some L by rw [← HI.out, List.drop_eq_nil_of_le (by have := HN.out; omega)]; rfl)
      go_wp2_with fail
      go_ret2
      exact GivesNs.yes HX.out HL.out hown hB
end Go.Proofs.YtibcbhphkafgjaaDoor

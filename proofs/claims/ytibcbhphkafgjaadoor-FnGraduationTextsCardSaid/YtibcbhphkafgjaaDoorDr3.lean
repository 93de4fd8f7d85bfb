/- Draws of graduations (layer 7). No condition. -/
import Derived.Test.YtibcbhphkafgjaaDoorDr
import Derived.Test.YtibcbhphkafgjaaDoorMk
import Derived.Test.YtibcbhphkafgjaaDoorOwn
import Derived.Deep.RegionHeld3
import Derived.Deep.AppendLies
namespace Go.Proofs.YtibcbhphkafgjaaDoor
open Go.RowKit
set_option linter.unusedVariables false
set_option linter.unusedSimpArgs false

theorem Src.grown {w v : World} {b : Nat} {A : Option Addr} {n c : Nat} {l : List Int} {row : Option Nat} (h : Src w b A n c l) (hg : w.grownBy v row) (hr : ∀ g, row = some g → b < g) : Src v b A n c l := by
  have hi := h.inside
  obtain ⟨⟨x, q, a1, a2, a3, a4, F⟩, S⟩ := h
  exact ⟨⟨x, q, a1, a2, a3, a4, F.grow hg (fun e => by have := hr b e.symm; omega)⟩, S.grow hg (by omega) (fun g hgr => by have := hr g hgr; omega)⟩
theorem gGrown {w v x : World} {b : Nat} {row : Option Nat} (h : w.grownBy v (some b)) (hg : v.grownBy x row) (hr : ∀ g, row = some g → w.heap.size ≤ g) : w.grownBy x (some b) :=
  ⟨hg.os.trans h.os, hg.tape.trans h.tape, hg.output.trans h.output, Nat.le_trans h.size hg.size, fun k hk hne => (hg.block k (Nat.lt_of_lt_of_le hk h.size) (fun e => by have := hr k e.symm; omega)).trans (h.block k hk hne)⟩
/-- numbers that are small -/
def SmallP (p : Int × Int × Int) : Prop := (-100000 ≤ p.1 ∧ p.1 ≤ 100000) ∧ (-100000 ≤ p.2.1 ∧ p.2.1 ≤ 100000) ∧ (-100000 ≤ p.2.2 ∧ p.2.2 ≤ 100000)
theorem smallOf {x y z : Int} (h1 : 0 ≤ x ∧ x ≤ 20000) (h2 : 0 ≤ y ∧ y ≤ 20000) (h3 : -100000 ≤ z ∧ z ≤ 100000) : SmallP (x, y, z) := ⟨⟨by show _ ≤ x; omega, by show x ≤ _; omega⟩, ⟨by show _ ≤ y; omega, by show y ≤ _; omega⟩, h3⟩
def SmallPs (L : List (Int × Int × Int)) : Prop := ∀ p ∈ L, SmallP p
theorem SmallPs.i64 {L : List (Int × Int × Int)} (h : SmallPs L) : I64s3 L := fun p hp => by
  obtain ⟨h1, h2, h3⟩ := h p hp
  unfold I64
  omega
theorem SmallPs.snoc {L : List (Int × Int × Int)} {p : Int × Int × Int} (h : SmallPs L) (hp : SmallP p) : SmallPs (L ++ [p]) := fun q hq => by
  rcases List.mem_append.1 hq with hq | hq
  · exact h q hq
  · rw [List.mem_singleton] at hq; subst hq; exact hp
theorem SmallPs.set {L : List (Int × Int × Int)} {p : Int × Int × Int} {k : Nat} (h : SmallPs L) (hp : SmallP p) : SmallPs (L.set k p) := fun q hq => by
  rcases List.mem_or_eq_of_mem_set hq with hq | hq
  · exact h q hq
  · subst hq; exact hp
theorem SmallPs.set64 {L : List (Int × Int × Int)} {p : Int × Int × Int} {k : Nat} (h : SmallPs L) (h1 : -100000 ≤ p.1 ∧ p.1 ≤ 100000) (h2 : -1000000 ≤ p.2.1 ∧ p.2.1 ≤ 1000000) (h3 : -100000 ≤ p.2.2 ∧ p.2.2 ≤ 100000) : I64s3 (L.set k p) := fun q hq => by
  rcases List.mem_or_eq_of_mem_set hq with hq | hq
  · exact h.i64 q hq
  · subst hq; unfold I64; omega
theorem SmallPs.take {L : List (Int × Int × Int)} {k : Nat} (h : SmallPs L) : SmallPs (L.take k) := fun q hq => h q (List.mem_of_mem_take hq)
def ends20 (es : List Int) : Prop := ∀ e ∈ es, 0 ≤ e ∧ e ≤ 20000
theorem ends20.snoc {es : List Int} {y : Int} (h : ends20 es) (h0 : 0 ≤ y) (h1 : y ≤ 20000) : ends20 (es ++ [y]) := fun q hq => by
  rcases List.mem_append.1 hq with hq | hq
  · exact h q hq
  · rw [List.mem_singleton] at hq; subst hq; exact ⟨h0, h1⟩
theorem pick6 {v a b c d e f : Int} {P : Int → Prop} (h : ∃ j : Nat, j < 6 ∧ (#[Value.int .i64 a, .int .i64 b, .int .i64 c, .int .i64 d, .int .i64 e, .int .i64 f] : Array Value)[j]? = some (.int .i64 v)) (h1 : P a) (h2 : P b) (h3 : P c) (h4 : P d) (h5 : P e) (h6 : P f) : P v := by
  obtain ⟨j, hj, h⟩ := h
  rcases j with _ | _ | _ | _ | _ | _ | j <;> first | (simp at h; subst h; assumption) | omega
theorem pick4 {v a b c d : Int} {P : Int → Prop} (h : ∃ j : Nat, j < 4 ∧ (#[Value.int .i64 a, .int .i64 b, .int .i64 c, .int .i64 d] : Array Value)[j]? = some (.int .i64 v)) (h1 : P a) (h2 : P b) (h3 : P c) (h4 : P d) : P v := by
  obtain ⟨j, hj, h⟩ := h
  rcases j with _ | _ | _ | _ | j <;> first | (simp at h; subst h; assumption) | omega
theorem pick3 {v a b c : Int} {P : Int → Prop} (h : ∃ j : Nat, j < 3 ∧ (#[Value.int .i64 a, .int .i64 b, .int .i64 c] : Array Value)[j]? = some (.int .i64 v)) (h1 : P a) (h2 : P b) (h3 : P c) : P v := by
  obtain ⟨j, hj, h⟩ := h
  rcases j with _ | _ | _ | j <;> first | (simp at h; subst h; assumption) | omega
/-- a graduation drawn: small numbers, in a block of its own -/
def GivesG (Q : List (Int × Int × Int) → Prop) (m : Nat) (b : Nat) (A : Option Addr) (n c : Nat) (l : List Int) (w : World) (e : Ending) (w' : World) : Prop := ∃ v L, e = .returned v ∧ m ≤ L.length ∧ L.length ≤ 12 ∧ Q L ∧ w'.ownsRow w.heap.size 50 3 v L.length (cells3 L) ∧ Src w' b A n c l ∧ w.grownBy w' (some b)
theorem infoPartD : (Tryd.prog.info? 50).map (fun i => (i.zero, i.size, i.bytes)) = some (some (.agg #[.int .i64 0, .int .i64 0, .int .i64 0]), 3, 24) := by kernel_rfl
set_option maxRecDepth 100000 in
set_option maxHeartbeats 4000000 in
theorem l07Valid_any (b : Nat) (A : Option Addr) (n c : Nat) (l : List Int) (w : World) (hl : l.length = n) (hn : n ≤ 1048576) (h8 : U8s l) (hS : Src w b A n c l) :
    Calls Tryd.prog 45 #[.pointer (some ⟨b, 0, none⟩)] w (GivesG SmallPs 1 b A n c l w) := by
  have y0 := hS.inside
  obtain ⟨i0, hi', hz0, hz1, hz2⟩ := info_parts infoI64
  obtain ⟨j0, hj', jz0, jz1, jz2⟩ := info_parts infoPartD
  go_enter Tryd.func45, Tryd.ntmps45
  go_wp2_with fail
  refine (l01Next_any _ b A n c l _ hl hn h8 (hS.alloc _)).mono ?_
  rintro e w1 ⟨v1, rfl, lo1, hi1, S1, g1⟩
  have hv1 : v1 ≤ 19 := by omega
  have o1 := ownGrown (w := w.alloc (.cells #[.int .i64 1000] 2)) (ownLower (b' := w.heap.size) (ownOfFull (n := 1) (size := 1) (xs := [.int .i64 1000]) (Full.made w _ _) rfl (by decide)) (Nat.le_refl _)) g1 (.inr (by show some w.heap.size ≠ some b; intro e; injection e; omega))
  have G1 : w.grownBy w1 (some b) := grownTrans (World.grownBy_alloc w _ _) g1
  clear g1 hi1
  go_wp2_with fail
  go_loopw [3, 4] (fun ve yv wr => ∃ (es : List Int) (y : Int), yv = .int .i64 y ∧ 0 ≤ y ∧ y ≤ 20000 ∧ 1 ≤ es.length ∧ es.length ≤ 12 ∧ ends20 es ∧ wr.ownsRow w.heap.size 2 1 ve es.length (es.map (Value.int .i64)) ∧ Src wr b A n c l ∧ w.grownBy wr (some b)) (fun _ yv _ => (20000 - intOf yv).toNat)
  case atStart => exact ⟨[1000], 1200 + 200 * v1, rfl, by omega, by omega, by simp, by simp, fun e he => by (rw [List.mem_singleton] at he; subst he; omega), o1, S1, G1⟩
  case round =>
    obtain ⟨es, y, rfl, yl, yh, el, eh, HE, hown, hSr, hG⟩ := hrel
    have zr := hG.size
    have HE' := Lib.hid HE
    clear HE o1 S1 G1
    by_cases hy : y < 10000
    · by_cases h12 : es.length < 12
      · have h12' : decide ((es.length : Int) < 12) = true := decide_eq_true (by omega)
        obtain ⟨A2, c2, rfl⟩ := ownShape hown
        go_wp2_with (at_builtin; refine wpList_append_own _ rfl _ _ 30 rfl w.heap.size 2 i0 (.int .i64 0) 1 8 Tryd.underlying30 hi' hz0 hz1 hz2 rfl (by decide) _ _ _ rfl (hown.alloc _) ⟨wr.heap.size, 0, none⟩ 1 1 [.int .i64 y] rfl rfl ?_ ?_ ?_ ?_ ?_ ?_; exact cell_one_new _ _ _; (intro u hu; simp at hu; subst hu; rfl); (unfold maxLen; omega); omega; (simp; omega); intro v' w3 hown1 hgr1 _)
        have S3 := (hSr.alloc (.cells #[.int .i64 y] 2)).grown hgr1 (fun g hg => by have := (hown.lt g hg).1; omega)
        have G3 : w.grownBy w3 (some b) := gGrown (gAlloc hG (.cells #[.int .i64 y] 2)) hgr1 (fun g hg => (hown.lt g hg).1)
        clear hgr1 hown hSr hG
        go_wp2_with fail
        refine (l01Next_any _ b A n c l _ hl hn h8 (S3)).mono ?_
        rintro e w4 ⟨v4, rfl, lo4, hi4, S4, g4⟩
        have hv4 : v4 ≤ 11 := by omega
        have o4 := ownGrown hown1 g4 (ownNo (fun k hk => by have := (hown1.lt k hk).1; omega))
        have G4 : w.grownBy w4 (some b) := grownTrans G3 g4
        clear g4 hi4 hown1 G3 S3
        go_wp2_with fail
        go_roundw
        case rel => exact ⟨es ++ [y], y + 400 * (1 + v4), rfl, by omega, by omega, by simp, by simp; omega, HE'.out.snoc yl yh, by rw [List.map_append, List.length_append]; exact o4, S4, G4⟩
        case measure => simp [intOf]; omega
      · have h12' : decide ((es.length : Int) < 12) = false := decide_eq_false (by omega)
        have h12'' : ¬ ((es.length : Int) < 12) := by omega
        obtain ⟨A2, c2, rfl⟩ := ownShape hown
        go_wp2_with fail
        refine (l01Next_any _ b A n c l _ hl hn h8 (hSr)).mono ?_
        rintro e w4 ⟨v4, rfl, lo4, hi4, S4, g4⟩
        have hv4 : v4 ≤ 11 := by omega
        have o4 := ownGrown hown g4 (ownNo (fun k hk => by have := (hown.lt k hk).1; omega))
        have G4 : w.grownBy w4 (some b) := grownTrans hG g4
        clear g4 hi4 hown hG hSr
        go_wp2_with fail
        go_roundw
        case rel => exact ⟨es, y + 400 * (1 + v4), rfl, by omega, by omega, el, eh, HE'.out, o4, S4, G4⟩
        case measure => simp [intOf]; omega
    · obtain ⟨A2, c2, rfl⟩ := ownShape hown
      go_wp2_with (at_builtin; refine wpList_append_own _ rfl _ _ 30 rfl w.heap.size 2 i0 (.int .i64 0) 1 8 Tryd.underlying30 hi' hz0 hz1 hz2 rfl (by decide) _ _ _ rfl (hown.alloc _) ⟨wr.heap.size, 0, none⟩ 1 1 [.int .i64 10000] rfl rfl ?_ ?_ ?_ ?_ ?_ ?_; exact cell_one_new _ _ _; (intro u hu; simp at hu; subst hu; rfl); (unfold maxLen; omega); omega; (simp; omega); intro v' w3 hown1 hgr1 _)
      have S3 := (hSr.alloc (.cells #[.int .i64 10000] 2)).grown hgr1 (fun g hg => by have := (hown.lt g hg).1; omega)
      have G3 : w.grownBy w3 (some b) := gGrown (gAlloc hG (.cells #[.int .i64 10000] 2)) hgr1 (fun g hg => (hown.lt g hg).1)
      have HE3 := Lib.hid (HE'.out.snoc (y := 10000) (by omega) (by omega))
      have hm : (es ++ [(10000 : Int)]).length = es.length + 1 := by simp
      have o3 : w3.ownsRow w.heap.size 2 1 v' (es.length + 1) ((es ++ [(10000 : Int)]).map (Value.int .i64)) := by rw [List.map_append]; exact hown1
      clear hgr1 hown hSr hG HE' hy hown1
      obtain ⟨m, em⟩ : ∃ m, m = es.length + 1 := ⟨_, rfl⟩
      rw [← em] at o3 hm
      have m2 : 2 ≤ m := by omega
      have m13 : m ≤ 13 := by omega
      generalize es ++ [(10000 : Int)] = fs at *
      have Hm := Lib.hid hm
      clear hm em el eh
      rcases ownRow o3 with ⟨_, hn0, _⟩ | ⟨ge, cap, cur, rfl, hbg, hF3, hmc, hcm, hsz, htk⟩
      · omega
      have hcur := Lib.hid (show ∀ q x, fs[q]? = some x → cur[q]? = some (Value.int .i64 x) from fun q x hx => by
        have hq := (List.getElem?_eq_some_iff.1 hx).1
        have h2 : (fs.map (Value.int .i64))[q]? = some (.int .i64 x) := by rw [List.getElem?_map, hx]; rfl
        rw [← htk, List.getElem?_take, if_pos (by have := Hm.out; omega)] at h2
        simpa using h2)
      have z3 := G3.size
      have y3 := S3.inside
      have hgi := hF3.inside
      clear htk hsz o3
      go_wp2_with fail
      go_loopw [5, 6] (fun vo iv wr => ∃ (k : Nat) (L : List (Int × Int × Int)), iv = .int .i64 ((k : Int) + 1) ∧ k + 1 ≤ m ∧ L.length = k ∧ SmallPs L ∧ wr.ownsRow w.heap.size 50 3 vo k (cells3 L) ∧ Full wr ge 2 cur ∧ Src wr b A n c l ∧ w.grownBy wr (some b)) (fun _ iv _ => 14 - (intOf iv).toNat)
      case atStart => exact ⟨0, [], rfl, by omega, rfl, (fun p hp => by cases hp), ownLower (World.ownsRow_made (base := w3.heap.size) w3 #[] 0 (Nat.le_refl _) (Nat.zero_le _) rfl) (by omega), hF3.block _, S3.alloc _, gAlloc G3 _⟩
      case round =>
        obtain ⟨k, L, rfl, hk, hL, HS, hown, hF, hSr, hG⟩ := hrel
        have zr := hG.size
        have yr := hSr.inside
        have hgr := hF.inside
        have HS' := Lib.hid HS
        have HL := Lib.hid hL
        have hne := ownNe hown hF (by decide)
        clear HS hL S3 G3 hF3
        obtain ⟨A2, c2, rfl⟩ := ownShape hown
        by_cases hlt : k + 1 < m
        · obtain ⟨x0, hx0⟩ : ∃ x, fs[k]? = some x := ⟨_, List.getElem?_eq_getElem (by have := Hm.out; omega)⟩
          obtain ⟨x1, hx1⟩ : ∃ x, fs[k + 1]? = some x := ⟨_, List.getElem?_eq_getElem (by have := Hm.out; omega)⟩
          have c0 : wr.cell? ⟨ge, k, none⟩ = some (.int .i64 x0) := (hF.at_ k).trans (hcur.out k x0 hx0)
          have c1 : wr.cell? ⟨ge, k + 1, none⟩ = some (.int .i64 x1) := (hF.at_ (k + 1)).trans (hcur.out (k + 1) x1 hx1)
          have b0 := HE3.out x0 (List.mem_of_getElem? hx0)
          have b1 := HE3.out x1 (List.mem_of_getElem? hx1)
          have i0' : (0 : Int) ≤ (k : Int) := by omega
          have i1' : (k : Int) < (m : Int) := by omega
          have i2' : (0 : Int) ≤ (k : Int) + 1 := by omega
          have i3' : (k : Int) + 1 < (m : Int) := by omega
          have n0 : ((k : Int) + 1).toNat = k + 1 := by omega
          have e0 : (k : Int) + 1 - 1 = (k : Int) := by omega
          have e1 : IntKind.i64.wrap ((k : Int) + 1 - 1) = (k : Int) := (IntWalk.i64_in _ (by omega)).trans e0
          have e2 : IntKind.i64.wrap ((k : Int)) = (k : Int) := IntWalk.i64_in _ (by omega)
          have hgb : ge ≠ b := by omega
          have hgb2 : b ≠ ge := by omega
          have HF := Lib.hid hF
          have HB := Lib.hid (And.intro b0 b1)
          have nef := World.new_ne wr _ c0
          clear hx0 hx1 hF b0 b1
          go_wp2_with fail
          go_region_held3 (fun w' => w'.cell? ⟨ge, k, none⟩ = some (.int .i64 x0) ∧ w'.cell? ⟨ge, k + 1, none⟩ = some (.int .i64 x1))
            (first
              | go_keep
              | (go_split_ands; refine ⟨?_, ?_⟩ <;> (rw [hgrow.cell_far _ (by simp; omega) hne]; assumption)))
            (first
              | (go_at_call 63; (with_reducible refine (l01Pick_any _ _ _ _ b A n c l _ hl hn h8 ?_ (fullMadeD _ _ _) ?_ ?_ ?_ ?_).mono ?_); (focus (repeat' (first | (with_reducible assumption) | (with_reducible refine Src.alloc ?_ _) | (with_reducible refine Src.drew ?_) | (with_reducible refine Src.drewN ?_ _) | (with_reducible refine Src.set ?_ ?_ _) | omega | (simp; done) | (simp; omega)))); (focus (first | exact nums_3 _ _ _ | exact nums_4 _ _ _ _ | exact nums_5 _ _ _ _ _ | exact nums_6 _ _ _ _ _ _ | exact nums_7 _ _ _ _ _ _ _ | exact nums_8 _ _ _ _ _ _ _ _)); (focus (first | omega | (simp; omega))); (focus omega); (focus omega); rintro e w6 ⟨v6, rfl, mem6, S6, g6⟩; have G6 : wr.grownBy w6 (some b) := grownTrans (by repeat' (first | (with_reducible exact grownRefl _ _) | (with_reducible assumption) | (with_reducible refine gAlloc ?_ _) | (with_reducible refine grownDrew ?_) | (with_reducible refine gDrewN ?_ _) | (with_reducible refine gSet ?_ ?_ _) | (left; with_reducible rfl) | (right; first | omega | (simp; done) | (simp; omega)) | (with_reducible refine gBel ?_ (by with_reducible assumption)))) g6; have z6 := G6.size; have y6 := S6.inside; have q0 := (gCell (j := k) G6 hgr hgb).trans c0; have q1 := (gCell (j := k + 1) G6 hgr hgb).trans c1; have o6 := ownGrown hown G6 (ownNo (fun q hq => by have := (hown.lt q hq).1; omega)); have HF6 := Lib.hid (HF.out.grow G6 (fun e => hgb (by injection e))); have HM := Lib.hid mem6; clear g6 mem6)
              | (refine step_append_lies _ (by rfl) _ _ _ (by rfl) w.heap.size 50 j0 _ 3 24 Tryd.underlying26 hj' jz0 jz1 jz2 rfl (by omega) _ _ _ (by rfl) ((o6.alloc _).drew) ⟨w6.heap.size, 0, none⟩ 1 1 [.int .i64 x0, .int .i64 x1, .int .i64 v6] (by rfl) (by rfl) (World.news_of_block (cs := #[.int .i64 x0, .int .i64 x1, .int .i64 v6]) (t := 50) (fr := (0, 0)) (heap_alloc_new w6 _)) (by simp [Value.oneCell']) (by omega) (by unfold maxLen; omega) (by omega) (by simp; omega) (w6.heap.size + 1) (by simp) ?_; intro gg cap7 w7 hown7 hgrow hat hlt7))
          have hb6 := pick6 (P := fun v => -100000 ≤ v ∧ v ≤ 100000) HM.out (by omega) (by omega) (by omega) (by omega) (by omega) (by omega)
          have S7 := (S6.alloc (.cells #[.int .i64 x0, .int .i64 x1, .int .i64 v6] 50)).grown hgrow (fun g hg => by have := (o6.lt g hg).1; omega)
          have G7 : w.grownBy w7 (some b) := gGrown (gAlloc (grownTrans hG G6) (.cells #[.int .i64 x0, .int .i64 x1, .int .i64 v6] 50)) hgrow (fun g hg => (o6.lt g hg).1)
          have F7 := Full.grow (w := w6.alloc (.cells #[.int .i64 x0, .int .i64 x1, .int .i64 v6] 50)) (HF6.out.block _) hgrow hne
          clear hgrow hat hSr hG
          go_wp2
          go_roundw
          case rel =>
            refine ⟨k + 1, L ++ [(x0, x1, v6)], rfl, by omega, by simp [HL.out], HS'.out.snoc (smallOf HB.out.1 HB.out.2 hb6), ?_, F7, S7, G7⟩
            rw [cells3_append]
            exact hown7
          case measure => simp [intOf]; omega
        · have i3' : ¬ ((k : Int) + 1 < (m : Int)) := by omega
          go_wp2_with fail
          go_ret
          exact ⟨_, L, rfl, by have := HL.out; omega, by have := HL.out; omega, HS'.out, by rw [HL.out]; exact hown, hSr, hG⟩
theorem cells3_set : ∀ (L : List (Int × Int × Int)) (k : Nat) (p : Int × Int × Int) (x : Int), L[k]? = some p → (cells3 L).set (k * 3 + 1) (.int .i64 x) = cells3 (L.set k (p.1, x, p.2.2)) ∧ (cells3 L).set (k * 3 + 2) (.int .i64 x) = cells3 (L.set k (p.1, p.2.1, x))
  | [], k, p, x, h => by simp at h
  | q :: r, 0, p, x, h => by
    simp at h
    subst h
    exact ⟨rfl, rfl⟩
  | q :: r, k + 1, p, x, h => by
    obtain ⟨h1, h2⟩ := cells3_set r k p x (by simpa using h)
    constructor
    · rw [show (k + 1) * 3 + 1 = k * 3 + 1 + 1 + 1 + 1 by omega, cells3, List.set_cons_succ, List.set_cons_succ, List.set_cons_succ, h1]; rfl
    · rw [show (k + 1) * 3 + 2 = k * 3 + 2 + 1 + 1 + 1 by omega, cells3, List.set_cons_succ, List.set_cons_succ, List.set_cons_succ, h2]; rfl
/-- the front of an owned row -/
theorem ownFront {w : World} {base n size g cap k : Nat} {e : TypeId} {xs : List Value} (h : w.ownsRow base e size (.slice (some ⟨g, 0, none⟩) n cap) n xs) (hk : k ≤ n) : w.ownsRow base e size (.slice (some ⟨g, 0, none⟩) k cap) k (xs.take (k * size)) := by
  have hlen := h.1
  rcases ownRow h with ⟨h1, _⟩ | ⟨g', cap', cur, hv, hb, hF, hnc, hcm, hsz, htk⟩
  · cases h1
  · injection hv with hA _ hc
    injection hA with hA
    injection hA with hg _ _
    subst hg hc
    have hle : k * size ≤ n * size := Nat.mul_le_mul_right _ hk
    refine ownMake hb hF (by omega) hcm hsz (by rw [List.length_take]; omega) (fun j hj => ?_)
    rw [← htk, List.getElem?_take, if_pos hj, List.getElem?_take, if_pos (by omega)]
    simp
theorem cells3_take : ∀ (L : List (Int × Int × Int)) (k : Nat), (cells3 L).take (k * 3) = cells3 (L.take k)
  | [], k => by simp [cells3]
  | q :: r, 0 => by simp [cells3]
  | q :: r, k + 1 => by
    rw [show (k + 1) * 3 = k * 3 + 1 + 1 + 1 by omega, cells3, List.take_succ_cons, List.take_succ_cons, List.take_succ_cons, cells3_take r k]; rfl
set_option maxRecDepth 100000 in
set_option maxHeartbeats 4000000 in
theorem l07Draw_any (b : Nat) (A : Option Addr) (n c : Nat) (l : List Int) (w : World) (hl : l.length = n) (hn : n ≤ 1048576) (h8 : U8s l) (hS : Src w b A n c l) :
    Calls Tryd.prog 43 #[.pointer (some ⟨b, 0, none⟩)] w (GivesG I64s3 0 b A n c l w) := by
  have y0 := hS.inside
  go_enter Tryd.func43, Tryd.ntmps43
  go_wp2_with fail
  refine (l07Valid_any b A n c l _ hl hn h8 hS).mono ?_
  rintro e w1 ⟨v, L, rfl, L1, L12, HL, own1, S1, G1⟩
  rcases ownRow own1 with ⟨_, hn0, _⟩ | ⟨g, cap, cur, rfl, hbg, _, hmc, hcm, _, _⟩
  · omega
  have z1 := G1.size
  go_wp2_with fail
  refine (l01Next_any _ b A n c l _ hl hn h8 S1).mono ?_
  rintro e w2 ⟨v2, rfl, lo2, hi2, S2, g2⟩
  have own2 := ownGrown own1 g2 (ownNo (fun q hq => by have := (own1.lt q hq).1; omega))
  have G2 : w.grownBy w2 (some b) := grownTrans G1 g2
  have hk2 : v2 < L.length := by omega
  obtain ⟨k, rfl⟩ := Int.eq_ofNat_of_zero_le lo2
  have hk : k < L.length := by omega
  clear g2 own1 hi2 hk2 S1
  go_wp2_with fail
  refine (l01Next_any _ b A n c l _ hl hn h8 S2).mono ?_
  rintro e w3 ⟨v3, rfl, lo3, hi3, S3, g3⟩
  have own3 := ownGrown own2 g3 (ownNo (fun q hq => by have := (own2.lt q hq).1; omega))
  have G3 : w.grownBy w3 (some b) := grownTrans G2 g3
  clear g3 own2 hi3 S2 G1 G2
  have y3 := S3.inside
  have hlt := (own3.lt g rfl).2
  have hgb : g ≠ b := by omega
  have hgb2 : b ≠ g := by omega
  obtain ⟨p, hp⟩ : ∃ p, L[k]? = some p := ⟨_, List.getElem?_eq_getElem hk⟩
  obtain ⟨d0, d1, d2⟩ := cells3_at L k p hp
  have c1 : w3.cell? ⟨g, k * 3 + 1, none⟩ = some (.int .i64 p.2.1) := (own3.cellAt (k * 3 + 1) (by omega)).trans (by rw [Nat.mul_comm k 3]; exact d1)
  have c2 : w3.cell? ⟨g, k * 3 + 2, none⟩ = some (.int .i64 p.2.2) := (own3.cellAt (k * 3 + 2) (by omega)).trans (by rw [Nat.mul_comm k 3]; exact d2)
  have f1 := own3.frozenAt (k * 3 + 1)
  have f2 := own3.frozenAt (k * 3 + 2)
  have hsp := HL p (List.mem_of_getElem? hp)
  have p1 := hsp.2.1.1
  have p2 := hsp.2.1.2
  have hgi : g < w3.heap.size := hlt
  have k0 : (0 : Int) ≤ (k : Int) := by omega
  have k1 : (k : Int) < (L.length : Int) := by omega
  have Hp := Lib.hid hp
  have HL' := Lib.hid HL
  have HP := Lib.hid (And.intro hsp.1 hsp.2.2)
  have z3 := G3.size
  have n1 := World.new_ne w3 _ c1
  clear d0 d1 d2 hp HL hsp
  obtain ⟨x1, hx1⟩ : ∃ x, p.2.1 = x := ⟨_, rfl⟩
  rw [hx1] at c1 p1 p2
  have HX := Lib.hid hx1
  clear hx1
  by_cases h0 : v3 = 0
  · have t0 : (v3 == 0) = true := beq_iff_eq.2 h0
    clear h0
    go_wp2_with (go_at_call 63; (with_reducible refine (l01Pick_any _ _ _ _ b A n c l _ hl hn h8 ?_ (Full.made _ _ _) ?_ ?_ ?_ ?_).mono ?_); (focus (repeat' (first | (with_reducible assumption) | (with_reducible refine Src.alloc ?_ _) | (with_reducible refine Src.drew ?_) | (with_reducible refine Src.drewN ?_ _) | (with_reducible refine Src.set ?_ ?_ _) | omega | (simp; done) | (simp; omega)))); (focus (first | exact nums_3 _ _ _ | exact nums_4 _ _ _ _ | exact nums_5 _ _ _ _ _ | exact nums_6 _ _ _ _ _ _ | exact nums_7 _ _ _ _ _ _ _ | exact nums_8 _ _ _ _ _ _ _ _)); (focus (first | omega | (simp; omega))); (focus omega); (focus omega); rintro e w6 ⟨v6, rfl, mem6, S6, g6⟩; have G6 : w3.grownBy w6 (some b) := grownTrans (by repeat' (first | (with_reducible exact grownRefl _ _) | (with_reducible assumption) | (with_reducible refine gAlloc ?_ _) | (with_reducible refine grownDrew ?_) | (with_reducible refine gDrewN ?_ _) | (with_reducible refine gSet ?_ ?_ _) | (left; with_reducible rfl) | (right; first | omega | (simp; done) | (simp; omega)) | (with_reducible refine gBel ?_ (by with_reducible assumption)))) g6; have z6 := G6.size; have y6 := S6.inside; have q0 := (gCell (j := k * 3 + 1) G6 hgi hgb).trans c1; have q2 := (gCell (j := k * 3 + 2) G6 hgi hgb).trans c2; have r0 := (gFroz (j := k * 3 + 1) G6 hgi hgb).trans f1; have r2 := (gFroz (j := k * 3 + 2) G6 hgi hgb).trans f2; have o6 := ownGrown own3 G6 (ownNo (fun q hq => by have := (own3.lt q hq).1; omega)); have HM := Lib.hid mem6; clear g6 mem6)
    go_ret
    have hb6 := pick4 (P := fun v => -100000 ≤ v ∧ v ≤ 100000) HM.out (by omega) (by omega) (by omega) (by omega)
    refine ⟨_, L.set k (p.1, p.2.1, v6), rfl, Nat.zero_le _, by rw [List.length_set]; omega, HL'.out.set64 HP.out.1 (by show -1000000 ≤ p.2.1 ∧ p.2.1 ≤ 1000000; rw [HX.out]; omega) hb6, ?_, S6.set (by show b < g; omega) _, gSet (grownTrans G3 G6) (.inr (by show _ ≤ g; omega)) _⟩
    rw [List.length_set, ← (cells3_set L k p v6 Hp.out).2]
    exact (o6.stored _ _).1
  · have t0 : (v3 == 0) = false := by simpa using h0
    clear h0
    by_cases h1 : v3 = 1
    · have t1 : (v3 == 1) = true := beq_iff_eq.2 h1
      have s1 : IntKind.i64.wrap x1 = x1 := IntWalk.i64_in _ (by omega)
      clear h1
      go_wp2_with fail
      go_region_with (first
        | (go_at_call 63; (with_reducible refine (l01Pick_any _ _ _ _ b A n c l _ hl hn h8 ?_ (Full.made _ _ _) ?_ ?_ ?_ ?_).mono ?_); (focus (repeat' (first | (with_reducible assumption) | (with_reducible refine Src.alloc ?_ _) | (with_reducible refine Src.drew ?_) | (with_reducible refine Src.drewN ?_ _) | (with_reducible refine Src.set ?_ ?_ _) | omega | (simp; done) | (simp; omega)))); (focus (first | exact nums_3 _ _ _ | exact nums_4 _ _ _ _ | exact nums_5 _ _ _ _ _ | exact nums_6 _ _ _ _ _ _ | exact nums_7 _ _ _ _ _ _ _ | exact nums_8 _ _ _ _ _ _ _ _)); (focus (first | omega | (simp; omega))); (focus omega); (focus omega); rintro e w6 ⟨v6, rfl, mem6, S6, g6⟩; have G6 : w3.grownBy w6 (some b) := grownTrans (by repeat' (first | (with_reducible exact grownRefl _ _) | (with_reducible assumption) | (with_reducible refine gAlloc ?_ _) | (with_reducible refine grownDrew ?_) | (with_reducible refine gDrewN ?_ _) | (with_reducible refine gSet ?_ ?_ _) | (left; with_reducible rfl) | (right; first | omega | (simp; done) | (simp; omega)) | (with_reducible refine gBel ?_ (by with_reducible assumption)))) g6; have z6 := G6.size; have y6 := S6.inside; have q0 := (gCell (j := k * 3 + 1) G6 hgi hgb).trans c1; have q2 := (gCell (j := k * 3 + 2) G6 hgi hgb).trans c2; have r0 := (gFroz (j := k * 3 + 1) G6 hgi hgb).trans f1; have r2 := (gFroz (j := k * 3 + 2) G6 hgi hgb).trans f2; have o6 := ownGrown own3 G6 (ownNo (fun q hq => by have := (own3.lt q hq).1; omega)); have hb6 := pick3 (P := fun v => -100 ≤ v ∧ v ≤ 100) mem6 (by omega) (by omega) (by omega); have hb7 := hb6.1; have hb8 := hb6.2; have s2 : IntKind.i64.wrap (x1 + v6) = x1 + v6 := IntWalk.i64_in _ (by omega); clear hb6; clear s2; have s2 : IntKind.i64.wrap (x1 + v6) = x1 + v6 := IntWalk.i64_in _ (by omega); have HM := Lib.hid mem6; clear g6 mem6)
        | (go_at_call 63; (with_reducible refine (l01Pick_any _ _ _ _ b A n c l _ hl hn h8 ?_ (fullMadeD _ _ _) ?_ ?_ ?_ ?_).mono ?_); (focus (repeat' (first | (with_reducible assumption) | (with_reducible refine Src.alloc ?_ _) | (with_reducible refine Src.drew ?_) | (with_reducible refine Src.drewN ?_ _) | (with_reducible refine Src.set ?_ ?_ _) | omega | (simp; done) | (simp; omega)))); (focus (first | exact nums_3 _ _ _ | exact nums_4 _ _ _ _ | exact nums_5 _ _ _ _ _ | exact nums_6 _ _ _ _ _ _ | exact nums_7 _ _ _ _ _ _ _ | exact nums_8 _ _ _ _ _ _ _ _)); (focus (first | omega | (simp; omega))); (focus omega); (focus omega); rintro e w6 ⟨v6, rfl, mem6, S6, g6⟩; have G6 : w3.grownBy w6 (some b) := grownTrans (by repeat' (first | (with_reducible exact grownRefl _ _) | (with_reducible assumption) | (with_reducible refine gAlloc ?_ _) | (with_reducible refine grownDrew ?_) | (with_reducible refine gDrewN ?_ _) | (with_reducible refine gSet ?_ ?_ _) | (left; with_reducible rfl) | (right; first | omega | (simp; done) | (simp; omega)) | (with_reducible refine gBel ?_ (by with_reducible assumption)))) g6; have z6 := G6.size; have y6 := S6.inside; have q0 := (gCell (j := k * 3 + 1) G6 hgi hgb).trans c1; have q2 := (gCell (j := k * 3 + 2) G6 hgi hgb).trans c2; have r0 := (gFroz (j := k * 3 + 1) G6 hgi hgb).trans f1; have r2 := (gFroz (j := k * 3 + 2) G6 hgi hgb).trans f2; have o6 := ownGrown own3 G6 (ownNo (fun q hq => by have := (own3.lt q hq).1; omega)); have hb6 := pick3 (P := fun v => -100 ≤ v ∧ v ≤ 100) mem6 (by omega) (by omega) (by omega); have hb7 := hb6.1; have hb8 := hb6.2; have s2 : IntKind.i64.wrap (x1 + v6) = x1 + v6 := IntWalk.i64_in _ (by omega); clear hb6; clear s2; have s2 : IntKind.i64.wrap (x1 + v6) = x1 + v6 := IntWalk.i64_in _ (by omega); have HM := Lib.hid mem6; clear g6 mem6))
      all_goals go_wp2_with fail
      all_goals go_ret
      all_goals (refine ⟨_, L.set k (p.1, x1 + v6, p.2.2), rfl, Nat.zero_le _, by rw [List.length_set]; omega, HL'.out.set64 HP.out.1 (by show -1000000 ≤ x1 + v6 ∧ x1 + v6 ≤ 1000000; omega) HP.out.2, ?_, S6.set (by show b < g; omega) _, gSet (grownTrans G3 G6) (.inr (by show _ ≤ g; omega)) _⟩; rw [List.length_set, ← (cells3_set L k p (x1 + v6) Hp.out).1]; exact (o6.stored _ _).1)
    · have t1 : (v3 == 1) = false := by simpa using h1
      clear h1
      by_cases h2 : v3 = 2
      · have t2 : (v3 == 2) = true := beq_iff_eq.2 h2
        clear h2
        have k3 : (k : Int) ≤ (cap : Int) := by omega
        go_wp2_with fail
        go_ret
        have hkm : k ≤ L.length := by omega
        refine ⟨_, L.take k, rfl, Nat.zero_le _, by rw [List.length_take]; omega, HL'.out.take.i64, ?_, S3, G3⟩
        rw [List.length_take, Nat.min_eq_left hkm, ← cells3_take]
        exact ownFront own3 hkm
      · have t2 : (v3 == 2) = false := by simpa using h2
        clear h2
        go_wp2_with fail
        go_ret
        exact ⟨_, L, rfl, Nat.zero_le _, L12, HL'.out.i64, own3, S3, G3⟩
end Go.Proofs.YtibcbhphkafgjaaDoor

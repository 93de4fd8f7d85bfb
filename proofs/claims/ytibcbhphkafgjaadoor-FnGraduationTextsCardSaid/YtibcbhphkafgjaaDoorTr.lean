/- ReadGraduation of both (layer 7). No condition but the variables. -/
import Derived.Test.YtibcbhphkafgjaaDoorTn
import Derived.Deep.RegionHeld3
import Derived.Deep.AppendLies
namespace Go.Proofs.YtibcbhphkafgjaaDoor
open Go.RowKit
set_option linter.unusedVariables false
set_option linter.unusedSimpArgs false

theorem infoPartR : (Tryd.prog.info? 50).map (fun i => (i.zero, i.size, i.bytes)) = some (some (.agg #[.int .i64 0, .int .i64 0, .int .i64 0]), 3, 24) := by kernel_rfl
/-- what reading gives: parts in a row of the call's own, and a code -/
def GivesR (R : List (Int × Int × Int) × Int) (w : World) (e : Ending) (w' : World) : Prop := GivesS 50 3 R.1.length (cells3 R.1) R.2 w e w'
theorem GivesR.no {R : List (Int × Int × Int) × Int} {w w' : World} (h : R = ([], 6)) (hb : Below w.heap.size w w') : GivesR R w (.returned (.tuple #[.slice none 0 0, .int .i64 6])) w' := by
  subst h
  exact ⟨_, rfl, ⟨rfl, .inl ⟨rfl, rfl⟩⟩, hb⟩
theorem GivesR.yes {R : List (Int × Int × Int) × Int} {L : List (Int × Int × Int)} {w w' : World} {v : Value} {n : Nat} (h : R = (L, 0)) (hn : L.length = n) (ho : w'.ownsRow w.heap.size 50 3 v n (cells3 L)) (hb : Below w.heap.size w w') : GivesR R w (.returned (.tuple #[v, .int .i64 0])) w' := by
  subst h hn
  exact ⟨v, rfl, ho, hb⟩
theorem partR_none {f : List UInt8 → Int × Bool} {p : List UInt8} (h : numsA f [] (splF 47 [] p) = none) : partR f p = none := by rw [partR, h]; rfl
theorem partR_len {f : List UInt8 → Int × Bool} {p : List UInt8} {M : List Int} (h : numsA f [] (splF 47 [] p) = some M) (h3 : ¬ M.length = 3) : partR f p = none := by
  rw [partR, h]
  match M, h3 with
  | [], _ => rfl
  | [_], _ => rfl
  | [_, _], _ => rfl
  | [_, _, _], h3 => exact absurd rfl h3
  | _ :: _ :: _ :: _ :: _, _ => rfl
theorem partR_yes {f : List UInt8 → Int × Bool} {p : List UInt8} {a b c : Int} (h : numsA f [] (splF 47 [] p) = some [a, b, c]) : partR f p = some (a, b, c) := by rw [partR, h]; rfl
theorem three_of {M : List Int} (h : M.length = 3) : ∃ a b c, M = [a, b, c] := by
  match M, h with
  | [a, b, c], _ => exact ⟨a, b, c, rfl⟩
theorem gradA_yes {f : List UInt8 → Int × Bool} {ws : List (List UInt8)} {k : Nat} {p : List UInt8} {L : List (Int × Int × Int)} {q : Int × Int × Int} (hp : ws[k]? = some p) (h : partR f p = some q) : gradA f L (ws.drop k) = gradA f (L ++ [q]) (ws.drop (k + 1)) := by
  obtain ⟨hk, e⟩ := List.getElem?_eq_some_iff.1 hp
  rw [List.drop_eq_getElem_cons hk, e, gradA, h]
theorem gradA_no {f : List UInt8 → Int × Bool} {ws : List (List UInt8)} {k : Nat} {p : List UInt8} {L : List (Int × Int × Int)} (hp : ws[k]? = some p) (h : partR f p = none) : gradA f L (ws.drop k) = none := by
  obtain ⟨hk, e⟩ := List.getElem?_eq_some_iff.1 hp
  rw [List.drop_eq_getElem_cons hk, e, gradA, h]
theorem rRead_none {f : List UInt8 → Int × Bool} {l : List UInt8} (h : gradA f [] (splF 32 [] l) = none) : rRead f l = ([], 6) := by rw [rRead, h]
theorem rRead_good {f : List UInt8 → Int × Bool} {l : List UInt8} {L : List (Int × Int × Int)} (h : gradA f [] (splF 32 [] l) = some L) (hg : gradB L = true) : rRead f l = (L, 0) := by
  rw [rRead, h]; simp [hg]
theorem rRead_bad {f : List UInt8 → Int × Bool} {l : List UInt8} {L : List (Int × Int × Int)} (h : gradA f [] (splF 32 [] l) = some L) (hg : ¬ gradB L = true) : rRead f l = ([], 6) := by
  rw [rRead, h]; simp [hg]
theorem gradT_ge : ∀ G : List (Int × Int × Int), 2 * G.length ≤ (gradT G).length + 1
  | [] => by simp
  | [p] => by
    show 2 ≤ (Lib.join [partT p] [32]).length + 1
    rw [Lib.join_one, partT_eq]; simp; omega
  | p :: q :: G => by
    have h2 := gradT_ge (q :: G)
    have e : gradT (p :: q :: G) = partT p ++ 32 :: gradT (q :: G) := join_two _ _ (by simp)
    have h1 : 1 ≤ (partT p).length := by rw [partT_eq]; simp; omega
    rw [e]
    simp at h2 ⊢
    omega
theorem gradA_i64 : ∀ (ws : List (List UInt8)) (out L : List (Int × Int × Int)), gradA numR out ws = some L → (∀ p ∈ out, I64p p) → ∀ p ∈ L, I64p p
  | [], out, L, h, ho => by simp [gradA] at h; subst h; exact ho
  | w :: ws, out, L, h, ho => by
    rw [gradA] at h
    split at h
    · rename_i q hq
      refine gradA_i64 ws _ L h (fun p hp => ?_)
      rcases List.mem_append.1 hp with hp | hp
      · exact ho p hp
      · rw [List.mem_singleton] at hp; subst hp; exact (text_partR hq).2
    · cases h
/-- the parts read: not too many, each an int64 -/
theorem gradA_facts {l : List UInt8} {L : List (Int × Int × Int)} (hlen : l.length ≤ 2000000) (h : gradA numR [] (splF 32 [] l) = some L) : L.length ≤ 1048576 ∧ I64s3 L := by
  refine ⟨?_, gradA_i64 _ _ _ h (fun p hp => by cases hp)⟩
  have h1 := gradT_ge L
  rw [text_read h] at h1
  omega
theorem gradA_factsS {l : List UInt8} {L : List (Int × Int × Int)} (hlen : l.length ≤ 2000000) (h : gradA sgnR [] (splF 32 [] l) = some L) : L.length ≤ 1048576 ∧ I64s3 L := gradA_facts hlen (gradA_sgn _ _ _ h)
set_option maxRecDepth 100000 in
set_option maxHeartbeats 4000000 in
theorem iReadGraduation_any (l : List UInt8) (w : World) (hlen : l.length ≤ 2000000) (hE : EnvT w) :
    Calls Tryd.prog 18 #[.string ⟨l.toArray⟩] w (GivesR (rRead numR l) w) := by
  obtain ⟨j0, hj', jz0, jz1, jz2⟩ := info_parts infoPartR
  have HPL := Lib.hid (fun p (hp : p ∈ splF 32 [] l) => splF_piece l [] p hp)
  have hnl := splF_len (c := 32) l []
  have Hno := Lib.hid (rRead_none (f := numR) (l := l))
  have Hgood := Lib.hid (fun L => rRead_good (f := numR) (l := l) (L := L))
  have Hbad := Lib.hid (fun L => rRead_bad (f := numR) (l := l) (L := L))
  have Hfac := Lib.hid (fun L => gradA_facts (l := l) (L := L) hlen)
  have C := fun (W : World) (hW : W.heap.size = w.heap.size + 1) (hE : EnvT W) => (show Calls Tryd.prog 41 #[.string ⟨l.toArray⟩, .string ⟨#[32]⟩] W fun e w' => e = .returned (.slice (some ⟨w.heap.size + 1, 0, none⟩) (splF 32 [] l).length (splF 32 [] l).length) ∧ Full w' (w.heap.size + 1) 9 ((splF 32 [] l).map strL).toArray ∧ Below W.heap.size W w' by
    have := split_any l 32 W hlen hE
    rw [hW] at this ⊢
    exact this)
  have hHE := Lib.hid hE
  clear hE
  generalize splF 32 [] l = ws at *
  obtain ⟨n, hn⟩ : ∃ n, ws.length = n := ⟨_, rfl⟩
  rw [hn] at hnl C
  have HN := Lib.hid hn
  clear hn
  go_enter Tryd.func18, Tryd.ntmps18
  have o0 := World.ownsRow_made (e := 50) (base := w.heap.size) (size := 3) w #[] 0 (Nat.le_refl _) (Nat.zero_le _) rfl
  have b0 := Below.alloc (Below.refl w.heap.size w) (Nat.le_refl _) (.cells #[] 50)
  go_wp2_with fail
  refine (C _ (by simp) (hHE.out.over b0)).mono ?_
  rintro e w1 ⟨rfl, F1, b1⟩
  have B1 : Below w.heap.size w w1 := b0.trans (b1.mono (by simp))
  have o1 := ownOver o0 b1
  clear b0 b1 o0 C
  go_wp2_with fail
  go_loopw [4, 13] (fun v i wr => ∃ (k : Nat) (L : List (Int × Int × Int)), i = .int .i64 k ∧ k ≤ n ∧ L.length = k ∧ gradA numR L (ws.drop k) = gradA numR [] ws ∧ wr.ownsRow w.heap.size 50 3 v k (cells3 L) ∧ Full wr (w.heap.size + 1) 9 (ws.map strL).toArray ∧ Below w.heap.size w wr) (fun _ i _ => n - (intOf i).toNat)
  case atStart => exact ⟨0, [], rfl, Nat.zero_le _, rfl, rfl, o1, F1, B1⟩
  case round =>
    obtain ⟨k, L, rfl, hk, hL, hI, hown, hF, hB⟩ := hrel
    have HI := Lib.hid hI
    have HL := Lib.hid hL
    have zr := hB.size
    clear hI hL
    by_cases hlt : k < n
    · obtain ⟨p, hp⟩ : ∃ p, ws[k]? = some p := ⟨_, List.getElem?_eq_getElem (by have := HN.out; omega)⟩
      have hpl : p.length ≤ 2000000 := by
        have := HPL.out p (List.mem_of_getElem? hp)
        simp at this
        omega
      have c0 := strCell hF hp
      have hneS := ownNe hown hF (by decide)
      have hgr := hF.inside
      have D := numbers_any p 47 wr hpl (hHE.out.over hB)
      obtain ⟨o, HO⟩ : ∃ o, Hid (numsA numR [] (splF 47 [] p) = o) := ⟨_, Lib.hid rfl⟩
      rw [HO.out] at D
      have i0k : (k : Int) < (n : Int) := by omega
      cases o with
      | none =>
        have HX := Lib.hid (Hno.out (HI.out.symm.trans (gradA_no (f := numR) (L := L) hp (partR_none HO.out))))
        clear hp
        go_wp2_with fail
        refine D.mono ?_
        rintro e w2 ⟨rfl, hb2⟩
        go_wp2_with fail
        go_ret2
        exact GivesR.no HX.out (hB.trans (hb2.mono zr))
      | some M =>
        by_cases h3 : M.length = 3
        · obtain ⟨a, b, c, rfl⟩ := three_of h3
          have HX := Lib.hid ((gradA_yes (f := numR) (L := L) hp (partR_yes HO.out)).symm.trans HI.out)
          clear hp h3
          go_wp2_with fail
          refine D.mono ?_
          rintro e w2 ⟨v2, rfl, o2, hb2⟩
          have o2 : w2.ownsRow wr.heap.size 2 1 v2 3 [.int .i64 a, .int .i64 b, .int .i64 c] := o2
          have B2 : Below w.heap.size w w2 := hB.trans (hb2.mono zr)
          have z2 := B2.size
          have own2 := ownOver hown hb2
          rcases ownRow o2 with ⟨_, h0, _⟩ | ⟨gn, cap, cur, rfl, hbn, hFn, hnc, hcm, hsz, htk⟩
          · cases h0
          have hcl := o2.cells (g := gn) rfl
          have q0 : w2.cell? ⟨gn, 0, none⟩ = some (.int .i64 a) := by have := hcl 0 _ rfl; rwa [Addr.add_lit] at this
          have q1 : w2.cell? ⟨gn, 1, none⟩ = some (.int .i64 b) := by have := hcl 1 _ rfl; rwa [Addr.add_lit] at this
          have q2 : w2.cell? ⟨gn, 2, none⟩ = some (.int .i64 c) := by have := hcl 2 _ rfl; rwa [Addr.add_lit] at this
          have hne := ownNe own2 hFn (by decide)
          have hgn := hFn.inside
          have F2 := hF.over hb2 hF.inside
          have nef := World.new_ne w2 _ q0
          clear hcl htk hsz o2 hown hb2 D hFn hF
          go_wp2_with fail
          go_region_held3 (fun w' => w'.cell? ⟨gn, 0, none⟩ = some (.int .i64 a) ∧ w'.cell? ⟨gn, 1, none⟩ = some (.int .i64 b) ∧ w'.cell? ⟨gn, 2, none⟩ = some (.int .i64 c))
            (first
              | go_keep
              | (go_split_ands; refine ⟨?_, ?_, ?_⟩ <;> (rw [hgrow.cell_far _ (by simp; omega) hne]; assumption)))
            ((refine step_append_lies _ (by rfl) _ _ _ (by rfl) w.heap.size 50 j0 _ 3 24 Tryd.underlying26 hj' jz0 jz1 jz2 rfl (by omega) _ _ _ (by rfl) ((own2.alloc _).drew) ⟨w2.heap.size, 0, none⟩ 1 1 [.int .i64 a, .int .i64 b, .int .i64 c] (by rfl) (by rfl) (World.news_of_block (cs := #[.int .i64 a, .int .i64 b, .int .i64 c]) (t := 50) (fr := (0, 0)) (heap_alloc_new w2 _)) (by simp [Value.oneCell']) (by omega) (by unfold maxLen; omega) (by omega) (by simp; omega) (w2.heap.size + 1) (by simp) ?_; intro gg cap7 w7 hown7 hgrow hat hlt7))
          have B7 : Below w.heap.size w w7 := ((B2.alloc z2 (.cells #[.int .i64 a, .int .i64 b, .int .i64 c] 50)).drew).grown hgrow (by simp; omega) (fun j hj => (own2.lt j hj).1)
          have F7 := Full.grow (w := (w2.alloc (.cells #[.int .i64 a, .int .i64 b, .int .i64 c] 50)).drew) (F2.block _) hgrow hneS
          clear hgrow hat
          go_wp2_with fail
          go_roundw
          case rel => exact ⟨k + 1, L ++ [(a, b, c)], by go_num, by omega, by (rw [List.length_append, HL.out]; rfl), HX.out, by (rw [cells3_append]; exact hown7), F7, B7⟩
          case measure => simp [intOf]; omega
        · have HX := Lib.hid (Hno.out (HI.out.symm.trans (gradA_no (f := numR) (L := L) hp (partR_len HO.out h3))))
          obtain ⟨m, hm⟩ : ∃ m, M.length = m := ⟨_, rfl⟩
          have t3 : ((m : Int) == 3) = false := beq_false_of_ne (by omega)
          have t4 : ((m : Int) != 3) = true := by simp [bne, t3]
          clear hp h3
          go_wp2_with fail
          refine D.mono ?_
          rintro e w2 ⟨v2, rfl, o2, hb2⟩
          obtain ⟨A2, c2, rfl⟩ := ownShape o2
          rw [hm]
          go_wp2_with fail
          go_ret2
          exact GivesR.no HX.out (hB.trans (hb2.mono zr))
    · obtain rfl : k = n := by omega
      have HX := Lib.hid (show gradA numR [] ws = some L by rw [← HI.out, List.drop_eq_nil_of_le (by have := HN.out; omega)]; rfl)
      have hfac := Hfac.out L HX.out
      obtain ⟨A2, c2, rfl⟩ := ownShape hown
      have G := iIsGraduation_any A2 k c2 L wr HL.out (by have := HL.out; have := hfac.1; omega) (Sees.ofOwn hown) hfac.2
      by_cases hg : gradB L = true
      · have HR := Lib.hid (Hgood.out L HX.out hg)
        rw [hg] at G
        clear hg hfac
        go_wp2_with fail
        refine G.mono ?_
        rintro e w2 ⟨rfl, hb2⟩
        have own2 := ownOver hown hb2
        go_wp2_with fail
        go_ret2
        exact GivesR.yes HR.out HL.out own2 (hB.trans (hb2.mono zr))
      · have HR := Lib.hid (Hbad.out L HX.out hg)
        rw [show gradB L = false by simpa using hg] at G
        clear hg hfac
        go_wp2_with fail
        refine G.mono ?_
        rintro e w2 ⟨rfl, hb2⟩
        go_wp2_with fail
        go_ret2
        exact GivesR.no HR.out (hB.trans (hb2.mono zr))
set_option maxRecDepth 100000 in
set_option maxHeartbeats 4000000 in
theorem sReadGraduation_any (l : List UInt8) (w : World) (hlen : l.length ≤ 2000000) :
    Calls Tryd.prog 17 #[.string ⟨l.toArray⟩] w (GivesR (rRead sgnR l) w) := by
  obtain ⟨j0, hj', jz0, jz1, jz2⟩ := info_parts infoPartR
  have HPL := Lib.hid (fun p (hp : p ∈ splF 32 [] l) => splF_piece l [] p hp)
  have hnl := splF_len (c := 32) l []
  have Hno := Lib.hid (rRead_none (f := sgnR) (l := l))
  have Hgood := Lib.hid (fun L => rRead_good (f := sgnR) (l := l) (L := L))
  have Hbad := Lib.hid (fun L => rRead_bad (f := sgnR) (l := l) (L := L))
  have Hfac := Lib.hid (fun L => gradA_factsS (l := l) (L := L) hlen)
  have C := fun (W : World) => (show Calls Tryd.prog 39 #[.string ⟨l.toArray⟩, .int .u8 32] W (GivesW (splF 32 [] l) W) from l01Split_any l 32 W hlen)
  generalize splF 32 [] l = ws at *
  obtain ⟨n, hn⟩ : ∃ n, ws.length = n := ⟨_, rfl⟩
  rw [hn] at hnl
  have HN := Lib.hid hn
  clear hn
  go_enter Tryd.func17, Tryd.ntmps17
  go_wp2_with fail
  refine (C _).mono ?_
  rintro e w1 ⟨vw, rfl, ow, B1⟩
  obtain ⟨Aw, cw, rfl⟩ := ownShape ow
  have hs := Sees.ofOwn ow
  rw [HN.out]
  clear ow C
  go_wp2_with fail
  go_loopw [5, 6] (fun v i wr => ∃ (k : Nat) (L : List (Int × Int × Int)), i = .int .i64 k ∧ k ≤ n ∧ L.length = k ∧ gradA sgnR L (ws.drop k) = gradA sgnR [] ws ∧ wr.ownsRow w1.heap.size 50 3 v k (cells3 L) ∧ Below w1.heap.size w1 wr) (fun _ i _ => n - (intOf i).toNat)
  case atStart => exact ⟨0, [], rfl, Nat.zero_le _, rfl, rfl, World.ownsRow_made (base := w1.heap.size) w1 #[] 0 (Nat.le_refl _) (Nat.zero_le _) rfl, (Below.refl _ _).alloc (Nat.le_refl _) _⟩
  case round =>
    obtain ⟨k, L, rfl, hk, hL, hI, hown, hB⟩ := hrel
    have HI := Lib.hid hI
    have HL := Lib.hid hL
    have zr := hB.size
    clear hI hL
    by_cases hlt : k < n
    · obtain ⟨p, hp⟩ : ∃ p, ws[k]? = some p := ⟨_, List.getElem?_eq_getElem (by have := HN.out; omega)⟩
      have hpl : p.length ≤ 2000000 := by
        have := HPL.out p (List.mem_of_getElem? hp)
        simp at this
        omega
      obtain ⟨bw, offw, hA, hbk, hcell⟩ := (hs.over hB) k (strL p) (by rw [List.getElem?_map, hp]; rfl)
      subst hA
      have c0 : wr.cell? ⟨bw, offw + k, none⟩ = some (.string ⟨p.toArray⟩) := hcell
      clear hcell
      have S := (show Calls Tryd.prog 39 #[.string ⟨p.toArray⟩, .int .u8 47] wr (GivesW (splF 47 [] p) wr) from l01Split_any p 47 wr hpl)
      have hq1 := splF_len (c := 47) p []
      have hq2 := fun x (hx : x ∈ splF 47 [] p) => splF_piece p [] x hx
      have D := fun (A : Option Addr) (cc : Nat) (W : World) hs => l01Numbers_any A (splF 47 [] p).length cc (splF 47 [] p) W rfl (by omega) hs (fun x hx => by have := hq2 x hx; simp at this; omega)
      obtain ⟨o, HO⟩ : ∃ o, Hid (numsA sgnR [] (splF 47 [] p) = o) := ⟨_, Lib.hid rfl⟩
      rw [HO.out] at D
      have i0k : (k : Int) < (n : Int) := by omega
      cases o with
      | none =>
        have HX := Lib.hid (Hno.out (HI.out.symm.trans (gradA_no (f := sgnR) (L := L) hp (partR_none HO.out))))
        clear hp
        go_wp2_with fail
        refine S.mono ?_
        rintro e wz ⟨vz, rfl, oz, hbz⟩
        obtain ⟨Az, cz, rfl⟩ := ownShape oz
        have hz := Sees.ofOwn oz
        have Bz : Below w1.heap.size w1 wz := hB.trans (hbz.mono zr)
        have hownz := ownOver hown hbz
        clear oz
        go_wp2_with fail
        refine (D _ _ _ hz).mono ?_
        rintro e w2 ⟨rfl, hb2⟩
        go_wp2_with fail
        go_ret2
        exact GivesR.no HX.out (B1.trans ((Bz.trans (hb2.mono Bz.size)).mono B1.size))
      | some M =>
        by_cases h3 : M.length = 3
        · obtain ⟨a, b, c, rfl⟩ := three_of h3
          have HX := Lib.hid ((gradA_yes (f := sgnR) (L := L) hp (partR_yes HO.out)).symm.trans HI.out)
          clear hp h3
          go_wp2_with fail
          refine S.mono ?_
          rintro e wz ⟨vz, rfl, oz, hbz⟩
          obtain ⟨Az, cz, rfl⟩ := ownShape oz
          have hz := Sees.ofOwn oz
          have Bz : Below w1.heap.size w1 wz := hB.trans (hbz.mono zr)
          have hownz := ownOver hown hbz
          clear oz
          go_wp2_with fail
          refine (D _ _ _ hz).mono ?_
          rintro e w2 ⟨v2, rfl, o2, hb2⟩
          have o2 : w2.ownsRow wz.heap.size 2 1 v2 3 [.int .i64 a, .int .i64 b, .int .i64 c] := o2
          have B2 : Below w1.heap.size w1 w2 := Bz.trans (hb2.mono Bz.size)
          have z2 := B2.size
          have own2 := ownOver hownz hb2
          rcases ownRow o2 with ⟨_, h0, _⟩ | ⟨gn, cap, cur, rfl, hbn, hFn, hnc, hcm, hsz, htk⟩
          · cases h0
          have hcl := o2.cells (g := gn) rfl
          have q0 : w2.cell? ⟨gn, 0, none⟩ = some (.int .i64 a) := by have := hcl 0 _ rfl; rwa [Addr.add_lit] at this
          have q1 : w2.cell? ⟨gn, 1, none⟩ = some (.int .i64 b) := by have := hcl 1 _ rfl; rwa [Addr.add_lit] at this
          have q2 : w2.cell? ⟨gn, 2, none⟩ = some (.int .i64 c) := by have := hcl 2 _ rfl; rwa [Addr.add_lit] at this
          have hne := ownNe own2 hFn (by decide)
          have hgn := hFn.inside
          have nef := World.new_ne w2 _ q0
          clear hcl htk hsz o2 hownz hb2 D hFn S hown
          go_wp2_with fail
          go_region_held3 (fun w' => w'.cell? ⟨gn, 0, none⟩ = some (.int .i64 a) ∧ w'.cell? ⟨gn, 1, none⟩ = some (.int .i64 b) ∧ w'.cell? ⟨gn, 2, none⟩ = some (.int .i64 c))
            (first
              | go_keep
              | (go_split_ands; refine ⟨?_, ?_, ?_⟩ <;> (rw [hgrow.cell_far _ (by simp; omega) hne]; assumption)))
            ((refine step_append_lies _ (by rfl) _ _ _ (by rfl) w1.heap.size 50 j0 _ 3 24 Tryd.underlying26 hj' jz0 jz1 jz2 rfl (by omega) _ _ _ (by rfl) ((own2.alloc _).drew) ⟨w2.heap.size, 0, none⟩ 1 1 [.int .i64 a, .int .i64 b, .int .i64 c] (by rfl) (by rfl) (World.news_of_block (cs := #[.int .i64 a, .int .i64 b, .int .i64 c]) (t := 50) (fr := (0, 0)) (heap_alloc_new w2 _)) (by simp [Value.oneCell']) (by omega) (by unfold maxLen; omega) (by omega) (by simp; omega) (w2.heap.size + 1) (by simp) ?_; intro gg cap7 w7 hown7 hgrow hat hlt7))
          have B7 : Below w1.heap.size w1 w7 := ((B2.alloc z2 (.cells #[.int .i64 a, .int .i64 b, .int .i64 c] 50)).drew).grown hgrow (by simp; omega) (fun j hj => (own2.lt j hj).1)
          clear hgrow hat
          go_wp2_with fail
          go_roundw
          case rel => exact ⟨k + 1, L ++ [(a, b, c)], by go_num, by omega, by (rw [List.length_append, HL.out]; rfl), HX.out, by (rw [cells3_append]; exact hown7), B7⟩
          case measure => simp [intOf]; omega
        · have HX := Lib.hid (Hno.out (HI.out.symm.trans (gradA_no (f := sgnR) (L := L) hp (partR_len HO.out h3))))
          obtain ⟨m, hm⟩ : ∃ m, M.length = m := ⟨_, rfl⟩
          have t3 : ((m : Int) == 3) = false := beq_false_of_ne (by omega)
          have t4 : ((m : Int) != 3) = true := by simp [bne, t3]
          clear hp h3
          go_wp2_with fail
          refine S.mono ?_
          rintro e wz ⟨vz, rfl, oz, hbz⟩
          obtain ⟨Az, cz, rfl⟩ := ownShape oz
          have hz := Sees.ofOwn oz
          have Bz : Below w1.heap.size w1 wz := hB.trans (hbz.mono zr)
          have hownz := ownOver hown hbz
          clear oz
          go_wp2_with fail
          refine (D _ _ _ hz).mono ?_
          rintro e w2 ⟨v2, rfl, o2, hb2⟩
          obtain ⟨A2, c2, rfl⟩ := ownShape o2
          rw [hm]
          go_wp2_with fail
          go_ret2
          exact GivesR.no HX.out (B1.trans ((Bz.trans (hb2.mono Bz.size)).mono B1.size))
    · obtain rfl : k = n := by omega
      have HX := Lib.hid (show gradA sgnR [] ws = some L by rw [← HI.out, List.drop_eq_nil_of_le (by have := HN.out; omega)]; rfl)
      have hfac := Hfac.out L HX.out
      obtain ⟨A2, c2, rfl⟩ := ownShape hown
      have G := sIsGraduation_any A2 k c2 L wr HL.out (by have := HL.out; have := hfac.1; omega) (Sees.ofOwn hown) hfac.2
      by_cases hg : gradB L = true
      · have HR := Lib.hid (Hgood.out L HX.out hg)
        rw [hg] at G
        clear hg hfac
        go_wp2_with fail
        refine G.mono ?_
        rintro e w2 ⟨rfl, hb2⟩
        have own2 := ownLower (ownOver hown hb2) B1.size
        go_wp2_with fail
        go_ret2
        exact GivesR.yes HR.out HL.out own2 (B1.trans ((hB.trans (hb2.mono zr)).mono B1.size))
      · have HR := Lib.hid (Hbad.out L HX.out hg)
        rw [show gradB L = false by simpa using hg] at G
        clear hg hfac
        go_wp2_with fail
        refine G.mono ?_
        rintro e w2 ⟨rfl, hb2⟩
        go_wp2_with fail
        go_ret2
        exact GivesR.no HR.out (B1.trans ((hB.trans (hb2.mono zr)).mono B1.size))
end Go.Proofs.YtibcbhphkafgjaaDoor

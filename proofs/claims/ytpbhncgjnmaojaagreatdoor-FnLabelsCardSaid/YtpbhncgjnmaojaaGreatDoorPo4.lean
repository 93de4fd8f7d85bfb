/- The order of a proof: the reference's walks (layer 9). No condition. -/
import Derived.Test.YtpbhncgjnmaojaaGreatDoorPo3
namespace Go.Proofs.YtpbhncgjnmaojaaGreatDoor
open Go.RowKit
set_option linter.unusedVariables false
set_option linter.unusedSimpArgs false

theorem wpList_append_sees {P : Program} {w : World} {ops : Array Oper} {rest : List Oper} {o : Oper} {a : Act} {Q : Exit → Act → World → Prop} (hgd : o.guard = none) (s x : Operand) (t : TypeId)
    (ho : o.op = .call { callee := .builtin .append, args := #[s, x], argTypes := #[t, t] })
    (base : Nat) (e : TypeId) (i : TypeInfo) (z : Value) (size bytes : Nat) (ht : P.underlying t = some (.slice e)) (hi : P.info? e = some i) (hz : i.zero = some z)
    (hsize : i.size = size) (hby : i.bytes = bytes) (hzs : z.cells.size = size) (hsz : 0 < size)
    (v : Value) (n : Nat) (xs : List Value) (hs : a.eval s = v) (hown : w.ownsRow base e size v n xs)
    (A : Option Addr) (B m c : Nat) (news : List Value) (hx : a.eval x = .slice A m c) (hl : news.length = m * size) (hnews : Sees w B A news) (h1 : ∀ u ∈ news, u.oneCell' = true)
    (h63 : n + m ≤ maxLen) (hbytes : (n + m) * bytes ≤ 140737488355328) (hbase : base ≤ w.heap.size)
    (h : ∀ v' w', w'.ownsRow base e size v' (n + m) (xs ++ news) → w.grownBy w' v.ownBlock → (v'.ownBlock = v.ownBlock ∨ v'.ownBlock = some w.heap.size) → wpList P ops Q rest (a.put o.dst v') w') :
    wpList P ops Q (o :: rest) a w := by
  refine wpList_plain hgd fun K hK => ?_
  obtain ⟨v', w', hr, h2, h3, h4⟩ := run_append_sees (P := P) (w := w) t o.type base e i z size bytes ht hi hz hsize hby hzs hsz v n xs hown A B m c news hl hnews h1 h63 hbytes hbase
  unfold Oper.wp execOp
  simp only [ho, resolve, invoke, builtin, Sem.run_bind, Sem.run_pure, Result.andThen_ok, List.map_toArray, List.map_cons, List.map_nil, hs, hx, hr]
  exact hK _ _ (h v' w' h2 h3 h4)
theorem natV_one (L : List Nat) : ∀ u ∈ L.map natV, u.oneCell' = true := fun u hu => by
  obtain ⟨x, _, rfl⟩ := List.mem_map.1 hu
  rfl
/-- a copy of its own -/
def GivesO (B n : Nat) (xs : List Value) (w : World) (e : Ending) (w' : World) : Prop := ∃ v, e = .returned v ∧ w'.ownsRow B 2 1 v n xs ∧ Below w.heap.size w w'
theorem GivesO.use {B n : Nat} {xs : List Value} {w : World} {e : Ending} {w' : World} (h : GivesO B n xs w e w') : ∃ v, e = .returned v ∧ w'.ownsRow B 2 1 v n xs ∧ Below w.heap.size w w' := h
set_option maxRecDepth 100000 in
set_option maxHeartbeats 2000000 in
theorem l01Own_any (A : Option Addr) (n c B : Nat) (xs : List Value) (w : World) (hB : B ≤ w.heap.size) (hl : xs.length = n) (hn : n ≤ 1048576) (hone : ∀ u ∈ xs, u.oneCell' = true) (hs : Sees w w.heap.size A xs) :
    Calls Tryz.prog 50 #[.slice A n c] w (GivesO B n xs w) := by
  obtain ⟨i0, hi', hz0, hz1, hz2⟩ := info_parts infoI64
  go_enter Tryz.func50, Tryz.ntmps50
  go_wp2_with (at_builtin; refine wpList_append_sees rfl (.tmp 3) (.tmp 4) 26 rfl B 2 i0 (.int .i64 0) 1 8 Tryz.underlying26 hi' hz0 hz1 hz2 rfl (by decide) _ 0 [] rfl (World.ownsRow_made (base := B) (e := 2) (size := 1) w #[] 0 hB (Nat.zero_le _) rfl) A w.heap.size n c xs rfl ?_ ?_ ?_ ?_ ?_ ?_ ?_; (simp; omega); exact hs.block (Nat.le_refl _) _; exact hone; (unfold maxLen; omega); omega; (simp; omega); intro v' w4 hown1 hgr1 hat1)
  rw [Nat.zero_add, List.nil_append] at hown1
  have hb := (Below.alloc (Below.refl w.heap.size w) (Nat.le_refl _) (.cells #[] 2)).grown hgr1 (by simp) (fun q hq => by have hq : some w.heap.size = some q := hq; injection hq with hq; omega)
  clear hgr1 hat1
  go_wp2_with fail
  go_ret
  exact ⟨_, rfl, hown1, hb⟩
theorem ordEnd {w : World} {base k p n : Nat} {v : Value} {L : List Nat} (hp : p ≤ L.length) (hn : L.length = n) (o : w.ownsRow base 2 1 v (p + 1 + (n - p)) ((L.take p).map natV ++ [.int .i64 (k : Int)] ++ (L.drop p).map natV)) : w.ownsRow base 2 1 v (n + 1) ((insAt L k p).map natV) := by
  rw [show p + 1 + (n - p) = n + 1 by omega] at o
  rw [insAt, List.map_append, List.map_cons]
  simpa [natV] using o
theorem ordEndF {w : World} {base k p n N : Nat} {v : Value} {L : List Nat} {ys : List Value} (hp : p = n) (hn : L.length = n) (hN : N = n + 1) (hy : ys = (L.take p).map natV ++ [.int .i64 (k : Int)] ++ []) (o : w.ownsRow base 2 1 v N ys) : w.ownsRow base 2 1 v (n + 1) ((insAt L k p).map natV) := by
  subst hN hy
  rw [insAt, List.map_append, List.map_cons, List.drop_of_length_le (by omega)]
  simpa [natV] using o
set_option maxRecDepth 100000 in
set_option maxHeartbeats 16000000 in
theorem l09Order_any (A : Option Addr) (n c : Nat) (l : List (Int × Int × Int)) (w : World) (hl : l.length = n) (hn40 : n ≤ 40) (hok : ∀ p ∈ l, okL p = true) (hs : Sees w w.heap.size A (cells3 l)) :
    Calls Tryz.prog 25 #[.slice A n c] w (GivesO w.heap.size n ((ordP (RL l) n).map natV) w) := by
  have HL := Lib.hid hl
  have HOK := Lib.hid hok
  obtain ⟨i0, hi', hz0, hz1, hz2⟩ := info_parts infoI64
  clear hl hok
  go_enter Tryz.func25, Tryz.ntmps25
  go_wp2_with fail
  go_loopw [3, 4] (fun v a wr => ∃ k : Nat, k ≤ n ∧ a = .int .i64 (k : Int) ∧ wr.ownsRow w.heap.size 2 1 v k ((ordP (RL l) k).map natV) ∧ (k = 0 → v ≠ .slice none 0 0) ∧ Below w.heap.size w wr) (fun v a _ => n - (intOf a).toNat)
  case atStart => exact ⟨0, Nat.zero_le _, rfl, World.ownsRow_made (base := w.heap.size) (e := 2) (size := 1) w #[] 0 (Nat.le_refl _) (Nat.zero_le _) rfl, (fun _ => by simp), by repeat' (first | (with_reducible exact Below.refl _ _) | (with_reducible assumption) | (with_reducible refine Below.alloc ?_ ?_ _) | (with_reducible refine Below.drew ?_) | (with_reducible refine belowDraws ?_ _) | (with_reducible refine Below.setCell ?_ ?_ _) | omega | (simp; done) | (simp; omega))⟩
  case round =>
    obtain ⟨k, hk, rfl, hown, hnil, hB⟩ := hrel
    obtain ⟨wo, rfl⟩ : ∃ W : World, W = wr := ⟨_, rfl⟩
    have zr := hB.size
    by_cases hlt : k < n
    · obtain ⟨tb, tof, rfl, htb, HTK⟩ := tickAll hs HL.out HOK.out (by omega)
      obtain ⟨t0, t1, t2⟩ := HTK.out wo hB k hlt
      obtain ⟨_, r1, r2, r3, r4, r5, r6⟩ := tk_facts HL.out HOK.out hlt
      have CO := fun W => l09Ends_any (mkA l k) (plA l k) (htA l k) W (by omega) r2 r3 r4
      rw [show endL (mkA l k) (plA l k) = LL l k from rfl, show endR (mkA l k) (plA l k) = RL l k from rfl] at CO
      have k0 : (0 : Int) ≤ (k : Int) := by omega
      have k1 : (k : Int) < (n : Int) := by omega
      have lt : tb < wo.heap.size := by omega
      have HLL0 := ordP_length (RL l) k
      have HLT := Lib.hid (fun q y (h : (ordP (RL l) k)[q]? = some y) => ordP_lt h)
      have HSR := Lib.hid (ordP_srt (RL l) k)
      obtain ⟨L, hL⟩ : ∃ L, ordP (RL l) k = L := ⟨_, rfl⟩
      have HLO := Lib.hid hL
      rw [hL] at hown HLL0 HLT HSR
      have HLL := Lib.hid HLL0
      clear HLL0 hL
      rcases ownRow hown with ⟨hv, hk0, _⟩ | ⟨g, cap, cur, rfl, hbg, hFg, hkc, hcm, _, _⟩
      · exact absurd hv (hnil hk0)
      have hgo := hFg.inside
      have hS := Sees.ofOwn hown
      clear hnil hFg hs
      go_wp2_with fail
      refine (CO _).mono ?_
      rintro e w5 ⟨rfl, hb5⟩
      have hB5 := hB.trans (hb5.mono zr)
      have z5 := hB5.size
      have y5 := hb5.size
      have hS5 := (hS.over hb5).wider hb5.size
      have KG := Lib.hid (show ∀ W : World, Below w5.heap.size w5 W → ∀ (q y : Nat), L[q]? = some y → W.cell? ⟨g, q, none⟩ = some (.int .i64 (y : Int)) from fun W hW q y h => by
        have := ownAt (ownOver hown hb5) q (natV y) (by rw [List.getElem?_map, h]; rfl)
        exact (hW.cell (p := ⟨g, q, none⟩) (show g < w5.heap.size by omega)).trans this)
      clear CO t0 t1 t2 hS hown
      go_wp2_with fail
      go_loopw [7] (fun a wr => ∃ (p : Nat) (z : Int), a = .int .i64 z ∧ z = (p : Int) ∧ p ≤ k ∧ Hid (∀ q y, p ≤ q → L[q]? = some y → RL l k < RL l y) ∧ Below w5.heap.size w5 wr) (fun a _ => (intOf a).toNat)
      case atStart => exact ⟨k, k, rfl, rfl, Nat.le_refl _, Lib.hid (fun q y hq hy => absurd (List.getElem?_eq_some_iff.1 hy).1 (by rw [HLL.out]; omega)), Below.refl _ _⟩
      case round =>
        obtain ⟨p, z, rfl, hz', hpk, HG, hBi⟩ := hrel
        obtain ⟨wi, rfl⟩ : ∃ W : World, W = wr := ⟨_, rfl⟩
        have zi := hBi.size
        by_cases hp0 : p = 0
        · subst hp0
          obtain rfl : z = 0 := by omega
          clear hz'
          have t0 : decide ((0 : Int) < 0) = false := by decide
          obtain ⟨wb, rfl⟩ : ∃ W : World, W = wi := ⟨_, rfl⟩
          have hBb := hB5.trans (hBi.mono z5)
          have hSb := (hS5.over hBi).wider hBi.size
          have c0 : (0 : Int) ≤ (cap : Int) := by omega
          have c1 : (k : Int) ≤ (cap : Int) := by omega
          clear hS5
          have HPX := Lib.hid (show ordP (RL l) (k + 1) = insAt L k (0) by rw [ordP_next, HLO.out, ← posU_eq (R := RL l) (t := k) (L := L) (p := 0) HSR.out (by rw [HLL.out]; omega) (.inl rfl) HG.out])
          by_cases hfull : 0 = k
          · have HFL := Lib.hid hfull
            clear hfull
            have OW := fun W (hW : wb.heap.size ≤ W.heap.size) hS => l01Own_any (some ⟨g, 0, none⟩) (0) cap wb.heap.size ((L.take (0)).map natV) W hW (by rw [List.length_map, List.length_take, HLL.out]; omega) (by omega) (natV_one _) hS
            have SW := Lib.hid (show ∀ W : World, Below wb.heap.size wb W → wb.heap.size ≤ W.heap.size → Sees W W.heap.size (some ⟨g, 0, none⟩) ((L.take (0)).map natV) from fun W hW hz => by rw [List.map_take]; exact ((hSb.over hW).wider hz).front _)
            have SD := Lib.hid (show ∀ W : World, Below wb.heap.size wb W → Sees W wb.heap.size (some ⟨g, 0, none⟩) ((L.drop (0)).map natV) from fun W hW => by have := (hSb.over hW).cut (0); rwa [Nat.zero_add, ← List.map_drop] at this)
            clear hSb
            go_wp2_with fail
            go_region_held3 (fun w' => True) (exact trivial) (first
              | (go_at_call 50; (with_reducible refine (OW _ ?_ ?_).mono ?_); (focus (first | omega | (simp; done) | (simp; omega))); (focus (with_reducible exact SW.out _ (by repeat' (first | exact Below.refl _ _ | assumption | refine Below.alloc ?_ (by first | omega | (simp; done) | (simp; omega)) _ | refine Below.drew ?_ | refine Below.setCell ?_ (by first | omega | (simp; done) | (simp; omega)) _)) (by first | omega | (simp; done) | (simp; omega)))); intro e w2 hgv; obtain ⟨v2, rfl, o2, hb2⟩ := hgv.use; obtain ⟨vA2, vc2, rfl⟩ := ownShape o2; have B2 : Below wb.heap.size wb w2 := Below.trans (by repeat' (first | exact Below.refl _ _ | assumption | refine Below.alloc ?_ (by first | omega | (simp; done) | (simp; omega)) _ | refine Below.drew ?_ | refine Below.setCell ?_ (by first | omega | (simp; done) | (simp; omega)) _)) (hb2.mono (by first | omega | (simp; done) | (simp; omega))); have y2 := B2.size; (try (refine (fun (F2 : Full w2 wb.heap.size 2 #[.int .i64 (k : Int)]) => ?_) ?_; rotate_left; refine Full.over ?_ hb2 ?_; (focus (repeat' (first | (with_reducible assumption) | (with_reducible refine fullNewI ?_) | (with_reducible refine Full.block ?_ _) | (with_reducible refine fullDrewI ?_) | (simp; done)))); (focus (first | omega | (simp; done) | (simp; omega))))))
              | (have _g2 := o2; refine step_append_sees (by rfl) (.tmp 49) (.tmp 51) 26 (by rfl) (wb.heap.size) 2 i0 _ 1 8 Tryz.underlying26 hi' hz0 hz1 hz2 rfl (by omega) (.slice vA2 (0) vc2) (0) ((L.take (0)).map natV) (by rfl) (by repeat' (first | (with_reducible assumption) | (with_reducible refine World.ownsRow.alloc ?_ _) | (with_reducible refine ownDrewI ?_))) _ _ 1 _ [.int .i64 (k : Int)] (by rfl) (rfl) (Full.sees (xs := [.int .i64 (k : Int)]) (by repeat' (first | (with_reducible assumption) | (with_reducible refine fullNewI ?_) | (with_reducible refine Full.block ?_ _) | (with_reducible refine fullDrewI ?_) | (simp; done)))) (by simp [Value.oneCell']) (by unfold maxLen; omega) (by omega) (by first | omega | (simp; done) | (simp; omega)) ?_; intro v3 w3 o3 hgr3 hat3; have B3 : Below wb.heap.size wb w3 := Below.grown (by repeat' (first | (with_reducible exact Below.refl _ _) | (with_reducible assumption) | (with_reducible refine Below.alloc ?_ ?_ _) | (with_reducible refine Below.drew ?_) | (with_reducible refine belowDraws ?_ _) | (with_reducible refine Below.setCell ?_ ?_ _) | omega | (simp; done) | (simp; omega))) hgr3 (by first | omega | (simp; done) | (simp; omega)) (by intro q hq; exact (o2.lt q hq).1); have y3 := B3.size; have x3 := hgr3.size)
              | (have _g3 := o3; refine step_append_sees (by rfl) (.tmp 52) (.tmp 55) 26 (by rfl) (wb.heap.size) 2 i0 _ 1 8 Tryz.underlying26 hi' hz0 hz1 hz2 rfl (by omega) v3 (0 + 1) (((L.take (0)).map natV) ++ [.int .i64 (k : Int)]) (by rfl) (by repeat' (first | (with_reducible assumption) | (with_reducible refine World.ownsRow.alloc ?_ _) | (with_reducible refine ownDrewI ?_))) _ _ _ _ [] (by rfl) (by have := HFL.out; first | (simp only [List.length_nil]; omega) | (simp only [List.length_nil]; done)) (Sees.empty (B := wb.heap.size)) (fun u hu => by cases hu) (by unfold maxLen; omega) (by omega) (by first | omega | (simp; done) | (simp; omega)) ?_; intro v4 w4 o4 hgr4 hat4; have B4 : Below wb.heap.size wb w4 := Below.grown (by repeat' (first | (with_reducible exact Below.refl _ _) | (with_reducible assumption) | (with_reducible refine Below.alloc ?_ ?_ _) | (with_reducible refine Below.drew ?_) | (with_reducible refine belowDraws ?_ _) | (with_reducible refine Below.setCell ?_ ?_ _) | omega | (simp; done) | (simp; omega))) hgr4 (by first | omega | (simp; done) | (simp; omega)) (by intro q hq; exact (o3.lt q hq).1); have y4 := B4.size))
            all_goals go_wp2_with fail
            all_goals go_roundw
            all_goals first
              | (refine ⟨k + 1, by omega, by go_num, ?_, (fun h => by omega), hBb.trans (B4.mono hBb.size)⟩; rw [HPX.out]; exact ownLower (ordEndF HFL.out HLL.out (by have := HFL.out; omega) rfl o4) (Nat.le_trans hBb.size (Nat.le_refl _)))
              | (simp [intOf]; omega)
          · have m7 : ¬ cap = 0 := by omega
            have m8 : 0 < k := by omega
            have OW := fun W (hW : wb.heap.size ≤ W.heap.size) hS => l01Own_any (some ⟨g, 0, none⟩) (0) cap wb.heap.size ((L.take (0)).map natV) W hW (by rw [List.length_map, List.length_take, HLL.out]; omega) (by omega) (natV_one _) hS
            have SW := Lib.hid (show ∀ W : World, Below wb.heap.size wb W → wb.heap.size ≤ W.heap.size → Sees W W.heap.size (some ⟨g, 0, none⟩) ((L.take (0)).map natV) from fun W hW hz => by rw [List.map_take]; exact ((hSb.over hW).wider hz).front _)
            have SD := Lib.hid (show ∀ W : World, Below wb.heap.size wb W → Sees W wb.heap.size (some ⟨g, 0, none⟩) ((L.drop (0)).map natV) from fun W hW => by have := (hSb.over hW).cut (0); rwa [Nat.zero_add, ← List.map_drop] at this)
            clear hSb
            go_wp2_with fail
            go_region_held3 (fun w' => True) (exact trivial) (first
              | (go_at_call 50; (with_reducible refine (OW _ ?_ ?_).mono ?_); (focus (first | omega | (simp; done) | (simp; omega))); (focus (with_reducible exact SW.out _ (by repeat' (first | exact Below.refl _ _ | assumption | refine Below.alloc ?_ (by first | omega | (simp; done) | (simp; omega)) _ | refine Below.drew ?_ | refine Below.setCell ?_ (by first | omega | (simp; done) | (simp; omega)) _)) (by first | omega | (simp; done) | (simp; omega)))); intro e w2 hgv; obtain ⟨v2, rfl, o2, hb2⟩ := hgv.use; obtain ⟨vA2, vc2, rfl⟩ := ownShape o2; have B2 : Below wb.heap.size wb w2 := Below.trans (by repeat' (first | exact Below.refl _ _ | assumption | refine Below.alloc ?_ (by first | omega | (simp; done) | (simp; omega)) _ | refine Below.drew ?_ | refine Below.setCell ?_ (by first | omega | (simp; done) | (simp; omega)) _)) (hb2.mono (by first | omega | (simp; done) | (simp; omega))); have y2 := B2.size; (try (refine (fun (F2 : Full w2 wb.heap.size 2 #[.int .i64 (k : Int)]) => ?_) ?_; rotate_left; refine Full.over ?_ hb2 ?_; (focus (repeat' (first | (with_reducible assumption) | (with_reducible refine fullNewI ?_) | (with_reducible refine Full.block ?_ _) | (with_reducible refine fullDrewI ?_) | (simp; done)))); (focus (first | omega | (simp; done) | (simp; omega))))))
              | (have _g2 := o2; refine step_append_sees (by rfl) (.tmp 49) (.tmp 51) 26 (by rfl) (wb.heap.size) 2 i0 _ 1 8 Tryz.underlying26 hi' hz0 hz1 hz2 rfl (by omega) (.slice vA2 (0) vc2) (0) ((L.take (0)).map natV) (by rfl) (by repeat' (first | (with_reducible assumption) | (with_reducible refine World.ownsRow.alloc ?_ _) | (with_reducible refine ownDrewI ?_))) _ _ 1 _ [.int .i64 (k : Int)] (by rfl) (rfl) (Full.sees (xs := [.int .i64 (k : Int)]) (by repeat' (first | (with_reducible assumption) | (with_reducible refine fullNewI ?_) | (with_reducible refine Full.block ?_ _) | (with_reducible refine fullDrewI ?_) | (simp; done)))) (by simp [Value.oneCell']) (by unfold maxLen; omega) (by omega) (by first | omega | (simp; done) | (simp; omega)) ?_; intro v3 w3 o3 hgr3 hat3; have B3 : Below wb.heap.size wb w3 := Below.grown (by repeat' (first | (with_reducible exact Below.refl _ _) | (with_reducible assumption) | (with_reducible refine Below.alloc ?_ ?_ _) | (with_reducible refine Below.drew ?_) | (with_reducible refine belowDraws ?_ _) | (with_reducible refine Below.setCell ?_ ?_ _) | omega | (simp; done) | (simp; omega))) hgr3 (by first | omega | (simp; done) | (simp; omega)) (by intro q hq; exact (o2.lt q hq).1); have y3 := B3.size; have x3 := hgr3.size)
              | (have _g3 := o3; refine step_append_sees (by rfl) (.tmp 52) (.tmp 55) 26 (by rfl) (wb.heap.size) 2 i0 _ 1 8 Tryz.underlying26 hi' hz0 hz1 hz2 rfl (by omega) v3 (0 + 1) (((L.take (0)).map natV) ++ [.int .i64 (k : Int)]) (by rfl) (by repeat' (first | (with_reducible assumption) | (with_reducible refine World.ownsRow.alloc ?_ _) | (with_reducible refine ownDrewI ?_))) _ _ _ _ ((L.drop (0)).map natV) (by rfl) (by rw [List.length_map, List.length_drop, HLL.out]; omega) (SD.out w3 B3) (natV_one _) (by unfold maxLen; omega) (by omega) (by first | omega | (simp; done) | (simp; omega)) ?_; intro v4 w4 o4 hgr4 hat4; have B4 : Below wb.heap.size wb w4 := Below.grown (by repeat' (first | (with_reducible exact Below.refl _ _) | (with_reducible assumption) | (with_reducible refine Below.alloc ?_ ?_ _) | (with_reducible refine Below.drew ?_) | (with_reducible refine belowDraws ?_ _) | (with_reducible refine Below.setCell ?_ ?_ _) | omega | (simp; done) | (simp; omega))) hgr4 (by first | omega | (simp; done) | (simp; omega)) (by intro q hq; exact (o3.lt q hq).1); have y4 := B4.size))
            all_goals go_wp2_with fail
            all_goals go_roundw
            all_goals first
              | (refine ⟨k + 1, by omega, by go_num, ?_, (fun h => by omega), hBb.trans (B4.mono hBb.size)⟩; rw [HPX.out]; exact ownLower (ordEnd (by rw [HLL.out]; omega) HLL.out o4) (Nat.le_trans hBb.size (Nat.le_refl _)))
              | (simp [intOf]; omega)
        · obtain ⟨p, rfl⟩ : ∃ j, p = j + 1 := ⟨p - 1, by omega⟩
          obtain rfl : z = (p : Int) + 1 := by omega
          clear hz'
          obtain ⟨y, hy⟩ : ∃ y, L[p]? = some y := ⟨_, List.getElem?_eq_getElem (show p < L.length by rw [HLL.out]; omega)⟩
          have hyn : y < n := by have := HLT.out p y hy; omega
          have HY := Lib.hid hy
          have e0 := KG.out wi hBi p y hy
          obtain ⟨u0, u1, u2⟩ := HTK.out wi (hB5.trans (hBi.mono z5)) y hyn
          obtain ⟨_, s1, s2, s3, s4, s5, s6⟩ := tk_facts HL.out HOK.out hyn
          have CO := fun W => l09Ends_any (mkA l y) (plA l y) (htA l y) W (by omega) s2 s3 s4
          rw [show endL (mkA l y) (plA l y) = LL l y from rfl, show endR (mkA l y) (plA l y) = RL l y from rfl] at CO
          have p0 : (0 : Int) ≤ (p : Int) := by omega
          have p1 : (p : Int) < (k : Int) := by omega
          have p2 : ((p : Int) + 1).toNat = p + 1 := by omega
          have p3 : (p : Int) + 1 - 1 = (p : Int) := by omega
          have p4 : IntKind.i64.wrap ((p : Int) + 1 - 1) = (p : Int) := (IntWalk.i64_in _ (by omega)).trans p3
          have p5 : IntKind.i64.wrap (p : Int) = (p : Int) := IntWalk.i64_in _ (by omega)
          have t0 : decide ((0 : Int) < (p : Int) + 1) = true := decide_eq_true (by omega)
          have y0 : (0 : Int) ≤ (y : Int) := by omega
          have y1 : (y : Int) < (n : Int) := by omega
          have lti : tb < wi.heap.size := by omega
          have lgi : g < wi.heap.size := by omega
          clear hy
          by_cases hle : RL l y ≤ RL l k
          · have tl : decide (RL l y ≤ RL l k) = true := decide_eq_true hle
            have HLE := Lib.hid hle
            clear hle
            go_wp2_with fail
            refine (CO _).mono ?_
            rintro e w6 ⟨rfl, hb6⟩
            obtain ⟨wb, rfl⟩ : ∃ W : World, W = w6 := ⟨_, rfl⟩
            have hBk := hBi.trans (hb6.mono zi)
            have hBb := hB5.trans (hBk.mono z5)
            have hSb := (hS5.over hBk).wider hBk.size
            have yb := hBk.size
            have c0 : (0 : Int) ≤ (p : Int) + 1 := by omega
            have c1 : (p : Int) + 1 ≤ (cap : Int) := by omega
            have c2 : (p : Int) + 1 ≤ (k : Int) := by omega
            have c3 : (k : Int) ≤ (cap : Int) := by omega
            clear hb6 CO u0 u1 u2 e0 hS5
            have HPX := Lib.hid (show ordP (RL l) (k + 1) = insAt L k (p + 1) by rw [ordP_next, HLO.out, ← posU_eq (R := RL l) (t := k) (L := L) (p := p + 1) HSR.out (by rw [HLL.out]; omega) (.inr ⟨p, y, rfl, HY.out, HLE.out⟩) HG.out])
            by_cases hfull : p + 1 = k
            · have HFL := Lib.hid hfull
              clear hfull
              by_cases hcap : cap = p + 1
              · subst hcap
                have OW := fun W (hW : wb.heap.size ≤ W.heap.size) hS => l01Own_any (some ⟨g, 0, none⟩) (p + 1) (p + 1) wb.heap.size ((L.take (p + 1)).map natV) W hW (by rw [List.length_map, List.length_take, HLL.out]; omega) (by omega) (natV_one _) hS
                have SW := Lib.hid (show ∀ W : World, Below wb.heap.size wb W → wb.heap.size ≤ W.heap.size → Sees W W.heap.size (some ⟨g, 0, none⟩) ((L.take (p + 1)).map natV) from fun W hW hz => by rw [List.map_take]; exact ((hSb.over hW).wider hz).front _)
                have SD := Lib.hid (show ∀ W : World, Below wb.heap.size wb W → Sees W wb.heap.size (some ⟨g, p + 1, none⟩) ((L.drop (p + 1)).map natV) from fun W hW => by have := (hSb.over hW).cut (p + 1); rwa [Nat.zero_add, ← List.map_drop] at this)
                clear hSb
                go_wp2_with fail
                go_region_held3 (fun w' => True) (exact trivial) (first
                  | (go_at_call 50; (with_reducible refine (OW _ ?_ ?_).mono ?_); (focus (first | omega | (simp; done) | (simp; omega))); (focus (with_reducible exact SW.out _ (by repeat' (first | exact Below.refl _ _ | assumption | refine Below.alloc ?_ (by first | omega | (simp; done) | (simp; omega)) _ | refine Below.drew ?_ | refine Below.setCell ?_ (by first | omega | (simp; done) | (simp; omega)) _)) (by first | omega | (simp; done) | (simp; omega)))); intro e w2 hgv; obtain ⟨v2, rfl, o2, hb2⟩ := hgv.use; obtain ⟨vA2, vc2, rfl⟩ := ownShape o2; have B2 : Below wb.heap.size wb w2 := Below.trans (by repeat' (first | exact Below.refl _ _ | assumption | refine Below.alloc ?_ (by first | omega | (simp; done) | (simp; omega)) _ | refine Below.drew ?_ | refine Below.setCell ?_ (by first | omega | (simp; done) | (simp; omega)) _)) (hb2.mono (by first | omega | (simp; done) | (simp; omega))); have y2 := B2.size; (try (refine (fun (F2 : Full w2 wb.heap.size 2 #[.int .i64 (k : Int)]) => ?_) ?_; rotate_left; refine Full.over ?_ hb2 ?_; (focus (repeat' (first | (with_reducible assumption) | (with_reducible refine fullNewI ?_) | (with_reducible refine Full.block ?_ _) | (with_reducible refine fullDrewI ?_) | (simp; done)))); (focus (first | omega | (simp; done) | (simp; omega))))))
                  | (have _g2 := o2; refine step_append_sees (by rfl) (.tmp 49) (.tmp 51) 26 (by rfl) (wb.heap.size) 2 i0 _ 1 8 Tryz.underlying26 hi' hz0 hz1 hz2 rfl (by omega) (.slice vA2 (p + 1) vc2) (p + 1) ((L.take (p + 1)).map natV) (by rfl) (by repeat' (first | (with_reducible assumption) | (with_reducible refine World.ownsRow.alloc ?_ _) | (with_reducible refine ownDrewI ?_))) _ _ 1 _ [.int .i64 (k : Int)] (by rfl) (rfl) (Full.sees (xs := [.int .i64 (k : Int)]) (by repeat' (first | (with_reducible assumption) | (with_reducible refine fullNewI ?_) | (with_reducible refine Full.block ?_ _) | (with_reducible refine fullDrewI ?_) | (simp; done)))) (by simp [Value.oneCell']) (by unfold maxLen; omega) (by omega) (by first | omega | (simp; done) | (simp; omega)) ?_; intro v3 w3 o3 hgr3 hat3; have B3 : Below wb.heap.size wb w3 := Below.grown (by repeat' (first | (with_reducible exact Below.refl _ _) | (with_reducible assumption) | (with_reducible refine Below.alloc ?_ ?_ _) | (with_reducible refine Below.drew ?_) | (with_reducible refine belowDraws ?_ _) | (with_reducible refine Below.setCell ?_ ?_ _) | omega | (simp; done) | (simp; omega))) hgr3 (by first | omega | (simp; done) | (simp; omega)) (by intro q hq; exact (o2.lt q hq).1); have y3 := B3.size; have x3 := hgr3.size)
                  | (have _g3 := o3; refine step_append_sees (by rfl) (.tmp 52) (.tmp 55) 26 (by rfl) (wb.heap.size) 2 i0 _ 1 8 Tryz.underlying26 hi' hz0 hz1 hz2 rfl (by omega) v3 (p + 1 + 1) (((L.take (p + 1)).map natV) ++ [.int .i64 (k : Int)]) (by rfl) (by repeat' (first | (with_reducible assumption) | (with_reducible refine World.ownsRow.alloc ?_ _) | (with_reducible refine ownDrewI ?_))) _ _ _ _ [] (by rfl) (by have := HFL.out; first | (simp only [List.length_nil]; omega) | (simp only [List.length_nil]; done)) (Sees.empty (B := wb.heap.size)) (fun u hu => by cases hu) (by unfold maxLen; omega) (by omega) (by first | omega | (simp; done) | (simp; omega)) ?_; intro v4 w4 o4 hgr4 hat4; have B4 : Below wb.heap.size wb w4 := Below.grown (by repeat' (first | (with_reducible exact Below.refl _ _) | (with_reducible assumption) | (with_reducible refine Below.alloc ?_ ?_ _) | (with_reducible refine Below.drew ?_) | (with_reducible refine belowDraws ?_ _) | (with_reducible refine Below.setCell ?_ ?_ _) | omega | (simp; done) | (simp; omega))) hgr4 (by first | omega | (simp; done) | (simp; omega)) (by intro q hq; exact (o3.lt q hq).1); have y4 := B4.size))
                all_goals go_wp2_with fail
                all_goals go_roundw
                all_goals first
                  | (refine ⟨k + 1, by omega, by go_num, ?_, (fun h => by omega), hBb.trans (B4.mono hBb.size)⟩; rw [HPX.out]; exact ownLower (ordEndF HFL.out HLL.out (by have := HFL.out; omega) rfl o4) (Nat.le_trans hBb.size (Nat.le_refl _)))
                  | (simp [intOf]; omega)
              · have m7 : ¬ cap = p + 1 := hcap
                have OW := fun W (hW : wb.heap.size ≤ W.heap.size) hS => l01Own_any (some ⟨g, 0, none⟩) (p + 1) cap wb.heap.size ((L.take (p + 1)).map natV) W hW (by rw [List.length_map, List.length_take, HLL.out]; omega) (by omega) (natV_one _) hS
                have SW := Lib.hid (show ∀ W : World, Below wb.heap.size wb W → wb.heap.size ≤ W.heap.size → Sees W W.heap.size (some ⟨g, 0, none⟩) ((L.take (p + 1)).map natV) from fun W hW hz => by rw [List.map_take]; exact ((hSb.over hW).wider hz).front _)
                have SD := Lib.hid (show ∀ W : World, Below wb.heap.size wb W → Sees W wb.heap.size (some ⟨g, p + 1, none⟩) ((L.drop (p + 1)).map natV) from fun W hW => by have := (hSb.over hW).cut (p + 1); rwa [Nat.zero_add, ← List.map_drop] at this)
                clear hSb
                go_wp2_with fail
                go_region_held3 (fun w' => True) (exact trivial) (first
                  | (go_at_call 50; (with_reducible refine (OW _ ?_ ?_).mono ?_); (focus (first | omega | (simp; done) | (simp; omega))); (focus (with_reducible exact SW.out _ (by repeat' (first | exact Below.refl _ _ | assumption | refine Below.alloc ?_ (by first | omega | (simp; done) | (simp; omega)) _ | refine Below.drew ?_ | refine Below.setCell ?_ (by first | omega | (simp; done) | (simp; omega)) _)) (by first | omega | (simp; done) | (simp; omega)))); intro e w2 hgv; obtain ⟨v2, rfl, o2, hb2⟩ := hgv.use; obtain ⟨vA2, vc2, rfl⟩ := ownShape o2; have B2 : Below wb.heap.size wb w2 := Below.trans (by repeat' (first | exact Below.refl _ _ | assumption | refine Below.alloc ?_ (by first | omega | (simp; done) | (simp; omega)) _ | refine Below.drew ?_ | refine Below.setCell ?_ (by first | omega | (simp; done) | (simp; omega)) _)) (hb2.mono (by first | omega | (simp; done) | (simp; omega))); have y2 := B2.size; (try (refine (fun (F2 : Full w2 wb.heap.size 2 #[.int .i64 (k : Int)]) => ?_) ?_; rotate_left; refine Full.over ?_ hb2 ?_; (focus (repeat' (first | (with_reducible assumption) | (with_reducible refine fullNewI ?_) | (with_reducible refine Full.block ?_ _) | (with_reducible refine fullDrewI ?_) | (simp; done)))); (focus (first | omega | (simp; done) | (simp; omega))))))
                  | (have _g2 := o2; refine step_append_sees (by rfl) (.tmp 49) (.tmp 51) 26 (by rfl) (wb.heap.size) 2 i0 _ 1 8 Tryz.underlying26 hi' hz0 hz1 hz2 rfl (by omega) (.slice vA2 (p + 1) vc2) (p + 1) ((L.take (p + 1)).map natV) (by rfl) (by repeat' (first | (with_reducible assumption) | (with_reducible refine World.ownsRow.alloc ?_ _) | (with_reducible refine ownDrewI ?_))) _ _ 1 _ [.int .i64 (k : Int)] (by rfl) (rfl) (Full.sees (xs := [.int .i64 (k : Int)]) (by repeat' (first | (with_reducible assumption) | (with_reducible refine fullNewI ?_) | (with_reducible refine Full.block ?_ _) | (with_reducible refine fullDrewI ?_) | (simp; done)))) (by simp [Value.oneCell']) (by unfold maxLen; omega) (by omega) (by first | omega | (simp; done) | (simp; omega)) ?_; intro v3 w3 o3 hgr3 hat3; have B3 : Below wb.heap.size wb w3 := Below.grown (by repeat' (first | (with_reducible exact Below.refl _ _) | (with_reducible assumption) | (with_reducible refine Below.alloc ?_ ?_ _) | (with_reducible refine Below.drew ?_) | (with_reducible refine belowDraws ?_ _) | (with_reducible refine Below.setCell ?_ ?_ _) | omega | (simp; done) | (simp; omega))) hgr3 (by first | omega | (simp; done) | (simp; omega)) (by intro q hq; exact (o2.lt q hq).1); have y3 := B3.size; have x3 := hgr3.size)
                  | (have _g3 := o3; refine step_append_sees (by rfl) (.tmp 52) (.tmp 55) 26 (by rfl) (wb.heap.size) 2 i0 _ 1 8 Tryz.underlying26 hi' hz0 hz1 hz2 rfl (by omega) v3 (p + 1 + 1) (((L.take (p + 1)).map natV) ++ [.int .i64 (k : Int)]) (by rfl) (by repeat' (first | (with_reducible assumption) | (with_reducible refine World.ownsRow.alloc ?_ _) | (with_reducible refine ownDrewI ?_))) _ _ _ _ [] (by rfl) (by have := HFL.out; first | (simp only [List.length_nil]; omega) | (simp only [List.length_nil]; done)) (Sees.empty (B := wb.heap.size)) (fun u hu => by cases hu) (by unfold maxLen; omega) (by omega) (by first | omega | (simp; done) | (simp; omega)) ?_; intro v4 w4 o4 hgr4 hat4; have B4 : Below wb.heap.size wb w4 := Below.grown (by repeat' (first | (with_reducible exact Below.refl _ _) | (with_reducible assumption) | (with_reducible refine Below.alloc ?_ ?_ _) | (with_reducible refine Below.drew ?_) | (with_reducible refine belowDraws ?_ _) | (with_reducible refine Below.setCell ?_ ?_ _) | omega | (simp; done) | (simp; omega))) hgr4 (by first | omega | (simp; done) | (simp; omega)) (by intro q hq; exact (o3.lt q hq).1); have y4 := B4.size))
                all_goals go_wp2_with fail
                all_goals go_roundw
                all_goals first
                  | (refine ⟨k + 1, by omega, by go_num, ?_, (fun h => by omega), hBb.trans (B4.mono hBb.size)⟩; rw [HPX.out]; exact ownLower (ordEndF HFL.out HLL.out (by have := HFL.out; omega) rfl o4) (Nat.le_trans hBb.size (Nat.le_refl _)))
                  | (simp [intOf]; omega)
            · have m7 : ¬ cap = p + 1 := by omega
              have m8 : p + 1 < k := by omega
              have OW := fun W (hW : wb.heap.size ≤ W.heap.size) hS => l01Own_any (some ⟨g, 0, none⟩) (p + 1) cap wb.heap.size ((L.take (p + 1)).map natV) W hW (by rw [List.length_map, List.length_take, HLL.out]; omega) (by omega) (natV_one _) hS
              have SW := Lib.hid (show ∀ W : World, Below wb.heap.size wb W → wb.heap.size ≤ W.heap.size → Sees W W.heap.size (some ⟨g, 0, none⟩) ((L.take (p + 1)).map natV) from fun W hW hz => by rw [List.map_take]; exact ((hSb.over hW).wider hz).front _)
              have SD := Lib.hid (show ∀ W : World, Below wb.heap.size wb W → Sees W wb.heap.size (some ⟨g, p + 1, none⟩) ((L.drop (p + 1)).map natV) from fun W hW => by have := (hSb.over hW).cut (p + 1); rwa [Nat.zero_add, ← List.map_drop] at this)
              clear hSb
              go_wp2_with fail
              go_region_held3 (fun w' => True) (exact trivial) (first
                | (go_at_call 50; (with_reducible refine (OW _ ?_ ?_).mono ?_); (focus (first | omega | (simp; done) | (simp; omega))); (focus (with_reducible exact SW.out _ (by repeat' (first | exact Below.refl _ _ | assumption | refine Below.alloc ?_ (by first | omega | (simp; done) | (simp; omega)) _ | refine Below.drew ?_ | refine Below.setCell ?_ (by first | omega | (simp; done) | (simp; omega)) _)) (by first | omega | (simp; done) | (simp; omega)))); intro e w2 hgv; obtain ⟨v2, rfl, o2, hb2⟩ := hgv.use; obtain ⟨vA2, vc2, rfl⟩ := ownShape o2; have B2 : Below wb.heap.size wb w2 := Below.trans (by repeat' (first | exact Below.refl _ _ | assumption | refine Below.alloc ?_ (by first | omega | (simp; done) | (simp; omega)) _ | refine Below.drew ?_ | refine Below.setCell ?_ (by first | omega | (simp; done) | (simp; omega)) _)) (hb2.mono (by first | omega | (simp; done) | (simp; omega))); have y2 := B2.size; (try (refine (fun (F2 : Full w2 wb.heap.size 2 #[.int .i64 (k : Int)]) => ?_) ?_; rotate_left; refine Full.over ?_ hb2 ?_; (focus (repeat' (first | (with_reducible assumption) | (with_reducible refine fullNewI ?_) | (with_reducible refine Full.block ?_ _) | (with_reducible refine fullDrewI ?_) | (simp; done)))); (focus (first | omega | (simp; done) | (simp; omega))))))
                | (have _g2 := o2; refine step_append_sees (by rfl) (.tmp 49) (.tmp 51) 26 (by rfl) (wb.heap.size) 2 i0 _ 1 8 Tryz.underlying26 hi' hz0 hz1 hz2 rfl (by omega) (.slice vA2 (p + 1) vc2) (p + 1) ((L.take (p + 1)).map natV) (by rfl) (by repeat' (first | (with_reducible assumption) | (with_reducible refine World.ownsRow.alloc ?_ _) | (with_reducible refine ownDrewI ?_))) _ _ 1 _ [.int .i64 (k : Int)] (by rfl) (rfl) (Full.sees (xs := [.int .i64 (k : Int)]) (by repeat' (first | (with_reducible assumption) | (with_reducible refine fullNewI ?_) | (with_reducible refine Full.block ?_ _) | (with_reducible refine fullDrewI ?_) | (simp; done)))) (by simp [Value.oneCell']) (by unfold maxLen; omega) (by omega) (by first | omega | (simp; done) | (simp; omega)) ?_; intro v3 w3 o3 hgr3 hat3; have B3 : Below wb.heap.size wb w3 := Below.grown (by repeat' (first | (with_reducible exact Below.refl _ _) | (with_reducible assumption) | (with_reducible refine Below.alloc ?_ ?_ _) | (with_reducible refine Below.drew ?_) | (with_reducible refine belowDraws ?_ _) | (with_reducible refine Below.setCell ?_ ?_ _) | omega | (simp; done) | (simp; omega))) hgr3 (by first | omega | (simp; done) | (simp; omega)) (by intro q hq; exact (o2.lt q hq).1); have y3 := B3.size; have x3 := hgr3.size)
                | (have _g3 := o3; refine step_append_sees (by rfl) (.tmp 52) (.tmp 55) 26 (by rfl) (wb.heap.size) 2 i0 _ 1 8 Tryz.underlying26 hi' hz0 hz1 hz2 rfl (by omega) v3 (p + 1 + 1) (((L.take (p + 1)).map natV) ++ [.int .i64 (k : Int)]) (by rfl) (by repeat' (first | (with_reducible assumption) | (with_reducible refine World.ownsRow.alloc ?_ _) | (with_reducible refine ownDrewI ?_))) _ _ _ _ ((L.drop (p + 1)).map natV) (by rfl) (by rw [List.length_map, List.length_drop, HLL.out]; omega) (SD.out w3 B3) (natV_one _) (by unfold maxLen; omega) (by omega) (by first | omega | (simp; done) | (simp; omega)) ?_; intro v4 w4 o4 hgr4 hat4; have B4 : Below wb.heap.size wb w4 := Below.grown (by repeat' (first | (with_reducible exact Below.refl _ _) | (with_reducible assumption) | (with_reducible refine Below.alloc ?_ ?_ _) | (with_reducible refine Below.drew ?_) | (with_reducible refine belowDraws ?_ _) | (with_reducible refine Below.setCell ?_ ?_ _) | omega | (simp; done) | (simp; omega))) hgr4 (by first | omega | (simp; done) | (simp; omega)) (by intro q hq; exact (o3.lt q hq).1); have y4 := B4.size))
              all_goals go_wp2_with fail
              all_goals go_roundw
              all_goals first
                | (refine ⟨k + 1, by omega, by go_num, ?_, (fun h => by omega), hBb.trans (B4.mono hBb.size)⟩; rw [HPX.out]; exact ownLower (ordEnd (by rw [HLL.out]; omega) HLL.out o4) (Nat.le_trans hBb.size (Nat.le_refl _)))
                | (simp [intOf]; omega)
          · have tl : decide (RL l y ≤ RL l k) = false := decide_eq_false hle
            have HLE := Lib.hid hle
            clear hle
            go_wp2_with fail
            refine (CO _).mono ?_
            rintro e w6 ⟨rfl, hb6⟩
            have hBk := hBi.trans (hb6.mono zi)
            clear hb6 CO u0 u1 u2 e0
            go_wp2_with fail
            go_roundw
            case rel => exact ⟨p, p, rfl, rfl, by omega, Lib.hid (fun q yy hq hyy => by
              by_cases e : q = p
              · subst e; rw [HY.out] at hyy; injection hyy with hyy; subst hyy; have := HLE.out; omega
              · exact HG.out q yy (by omega) hyy), hBk⟩
            case measure => simp [intOf]
    · have hke : ¬ (k : Int) < (n : Int) := by omega
      have hkn : k = n := by omega
      rw [hkn] at hown
      clear hs hkn hnil
      go_wp2_with fail
      go_ret
      exact ⟨_, rfl, hown, hB⟩
end Go.Proofs.YtpbhncgjnmaojaaGreatDoor

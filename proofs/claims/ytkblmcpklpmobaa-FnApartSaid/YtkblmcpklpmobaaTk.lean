/- Ticks (layer 8): the code of a list of ticks, and TicksBetween. No condition. -/
import Derived.Test.YtkblmcpklpmobaaSl
import Derived.Test.YtkblmcpklpmobaaMk2
namespace Go.Proofs.Ytkblmcpklpmobaa
open Go.RowKit
set_option linter.unusedVariables false

def isV (x : Int) : Bool := inB x (-1000000000000) 1000000000000
def placesV (l : List (Int × Int × Int)) : Bool := l.all fun t => isV t.2.1
theorem placesV_next {l : List (Int × Int × Int)} {k : Nat} {p : Int × Int × Int} (hp : l[k]? = some p) (h : inB p.2.1 (-1000000000000) 1000000000000 = true) (ht : placesV (l.take k) = true) : placesV (l.take (k + 1)) = true := by
  unfold placesV at *
  rw [List.take_add_one, hp, List.all_append, ht]
  simpa [isV] using h
theorem placesV_no {l : List (Int × Int × Int)} {k : Nat} {p : Int × Int × Int} (hp : l[k]? = some p) (h : inB p.2.1 (-1000000000000) 1000000000000 = false) : placesV l = false :=
  List.all_eq_false.2 ⟨p, List.mem_of_getElem? hp, by simp [isV, h]⟩
def ckT (l : List (Int × Int × Int)) (ys : List Int) : Int := if 150 < l.length then 3 else if (ys.all isV && placesV l) = true then 0 else 2
theorem all_at {α : Type} {l : List α} {f : α → Bool} {k : Nat} {p : α} (hp : l[k]? = some p) (h : f p = false) : l.all f = false :=
  List.all_eq_false.2 ⟨p, List.mem_of_getElem? hp, by simp [h]⟩
theorem all_next {α : Type} {l : List α} {f : α → Bool} {k : Nat} {p : α} (hp : l[k]? = some p) (h : f p = true) (ht : (l.take k).all f = true) : (l.take (k + 1)).all f = true := by
  rw [List.take_add_one, hp, List.all_append, ht]
  simp [h]
theorem take_next {α : Type} {l : List α} {k : Nat} {p : α} (hp : l[k]? = some p) : l.take (k + 1) = l.take k ++ [p] := by
  rw [List.take_add_one, hp]; rfl
set_option maxRecDepth 100000 in
set_option maxHeartbeats 1000000 in
theorem checkTicks_any (A : Option Addr) (n c : Nat) (l : List (Int × Int × Int)) (v : Value) (ys : List Int) (B : Nat) (w : World) (hl : l.length = n) (hn : n ≤ 1048576) (hs : Sees w B A (cells3 l))
    (hBw : B ≤ w.heap.size) (hown : w.ownsRow B 2 1 v ys.length (ys.map (Value.int .i64))) (hy : ys.length ≤ 4) :
    Calls Try.prog 74 #[.slice A n c, v] w fun e w' => e = .returned (.int .i64 (ckT l ys)) ∧ Below B w w' := by
  obtain ⟨A', c', rfl⟩ := ownShape hown
  by_cases hbig : 150 < n
  · have Hv := Lib.hid (show ckT l ys = 3 by rw [ckT, if_pos (by omega)])
    clear hl
    go_enter Try.func74, Try.ntmps74
    go_wp2
    go_ret
    exact ⟨endInt Hv.out.symm, Below.refl _ _⟩
  · have Hv := Lib.hid (show ckT l ys = if (ys.all isV && placesV l) = true then 0 else 2 by rw [ckT, if_neg (by omega)])
    obtain ⟨i0, hi, hz0, hz1, hz2⟩ := info_parts infoI64
    have Hi := Lib.hid hi
    have Hz0 := Lib.hid hz0
    have Hz1 := Lib.hid hz1
    have Hz2 := Lib.hid hz2
    clear hi hz0 hz1 hz2
    go_enter Try.func74, Try.ntmps74
    go_wp2
    go_loopw [1, 14] (fun u i wr => ∃ (k : Nat) (L : List Int), k ≤ n ∧ i = .int .i64 k ∧ wr.ownsRow B 2 1 u L.length (L.map (Value.int .i64)) ∧ L = ys ++ (l.take k).map (·.2.1) ∧ Below B w wr) (fun _ i _ => n - (intOf i).toNat)
    case atStart => exact ⟨0, ys, Nat.zero_le _, rfl, hown, by simp, Below.refl _ _⟩
    case round =>
      obtain ⟨k, L, hk, rfl, hown2, hL, hBr⟩ := hrel
      have HL := Lib.hid hL
      have Hl := Lib.hid hl
      have hlen : L.length ≤ 4 + k := by
        rw [hL, List.length_append, List.length_map, List.length_take]; omega
      have hz := Nat.le_trans hBw hBr.size
      clear hL hown
      by_cases hlt : k < n
      · obtain ⟨b, off, p, rfl, hb, hp, c0, c1, c2⟩ := (hs.over hBr).three (k := k) (by omega)
        have Hp := Lib.hid hp
        clear hp hs hl
        go_wp2_with (first | (at_builtin; refine wpList_append_own _ rfl _ _ 30 rfl B 2 i0 (.int .i64 0) 1 8 Try.underlying30 Hi.out Hz0.out Hz1.out Hz2.out rfl (by decide) _ _ _ rfl ((hown2.alloc _).alloc _) ⟨wr.heap.size + 1, 0, none⟩ 1 1 [.int .i64 p.2.1] rfl rfl ?_ ?_ ?_ ?_ ?_ ?_; (intro j u hj; match j, hj with | 0, hj => (simp at hj; subst hj; simp [Addr.add, go_sem])); (intro u hu; simp at hu; subst hu; rfl); (unfold maxLen; omega); omega; (simp; omega); intro v' w1 hown1 hgr1 _; have hB1 := ((hBr.alloc hz (.cells #[.int .i64 p.1, .int .i64 p.2.1, .int .i64 p.2.2] 51)).alloc (by simp; omega) (.cells #[.int .i64 p.2.1] 2)).grown hgr1 (by simp; omega) (fun k hk => (hown2.lt k hk).1)) | go_in)
        go_roundw
        case rel => exact ⟨k + 1, L ++ [p.2.1], by omega, by go_num, by simpa using hown1, by rw [HL.out, take_next Hp.out]; simp, hB1⟩
        case measure => simp [intOf]; omega
      · obtain rfl : k = n := by omega
        obtain ⟨A2, c2, rfl⟩ := ownShape hown2
        have hall := Lib.hid (show L.all isV = (ys.all isV && placesV l) by
          rw [HL.out, List.take_of_length_le (by omega), List.all_append, List.all_map]; rfl)
        clear hs hl
        go_wp2_with fail
        go_loop [26] (fun i => ∃ j : Nat, j ≤ L.length ∧ i = .int .i64 j ∧ (L.take j).all isV = true) (fun i => L.length - (intOf i).toNat)
        case atStart => exact ⟨0, Nat.zero_le _, rfl, by simp⟩
        case round =>
          obtain ⟨j, hj, rfl, hok⟩ := hrel
          have Hok := Lib.hid hok
          clear hok
          by_cases hjl : j < L.length
          · obtain ⟨b, off, x, rfl, hb, hx, d0⟩ := (Sees.ofOwn hown2).one (k := j) hjl
            have Hx := Lib.hid hx
            clear hx hown2
            by_cases hv : inB x (-1000000000000) 1000000000000 = true
            · go_wp2_with (go_at_call 101; refine (isValue_any _ _).mono ?_; rintro e w' ⟨rfl, rfl⟩)
              go_round
              case rel => exact ⟨j + 1, by omega, by go_num, all_next Hx.out hv Hok.out⟩
              case measure => simp [intOf]; omega
            · have hv' : inB x (-1000000000000) 1000000000000 = false := by simpa using hv
              go_wp2_with (go_at_call 101; refine (isValue_any _ _).mono ?_; rintro e w' ⟨rfl, rfl⟩)
              go_ret
              refine ⟨endInt ?_, hBr⟩
              rw [Hv.out, if_neg (by rw [← hall.out, all_at Hx.out hv']; simp)]
          · clear hown2
            go_wp2
            go_ret
            refine ⟨endInt ?_, hBr⟩
            have e : L.all isV = true := by have := Hok.out; rwa [List.take_of_length_le (by omega)] at this
            rw [Hv.out, if_pos (by rw [← hall.out]; exact e)]
set_option maxRecDepth 100000 in
set_option maxHeartbeats 1000000 in
theorem l08Code_any (A : Option Addr) (n c : Nat) (l : List (Int × Int × Int)) (B : Nat) (w : World) (hl : l.length = n) (hn : n ≤ 1048576) (hs : Sees w B A (cells3 l)) :
    Calls Try.prog 75 #[.slice A n c] w fun e w' => e = .returned (.int .i64 (ckT l [])) ∧ w = w' := by
  by_cases hbig : 150 < n
  · have Hv := Lib.hid (show ckT l [] = 3 by rw [ckT, if_pos (by omega)])
    clear hl
    go_enter Try.func75, Try.ntmps75
    go_wp2
    go_ret
    exact ⟨endInt Hv.out.symm, rfl⟩
  · have Hv := Lib.hid (show ckT l [] = if placesV l = true then 0 else 2 by rw [ckT, if_neg (by omega)]; simp)
    go_enter Try.func75, Try.ntmps75
    go_wp2
    go_loop [3] (fun i => ∃ k : Nat, k ≤ n ∧ i = .int .i64 k ∧ placesV (l.take k) = true) (fun i => n - (intOf i).toNat)
    case atStart => exact ⟨0, Nat.zero_le _, rfl, by simp [placesV]⟩
    case round =>
      obtain ⟨k, hk, rfl, hok⟩ := hrel
      have Hok := Lib.hid hok
      have Hl := Lib.hid hl
      clear hok
      by_cases hlt : k < n
      · obtain ⟨b, off, p, rfl, hb, hp, c0, c1, c2⟩ := hs.three (k := k) (by omega)
        have Hp := Lib.hid hp
        clear hp hs hl
        by_cases hv : inB p.2.1 (-1000000000000) 1000000000000 = true
        · go_wp2_with (go_at_call 76; refine (l01Is_any _ _).mono ?_; rintro e w' ⟨rfl, rfl⟩)
          go_round
          case rel => exact ⟨k + 1, by omega, by go_num, placesV_next Hp.out hv Hok.out⟩
          case measure => simp [intOf]; omega
        · have hv' : inB p.2.1 (-1000000000000) 1000000000000 = false := by simpa using hv
          go_wp2_with (go_at_call 76; refine (l01Is_any _ _).mono ?_; rintro e w' ⟨rfl, rfl⟩)
          go_ret
          refine ⟨endInt ?_, rfl⟩
          rw [Hv.out, if_neg (by rw [placesV_no Hp.out hv']; simp)]
      · obtain rfl : k = n := by omega
        clear hl hs
        go_wp2
        go_ret
        refine ⟨endInt ?_, rfl⟩
        have e : placesV l = true := by have := Hok.out; rwa [List.take_of_length_le (by have := Hl.out; omega)] at this
        rw [Hv.out, if_pos e]
end Go.Proofs.Ytkblmcpklpmobaa

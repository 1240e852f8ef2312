/- when.clock: three rounds over the array of the units' worths. -/
import Derived.Test.YtiffbkfgimifbaaDoorPrint0
import Derived.Test.YtiffbkfgimifbaaDoorPrint5
namespace Go.Proofs.YtiffbkfgimifbaaDoor.Print
open Go.RowKit Go.Proofs.YtiffbkfgimifbaaDoorW.PrintWords Go.Proofs.YtiffbkfgimifbaaDoorW.PrintLast Go.Proofs.YtiffbkfgimifbaaDoorW.PrintMore

def when_clock.unit (i : Int) : Int := [72, 77, 83].getD i.toNat 0
def when_clock.worth (i : Int) : Int := [3600, 60, 1].getD i.toNat 0
def when_clock.l0 : Nat → ByteArray → Int → Int → Int → Int → Option (Int × Bool)
  | 0, _, _, _, _, _ => none
  | k + 1, s, all, last, count, i => if i < 3 then ((when_piece.f k s (when_clock.unit i)).bind fun p => if p.1 < 0 then when_clock.l0 k s all last count (i + 1)
      else if 0 ≤ last ∧ last ≠ i - 1 then some (0, false) else when_clock.l0 k p.2 (wrap64 (all + wrap64 (p.1 * when_clock.worth i))) i (count + 1) (i + 1))
    else some (all, decide (0 < count) && s.toList.isEmpty)
def when_clock.f (k : Nat) (a0 : ByteArray) : Option (Int × Bool) := when_clock.l0 k a0 0 (-1) 0 0
theorem when_clock.mono_l : ∀ k s all last count i, LeO (when_clock.l0 k s all last count i) (when_clock.l0 (k + 1) s all last count i)
  | 0 => fun _ _ _ _ _ r h => by simp [when_clock.l0] at h
  | k + 1 => by
    have ih := when_clock.mono_l k
    intro s all last count i
    unfold when_clock.l0
    refine LeO.ite (LeO.bind (when_piece.mono _ _ _) fun p => LeO.ite (ih _ _ _ _ _) (LeO.ite (LeO.refl _) (ih _ _ _ _ _))) (LeO.refl _)
theorem when_clock.mono : ∀ a0 k, LeO (when_clock.f k a0) (when_clock.f (k + 1) a0) := fun a0 k => when_clock.mono_l k _ _ _ _ _

set_option maxHeartbeats 8000000 in
set_option maxRecDepth 100000 in
theorem when_clock.calls (k : Nat) (a0 : ByteArray) (r1 : Int) (r2 : Bool) (w : World) (h : when_clock.f k a0 = some (r1, r2)) :
    Calls Tryd.prog 39 #[.string a0] w fun e w' => e = .returned (.tuple #[.int .i64 r1, .bool r2]) ∧ Below w.heap.size w w' := by
  have HA := Aside0.mk h
  unfold when_clock.f at HA
  clear h
  go_enter Tryd.func39, Tryd.ntmps39
  go_wp2_with fail
  go_loopw [0, 4, 5, 6, 12] (fun s all last count i wr => ∃ (kq : Nat) (sv : ByteArray) (av lv cv iv : Int) (nd : Nat), s = .string sv ∧ all = .int .i64 av ∧ last = .int .i64 lv ∧ count = .int .i64 cv ∧ i = .int .i64 iv ∧ 0 ≤ iv ∧ iv ≤ 3 ∧ -1 ≤ lv ∧ lv ≤ 2 ∧ 0 ≤ cv ∧ cv ≤ iv ∧
      Aside0 (when_clock.l0 kq sv av lv cv iv = some (r1, r2)) ∧ wr = (w.alloc (.cells #[.int .i64 3600, .int .i64 60, .int .i64 1] 62)).drewN nd) (fun _ _ _ _ i _ => (3 - intOf i).toNat)
  case atStart => exact ⟨k, a0, 0, -1, 0, 0, 0, rfl, rfl, rfl, rfl, rfl, by omega, by omega, by omega, by omega, by omega, by omega, HA, rfl⟩
  case round =>
    clear HA
    obtain ⟨kq, sv, av, lv, cv, iv, nd, rfl, rfl, rfl, rfl, rfl, h0, h3, l1, l2, cc0, cc3, HA, rfl⟩ := hrel
    have hc : iv = 0 ∨ iv = 1 ∨ iv = 2 ∨ iv = 3 := by omega
    have hl : lv = -1 ∨ lv = 0 ∨ lv = 1 ∨ lv = 2 := by omega
    cases kq with
    | zero => exact absurd HA.out (by simp [when_clock.l0])
    | succ kq =>
    have H := HA.out
    clear HA
    simp only [when_clock.l0] at H
    rcases hc with rfl | rfl | rfl | rfl
    · rw [if_pos (by omega)] at H
      obtain ⟨⟨n, rest⟩, hp, H⟩ := Option.bind_eq_some_iff.mp H
      have HP := Aside0.mk hp
      clear hp
      simp only [show when_clock.unit 0 = 72 from rfl] at HP
      have hu : (((⟨#[72, 77, 83]⟩ : ByteArray)[0]'(by decide)).toNat : Int) = 72 := rfl
      simp only [show when_clock.worth 0 = 3600 from rfl] at H
      by_cases c : n < 0
      · rw [if_pos c] at H
        have cb : decide (n < 0) = true := decide_eq_true c
        have H' := Aside0.mk H
        clear H hl
        go_wp2_with (go_at_call 38; (with_reducible refine (when_piece.calls kq sv 72 n rest _ HP.out).mono ?_); rintro e w' ⟨rfl, ⟨nd', rfl⟩⟩)
        go_roundw
        case rel => exact ⟨kq, sv, av, lv, cv, 1, _, rfl, rfl, rfl, rfl, rfl, by omega, by omega, by omega, by omega, by omega, by omega, H', rfl⟩
        case measure => simp [intOf]
      · rw [if_neg c] at H
        have cb : decide (n < 0) = false := decide_eq_false c
        rcases hl with rfl | rfl | rfl | rfl
        · rw [if_neg (by omega)] at H
          have H' := Aside0.mk H
          clear H
          go_wp2_with (go_at_call 38; (with_reducible refine (when_piece.calls kq sv 72 n rest _ HP.out).mono ?_); rintro e w' ⟨rfl, ⟨nd', rfl⟩⟩)
          go_roundw
          case rel => exact ⟨kq, rest, _, 0, cv + 1, 1, _, rfl, rfl, rfl, rfl, rfl, by omega, by omega, by omega, by omega, by omega, by omega, H', rfl⟩
          case measure => simp [intOf]
        · rw [if_pos (by omega)] at H
          simp only [Option.some.injEq, Prod.mk.injEq] at H
          obtain ⟨rfl, rfl⟩ := H
          go_wp2_with (go_at_call 38; (with_reducible refine (when_piece.calls kq sv 72 n rest _ HP.out).mono ?_); rintro e w' ⟨rfl, ⟨nd', rfl⟩⟩)
          go_ret2
          exact ⟨rfl, by repeat (first | exact Below.refl _ _ | apply below_alloc | apply pw_below_drewN | apply below_drew1)⟩
        · rw [if_pos (by omega)] at H
          simp only [Option.some.injEq, Prod.mk.injEq] at H
          obtain ⟨rfl, rfl⟩ := H
          go_wp2_with (go_at_call 38; (with_reducible refine (when_piece.calls kq sv 72 n rest _ HP.out).mono ?_); rintro e w' ⟨rfl, ⟨nd', rfl⟩⟩)
          go_ret2
          exact ⟨rfl, by repeat (first | exact Below.refl _ _ | apply below_alloc | apply pw_below_drewN | apply below_drew1)⟩
        · rw [if_pos (by omega)] at H
          simp only [Option.some.injEq, Prod.mk.injEq] at H
          obtain ⟨rfl, rfl⟩ := H
          go_wp2_with (go_at_call 38; (with_reducible refine (when_piece.calls kq sv 72 n rest _ HP.out).mono ?_); rintro e w' ⟨rfl, ⟨nd', rfl⟩⟩)
          go_ret2
          exact ⟨rfl, by repeat (first | exact Below.refl _ _ | apply below_alloc | apply pw_below_drewN | apply below_drew1)⟩
    · rw [if_pos (by omega)] at H
      obtain ⟨⟨n, rest⟩, hp, H⟩ := Option.bind_eq_some_iff.mp H
      have HP := Aside0.mk hp
      clear hp
      simp only [show when_clock.unit 1 = 77 from rfl] at HP
      have hu : (((⟨#[72, 77, 83]⟩ : ByteArray)[1]'(by decide)).toNat : Int) = 77 := rfl
      simp only [show when_clock.worth 1 = 60 from rfl] at H
      by_cases c : n < 0
      · rw [if_pos c] at H
        have cb : decide (n < 0) = true := decide_eq_true c
        have H' := Aside0.mk H
        clear H hl
        go_wp2_with (go_at_call 38; (with_reducible refine (when_piece.calls kq sv 77 n rest _ HP.out).mono ?_); rintro e w' ⟨rfl, ⟨nd', rfl⟩⟩)
        go_roundw
        case rel => exact ⟨kq, sv, av, lv, cv, 2, _, rfl, rfl, rfl, rfl, rfl, by omega, by omega, by omega, by omega, by omega, by omega, H', rfl⟩
        case measure => simp [intOf]
      · rw [if_neg c] at H
        have cb : decide (n < 0) = false := decide_eq_false c
        rcases hl with rfl | rfl | rfl | rfl
        · rw [if_neg (by omega)] at H
          have H' := Aside0.mk H
          clear H
          go_wp2_with (go_at_call 38; (with_reducible refine (when_piece.calls kq sv 77 n rest _ HP.out).mono ?_); rintro e w' ⟨rfl, ⟨nd', rfl⟩⟩)
          go_roundw
          case rel => exact ⟨kq, rest, _, 1, cv + 1, 2, _, rfl, rfl, rfl, rfl, rfl, by omega, by omega, by omega, by omega, by omega, by omega, H', rfl⟩
          case measure => simp [intOf]
        · rw [if_neg (by omega)] at H
          have H' := Aside0.mk H
          clear H
          go_wp2_with (go_at_call 38; (with_reducible refine (when_piece.calls kq sv 77 n rest _ HP.out).mono ?_); rintro e w' ⟨rfl, ⟨nd', rfl⟩⟩)
          go_roundw
          case rel => exact ⟨kq, rest, _, 1, cv + 1, 2, _, rfl, rfl, rfl, rfl, rfl, by omega, by omega, by omega, by omega, by omega, by omega, H', rfl⟩
          case measure => simp [intOf]
        · rw [if_pos (by omega)] at H
          simp only [Option.some.injEq, Prod.mk.injEq] at H
          obtain ⟨rfl, rfl⟩ := H
          go_wp2_with (go_at_call 38; (with_reducible refine (when_piece.calls kq sv 77 n rest _ HP.out).mono ?_); rintro e w' ⟨rfl, ⟨nd', rfl⟩⟩)
          go_ret2
          exact ⟨rfl, by repeat (first | exact Below.refl _ _ | apply below_alloc | apply pw_below_drewN | apply below_drew1)⟩
        · rw [if_pos (by omega)] at H
          simp only [Option.some.injEq, Prod.mk.injEq] at H
          obtain ⟨rfl, rfl⟩ := H
          go_wp2_with (go_at_call 38; (with_reducible refine (when_piece.calls kq sv 77 n rest _ HP.out).mono ?_); rintro e w' ⟨rfl, ⟨nd', rfl⟩⟩)
          go_ret2
          exact ⟨rfl, by repeat (first | exact Below.refl _ _ | apply below_alloc | apply pw_below_drewN | apply below_drew1)⟩
    · rw [if_pos (by omega)] at H
      obtain ⟨⟨n, rest⟩, hp, H⟩ := Option.bind_eq_some_iff.mp H
      have HP := Aside0.mk hp
      clear hp
      simp only [show when_clock.unit 2 = 83 from rfl] at HP
      have hu : (((⟨#[72, 77, 83]⟩ : ByteArray)[2]'(by decide)).toNat : Int) = 83 := rfl
      simp only [show when_clock.worth 2 = 1 from rfl, Int.mul_one] at H
      by_cases c : n < 0
      · rw [if_pos c] at H
        have cb : decide (n < 0) = true := decide_eq_true c
        have H' := Aside0.mk H
        clear H hl
        go_wp2_with (go_at_call 38; (with_reducible refine (when_piece.calls kq sv 83 n rest _ HP.out).mono ?_); rintro e w' ⟨rfl, ⟨nd', rfl⟩⟩)
        go_roundw
        case rel => exact ⟨kq, sv, av, lv, cv, 3, _, rfl, rfl, rfl, rfl, rfl, by omega, by omega, by omega, by omega, by omega, by omega, H', rfl⟩
        case measure => simp [intOf]
      · rw [if_neg c] at H
        have cb : decide (n < 0) = false := decide_eq_false c
        rcases hl with rfl | rfl | rfl | rfl
        · rw [if_neg (by omega)] at H
          have H' := Aside0.mk H
          clear H
          go_wp2_with (go_at_call 38; (with_reducible refine (when_piece.calls kq sv 83 n rest _ HP.out).mono ?_); rintro e w' ⟨rfl, ⟨nd', rfl⟩⟩)
          go_roundw
          case rel => exact ⟨kq, rest, _, 2, cv + 1, 3, _, rfl, rfl, rfl, rfl, rfl, by omega, by omega, by omega, by omega, by omega, by omega, H', rfl⟩
          case measure => simp [intOf]
        · rw [if_pos (by omega)] at H
          simp only [Option.some.injEq, Prod.mk.injEq] at H
          obtain ⟨rfl, rfl⟩ := H
          go_wp2_with (go_at_call 38; (with_reducible refine (when_piece.calls kq sv 83 n rest _ HP.out).mono ?_); rintro e w' ⟨rfl, ⟨nd', rfl⟩⟩)
          go_ret2
          exact ⟨rfl, by repeat (first | exact Below.refl _ _ | apply below_alloc | apply pw_below_drewN | apply below_drew1)⟩
        · rw [if_neg (by omega)] at H
          have H' := Aside0.mk H
          clear H
          go_wp2_with (go_at_call 38; (with_reducible refine (when_piece.calls kq sv 83 n rest _ HP.out).mono ?_); rintro e w' ⟨rfl, ⟨nd', rfl⟩⟩)
          go_roundw
          case rel => exact ⟨kq, rest, _, 2, cv + 1, 3, _, rfl, rfl, rfl, rfl, rfl, by omega, by omega, by omega, by omega, by omega, by omega, H', rfl⟩
          case measure => simp [intOf]
        · rw [if_pos (by omega)] at H
          simp only [Option.some.injEq, Prod.mk.injEq] at H
          obtain ⟨rfl, rfl⟩ := H
          go_wp2_with (go_at_call 38; (with_reducible refine (when_piece.calls kq sv 83 n rest _ HP.out).mono ?_); rintro e w' ⟨rfl, ⟨nd', rfl⟩⟩)
          go_ret2
          exact ⟨rfl, by repeat (first | exact Below.refl _ _ | apply below_alloc | apply pw_below_drewN | apply below_drew1)⟩
    · rw [if_neg (by omega)] at H
      simp only [Option.some.injEq, Prod.mk.injEq] at H
      obtain ⟨rfl, rfl⟩ := H
      clear hl
      by_cases c : 0 < cv
      · have cb : decide (0 < cv) = true := decide_eq_true c
        go_wp2
        go_ret2
        exact ⟨by simp [cb], by repeat (first | exact Below.refl _ _ | apply below_alloc | apply pw_below_drewN | apply below_drew1)⟩
      · have cb : decide (0 < cv) = false := decide_eq_false c
        go_wp2
        go_ret2
        exact ⟨by simp [cb], by repeat (first | exact Below.refl _ _ | apply below_alloc | apply pw_below_drewN | apply below_drew1)⟩
end Go.Proofs.YtiffbkfgimifbaaDoor.Print

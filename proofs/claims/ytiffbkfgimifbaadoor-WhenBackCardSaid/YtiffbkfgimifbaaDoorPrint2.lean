-- Written by a program of this seat: functions of the program as Lean functions, and that its calls come to them.
import Derived.Test.YtiffbkfgimifbaaDoorPrint0
import Derived.Test.YtiffbkfgimifbaaDoorGLib
import Derived.Test.YtiffbkfgimifbaaDoorGMonth
namespace Go.Proofs.YtiffbkfgimifbaaDoor.Print
open Go.RowKit Go.Proofs.YtiffbkfgimifbaaDoorW.PrintWords Go.Proofs.YtiffbkfgimifbaaDoorW.PrintLast Go.Proofs.YtiffbkfgimifbaaDoorW.PrintMore
attribute [local go_sem] max2_int min2_int max_two min_two max_three min_three max_four min_four   -- for this text's walks alone
set_option linter.unusedVariables false
set_option linter.unusedSimpArgs false

/-! ### when_before: function 26 -/
def when_before.f (a0 : Int) : Option (Int) := some (wrap64 ((wrap64 ((wrap64 ((wrap64 ((wrap64 (365 * (wrap64 ((wrap64 (a0 - 1)) - 1969)))) + (wrap64 (Int.tdiv (wrap64 (a0 - 1)) 4)))) - (wrap64 (Int.tdiv (wrap64 (a0 - 1)) 100)))) + (wrap64 (Int.tdiv (wrap64 (a0 - 1)) 400)))) - 477))
set_option maxHeartbeats 8000000 in
set_option maxRecDepth 100000 in
theorem when_before.calls (a0 : Int) (r : Int) (w : World) (h : when_before.f a0 = some r) :
  Calls Tryd.prog 26 #[.int .i64 a0] w fun e w' => e = .returned (.int .i64 r) ∧ Drawn0 w w' := by
 have H : (some (wrap64 ((wrap64 ((wrap64 ((wrap64 ((wrap64 (365 * (wrap64 ((wrap64 (a0 - 1)) - 1969)))) + (wrap64 (Int.tdiv (wrap64 (a0 - 1)) 4)))) - (wrap64 (Int.tdiv (wrap64 (a0 - 1)) 100)))) + (wrap64 (Int.tdiv (wrap64 (a0 - 1)) 400)))) - 477))) = some r := h
 clear h
 obtain rfl := Option.some.inj H
 go_enter Tryd.func26, Tryd.ntmps26
 go_wp2
 go_ret
 exact ⟨by first | rfl | (simp; done) | (simp [*]; done), by repeat (first | exact Drawn0.refl _ | apply Drawn0.step)⟩

/-! ### when_Days: function 10 -/
mutual
def when_Days.j0 : Nat → Int → Int → Int → Bool → Option (Int × Int)
 | 0, _, _, _, _ => none
 | k + 1, x0, x1, x2, x34 => if x34 = true then (some (0, 110)) else ((when_before.f x0).bind fun t102 => (when_Days.l0 k x0 (wrap64 ((wrap64 (t102 + x2)) - 1)) x1 0))
def when_Days.l0 : Nat → Int → Int → Int → Int → Option (Int × Int)
 | 0, _, _, _, _ => none
 | k + 1, x0, x8, x40, x41 => if x41 < x40 then (if x41 > 0 then ((when_month.f x0 x41).bind fun t103 => (when_Days.l0 k x0 (wrap64 (x8 + t103)) x40 (wrap64 (x41 + 1)))) else (when_Days.l0 k x0 x8 x40 (wrap64 (x41 + 1)))) else (some (x8, 0))
end
def when_Days.f (k : Nat) (a0 : Int) (a1 : Int) (a2 : Int) : Option (Int × Int) := if a0 < 1970 then (when_Days.j0 k a0 a1 a2 true) else (if a0 > 9999 then (when_Days.j0 k a0 a1 a2 true) else (if a1 < 1 then (when_Days.j0 k a0 a1 a2 true) else (if a1 > 12 then (when_Days.j0 k a0 a1 a2 true) else (if a2 < 1 then (when_Days.j0 k a0 a1 a2 true) else ((when_month.f a0 a1).bind fun t101 => (when_Days.j0 k a0 a1 a2 (decide (a2 > t101))))))))
theorem when_Days.mono_l : ∀ k, (∀ y0 y1 y2 y3, LeO (when_Days.j0 k y0 y1 y2 y3) (when_Days.j0 (k + 1) y0 y1 y2 y3)) ∧ (∀ y0 y1 y2 y3, LeO (when_Days.l0 k y0 y1 y2 y3) (when_Days.l0 (k + 1) y0 y1 y2 y3))
 | 0 => ⟨fun _ _ _ _ r h => by simp [when_Days.j0] at h, fun _ _ _ _ r h => by simp [when_Days.l0] at h⟩
 | k + 1 => by
  obtain ⟨ih0, ih1⟩ := when_Days.mono_l k
  refine ⟨?_, ?_⟩
  ·
   intro y0 y1 y2 y3
   unfold when_Days.j0
   repeat' first
   | (with_reducible exact ih0 _ _ _ _)
   | (with_reducible exact ih1 _ _ _ _)
   | (with_reducible exact LeO.refl _)
   | (with_reducible exact LeO.none _)
   | (with_reducible refine LeO.ite ?_ ?_)
   | (with_reducible refine LeO.bind ?_ (fun _ => ?_))
   | exact ih0 _ _ _ _
   | exact ih1 _ _ _ _
   | exact LeO.none _
   | refine LeO.ite ?_ ?_
   | refine LeO.bind ?_ (fun _ => ?_)
  ·
   intro y0 y1 y2 y3
   unfold when_Days.l0
   repeat' first
   | (with_reducible exact ih0 _ _ _ _)
   | (with_reducible exact ih1 _ _ _ _)
   | (with_reducible exact LeO.refl _)
   | (with_reducible exact LeO.none _)
   | (with_reducible refine LeO.ite ?_ ?_)
   | (with_reducible refine LeO.bind ?_ (fun _ => ?_))
   | exact ih0 _ _ _ _
   | exact ih1 _ _ _ _
   | exact LeO.none _
   | refine LeO.ite ?_ ?_
   | refine LeO.bind ?_ (fun _ => ?_)
theorem when_Days.mono : ∀ a0 a1 a2 k, LeO (when_Days.f k a0 a1 a2) (when_Days.f (k + 1) a0 a1 a2) := by
 intro a0 a1 a2 k
 obtain ⟨ih0, ih1⟩ := when_Days.mono_l k
 unfold when_Days.f
 repeat' first
   | (with_reducible exact ih0 _ _ _ _)
   | (with_reducible exact ih1 _ _ _ _)
   | (with_reducible exact LeO.refl _)
   | (with_reducible exact LeO.none _)
   | (with_reducible refine LeO.ite ?_ ?_)
   | (with_reducible refine LeO.bind ?_ (fun _ => ?_))
   | exact ih0 _ _ _ _
   | exact ih1 _ _ _ _
   | exact LeO.none _
   | refine LeO.ite ?_ ?_
   | refine LeO.bind ?_ (fun _ => ?_)
set_option maxHeartbeats 8000000 in
set_option maxRecDepth 100000 in
theorem when_Days.calls (k : Nat) (a0 : Int) (a1 : Int) (a2 : Int) (r1 : Int) (r2 : Int) (w : World) (h : when_Days.f k a0 a1 a2 = some (r1, r2)) :
  Calls Tryd.prog 10 #[.int .i64 a0, .int .i64 a1, .int .i64 a2] w fun e w' => e = .returned (.tuple #[.int .i64 r1, .int .i64 r2]) ∧ Below w.heap.size w w' := by
 have HB := Aside0.mk (Below.refl w.heap.size w)
 have H : (if a0 < 1970 then (when_Days.j0 k a0 a1 a2 true) else (if a0 > 9999 then (when_Days.j0 k a0 a1 a2 true) else (if a1 < 1 then (when_Days.j0 k a0 a1 a2 true) else (if a1 > 12 then (when_Days.j0 k a0 a1 a2 true) else (if a2 < 1 then (when_Days.j0 k a0 a1 a2 true) else ((when_month.f a0 a1).bind fun t101 => (when_Days.j0 k a0 a1 a2 (decide (a2 > t101))))))))) = some (r1, r2) := h
 clear h
 have HC4 := Aside0.mk H
 clear H
 go_enter Tryd.func10, Tryd.ntmps10
 go_upto_region 1 with (fail)
 go_cut [34] (fun v34 wc => ∃ (kq : Nat) (x34_3 : Bool), v34 = .bool x34_3 ∧ Aside0 (when_Days.j0 kq a0 a1 a2 x34_3 = some (r1, r2)) ∧ Aside0 (kq ≤ k) ∧ Aside0 (Below w.heap.size w wc))
 case first =>
  have H := HC4.out
  clear HC4
  by_cases c5 : a0 < 1970
  ·
   rw [if_pos c5] at H
   have c5b0 : decide (a0 < 1970) = true := decide_eq_true c5
   clear c5
   (first | rw [c5b0] | (simp only [i64_w, i32_w]; rw [c5b0]) | skip)
   have H' := Aside0.mk H
   clear H
   go_wp2
   go_meet
   case rel => exact ⟨_, (true), (by first | rfl | (simp; done) | (simp [*]; done)), H', ⟨by first | omega | exact Nat.le_refl _⟩, ⟨by repeat (first | (with_reducible first | exact HB.out | apply below_alloc | apply pw_below_drewN | apply below_drew1) | exact HB.out)⟩⟩
  ·
   rw [if_neg c5] at H
   have c5b0 : decide (a0 < 1970) = false := decide_eq_false c5
   clear c5
   (first | rw [c5b0] | (simp only [i64_w, i32_w]; rw [c5b0]) | skip)
   by_cases c6 : a0 > 9999
   ·
    rw [if_pos c6] at H
    have c6b0 : decide (9999 < a0) = true := decide_eq_true c6
    clear c6
    have H' := Aside0.mk H
    clear H
    go_wp2
    go_meet
    case rel => exact ⟨_, (true), (by first | rfl | (simp; done) | (simp [*]; done)), H', ⟨by first | omega | exact Nat.le_refl _⟩, ⟨by repeat (first | (with_reducible first | exact HB.out | apply below_alloc | apply pw_below_drewN | apply below_drew1) | exact HB.out)⟩⟩
   ·
    rw [if_neg c6] at H
    have c6b0 : decide (9999 < a0) = false := decide_eq_false c6
    clear c6
    by_cases c7 : a1 < 1
    ·
     rw [if_pos c7] at H
     have c7b0 : decide (a1 < 1) = true := decide_eq_true c7
     clear c7
     have H' := Aside0.mk H
     clear H
     go_wp2
     go_meet
     case rel => exact ⟨_, (true), (by first | rfl | (simp; done) | (simp [*]; done)), H', ⟨by first | omega | exact Nat.le_refl _⟩, ⟨by repeat (first | (with_reducible first | exact HB.out | apply below_alloc | apply pw_below_drewN | apply below_drew1) | exact HB.out)⟩⟩
    ·
     rw [if_neg c7] at H
     have c7b0 : decide (a1 < 1) = false := decide_eq_false c7
     clear c7
     by_cases c8 : a1 > 12
     ·
      rw [if_pos c8] at H
      have c8b0 : decide (12 < a1) = true := decide_eq_true c8
      clear c8
      have H' := Aside0.mk H
      clear H
      go_wp2
      go_meet
      case rel => exact ⟨_, (true), (by first | rfl | (simp; done) | (simp [*]; done)), H', ⟨by first | omega | exact Nat.le_refl _⟩, ⟨by repeat (first | (with_reducible first | exact HB.out | apply below_alloc | apply pw_below_drewN | apply below_drew1) | exact HB.out)⟩⟩
     ·
      rw [if_neg c8] at H
      have c8b0 : decide (12 < a1) = false := decide_eq_false c8
      clear c8
      by_cases c9 : a2 < 1
      ·
       rw [if_pos c9] at H
       have c9b0 : decide (a2 < 1) = true := decide_eq_true c9
       clear c9
       have H' := Aside0.mk H
       clear H
       go_wp2
       go_meet
       case rel => exact ⟨_, (true), (by first | rfl | (simp; done) | (simp [*]; done)), H', ⟨by first | omega | exact Nat.le_refl _⟩, ⟨by repeat (first | (with_reducible first | exact HB.out | apply below_alloc | apply pw_below_drewN | apply below_drew1) | exact HB.out)⟩⟩
      ·
       rw [if_neg c9] at H
       have c9b0 : decide (a2 < 1) = false := decide_eq_false c9
       clear c9
       replace H := Option.bind_eq_some_iff.mp H
       obtain ⟨t101, A100, H⟩ := H
       replace H : (when_Days.j0 k a0 a1 a2 (decide (a2 > t101))) = some (r1, r2) := H
       have A10 := Aside0.mk A100
       clear A100
       have H' := Aside0.mk H
       clear H
       go_wp2_with (first | (go_at_call 25; (with_reducible refine (when_month.calls a0 a1 t101 _ A10.out).mono ?_); rintro e w11 ⟨rfl, hb⟩; have n0_ := Aside0.mk (below_step (by repeat (first | (with_reducible first | exact HB.out | apply below_alloc | apply pw_below_drewN | apply below_drew1) | exact HB.out)) hb); clear HB; have HB := n0_; clear n0_; (try clear hb); (try clear hb2); (try clear hk); (try clear hi)))
       go_meet
       case rel => exact ⟨_, (decide (a2 > t101)), (by first | rfl | (simp; done) | (simp [*]; done)), H', ⟨by first | omega | exact Nat.le_refl _⟩, ⟨by repeat (first | (with_reducible first | exact HB.out | apply below_alloc | apply pw_below_drewN | apply below_drew1) | exact HB.out)⟩⟩
 case rest =>
  clear HC4
  try clear c1
  try clear p2
  try clear c5
  try clear c5b0
  try clear c6
  try clear c6b0
  try clear c7
  try clear c7b0
  try clear c8
  try clear c8b0
  try clear c9
  try clear c9b0
  try clear c10
  obtain ⟨kq, x34_3, rfl, HA, HJ3, HB⟩ := hcut
  cases kq with
  | zero => exact absurd HA.out (by simp [when_Days.j0])
  | succ kj3 =>
   have H := HA.out
   clear HA
   simp only [when_Days.j0] at H
   by_cases c12 : x34_3 = true
   ·
    subst c12
    have H1 : (some (0, 110)) = some (r1, r2) := by rw [if_pos rfl] at H; exact H
    clear H
    have H := H1
    clear H1
    simp only [Option.some.injEq, Prod.mk.injEq] at H
    obtain ⟨rfl, rfl⟩ := H
    go_wp2
    go_ret2
    exact ⟨by first | rfl | (simp [errW_none, errW_some] <;> rfl) | (simp [*, errW_none, errW_some] <;> rfl), by repeat (first | (with_reducible first | exact HB.out | apply below_alloc | apply pw_below_drewN | apply below_drew1) | exact HB.out)⟩
   ·
    replace c12 := Bool.eq_false_iff.mpr c12
    subst c12
    have H1 : ((when_before.f a0).bind fun t102 => (when_Days.l0 kj3 a0 (wrap64 ((wrap64 (t102 + a2)) - 1)) a1 0)) = some (r1, r2) := by rw [if_neg (show ¬ (false = true) by decide)] at H; exact H
    clear H
    have H := H1
    clear H1
    replace H := Option.bind_eq_some_iff.mp H
    obtain ⟨t102, A130, H⟩ := H
    replace H : (when_Days.l0 kj3 a0 (wrap64 ((wrap64 (t102 + a2)) - 1)) a1 0) = some (r1, r2) := H
    have A13 := Aside0.mk A130
    clear A130
    have H' := Aside0.mk H
    clear H
    go_wp2_with (first | ((with_reducible refine gate_callee (f := 26) rfl ?_); refine goesL_ (some 36) rfl rfl Tryd.func26 (by kernel_rfl) rfl #[.int .i64 a0] rfl (by (try simp only [List.map_toArray, List.map_cons, List.map_nil]); first | done | rfl | (simp only [List.length_drop, List.length_take]; rfl)) ?_; (with_reducible refine (when_before.calls a0 t102 _ A13.out).mono ?_); rintro e w' ⟨rfl, ⟨nd, rfl⟩⟩; refine ⟨_, rfl, ?_⟩))
    go_loopg [8, 41] kj3 (fun kq v8 v41 w' => ∃ (x8_2 : Int) (x41_2 : Int), v8 = .int .i64 x8_2 ∧ v41 = .int .i64 x41_2 ∧ Aside0 (when_Days.l0 kq a0 x8_2 a1 x41_2 = some (r1, r2)) ∧ Aside0 (kq ≤ kj3) ∧ Aside0 (Below w.heap.size w w'))
    case atStart => exact ⟨(wrap64 ((wrap64 (t102 + a2)) - 1)), (0), (by first | rfl | (simp; done) | (simp [*]; done)), (by first | rfl | (simp; done) | (simp [*]; done)), H', ⟨Nat.le_refl _⟩, ⟨by repeat (first | (with_reducible first | exact HB.out | apply below_alloc | apply pw_below_drewN | apply below_drew1) | exact HB.out)⟩⟩
    case round =>
     clear H'
     try clear c1
     try clear c2
     try clear p2
     try clear c5
     try clear c5b0
     try clear c6
     try clear c6b0
     try clear p6
     try clear c7
     try clear c7b0
     try clear c8
     try clear c8b0
     try clear c9
     try clear c9b0
     try clear c10
     try clear c12
     try clear p2
     obtain ⟨x8_2, x41_2, rfl, rfl, HA, HK2, HB⟩ := hrel
     cases gk with
     | zero => exact absurd HA.out (by simp [when_Days.l0])
     | succ k2 =>
      have H := HA.out
      clear HA
      simp only [when_Days.l0] at H
      by_cases c14 : x41_2 < a1
      ·
       rw [if_pos c14] at H
       have c14b0 : decide (x41_2 < a1) = true := decide_eq_true c14
       clear c14
       by_cases c15 : x41_2 > 0
       ·
        rw [if_pos c15] at H
        have c15b0 : decide (0 < x41_2) = true := decide_eq_true c15
        clear c15
        replace H := Option.bind_eq_some_iff.mp H
        obtain ⟨t103, A160, H⟩ := H
        replace H : (when_Days.l0 k2 a0 (wrap64 (x8_2 + t103)) a1 (wrap64 (x41_2 + 1))) = some (r1, r2) := H
        have A16 := Aside0.mk A160
        clear A160
        have H' := Aside0.mk H
        clear H
        go_wp2_with (first | ((with_reducible refine gate_callee (f := 25) rfl ?_); refine goesL_ (some 49) rfl rfl Tryd.func25 (by kernel_rfl) rfl #[.int .i64 a0, .int .i64 x41_2] rfl (by (try simp only [List.map_toArray, List.map_cons, List.map_nil]); first | done | rfl | (simp only [List.length_drop, List.length_take]; rfl)) ?_; (with_reducible refine (when_month.calls a0 x41_2 t103 _ A16.out).mono ?_); rintro e w17 ⟨rfl, hb⟩; refine ⟨_, rfl, ?_⟩; have n0_ := Aside0.mk (below_step (by repeat (first | (with_reducible first | exact HB.out | apply below_alloc | apply pw_below_drewN | apply below_drew1) | exact HB.out)) hb); clear HB; have HB := n0_; clear n0_; (try clear hb); (try clear hb2); (try clear hk); (try clear hi)))
        go_roundg k2
        case measure => have := HJ3.out; have := HK2.out; omega
        case rel => exact ⟨(wrap64 (x8_2 + t103)), (wrap64 (x41_2 + 1)), (by first | rfl | (simp; done) | (simp [*]; done)), (by first | rfl | (simp; done) | (simp [*]; done)), H', ⟨by have := HJ3.out; have := HK2.out; omega⟩, ⟨by repeat (first | (with_reducible first | exact HB.out | apply below_alloc | apply pw_below_drewN | apply below_drew1) | exact HB.out)⟩⟩
       ·
        rw [if_neg c15] at H
        have c15b0 : decide (0 < x41_2) = false := decide_eq_false c15
        clear c15
        have H' := Aside0.mk H
        clear H
        go_wp2
        go_roundg k2
        case measure => have := HJ3.out; have := HK2.out; omega
        case rel => exact ⟨(x8_2), (wrap64 (x41_2 + 1)), (by first | rfl | (simp; done) | (simp [*]; done)), (by first | rfl | (simp; done) | (simp [*]; done)), H', ⟨by have := HJ3.out; have := HK2.out; omega⟩, ⟨by repeat (first | (with_reducible first | exact HB.out | apply below_alloc | apply pw_below_drewN | apply below_drew1) | exact HB.out)⟩⟩
      ·
       rw [if_neg c14] at H
       have c14b0 : decide (x41_2 < a1) = false := decide_eq_false c14
       clear c14
       simp only [Option.some.injEq, Prod.mk.injEq] at H
       obtain ⟨rfl, rfl⟩ := H
       go_wp2
       go_ret2
       exact ⟨by first | rfl | (simp [errW_none, errW_some] <;> rfl) | (simp [*, errW_none, errW_some] <;> rfl), by repeat (first | (with_reducible first | exact HB.out | apply below_alloc | apply pw_below_drewN | apply below_drew1) | exact HB.out)⟩

/-! ### when_Civil: function 12 -/
mutual
def when_Civil.j0 : Nat → Int → Bool → Option (Int × Int × Int × Int)
 | 0, _, _ => none
 | k + 1, x0, x14 => if x14 = true then (some (0, 0, 0, 110)) else (when_Civil.l0 k x0 (wrap64 (1970 + (wrap64 (Int.tdiv x0 366)))))
def when_Civil.j2 : Nat → Int → Int → Option (Int × Int × Int × Int)
 | 0, _, _ => none
 | k + 1, x0, x6 => (when_before.f x6).bind fun t105 => (when_Civil.l1 k x6 (wrap64 (x0 - t105)) 1)
def when_Civil.l1 : Nat → Int → Int → Int → Option (Int × Int × Int × Int)
 | 0, _, _, _ => none
 | k + 1, x6, x7, x8 => (when_month.f x6 x8).bind fun t106 => (if x7 ≥ t106 then ((when_month.f x6 x8).bind fun t107 => (when_Civil.l1 k x6 (wrap64 (x7 - t107)) (wrap64 (x8 + 1)))) else (some (x6, x8, wrap64 (x7 + 1), 0)))
def when_Civil.l0 : Nat → Int → Int → Option (Int × Int × Int × Int)
 | 0, _, _ => none
 | k + 1, x0, x6 => if x6 < 9999 then ((when_before.f (wrap64 (x6 + 1))).bind fun t104 => (if t104 ≤ x0 then (when_Civil.l0 k x0 (wrap64 (x6 + 1))) else (when_Civil.j2 k x0 x6))) else (when_Civil.j2 k x0 x6)
end
def when_Civil.f (k : Nat) (a0 : Int) : Option (Int × Int × Int × Int) := if a0 < 0 then (when_Civil.j0 k a0 true) else (when_Civil.j0 k a0 (decide (a0 > 2932896)))
theorem when_Civil.mono_l : ∀ k, (∀ y0 y1, LeO (when_Civil.j0 k y0 y1) (when_Civil.j0 (k + 1) y0 y1)) ∧ (∀ y0 y1, LeO (when_Civil.j2 k y0 y1) (when_Civil.j2 (k + 1) y0 y1)) ∧ (∀ y0 y1 y2, LeO (when_Civil.l1 k y0 y1 y2) (when_Civil.l1 (k + 1) y0 y1 y2)) ∧ (∀ y0 y1, LeO (when_Civil.l0 k y0 y1) (when_Civil.l0 (k + 1) y0 y1))
 | 0 => ⟨fun _ _ r h => by simp [when_Civil.j0] at h, fun _ _ r h => by simp [when_Civil.j2] at h, fun _ _ _ r h => by simp [when_Civil.l1] at h, fun _ _ r h => by simp [when_Civil.l0] at h⟩
 | k + 1 => by
  obtain ⟨ih0, ih1, ih2, ih3⟩ := when_Civil.mono_l k
  refine ⟨?_, ?_, ?_, ?_⟩
  ·
   intro y0 y1
   unfold when_Civil.j0
   repeat' first
   | (with_reducible exact ih0 _ _)
   | (with_reducible exact ih1 _ _)
   | (with_reducible exact ih2 _ _ _)
   | (with_reducible exact ih3 _ _)
   | (with_reducible exact LeO.refl _)
   | (with_reducible exact LeO.none _)
   | (with_reducible refine LeO.ite ?_ ?_)
   | (with_reducible refine LeO.bind ?_ (fun _ => ?_))
   | exact ih0 _ _
   | exact ih1 _ _
   | exact ih2 _ _ _
   | exact ih3 _ _
   | exact LeO.none _
   | refine LeO.ite ?_ ?_
   | refine LeO.bind ?_ (fun _ => ?_)
  ·
   intro y0 y1
   unfold when_Civil.j2
   repeat' first
   | (with_reducible exact ih0 _ _)
   | (with_reducible exact ih1 _ _)
   | (with_reducible exact ih2 _ _ _)
   | (with_reducible exact ih3 _ _)
   | (with_reducible exact LeO.refl _)
   | (with_reducible exact LeO.none _)
   | (with_reducible refine LeO.ite ?_ ?_)
   | (with_reducible refine LeO.bind ?_ (fun _ => ?_))
   | exact ih0 _ _
   | exact ih1 _ _
   | exact ih2 _ _ _
   | exact ih3 _ _
   | exact LeO.none _
   | refine LeO.ite ?_ ?_
   | refine LeO.bind ?_ (fun _ => ?_)
  ·
   intro y0 y1 y2
   unfold when_Civil.l1
   repeat' first
   | (with_reducible exact ih0 _ _)
   | (with_reducible exact ih1 _ _)
   | (with_reducible exact ih2 _ _ _)
   | (with_reducible exact ih3 _ _)
   | (with_reducible exact LeO.refl _)
   | (with_reducible exact LeO.none _)
   | (with_reducible refine LeO.ite ?_ ?_)
   | (with_reducible refine LeO.bind ?_ (fun _ => ?_))
   | exact ih0 _ _
   | exact ih1 _ _
   | exact ih2 _ _ _
   | exact ih3 _ _
   | exact LeO.none _
   | refine LeO.ite ?_ ?_
   | refine LeO.bind ?_ (fun _ => ?_)
  ·
   intro y0 y1
   unfold when_Civil.l0
   repeat' first
   | (with_reducible exact ih0 _ _)
   | (with_reducible exact ih1 _ _)
   | (with_reducible exact ih2 _ _ _)
   | (with_reducible exact ih3 _ _)
   | (with_reducible exact LeO.refl _)
   | (with_reducible exact LeO.none _)
   | (with_reducible refine LeO.ite ?_ ?_)
   | (with_reducible refine LeO.bind ?_ (fun _ => ?_))
   | exact ih0 _ _
   | exact ih1 _ _
   | exact ih2 _ _ _
   | exact ih3 _ _
   | exact LeO.none _
   | refine LeO.ite ?_ ?_
   | refine LeO.bind ?_ (fun _ => ?_)
theorem when_Civil.mono : ∀ a0 k, LeO (when_Civil.f k a0) (when_Civil.f (k + 1) a0) := by
 intro a0 k
 obtain ⟨ih0, ih1, ih2, ih3⟩ := when_Civil.mono_l k
 unfold when_Civil.f
 repeat' first
   | (with_reducible exact ih0 _ _)
   | (with_reducible exact ih1 _ _)
   | (with_reducible exact ih2 _ _ _)
   | (with_reducible exact ih3 _ _)
   | (with_reducible exact LeO.refl _)
   | (with_reducible exact LeO.none _)
   | (with_reducible refine LeO.ite ?_ ?_)
   | (with_reducible refine LeO.bind ?_ (fun _ => ?_))
   | exact ih0 _ _
   | exact ih1 _ _
   | exact ih2 _ _ _
   | exact ih3 _ _
   | exact LeO.none _
   | refine LeO.ite ?_ ?_
   | refine LeO.bind ?_ (fun _ => ?_)
set_option maxHeartbeats 8000000 in
set_option maxRecDepth 100000 in
theorem when_Civil.calls (k : Nat) (a0 : Int) (r1 : Int) (r2 : Int) (r3 : Int) (r4 : Int) (w : World) (h : when_Civil.f k a0 = some (r1, r2, r3, r4)) :
  Calls Tryd.prog 12 #[.int .i64 a0] w fun e w' => e = .returned (.tuple #[.int .i64 r1, .int .i64 r2, .int .i64 r3, .int .i64 r4]) ∧ Below w.heap.size w w' := by
 have HB := Aside0.mk (Below.refl w.heap.size w)
 have H : (if a0 < 0 then (when_Civil.j0 k a0 true) else (when_Civil.j0 k a0 (decide (a0 > 2932896)))) = some (r1, r2, r3, r4) := h
 clear h
 have HC2 := Aside0.mk H
 clear H
 go_enter Tryd.func12, Tryd.ntmps12
 go_upto_region 1 with (fail)
 go_cut [14] (fun v14 wc => ∃ (kq : Nat) (x14_1 : Bool), v14 = .bool x14_1 ∧ Aside0 (when_Civil.j0 kq a0 x14_1 = some (r1, r2, r3, r4)) ∧ Aside0 (kq ≤ k) ∧ Aside0 (Below w.heap.size w wc))
 case first =>
  have H := HC2.out
  clear HC2
  by_cases c3 : a0 < 0
  ·
   rw [if_pos c3] at H
   have c3b0 : decide (a0 < 0) = true := decide_eq_true c3
   clear c3
   (first | rw [c3b0] | (simp only [i64_w, i32_w]; rw [c3b0]) | skip)
   have H' := Aside0.mk H
   clear H
   go_wp2
   go_meet
   case rel => exact ⟨_, (true), (by first | rfl | (simp; done) | (simp [*]; done)), H', ⟨by first | omega | exact Nat.le_refl _⟩, ⟨by repeat (first | (with_reducible first | exact HB.out | apply below_alloc | apply pw_below_drewN | apply below_drew1) | exact HB.out)⟩⟩
  ·
   rw [if_neg c3] at H
   have c3b0 : decide (a0 < 0) = false := decide_eq_false c3
   clear c3
   (first | rw [c3b0] | (simp only [i64_w, i32_w]; rw [c3b0]) | skip)
   have H' := Aside0.mk H
   clear H
   go_wp2
   go_meet
   case rel => exact ⟨_, (decide (a0 > 2932896)), (by first | rfl | (simp; done) | (simp [*]; done)), H', ⟨by first | omega | exact Nat.le_refl _⟩, ⟨by repeat (first | (with_reducible first | exact HB.out | apply below_alloc | apply pw_below_drewN | apply below_drew1) | exact HB.out)⟩⟩
 case rest =>
  clear HC2
  try clear c1
  try clear p2
  try clear c3
  try clear c3b0
  obtain ⟨kq, x14_1, rfl, HA, HJ1, HB⟩ := hcut
  cases kq with
  | zero => exact absurd HA.out (by simp [when_Civil.j0])
  | succ kj1 =>
   have H := HA.out
   clear HA
   simp only [when_Civil.j0] at H
   by_cases c4 : x14_1 = true
   ·
    subst c4
    have H1 : (some (0, 0, 0, 110)) = some (r1, r2, r3, r4) := by rw [if_pos rfl] at H; exact H
    clear H
    have H := H1
    clear H1
    simp only [Option.some.injEq, Prod.mk.injEq] at H
    obtain ⟨rfl, rfl, rfl, rfl⟩ := H
    go_wp2
    refine bodyPost_ret (results_list (rs := [.tmp 2, .tmp 3, .tmp 4, .tmp 5]) rfl (by simp) (.tmp (.tmp (.tmp (.tmp .nil))))) rfl ?_
    exact ⟨by first | rfl | (simp [errW_none, errW_some] <;> rfl) | (simp [*, errW_none, errW_some] <;> rfl), by repeat (first | (with_reducible first | exact HB.out | apply below_alloc | apply pw_below_drewN | apply below_drew1) | exact HB.out)⟩
   ·
    replace c4 := Bool.eq_false_iff.mpr c4
    subst c4
    have H1 : (when_Civil.l0 kj1 a0 (wrap64 (1970 + (wrap64 (Int.tdiv a0 366))))) = some (r1, r2, r3, r4) := by rw [if_neg (show ¬ (false = true) by decide)] at H; exact H
    clear H
    have H := H1
    clear H1
    have HC5 := Aside0.mk H
    clear H
    go_upto_block 0 with (fail)
    go_cut [6] (fun v6 wc => ∃ (kq : Nat) (x6_4 : Int), v6 = .int .i64 x6_4 ∧ Aside0 (when_Civil.j2 kq a0 x6_4 = some (r1, r2, r3, r4)) ∧ Aside0 (kq ≤ kj1) ∧ Aside0 (Below w.heap.size w wc))
    case first =>
     have H := HC5.out
     clear HC5
     have H' := Aside0.mk H
     clear H
     go_wp2
     go_loopg [6] kj1 (fun kq v6 w' => ∃ (x6_2 : Int), v6 = .int .i64 x6_2 ∧ Aside0 (when_Civil.l0 kq a0 x6_2 = some (r1, r2, r3, r4)) ∧ Aside0 (kq ≤ kj1) ∧ Aside0 (Below w.heap.size w w'))
     case atStart => exact ⟨(wrap64 (1970 + (wrap64 (Int.tdiv a0 366)))), (by first | rfl | (simp; done) | (simp [*]; done)), H', ⟨Nat.le_refl _⟩, ⟨by repeat (first | (with_reducible first | exact HB.out | apply below_alloc | apply pw_below_drewN | apply below_drew1) | exact HB.out)⟩⟩
     case round =>
      clear H'
      try clear c1
      try clear p2
      try clear c3
      try clear c3b0
      try clear c4
      try clear p2
      obtain ⟨x6_2, rfl, HA, HK2, HB⟩ := hrel
      cases gk with
      | zero => exact absurd HA.out (by simp [when_Civil.l0])
      | succ k2 =>
       have H := HA.out
       clear HA
       simp only [when_Civil.l0] at H
       by_cases c6 : x6_2 < 9999
       ·
        rw [if_pos c6] at H
        have c6b0 : decide (x6_2 < 9999) = true := decide_eq_true c6
        clear c6
        (first | rw [c6b0] | (simp only [i64_w, i32_w]; rw [c6b0]) | skip)
        replace H := Option.bind_eq_some_iff.mp H
        obtain ⟨t104, A70, H⟩ := H
        replace H : (if t104 ≤ a0 then (when_Civil.l0 k2 a0 (wrap64 (x6_2 + 1))) else (when_Civil.j2 k2 a0 x6_2)) = some (r1, r2, r3, r4) := H
        have A7 := Aside0.mk A70
        clear A70
        by_cases c8 : t104 ≤ a0
        ·
         rw [if_pos c8] at H
         have c8b0 : decide (t104 ≤ a0) = true := decide_eq_true c8
         clear c8
         have H' := Aside0.mk H
         clear H
         go_wp2_with (first | (go_at_call 26; (with_reducible refine (when_before.calls (wrap64 (x6_2 + 1)) t104 _ A7.out).mono ?_); rintro e w' ⟨rfl, ⟨nd, rfl⟩⟩))
         go_roundg k2
         case measure => have := HJ1.out; have := HK2.out; omega
         case rel => exact ⟨(wrap64 (x6_2 + 1)), (by first | rfl | (simp; done) | (simp [*]; done)), H', ⟨by have := HJ1.out; have := HK2.out; omega⟩, ⟨by repeat (first | (with_reducible first | exact HB.out | apply below_alloc | apply pw_below_drewN | apply below_drew1) | exact HB.out)⟩⟩
        ·
         rw [if_neg c8] at H
         have c8b0 : decide (t104 ≤ a0) = false := decide_eq_false c8
         clear c8
         have H' := Aside0.mk H
         clear H
         go_wp2_with (first | (go_at_call 26; (with_reducible refine (when_before.calls (wrap64 (x6_2 + 1)) t104 _ A7.out).mono ?_); rintro e w' ⟨rfl, ⟨nd, rfl⟩⟩))
         go_meet
         case rel => exact ⟨_, (x6_2), (by first | rfl | (simp; done) | (simp [*]; done)), H', ⟨by have := HJ1.out; have := HK2.out; first | omega | exact Nat.le_refl _⟩, ⟨by repeat (first | (with_reducible first | exact HB.out | apply below_alloc | apply pw_below_drewN | apply below_drew1) | exact HB.out)⟩⟩
       ·
        rw [if_neg c6] at H
        have c6b0 : decide (x6_2 < 9999) = false := decide_eq_false c6
        clear c6
        (first | rw [c6b0] | (simp only [i64_w, i32_w]; rw [c6b0]) | skip)
        have H' := Aside0.mk H
        clear H
        go_wp2
        go_meet
        case rel => exact ⟨_, (x6_2), (by first | rfl | (simp; done) | (simp [*]; done)), H', ⟨by have := HJ1.out; have := HK2.out; first | omega | exact Nat.le_refl _⟩, ⟨by repeat (first | (with_reducible first | exact HB.out | apply below_alloc | apply pw_below_drewN | apply below_drew1) | exact HB.out)⟩⟩
    case rest =>
     clear HC5
     try clear c1
     try clear p2
     try clear c3
     try clear c3b0
     try clear c4
     try clear c6
     try clear c6b0
     try clear p6
     try clear c8
     try clear c8b0
     try clear p2
     obtain ⟨kq, x6_4, rfl, HA, HJ4, HB⟩ := hcut
     cases kq with
     | zero => exact absurd HA.out (by simp [when_Civil.j2])
     | succ kj4 =>
      have H := HA.out
      clear HA
      simp only [when_Civil.j2] at H
      replace H := Option.bind_eq_some_iff.mp H
      obtain ⟨t105, A90, H⟩ := H
      replace H : (when_Civil.l1 kj4 x6_4 (wrap64 (a0 - t105)) 1) = some (r1, r2, r3, r4) := H
      have A9 := Aside0.mk A90
      clear A90
      have H' := Aside0.mk H
      clear H
      go_wp2_with (first | ((with_reducible refine gate_callee (f := 26) rfl ?_); refine goesL_ (some 31) rfl rfl Tryd.func26 (by kernel_rfl) rfl #[.int .i64 x6_4] rfl (by (try simp only [List.map_toArray, List.map_cons, List.map_nil]); first | done | rfl | (simp only [List.length_drop, List.length_take]; rfl)) ?_; (with_reducible refine (when_before.calls x6_4 t105 _ A9.out).mono ?_); rintro e w' ⟨rfl, ⟨nd, rfl⟩⟩; refine ⟨_, rfl, ?_⟩))
      go_loopg [7, 8] kj4 (fun kq v7 v8 w' => ∃ (x7_3 : Int) (x8_3 : Int), v7 = .int .i64 x7_3 ∧ v8 = .int .i64 x8_3 ∧ Aside0 (when_Civil.l1 kq x6_4 x7_3 x8_3 = some (r1, r2, r3, r4)) ∧ Aside0 (kq ≤ kj4) ∧ Aside0 (Below w.heap.size w w'))
      case atStart => exact ⟨(wrap64 (a0 - t105)), (1), (by first | rfl | (simp; done) | (simp [*]; done)), (by first | rfl | (simp; done) | (simp [*]; done)), H', ⟨Nat.le_refl _⟩, ⟨by repeat (first | (with_reducible first | exact HB.out | apply below_alloc | apply pw_below_drewN | apply below_drew1) | exact HB.out)⟩⟩
      case round =>
       clear H'
       try clear c1
       try clear c2
       try clear p2
       try clear c3
       try clear c3b0
       try clear c4
       try clear c6
       try clear c6b0
       try clear p6
       try clear c8
       try clear c8b0
       try clear p2
       try clear p6
       obtain ⟨x7_3, x8_3, rfl, rfl, HA, HK3, HB⟩ := hrel
       cases gk with
       | zero => exact absurd HA.out (by simp [when_Civil.l1])
       | succ k3 =>
        have H := HA.out
        clear HA
        simp only [when_Civil.l1] at H
        replace H := Option.bind_eq_some_iff.mp H
        obtain ⟨t106, A100, H⟩ := H
        replace H : (if x7_3 ≥ t106 then ((when_month.f x6_4 x8_3).bind fun t107 => (when_Civil.l1 k3 x6_4 (wrap64 (x7_3 - t107)) (wrap64 (x8_3 + 1)))) else (some (x6_4, x8_3, wrap64 (x7_3 + 1), 0))) = some (r1, r2, r3, r4) := H
        have A10 := Aside0.mk A100
        clear A100
        by_cases c11 : x7_3 ≥ t106
        ·
         rw [if_pos c11] at H
         have c11b0 : decide (t106 ≤ x7_3) = true := decide_eq_true c11
         clear c11
         replace H := Option.bind_eq_some_iff.mp H
         obtain ⟨t107, A120, H⟩ := H
         replace H : (when_Civil.l1 k3 x6_4 (wrap64 (x7_3 - t107)) (wrap64 (x8_3 + 1))) = some (r1, r2, r3, r4) := H
         have A12 := Aside0.mk A120
         clear A120
         have H' := Aside0.mk H
         clear H
         go_wp2_with (first | ((with_reducible refine gate_callee (f := 25) rfl ?_); refine goesL_ (some 36) rfl rfl Tryd.func25 (by kernel_rfl) rfl #[.int .i64 x6_4, .int .i64 x8_3] rfl (by (try simp only [List.map_toArray, List.map_cons, List.map_nil]); first | done | rfl | (simp only [List.length_drop, List.length_take]; rfl)) ?_; (with_reducible refine (when_month.calls x6_4 x8_3 t106 _ A10.out).mono ?_); rintro e w13 ⟨rfl, hb⟩; refine ⟨_, rfl, ?_⟩; have n0_ := Aside0.mk (below_step (by repeat (first | (with_reducible first | exact HB.out | apply below_alloc | apply pw_below_drewN | apply below_drew1) | exact HB.out)) hb); clear HB; have HB := n0_; clear n0_; (try clear hb); (try clear hb2); (try clear hk); (try clear hi)) | ((with_reducible refine gate_callee (f := 25) rfl ?_); refine goesL_ (some 41) rfl rfl Tryd.func25 (by kernel_rfl) rfl #[.int .i64 x6_4, .int .i64 x8_3] rfl (by (try simp only [List.map_toArray, List.map_cons, List.map_nil]); first | done | rfl | (simp only [List.length_drop, List.length_take]; rfl)) ?_; (with_reducible refine (when_month.calls x6_4 x8_3 t107 _ A12.out).mono ?_); rintro e w14 ⟨rfl, hb⟩; refine ⟨_, rfl, ?_⟩; have n0_ := Aside0.mk (below_step (by repeat (first | (with_reducible first | exact HB.out | apply below_alloc | apply pw_below_drewN | apply below_drew1) | exact HB.out)) hb); clear HB; have HB := n0_; clear n0_; (try clear hb); (try clear hb2); (try clear hk); (try clear hi)))
         go_roundg k3
         case measure => have := HJ1.out; have := HJ4.out; have := HK3.out; omega
         case rel => exact ⟨(wrap64 (x7_3 - t107)), (wrap64 (x8_3 + 1)), (by first | rfl | (simp; done) | (simp [*]; done)), (by first | rfl | (simp; done) | (simp [*]; done)), H', ⟨by have := HJ1.out; have := HJ4.out; have := HK3.out; omega⟩, ⟨by repeat (first | (with_reducible first | exact HB.out | apply below_alloc | apply pw_below_drewN | apply below_drew1) | exact HB.out)⟩⟩
        ·
         rw [if_neg c11] at H
         have c11b0 : decide (t106 ≤ x7_3) = false := decide_eq_false c11
         clear c11
         simp only [Option.some.injEq, Prod.mk.injEq] at H
         obtain ⟨rfl, rfl, rfl, rfl⟩ := H
         go_wp2_with (first | ((with_reducible refine gate_callee (f := 25) rfl ?_); refine goesL_ (some 36) rfl rfl Tryd.func25 (by kernel_rfl) rfl #[.int .i64 x6_4, .int .i64 x8_3] rfl (by (try simp only [List.map_toArray, List.map_cons, List.map_nil]); first | done | rfl | (simp only [List.length_drop, List.length_take]; rfl)) ?_; (with_reducible refine (when_month.calls x6_4 x8_3 t106 _ A10.out).mono ?_); rintro e w15 ⟨rfl, hb⟩; refine ⟨_, rfl, ?_⟩; have n0_ := Aside0.mk (below_step (by repeat (first | (with_reducible first | exact HB.out | apply below_alloc | apply pw_below_drewN | apply below_drew1) | exact HB.out)) hb); clear HB; have HB := n0_; clear n0_; (try clear hb); (try clear hb2); (try clear hk); (try clear hi)))
         refine bodyPost_ret (results_list (rs := [.tmp 2, .tmp 3, .tmp 4, .tmp 5]) rfl (by simp) (.tmp (.tmp (.tmp (.tmp .nil))))) rfl ?_
         exact ⟨by first | rfl | (simp [errW_none, errW_some] <;> rfl) | (simp [*, errW_none, errW_some] <;> rfl), by repeat (first | (with_reducible first | exact HB.out | apply below_alloc | apply pw_below_drewN | apply below_drew1) | exact HB.out)⟩

/-! ### when_Right: function 15 -/
def when_Right.f (a0 : Int) : Option (Bool) := if a0 ≥ 0 then (some (decide (a0 ≤ 253402300799))) else (some false)
set_option maxHeartbeats 8000000 in
set_option maxRecDepth 100000 in
theorem when_Right.calls (a0 : Int) (r : Bool) (w : World) (h : when_Right.f a0 = some r) :
  Calls Tryd.prog 15 #[.int .i64 a0] w fun e w' => e = .returned (.bool r) ∧ Drawn0 w w' := by
 have H : (if a0 ≥ 0 then (some (decide (a0 ≤ 253402300799))) else (some false)) = some r := h
 clear h
 by_cases c2 : a0 ≥ 0
 ·
  rw [if_pos c2] at H
  have c2b0 : decide (0 ≤ a0) = true := decide_eq_true c2
  clear c2
  obtain rfl := Option.some.inj H
  go_enter Tryd.func15, Tryd.ntmps15
  go_wp2
  go_ret
  exact ⟨by first | rfl | (simp; done) | (simp [*]; done), by repeat (first | exact Drawn0.refl _ | apply Drawn0.step)⟩
 ·
  rw [if_neg c2] at H
  have c2b0 : decide (0 ≤ a0) = false := decide_eq_false c2
  clear c2
  obtain rfl := Option.some.inj H
  go_enter Tryd.func15, Tryd.ntmps15
  go_wp2
  go_ret
  exact ⟨by first | rfl | (simp; done) | (simp [*]; done), by repeat (first | exact Drawn0.refl _ | apply Drawn0.step)⟩

/-! ### stringslite_HasPrefix: function 46 -/
def stringslite_HasPrefix.f (a0 : ByteArray) (a1 : ByteArray) : Option (Bool) := if (a0.size : Int) ≥ (a1.size : Int) then (if 0 ≤ (a1.size : Int) then (if (a1.size : Int) ≤ (a0.size : Int) then (some ((a0.extract 0 ((a1.size : Int) : Int).toNat).toList == a1.toList)) else (none)) else (none)) else (some false)
set_option maxHeartbeats 8000000 in
set_option maxRecDepth 100000 in
theorem stringslite_HasPrefix.calls (a0 : ByteArray) (a1 : ByteArray) (r : Bool) (w : World) (h : stringslite_HasPrefix.f a0 a1 = some r) :
  Calls Tryd.prog 46 #[.string a0, .string a1] w fun e w' => e = .returned (.bool r) ∧ Drawn0 w w' := by
 have H : (if (a0.size : Int) ≥ (a1.size : Int) then (if 0 ≤ (a1.size : Int) then (if (a1.size : Int) ≤ (a0.size : Int) then (some ((a0.extract 0 ((a1.size : Int) : Int).toNat).toList == a1.toList)) else (none)) else (none)) else (some false)) = some r := h
 clear h
 by_cases c3 : (a0.size : Int) ≥ (a1.size : Int)
 ·
  rw [if_pos c3] at H
  have c3b0 : decide ((a1.size : Int) ≤ (a0.size : Int)) = true := decide_eq_true c3
  have c3b1 : decide (a1.size ≤ a0.size) = true := decide_eq_true (Int.ofNat_le.mp c3)
  clear c3
  by_cases c4 : 0 ≤ (a1.size : Int)
  ·
   rw [if_pos c4] at H
   have c4b0 := eq_true c4
   have c4b1 : decide (0 ≤ (a1.size : Int)) = true := decide_eq_true c4
   clear c4
   by_cases c5 : (a1.size : Int) ≤ (a0.size : Int)
   ·
    rw [if_pos c5] at H
    have c5b0 := eq_true c5
    have c5b1 : decide ((a1.size : Int) ≤ (a0.size : Int)) = true := decide_eq_true c5
    clear c5
    obtain rfl := Option.some.inj H
    go_enter Tryd.func46, Tryd.ntmps46
    go_wp2
    go_ret
    exact ⟨by first | rfl | (simp; done) | (simp [*]; done), by repeat (first | exact Drawn0.refl _ | apply Drawn0.step)⟩
   ·
    rw [if_neg c5] at H
    exact absurd H (by simp)
  ·
   rw [if_neg c4] at H
   exact absurd H (by simp)
 ·
  rw [if_neg c3] at H
  have c3b0 : decide ((a1.size : Int) ≤ (a0.size : Int)) = false := decide_eq_false c3
  have c3b1 : decide (a1.size ≤ a0.size) = false := decide_eq_false (fun h => c3 (Int.ofNat_le.mpr h))
  clear c3
  obtain rfl := Option.some.inj H
  go_enter Tryd.func46, Tryd.ntmps46
  go_wp2
  go_ret
  exact ⟨by first | rfl | (simp; done) | (simp [*]; done), by repeat (first | exact Drawn0.refl _ | apply Drawn0.step)⟩

/-! ### strings_HasPrefix: function 36 -/
def strings_HasPrefix.f (a0 : ByteArray) (a1 : ByteArray) : Option (Bool) := (stringslite_HasPrefix.f a0 a1).bind fun t108 => (some t108)
set_option maxHeartbeats 8000000 in
set_option maxRecDepth 100000 in
theorem strings_HasPrefix.calls (a0 : ByteArray) (a1 : ByteArray) (r : Bool) (w : World) (h : strings_HasPrefix.f a0 a1 = some r) :
  Calls Tryd.prog 36 #[.string a0, .string a1] w fun e w' => e = .returned (.bool r) ∧ Drawn0 w w' := by
 have H : ((stringslite_HasPrefix.f a0 a1).bind fun t108 => (some t108)) = some r := h
 clear h
 replace H := Option.bind_eq_some_iff.mp H
 obtain ⟨t108, A30, H⟩ := H
 replace H : (some t108) = some r := H
 have A3 := Aside0.mk A30
 clear A30
 obtain rfl := Option.some.inj H
 go_enter Tryd.func36, Tryd.ntmps36
 go_wp2_with (first | ((with_reducible refine gate_callee (f := 46) rfl ?_); refine goesL_ (some 7) rfl rfl Tryd.func46 (by kernel_rfl) rfl #[.string a0, .string a1] rfl (by (try simp only [List.map_toArray, List.map_cons, List.map_nil]); first | done | rfl | (simp only [List.length_drop, List.length_take]; rfl)) ?_; (with_reducible refine (stringslite_HasPrefix.calls a0 a1 t108 _ A3.out).mono ?_); rintro e w' ⟨rfl, ⟨nd, rfl⟩⟩; refine ⟨_, rfl, ?_⟩))
 go_ret
 exact ⟨by first | rfl | (simp; done) | (simp [*]; done), by repeat (first | exact Drawn0.refl _ | apply Drawn0.step)⟩

/-! ### when_digits: function 29 -/
def when_digits.f (a0 : Int) (a1 : Int) : Option (ByteArray) := (strconv_Itoa.f a0).bind fun t109 => ((strings_Repeat.f (⟨#[48]⟩ : ByteArray) (wrap64 (a1 - (t109.size : Int)))).bind fun t110 => (if t110.size + t109.size ≤ 9223372036854775807 then (some (t110 ++ t109)) else (none)))
set_option maxHeartbeats 8000000 in
set_option maxRecDepth 100000 in
theorem when_digits.calls (a0 : Int) (a1 : Int) (r : ByteArray) (w : World) (h : when_digits.f a0 a1 = some r) (hLD : Laid w) :
  Calls Tryd.prog 29 #[.int .i64 a0, .int .i64 a1] w fun e w' => e = .returned (.string r) ∧ Below w.heap.size w w' := by
 have HLD := Aside0.mk hLD
 clear hLD
 have HB := Aside0.mk (Below.refl w.heap.size w)
 have H : ((strconv_Itoa.f a0).bind fun t109 => ((strings_Repeat.f (⟨#[48]⟩ : ByteArray) (wrap64 (a1 - (t109.size : Int)))).bind fun t110 => (if t110.size + t109.size ≤ 9223372036854775807 then (some (t110 ++ t109)) else (none)))) = some r := h
 clear h
 replace H := Option.bind_eq_some_iff.mp H
 obtain ⟨t109, A30, H⟩ := H
 replace H : ((strings_Repeat.f (⟨#[48]⟩ : ByteArray) (wrap64 (a1 - (t109.size : Int)))).bind fun t110 => (if t110.size + t109.size ≤ 9223372036854775807 then (some (t110 ++ t109)) else (none))) = some r := H
 have A3 := Aside0.mk A30
 clear A30
 replace H := Option.bind_eq_some_iff.mp H
 obtain ⟨t110, A40, H⟩ := H
 replace H : (if t110.size + t109.size ≤ 9223372036854775807 then (some (t110 ++ t109)) else (none)) = some r := H
 have A4 := Aside0.mk A40
 clear A40
 by_cases c5 : t110.size + t109.size ≤ 9223372036854775807
 ·
  rw [if_pos c5] at H
  have c5b0 := eq_true c5
  have c5b1 : decide (t110.size + t109.size ≤ 9223372036854775807) = true := decide_eq_true c5
  try have c5b2 : (9223372036854775807 < t110.size + t109.size) = False := eq_false (Nat.not_lt.2 c5)
  obtain rfl := Option.some.inj H
  go_enter Tryd.func29, Tryd.ntmps29
  go_wp2_with (first | ((with_reducible refine gate_callee (f := 43) rfl ?_); refine goesL_ (some 7) rfl rfl Tryd.func43 (by kernel_rfl) rfl #[.int .i64 a0] rfl (by (try simp only [List.map_toArray, List.map_cons, List.map_nil]); first | done | rfl | (simp only [List.length_drop, List.length_take]; rfl)) ?_; (with_reducible refine (strconv_Itoa.calls a0 t109 _ A3.out (Laid.below HLD.out (by repeat (first | (with_reducible first | exact HB.out | apply below_alloc | apply pw_below_drewN | apply below_drew1) | exact HB.out)))).mono ?_); rintro e w6 ⟨rfl, hb⟩; refine ⟨_, rfl, ?_⟩; have n0_ := Aside0.mk (below_step (by repeat (first | (with_reducible first | exact HB.out | apply below_alloc | apply pw_below_drewN | apply below_drew1) | exact HB.out)) hb); clear HB; have HB := n0_; clear n0_; (try clear hb); (try clear hb2); (try clear hk); (try clear hi)) | ((with_reducible refine gate_callee (f := 44) rfl ?_); refine goesL_ (some 12) rfl rfl Tryd.func44 (by kernel_rfl) rfl #[.string (⟨#[48]⟩ : ByteArray), .int .i64 (wrap64 (a1 - (t109.size : Int)))] rfl (by (try simp only [List.map_toArray, List.map_cons, List.map_nil]); first | done | rfl | (simp only [List.length_drop, List.length_take]; rfl)) ?_; (with_reducible refine (strings_Repeat.calls (⟨#[48]⟩ : ByteArray) (wrap64 (a1 - (t109.size : Int))) t110 _ A4.out).mono ?_); rintro e w7 ⟨rfl, hb⟩; refine ⟨_, rfl, ?_⟩; have n0_ := Aside0.mk (below_step (by repeat (first | (with_reducible first | exact HB.out | apply below_alloc | apply pw_below_drewN | apply below_drew1) | exact HB.out)) hb); clear HB; have HB := n0_; clear n0_; (try clear hb); (try clear hb2); (try clear hk); (try clear hi)))
  go_ret
  exact ⟨by first | rfl | (simp [errW_none, errW_some] <;> rfl) | (simp [*, errW_none, errW_some] <;> rfl), by repeat (first | (with_reducible first | exact HB.out | apply below_alloc | apply pw_below_drewN | apply below_drew1) | exact HB.out)⟩
 ·
  rw [if_neg c5] at H
  exact absurd H (by simp)

/-! ### when_Print: function 17 -/
def when_Print.f (k : Nat) (a0 : Int) : Option (ByteArray × Int) := (when_Right.f a0).bind fun t111 => (if t111 = true then ((when_Civil.f k (wrap64 (Int.tdiv a0 86400))).bind fun bt112 => ((when_digits.f bt112.1 4).bind fun t116 => ((when_digits.f bt112.2.1 2).bind fun t117 => (if t116.size + t117.size ≤ 9223372036854775807 then ((when_digits.f bt112.2.2.1 2).bind fun t118 => (if (t116 ++ t117).size + t118.size ≤ 9223372036854775807 then (if ((t116 ++ t117) ++ t118).size + 1 ≤ 9223372036854775807 then ((when_digits.f (wrap64 (Int.tdiv (Int.tmod a0 86400) 3600)) 2).bind fun t119 => (if (((t116 ++ t117) ++ t118) ++ (⟨#[84]⟩ : ByteArray)).size + t119.size ≤ 9223372036854775807 then ((when_digits.f (Int.tmod (wrap64 (Int.tdiv (Int.tmod a0 86400) 60)) 60) 2).bind fun t120 => (if ((((t116 ++ t117) ++ t118) ++ (⟨#[84]⟩ : ByteArray)) ++ t119).size + t120.size ≤ 9223372036854775807 then ((when_digits.f (Int.tmod a0 60) 2).bind fun t121 => (if (((((t116 ++ t117) ++ t118) ++ (⟨#[84]⟩ : ByteArray)) ++ t119) ++ t120).size + t121.size ≤ 9223372036854775807 then (if ((((((t116 ++ t117) ++ t118) ++ (⟨#[84]⟩ : ByteArray)) ++ t119) ++ t120) ++ t121).size + 1 ≤ 9223372036854775807 then (some (((((((t116 ++ t117) ++ t118) ++ (⟨#[84]⟩ : ByteArray)) ++ t119) ++ t120) ++ t121) ++ (⟨#[90]⟩ : ByteArray), 0)) else (none)) else (none))) else (none))) else (none))) else (none)) else (none))) else (none))))) else (some ((⟨#[]⟩ : ByteArray), 110)))
theorem when_Print.mono : ∀ a0 k, LeO (when_Print.f k a0) (when_Print.f (k + 1) a0) := by
 intro a0 k
 unfold when_Print.f
 repeat' first
   | (with_reducible exact when_Civil.mono _ _)
   | (with_reducible exact LeO.refl _)
   | (with_reducible exact LeO.none _)
   | (with_reducible refine LeO.ite ?_ ?_)
   | (with_reducible refine LeO.bind ?_ (fun _ => ?_))
   | exact when_Civil.mono _ _
   | exact LeO.none _
   | refine LeO.ite ?_ ?_
   | refine LeO.bind ?_ (fun _ => ?_)
set_option maxHeartbeats 8000000 in
set_option maxRecDepth 100000 in
theorem when_Print.calls (k : Nat) (a0 : Int) (r1 : ByteArray) (r2 : Int) (w : World) (h : when_Print.f k a0 = some (r1, r2)) (hLD : Laid w) :
  Calls Tryd.prog 17 #[.int .i64 a0] w fun e w' => e = .returned (.tuple #[.string r1, .int .i64 r2]) ∧ Below w.heap.size w w' := by
 have HLD := Aside0.mk hLD
 clear hLD
 have HB := Aside0.mk (Below.refl w.heap.size w)
 have H : ((when_Right.f a0).bind fun t111 => (if t111 = true then ((when_Civil.f k (wrap64 (Int.tdiv a0 86400))).bind fun bt112 => ((when_digits.f bt112.1 4).bind fun t116 => ((when_digits.f bt112.2.1 2).bind fun t117 => (if t116.size + t117.size ≤ 9223372036854775807 then ((when_digits.f bt112.2.2.1 2).bind fun t118 => (if (t116 ++ t117).size + t118.size ≤ 9223372036854775807 then (if ((t116 ++ t117) ++ t118).size + 1 ≤ 9223372036854775807 then ((when_digits.f (wrap64 (Int.tdiv (Int.tmod a0 86400) 3600)) 2).bind fun t119 => (if (((t116 ++ t117) ++ t118) ++ (⟨#[84]⟩ : ByteArray)).size + t119.size ≤ 9223372036854775807 then ((when_digits.f (Int.tmod (wrap64 (Int.tdiv (Int.tmod a0 86400) 60)) 60) 2).bind fun t120 => (if ((((t116 ++ t117) ++ t118) ++ (⟨#[84]⟩ : ByteArray)) ++ t119).size + t120.size ≤ 9223372036854775807 then ((when_digits.f (Int.tmod a0 60) 2).bind fun t121 => (if (((((t116 ++ t117) ++ t118) ++ (⟨#[84]⟩ : ByteArray)) ++ t119) ++ t120).size + t121.size ≤ 9223372036854775807 then (if ((((((t116 ++ t117) ++ t118) ++ (⟨#[84]⟩ : ByteArray)) ++ t119) ++ t120) ++ t121).size + 1 ≤ 9223372036854775807 then (some (((((((t116 ++ t117) ++ t118) ++ (⟨#[84]⟩ : ByteArray)) ++ t119) ++ t120) ++ t121) ++ (⟨#[90]⟩ : ByteArray), 0)) else (none)) else (none))) else (none))) else (none))) else (none)) else (none))) else (none))))) else (some ((⟨#[]⟩ : ByteArray), 110)))) = some (r1, r2) := h
 clear h
 replace H := Option.bind_eq_some_iff.mp H
 obtain ⟨t111, A20, H⟩ := H
 replace H : (if t111 = true then ((when_Civil.f k (wrap64 (Int.tdiv a0 86400))).bind fun bt112 => ((when_digits.f bt112.1 4).bind fun t116 => ((when_digits.f bt112.2.1 2).bind fun t117 => (if t116.size + t117.size ≤ 9223372036854775807 then ((when_digits.f bt112.2.2.1 2).bind fun t118 => (if (t116 ++ t117).size + t118.size ≤ 9223372036854775807 then (if ((t116 ++ t117) ++ t118).size + 1 ≤ 9223372036854775807 then ((when_digits.f (wrap64 (Int.tdiv (Int.tmod a0 86400) 3600)) 2).bind fun t119 => (if (((t116 ++ t117) ++ t118) ++ (⟨#[84]⟩ : ByteArray)).size + t119.size ≤ 9223372036854775807 then ((when_digits.f (Int.tmod (wrap64 (Int.tdiv (Int.tmod a0 86400) 60)) 60) 2).bind fun t120 => (if ((((t116 ++ t117) ++ t118) ++ (⟨#[84]⟩ : ByteArray)) ++ t119).size + t120.size ≤ 9223372036854775807 then ((when_digits.f (Int.tmod a0 60) 2).bind fun t121 => (if (((((t116 ++ t117) ++ t118) ++ (⟨#[84]⟩ : ByteArray)) ++ t119) ++ t120).size + t121.size ≤ 9223372036854775807 then (if ((((((t116 ++ t117) ++ t118) ++ (⟨#[84]⟩ : ByteArray)) ++ t119) ++ t120) ++ t121).size + 1 ≤ 9223372036854775807 then (some (((((((t116 ++ t117) ++ t118) ++ (⟨#[84]⟩ : ByteArray)) ++ t119) ++ t120) ++ t121) ++ (⟨#[90]⟩ : ByteArray), 0)) else (none)) else (none))) else (none))) else (none))) else (none)) else (none))) else (none))))) else (some ((⟨#[]⟩ : ByteArray), 110))) = some (r1, r2) := H
 have A2 := Aside0.mk A20
 clear A20
 by_cases c3 : t111 = true
 ·
  subst c3
  have H1 : ((when_Civil.f k (wrap64 (Int.tdiv a0 86400))).bind fun bt112 => ((when_digits.f bt112.1 4).bind fun t116 => ((when_digits.f bt112.2.1 2).bind fun t117 => (if t116.size + t117.size ≤ 9223372036854775807 then ((when_digits.f bt112.2.2.1 2).bind fun t118 => (if (t116 ++ t117).size + t118.size ≤ 9223372036854775807 then (if ((t116 ++ t117) ++ t118).size + 1 ≤ 9223372036854775807 then ((when_digits.f (wrap64 (Int.tdiv (Int.tmod a0 86400) 3600)) 2).bind fun t119 => (if (((t116 ++ t117) ++ t118) ++ (⟨#[84]⟩ : ByteArray)).size + t119.size ≤ 9223372036854775807 then ((when_digits.f (Int.tmod (wrap64 (Int.tdiv (Int.tmod a0 86400) 60)) 60) 2).bind fun t120 => (if ((((t116 ++ t117) ++ t118) ++ (⟨#[84]⟩ : ByteArray)) ++ t119).size + t120.size ≤ 9223372036854775807 then ((when_digits.f (Int.tmod a0 60) 2).bind fun t121 => (if (((((t116 ++ t117) ++ t118) ++ (⟨#[84]⟩ : ByteArray)) ++ t119) ++ t120).size + t121.size ≤ 9223372036854775807 then (if ((((((t116 ++ t117) ++ t118) ++ (⟨#[84]⟩ : ByteArray)) ++ t119) ++ t120) ++ t121).size + 1 ≤ 9223372036854775807 then (some (((((((t116 ++ t117) ++ t118) ++ (⟨#[84]⟩ : ByteArray)) ++ t119) ++ t120) ++ t121) ++ (⟨#[90]⟩ : ByteArray), 0)) else (none)) else (none))) else (none))) else (none))) else (none)) else (none))) else (none))))) = some (r1, r2) := by rw [if_pos rfl] at H; exact H
  clear H
  have H := H1
  clear H1
  replace H := Option.bind_eq_some_iff.mp H
  obtain ⟨⟨t112, t113, t114, t115⟩, A40, H⟩ := H
  replace H : ((when_digits.f t112 4).bind fun t116 => ((when_digits.f t113 2).bind fun t117 => (if t116.size + t117.size ≤ 9223372036854775807 then ((when_digits.f t114 2).bind fun t118 => (if (t116 ++ t117).size + t118.size ≤ 9223372036854775807 then (if ((t116 ++ t117) ++ t118).size + 1 ≤ 9223372036854775807 then ((when_digits.f (wrap64 (Int.tdiv (Int.tmod a0 86400) 3600)) 2).bind fun t119 => (if (((t116 ++ t117) ++ t118) ++ (⟨#[84]⟩ : ByteArray)).size + t119.size ≤ 9223372036854775807 then ((when_digits.f (Int.tmod (wrap64 (Int.tdiv (Int.tmod a0 86400) 60)) 60) 2).bind fun t120 => (if ((((t116 ++ t117) ++ t118) ++ (⟨#[84]⟩ : ByteArray)) ++ t119).size + t120.size ≤ 9223372036854775807 then ((when_digits.f (Int.tmod a0 60) 2).bind fun t121 => (if (((((t116 ++ t117) ++ t118) ++ (⟨#[84]⟩ : ByteArray)) ++ t119) ++ t120).size + t121.size ≤ 9223372036854775807 then (if ((((((t116 ++ t117) ++ t118) ++ (⟨#[84]⟩ : ByteArray)) ++ t119) ++ t120) ++ t121).size + 1 ≤ 9223372036854775807 then (some (((((((t116 ++ t117) ++ t118) ++ (⟨#[84]⟩ : ByteArray)) ++ t119) ++ t120) ++ t121) ++ (⟨#[90]⟩ : ByteArray), 0)) else (none)) else (none))) else (none))) else (none))) else (none)) else (none))) else (none)))) = some (r1, r2) := H
  have A4 := Aside0.mk A40
  clear A40
  replace H := Option.bind_eq_some_iff.mp H
  obtain ⟨t116, A50, H⟩ := H
  replace H : ((when_digits.f t113 2).bind fun t117 => (if t116.size + t117.size ≤ 9223372036854775807 then ((when_digits.f t114 2).bind fun t118 => (if (t116 ++ t117).size + t118.size ≤ 9223372036854775807 then (if ((t116 ++ t117) ++ t118).size + 1 ≤ 9223372036854775807 then ((when_digits.f (wrap64 (Int.tdiv (Int.tmod a0 86400) 3600)) 2).bind fun t119 => (if (((t116 ++ t117) ++ t118) ++ (⟨#[84]⟩ : ByteArray)).size + t119.size ≤ 9223372036854775807 then ((when_digits.f (Int.tmod (wrap64 (Int.tdiv (Int.tmod a0 86400) 60)) 60) 2).bind fun t120 => (if ((((t116 ++ t117) ++ t118) ++ (⟨#[84]⟩ : ByteArray)) ++ t119).size + t120.size ≤ 9223372036854775807 then ((when_digits.f (Int.tmod a0 60) 2).bind fun t121 => (if (((((t116 ++ t117) ++ t118) ++ (⟨#[84]⟩ : ByteArray)) ++ t119) ++ t120).size + t121.size ≤ 9223372036854775807 then (if ((((((t116 ++ t117) ++ t118) ++ (⟨#[84]⟩ : ByteArray)) ++ t119) ++ t120) ++ t121).size + 1 ≤ 9223372036854775807 then (some (((((((t116 ++ t117) ++ t118) ++ (⟨#[84]⟩ : ByteArray)) ++ t119) ++ t120) ++ t121) ++ (⟨#[90]⟩ : ByteArray), 0)) else (none)) else (none))) else (none))) else (none))) else (none)) else (none))) else (none))) = some (r1, r2) := H
  have A5 := Aside0.mk A50
  clear A50
  replace H := Option.bind_eq_some_iff.mp H
  obtain ⟨t117, A60, H⟩ := H
  replace H : (if t116.size + t117.size ≤ 9223372036854775807 then ((when_digits.f t114 2).bind fun t118 => (if (t116 ++ t117).size + t118.size ≤ 9223372036854775807 then (if ((t116 ++ t117) ++ t118).size + 1 ≤ 9223372036854775807 then ((when_digits.f (wrap64 (Int.tdiv (Int.tmod a0 86400) 3600)) 2).bind fun t119 => (if (((t116 ++ t117) ++ t118) ++ (⟨#[84]⟩ : ByteArray)).size + t119.size ≤ 9223372036854775807 then ((when_digits.f (Int.tmod (wrap64 (Int.tdiv (Int.tmod a0 86400) 60)) 60) 2).bind fun t120 => (if ((((t116 ++ t117) ++ t118) ++ (⟨#[84]⟩ : ByteArray)) ++ t119).size + t120.size ≤ 9223372036854775807 then ((when_digits.f (Int.tmod a0 60) 2).bind fun t121 => (if (((((t116 ++ t117) ++ t118) ++ (⟨#[84]⟩ : ByteArray)) ++ t119) ++ t120).size + t121.size ≤ 9223372036854775807 then (if ((((((t116 ++ t117) ++ t118) ++ (⟨#[84]⟩ : ByteArray)) ++ t119) ++ t120) ++ t121).size + 1 ≤ 9223372036854775807 then (some (((((((t116 ++ t117) ++ t118) ++ (⟨#[84]⟩ : ByteArray)) ++ t119) ++ t120) ++ t121) ++ (⟨#[90]⟩ : ByteArray), 0)) else (none)) else (none))) else (none))) else (none))) else (none)) else (none))) else (none)) = some (r1, r2) := H
  have A6 := Aside0.mk A60
  clear A60
  by_cases c7 : t116.size + t117.size ≤ 9223372036854775807
  ·
   rw [if_pos c7] at H
   have c7b0 := eq_true c7
   have c7b1 : decide (t116.size + t117.size ≤ 9223372036854775807) = true := decide_eq_true c7
   try have c7b2 : (9223372036854775807 < t116.size + t117.size) = False := eq_false (Nat.not_lt.2 c7)
   replace H := Option.bind_eq_some_iff.mp H
   obtain ⟨t118, A80, H⟩ := H
   replace H : (if (t116 ++ t117).size + t118.size ≤ 9223372036854775807 then (if ((t116 ++ t117) ++ t118).size + 1 ≤ 9223372036854775807 then ((when_digits.f (wrap64 (Int.tdiv (Int.tmod a0 86400) 3600)) 2).bind fun t119 => (if (((t116 ++ t117) ++ t118) ++ (⟨#[84]⟩ : ByteArray)).size + t119.size ≤ 9223372036854775807 then ((when_digits.f (Int.tmod (wrap64 (Int.tdiv (Int.tmod a0 86400) 60)) 60) 2).bind fun t120 => (if ((((t116 ++ t117) ++ t118) ++ (⟨#[84]⟩ : ByteArray)) ++ t119).size + t120.size ≤ 9223372036854775807 then ((when_digits.f (Int.tmod a0 60) 2).bind fun t121 => (if (((((t116 ++ t117) ++ t118) ++ (⟨#[84]⟩ : ByteArray)) ++ t119) ++ t120).size + t121.size ≤ 9223372036854775807 then (if ((((((t116 ++ t117) ++ t118) ++ (⟨#[84]⟩ : ByteArray)) ++ t119) ++ t120) ++ t121).size + 1 ≤ 9223372036854775807 then (some (((((((t116 ++ t117) ++ t118) ++ (⟨#[84]⟩ : ByteArray)) ++ t119) ++ t120) ++ t121) ++ (⟨#[90]⟩ : ByteArray), 0)) else (none)) else (none))) else (none))) else (none))) else (none)) else (none)) = some (r1, r2) := H
   have A8 := Aside0.mk A80
   clear A80
   by_cases c9 : (t116 ++ t117).size + t118.size ≤ 9223372036854775807
   ·
    rw [if_pos c9] at H
    have c9b0 := eq_true c9
    have c9b1 : decide ((t116 ++ t117).size + t118.size ≤ 9223372036854775807) = true := decide_eq_true c9
    try have c9b2 : (9223372036854775807 < (t116 ++ t117).size + t118.size) = False := eq_false (Nat.not_lt.2 c9)
    have c9b4 := c9
    try simp only [ByteArray.size_append, mk_size, List.length_cons, List.length_nil, Nat.zero_add, Nat.reduceAdd] at c9b4
    by_cases c10 : ((t116 ++ t117) ++ t118).size + 1 ≤ 9223372036854775807
    ·
     rw [if_pos c10] at H
     have c10b0 := eq_true c10
     have c10b1 : decide (((t116 ++ t117) ++ t118).size + 1 ≤ 9223372036854775807) = true := decide_eq_true c10
     try have c10b2 : (9223372036854775807 < ((t116 ++ t117) ++ t118).size + 1) = False := eq_false (Nat.not_lt.2 c10)
     try have c10b3 : (9223372036854775807 ≤ ((t116 ++ t117) ++ t118).size) = False := eq_false (by omega)
     have c10b4 := c10
     try simp only [ByteArray.size_append, mk_size, List.length_cons, List.length_nil, Nat.zero_add, Nat.reduceAdd] at c10b4
     replace H := Option.bind_eq_some_iff.mp H
     obtain ⟨t119, A110, H⟩ := H
     replace H : (if (((t116 ++ t117) ++ t118) ++ (⟨#[84]⟩ : ByteArray)).size + t119.size ≤ 9223372036854775807 then ((when_digits.f (Int.tmod (wrap64 (Int.tdiv (Int.tmod a0 86400) 60)) 60) 2).bind fun t120 => (if ((((t116 ++ t117) ++ t118) ++ (⟨#[84]⟩ : ByteArray)) ++ t119).size + t120.size ≤ 9223372036854775807 then ((when_digits.f (Int.tmod a0 60) 2).bind fun t121 => (if (((((t116 ++ t117) ++ t118) ++ (⟨#[84]⟩ : ByteArray)) ++ t119) ++ t120).size + t121.size ≤ 9223372036854775807 then (if ((((((t116 ++ t117) ++ t118) ++ (⟨#[84]⟩ : ByteArray)) ++ t119) ++ t120) ++ t121).size + 1 ≤ 9223372036854775807 then (some (((((((t116 ++ t117) ++ t118) ++ (⟨#[84]⟩ : ByteArray)) ++ t119) ++ t120) ++ t121) ++ (⟨#[90]⟩ : ByteArray), 0)) else (none)) else (none))) else (none))) else (none)) = some (r1, r2) := H
     have A11 := Aside0.mk A110
     clear A110
     by_cases c12 : (((t116 ++ t117) ++ t118) ++ (⟨#[84]⟩ : ByteArray)).size + t119.size ≤ 9223372036854775807
     ·
      rw [if_pos c12] at H
      have c12b0 := eq_true c12
      have c12b1 : decide ((((t116 ++ t117) ++ t118) ++ (⟨#[84]⟩ : ByteArray)).size + t119.size ≤ 9223372036854775807) = true := decide_eq_true c12
      try have c12b2 : (9223372036854775807 < (((t116 ++ t117) ++ t118) ++ (⟨#[84]⟩ : ByteArray)).size + t119.size) = False := eq_false (Nat.not_lt.2 c12)
      have c12b4 := c12
      try simp only [ByteArray.size_append, mk_size, List.length_cons, List.length_nil, Nat.zero_add, Nat.reduceAdd] at c12b4
      replace H := Option.bind_eq_some_iff.mp H
      obtain ⟨t120, A130, H⟩ := H
      replace H : (if ((((t116 ++ t117) ++ t118) ++ (⟨#[84]⟩ : ByteArray)) ++ t119).size + t120.size ≤ 9223372036854775807 then ((when_digits.f (Int.tmod a0 60) 2).bind fun t121 => (if (((((t116 ++ t117) ++ t118) ++ (⟨#[84]⟩ : ByteArray)) ++ t119) ++ t120).size + t121.size ≤ 9223372036854775807 then (if ((((((t116 ++ t117) ++ t118) ++ (⟨#[84]⟩ : ByteArray)) ++ t119) ++ t120) ++ t121).size + 1 ≤ 9223372036854775807 then (some (((((((t116 ++ t117) ++ t118) ++ (⟨#[84]⟩ : ByteArray)) ++ t119) ++ t120) ++ t121) ++ (⟨#[90]⟩ : ByteArray), 0)) else (none)) else (none))) else (none)) = some (r1, r2) := H
      have A13 := Aside0.mk A130
      clear A130
      by_cases c14 : ((((t116 ++ t117) ++ t118) ++ (⟨#[84]⟩ : ByteArray)) ++ t119).size + t120.size ≤ 9223372036854775807
      ·
       rw [if_pos c14] at H
       have c14b0 := eq_true c14
       have c14b1 : decide (((((t116 ++ t117) ++ t118) ++ (⟨#[84]⟩ : ByteArray)) ++ t119).size + t120.size ≤ 9223372036854775807) = true := decide_eq_true c14
       try have c14b2 : (9223372036854775807 < ((((t116 ++ t117) ++ t118) ++ (⟨#[84]⟩ : ByteArray)) ++ t119).size + t120.size) = False := eq_false (Nat.not_lt.2 c14)
       have c14b4 := c14
       try simp only [ByteArray.size_append, mk_size, List.length_cons, List.length_nil, Nat.zero_add, Nat.reduceAdd] at c14b4
       replace H := Option.bind_eq_some_iff.mp H
       obtain ⟨t121, A150, H⟩ := H
       replace H : (if (((((t116 ++ t117) ++ t118) ++ (⟨#[84]⟩ : ByteArray)) ++ t119) ++ t120).size + t121.size ≤ 9223372036854775807 then (if ((((((t116 ++ t117) ++ t118) ++ (⟨#[84]⟩ : ByteArray)) ++ t119) ++ t120) ++ t121).size + 1 ≤ 9223372036854775807 then (some (((((((t116 ++ t117) ++ t118) ++ (⟨#[84]⟩ : ByteArray)) ++ t119) ++ t120) ++ t121) ++ (⟨#[90]⟩ : ByteArray), 0)) else (none)) else (none)) = some (r1, r2) := H
       have A15 := Aside0.mk A150
       clear A150
       by_cases c16 : (((((t116 ++ t117) ++ t118) ++ (⟨#[84]⟩ : ByteArray)) ++ t119) ++ t120).size + t121.size ≤ 9223372036854775807
       ·
        rw [if_pos c16] at H
        have c16b0 := eq_true c16
        have c16b1 : decide ((((((t116 ++ t117) ++ t118) ++ (⟨#[84]⟩ : ByteArray)) ++ t119) ++ t120).size + t121.size ≤ 9223372036854775807) = true := decide_eq_true c16
        try have c16b2 : (9223372036854775807 < (((((t116 ++ t117) ++ t118) ++ (⟨#[84]⟩ : ByteArray)) ++ t119) ++ t120).size + t121.size) = False := eq_false (Nat.not_lt.2 c16)
        have c16b4 := c16
        try simp only [ByteArray.size_append, mk_size, List.length_cons, List.length_nil, Nat.zero_add, Nat.reduceAdd] at c16b4
        by_cases c17 : ((((((t116 ++ t117) ++ t118) ++ (⟨#[84]⟩ : ByteArray)) ++ t119) ++ t120) ++ t121).size + 1 ≤ 9223372036854775807
        ·
         rw [if_pos c17] at H
         have c17b0 := eq_true c17
         have c17b1 : decide (((((((t116 ++ t117) ++ t118) ++ (⟨#[84]⟩ : ByteArray)) ++ t119) ++ t120) ++ t121).size + 1 ≤ 9223372036854775807) = true := decide_eq_true c17
         try have c17b2 : (9223372036854775807 < ((((((t116 ++ t117) ++ t118) ++ (⟨#[84]⟩ : ByteArray)) ++ t119) ++ t120) ++ t121).size + 1) = False := eq_false (Nat.not_lt.2 c17)
         try have c17b3 : (9223372036854775807 ≤ ((((((t116 ++ t117) ++ t118) ++ (⟨#[84]⟩ : ByteArray)) ++ t119) ++ t120) ++ t121).size) = False := eq_false (by omega)
         have c17b4 := c17
         try simp only [ByteArray.size_append, mk_size, List.length_cons, List.length_nil, Nat.zero_add, Nat.reduceAdd] at c17b4
         simp only [Option.some.injEq, Prod.mk.injEq] at H
         obtain ⟨rfl, rfl⟩ := H
         go_enter Tryd.func17, Tryd.ntmps17
         go_wp2_with (first | ((with_reducible refine gate_callee (f := 15) rfl ?_); refine goesL_ (some 10) rfl rfl Tryd.func15 (by kernel_rfl) rfl #[.int .i64 a0] rfl (by (try simp only [List.map_toArray, List.map_cons, List.map_nil]); first | done | rfl | (simp only [List.length_drop, List.length_take]; rfl)) ?_; (with_reducible refine (when_Right.calls a0 true _ A2.out).mono ?_); rintro e w' ⟨rfl, ⟨nd, rfl⟩⟩; refine ⟨_, rfl, ?_⟩) | ((with_reducible refine gate_callee (f := 12) rfl ?_); refine goesL_ (some 15) rfl rfl Tryd.func12 (by kernel_rfl) rfl #[.int .i64 (wrap64 (Int.tdiv a0 86400))] rfl (by (try simp only [List.map_toArray, List.map_cons, List.map_nil]); first | done | rfl | (simp only [List.length_drop, List.length_take]; rfl)) ?_; (with_reducible refine (when_Civil.calls k (wrap64 (Int.tdiv a0 86400)) t112 t113 t114 t115 _ A4.out).mono ?_); rintro e w18 ⟨rfl, hb⟩; refine ⟨_, rfl, ?_⟩; have n0_ := Aside0.mk (below_step (by repeat (first | (with_reducible first | exact HB.out | apply below_alloc | apply pw_below_drewN | apply below_drew1) | exact HB.out)) hb); clear HB; have HB := n0_; clear n0_; (try clear hb); (try clear hb2); (try clear hk); (try clear hi)) | ((with_reducible refine gate_callee (f := 29) rfl ?_); refine goesL_ (some 23) rfl rfl Tryd.func29 (by kernel_rfl) rfl #[.int .i64 t112, .int .i64 4] rfl (by (try simp only [List.map_toArray, List.map_cons, List.map_nil]); first | done | rfl | (simp only [List.length_drop, List.length_take]; rfl)) ?_; (with_reducible refine (when_digits.calls t112 4 t116 _ A5.out (Laid.below HLD.out (by repeat (first | (with_reducible first | exact HB.out | apply below_alloc | apply pw_below_drewN | apply below_drew1) | exact HB.out)))).mono ?_); rintro e w19 ⟨rfl, hb⟩; refine ⟨_, rfl, ?_⟩; have n0_ := Aside0.mk (below_step (by repeat (first | (with_reducible first | exact HB.out | apply below_alloc | apply pw_below_drewN | apply below_drew1) | exact HB.out)) hb); clear HB; have HB := n0_; clear n0_; (try clear hb); (try clear hb2); (try clear hk); (try clear hi)) | ((with_reducible refine gate_callee (f := 29) rfl ?_); refine goesL_ (some 25) rfl rfl Tryd.func29 (by kernel_rfl) rfl #[.int .i64 t113, .int .i64 2] rfl (by (try simp only [List.map_toArray, List.map_cons, List.map_nil]); first | done | rfl | (simp only [List.length_drop, List.length_take]; rfl)) ?_; (with_reducible refine (when_digits.calls t113 2 t117 _ A6.out (Laid.below HLD.out (by repeat (first | (with_reducible first | exact HB.out | apply below_alloc | apply pw_below_drewN | apply below_drew1) | exact HB.out)))).mono ?_); rintro e w20 ⟨rfl, hb⟩; refine ⟨_, rfl, ?_⟩; have n0_ := Aside0.mk (below_step (by repeat (first | (with_reducible first | exact HB.out | apply below_alloc | apply pw_below_drewN | apply below_drew1) | exact HB.out)) hb); clear HB; have HB := n0_; clear n0_; (try clear hb); (try clear hb2); (try clear hk); (try clear hi)) | ((with_reducible refine gate_callee (f := 29) rfl ?_); refine goesL_ (some 28) rfl rfl Tryd.func29 (by kernel_rfl) rfl #[.int .i64 t114, .int .i64 2] rfl (by (try simp only [List.map_toArray, List.map_cons, List.map_nil]); first | done | rfl | (simp only [List.length_drop, List.length_take]; rfl)) ?_; (with_reducible refine (when_digits.calls t114 2 t118 _ A8.out (Laid.below HLD.out (by repeat (first | (with_reducible first | exact HB.out | apply below_alloc | apply pw_below_drewN | apply below_drew1) | exact HB.out)))).mono ?_); rintro e w21 ⟨rfl, hb⟩; refine ⟨_, rfl, ?_⟩; have n0_ := Aside0.mk (below_step (by repeat (first | (with_reducible first | exact HB.out | apply below_alloc | apply pw_below_drewN | apply below_drew1) | exact HB.out)) hb); clear HB; have HB := n0_; clear n0_; (try clear hb); (try clear hb2); (try clear hk); (try clear hi)) | ((with_reducible refine gate_callee (f := 29) rfl ?_); refine goesL_ (some 33) rfl rfl Tryd.func29 (by kernel_rfl) rfl #[.int .i64 (wrap64 (Int.tdiv (Int.tmod a0 86400) 3600)), .int .i64 2] rfl (by (try simp only [List.map_toArray, List.map_cons, List.map_nil]); first | done | rfl | (simp only [List.length_drop, List.length_take]; rfl)) ?_; (with_reducible refine (when_digits.calls (wrap64 (Int.tdiv (Int.tmod a0 86400) 3600)) 2 t119 _ A11.out (Laid.below HLD.out (by repeat (first | (with_reducible first | exact HB.out | apply below_alloc | apply pw_below_drewN | apply below_drew1) | exact HB.out)))).mono ?_); rintro e w22 ⟨rfl, hb⟩; refine ⟨_, rfl, ?_⟩; have n0_ := Aside0.mk (below_step (by repeat (first | (with_reducible first | exact HB.out | apply below_alloc | apply pw_below_drewN | apply below_drew1) | exact HB.out)) hb); clear HB; have HB := n0_; clear n0_; (try clear hb); (try clear hb2); (try clear hk); (try clear hi)) | ((with_reducible refine gate_callee (f := 29) rfl ?_); refine goesL_ (some 38) rfl rfl Tryd.func29 (by kernel_rfl) rfl #[.int .i64 (Int.tmod (wrap64 (Int.tdiv (Int.tmod a0 86400) 60)) 60), .int .i64 2] rfl (by (try simp only [List.map_toArray, List.map_cons, List.map_nil]); first | done | rfl | (simp only [List.length_drop, List.length_take]; rfl)) ?_; (with_reducible refine (when_digits.calls (Int.tmod (wrap64 (Int.tdiv (Int.tmod a0 86400) 60)) 60) 2 t120 _ A13.out (Laid.below HLD.out (by repeat (first | (with_reducible first | exact HB.out | apply below_alloc | apply pw_below_drewN | apply below_drew1) | exact HB.out)))).mono ?_); rintro e w23 ⟨rfl, hb⟩; refine ⟨_, rfl, ?_⟩; have n0_ := Aside0.mk (below_step (by repeat (first | (with_reducible first | exact HB.out | apply below_alloc | apply pw_below_drewN | apply below_drew1) | exact HB.out)) hb); clear HB; have HB := n0_; clear n0_; (try clear hb); (try clear hb2); (try clear hk); (try clear hi)) | ((with_reducible refine gate_callee (f := 29) rfl ?_); refine goesL_ (some 42) rfl rfl Tryd.func29 (by kernel_rfl) rfl #[.int .i64 (Int.tmod a0 60), .int .i64 2] rfl (by (try simp only [List.map_toArray, List.map_cons, List.map_nil]); first | done | rfl | (simp only [List.length_drop, List.length_take]; rfl)) ?_; (with_reducible refine (when_digits.calls (Int.tmod a0 60) 2 t121 _ A15.out (Laid.below HLD.out (by repeat (first | (with_reducible first | exact HB.out | apply below_alloc | apply pw_below_drewN | apply below_drew1) | exact HB.out)))).mono ?_); rintro e w24 ⟨rfl, hb⟩; refine ⟨_, rfl, ?_⟩; have n0_ := Aside0.mk (below_step (by repeat (first | (with_reducible first | exact HB.out | apply below_alloc | apply pw_below_drewN | apply below_drew1) | exact HB.out)) hb); clear HB; have HB := n0_; clear n0_; (try clear hb); (try clear hb2); (try clear hk); (try clear hi)))
         go_ret2
         exact ⟨by first | rfl | (simp [errW_none, errW_some] <;> rfl) | (simp [*, errW_none, errW_some] <;> rfl), by repeat (first | (with_reducible first | exact HB.out | apply below_alloc | apply pw_below_drewN | apply below_drew1) | exact HB.out)⟩
        ·
         rw [if_neg c17] at H
         exact absurd H (by simp)
       ·
        rw [if_neg c16] at H
        exact absurd H (by simp)
      ·
       rw [if_neg c14] at H
       exact absurd H (by simp)
     ·
      rw [if_neg c12] at H
      exact absurd H (by simp)
    ·
     rw [if_neg c10] at H
     exact absurd H (by simp)
   ·
    rw [if_neg c9] at H
    exact absurd H (by simp)
  ·
   rw [if_neg c7] at H
   exact absurd H (by simp)
 ·
  replace c3 := Bool.eq_false_iff.mpr c3
  subst c3
  have H1 : (some ((⟨#[]⟩ : ByteArray), 110)) = some (r1, r2) := by rw [if_neg (show ¬ (false = true) by decide)] at H; exact H
  clear H
  have H := H1
  clear H1
  simp only [Option.some.injEq, Prod.mk.injEq] at H
  obtain ⟨rfl, rfl⟩ := H
  go_enter Tryd.func17, Tryd.ntmps17
  go_wp2_with (first | ((with_reducible refine gate_callee (f := 15) rfl ?_); refine goesL_ (some 10) rfl rfl Tryd.func15 (by kernel_rfl) rfl #[.int .i64 a0] rfl (by (try simp only [List.map_toArray, List.map_cons, List.map_nil]); first | done | rfl | (simp only [List.length_drop, List.length_take]; rfl)) ?_; (with_reducible refine (when_Right.calls a0 false _ A2.out).mono ?_); rintro e w' ⟨rfl, ⟨nd, rfl⟩⟩; refine ⟨_, rfl, ?_⟩))
  go_ret2
  exact ⟨by first | rfl | (simp [errW_none, errW_some] <;> rfl) | (simp [*, errW_none, errW_some] <;> rfl), by repeat (first | (with_reducible first | exact HB.out | apply below_alloc | apply pw_below_drewN | apply below_drew1) | exact HB.out)⟩

end Go.Proofs.YtiffbkfgimifbaaDoor.Print

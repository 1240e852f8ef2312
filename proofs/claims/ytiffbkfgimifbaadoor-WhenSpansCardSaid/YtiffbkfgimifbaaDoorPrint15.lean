-- Written by a program of this seat: functions of the program as Lean functions, and that its calls come to them.
import Derived.Test.YtiffbkfgimifbaaDoorPrint0
import Derived.Test.YtiffbkfgimifbaaDoorPrint14
namespace Go.Proofs.YtiffbkfgimifbaaDoor.Print
open Go.RowKit Go.Proofs.YtiffbkfgimifbaaDoorW.PrintWords Go.Proofs.YtiffbkfgimifbaaDoorW.PrintLast Go.Proofs.YtiffbkfgimifbaaDoorW.PrintMore
attribute [local go_sem] max2_int min2_int max_two min_two max_three min_three max_four min_four   -- for this text's walks alone
set_option linter.unusedVariables false
set_option linter.unusedSimpArgs false

/-! ### posthornref12_sum: function 41 -/
mutual
def posthornref12_sum.j0 : Nat → List (S64) → Bool → Option (Int)
 | 0, _, _ => none
 | k + 1, x0, x16 => if x16 = true then (if 0 < (x0.length : Int) then (some (wrap64 (604800 * ((rd_T64 x0 0).f0)))) else (none)) else (posthornref12_sum.l0 k x0 0 0)
def posthornref12_sum.l0 : Nat → List (S64) → Int → Int → Option (Int)
 | 0, _, _, _ => none
 | k + 1, x0, x3, x4 => if x4 < (x0.length : Int) then (if 0 ≤ x4 then ((posthornref12_order.f ((rd_T64 x0 x4).f1)).bind fun t287 => (if t287 < 0 then (some (-1)) else (if x4 = 0 then (posthornref12_sum.j2 k x0 x3 x4 t287 (decide (t287 > 1))) else (posthornref12_sum.j2 k x0 x3 x4 t287 false)))) else (none)) else (if (x0.length : Int) = 0 then (some (-1)) else (if 0 ≤ (wrap64 ((x0.length : Int) - 1)) then (if (wrap64 ((x0.length : Int) - 1)) < (x0.length : Int) then (if ((rd_T64 x0 (wrap64 ((x0.length : Int) - 1))).f1) = 84 then (some (-1)) else (some x3)) else (none)) else (none)))
def posthornref12_sum.j2 : Nat → List (S64) → Int → Int → Int → Bool → Option (Int)
 | 0, _, _, _, _, _ => none
 | k + 1, x0, x3, x4, x5, x41 => if x41 = true then (some (-1)) else (if x4 > 0 then (if 0 ≤ (wrap64 (x4 - 1)) then (if (wrap64 (x4 - 1)) < (x0.length : Int) then ((posthornref12_order.f ((rd_T64 x0 (wrap64 (x4 - 1))).f1)).bind fun t289 => (if t289 = 0 then (if x5 = 1 then (if t289 = 1 then (if x5 < 2 then (some (-1)) else (if t289 ≥ 2 then (if x5 = (wrap64 (t289 + 1)) then (if 0 ≤ x4 then (if x4 < (x0.length : Int) then ((posthornref12_worth.f ((rd_T64 x0 x4).f1)).bind fun t292 => (posthornref12_sum.l0 k x0 (wrap64 (x3 + (wrap64 (((rd_T64 x0 x4).f0) * t292)))) (wrap64 (x4 + 1)))) else (none)) else (none)) else (some (-1))) else (if 0 ≤ x4 then (if x4 < (x0.length : Int) then ((posthornref12_worth.f ((rd_T64 x0 x4).f1)).bind fun t295 => (posthornref12_sum.l0 k x0 (wrap64 (x3 + (wrap64 (((rd_T64 x0 x4).f0) * t295)))) (wrap64 (x4 + 1)))) else (none)) else (none)))) else (if t289 ≥ 2 then (if x5 = (wrap64 (t289 + 1)) then (if 0 ≤ x4 then (if x4 < (x0.length : Int) then ((posthornref12_worth.f ((rd_T64 x0 x4).f1)).bind fun t298 => (posthornref12_sum.l0 k x0 (wrap64 (x3 + (wrap64 (((rd_T64 x0 x4).f0) * t298)))) (wrap64 (x4 + 1)))) else (none)) else (none)) else (some (-1))) else (if 0 ≤ x4 then (if x4 < (x0.length : Int) then ((posthornref12_worth.f ((rd_T64 x0 x4).f1)).bind fun t301 => (posthornref12_sum.l0 k x0 (wrap64 (x3 + (wrap64 (((rd_T64 x0 x4).f0) * t301)))) (wrap64 (x4 + 1)))) else (none)) else (none)))) else (some (-1))) else (if t289 = 1 then (if x5 < 2 then (some (-1)) else (if t289 ≥ 2 then (if x5 = (wrap64 (t289 + 1)) then (if 0 ≤ x4 then (if x4 < (x0.length : Int) then ((posthornref12_worth.f ((rd_T64 x0 x4).f1)).bind fun t304 => (posthornref12_sum.l0 k x0 (wrap64 (x3 + (wrap64 (((rd_T64 x0 x4).f0) * t304)))) (wrap64 (x4 + 1)))) else (none)) else (none)) else (some (-1))) else (if 0 ≤ x4 then (if x4 < (x0.length : Int) then ((posthornref12_worth.f ((rd_T64 x0 x4).f1)).bind fun t307 => (posthornref12_sum.l0 k x0 (wrap64 (x3 + (wrap64 (((rd_T64 x0 x4).f0) * t307)))) (wrap64 (x4 + 1)))) else (none)) else (none)))) else (if t289 ≥ 2 then (if x5 = (wrap64 (t289 + 1)) then (if 0 ≤ x4 then (if x4 < (x0.length : Int) then ((posthornref12_worth.f ((rd_T64 x0 x4).f1)).bind fun t310 => (posthornref12_sum.l0 k x0 (wrap64 (x3 + (wrap64 (((rd_T64 x0 x4).f0) * t310)))) (wrap64 (x4 + 1)))) else (none)) else (none)) else (some (-1))) else (if 0 ≤ x4 then (if x4 < (x0.length : Int) then ((posthornref12_worth.f ((rd_T64 x0 x4).f1)).bind fun t313 => (posthornref12_sum.l0 k x0 (wrap64 (x3 + (wrap64 (((rd_T64 x0 x4).f0) * t313)))) (wrap64 (x4 + 1)))) else (none)) else (none)))))) else (none)) else (none)) else (if 0 ≤ x4 then (if x4 < (x0.length : Int) then ((posthornref12_worth.f ((rd_T64 x0 x4).f1)).bind fun t316 => (posthornref12_sum.l0 k x0 (wrap64 (x3 + (wrap64 (((rd_T64 x0 x4).f0) * t316)))) (wrap64 (x4 + 1)))) else (none)) else (none)))
end
def posthornref12_sum.f (k : Nat) (l0 : List (S64)) : Option (Int) := if (l0.length : Int) = 1 then (if 0 < (l0.length : Int) then (posthornref12_sum.j0 k l0 (((rd_T64 l0 0).f1) == 87)) else (none)) else (posthornref12_sum.j0 k l0 false)
theorem posthornref12_sum.mono_l : ∀ k, (∀ y0 y1, LeO (posthornref12_sum.j0 k y0 y1) (posthornref12_sum.j0 (k + 1) y0 y1)) ∧ (∀ y0 y1 y2, LeO (posthornref12_sum.l0 k y0 y1 y2) (posthornref12_sum.l0 (k + 1) y0 y1 y2)) ∧ (∀ y0 y1 y2 y3 y4, LeO (posthornref12_sum.j2 k y0 y1 y2 y3 y4) (posthornref12_sum.j2 (k + 1) y0 y1 y2 y3 y4))
 | 0 => ⟨fun _ _ r h => by simp [posthornref12_sum.j0] at h, fun _ _ _ r h => by simp [posthornref12_sum.l0] at h, fun _ _ _ _ _ r h => by simp [posthornref12_sum.j2] at h⟩
 | k + 1 => by
  obtain ⟨ih0, ih1, ih2⟩ := posthornref12_sum.mono_l k
  refine ⟨?_, ?_, ?_⟩
  ·
   intro y0 y1
   unfold posthornref12_sum.j0
   repeat' first
   | (with_reducible exact ih0 _ _)
   | (with_reducible exact ih1 _ _ _)
   | (with_reducible exact ih2 _ _ _ _ _)
   | (with_reducible exact LeO.refl _)
   | (with_reducible exact LeO.none _)
   | (with_reducible refine LeO.ite ?_ ?_)
   | (with_reducible refine LeO.bind ?_ (fun _ => ?_))
   | exact ih0 _ _
   | exact ih1 _ _ _
   | exact ih2 _ _ _ _ _
   | exact LeO.none _
   | refine LeO.ite ?_ ?_
   | refine LeO.bind ?_ (fun _ => ?_)
  ·
   intro y0 y1 y2
   unfold posthornref12_sum.l0
   repeat' first
   | (with_reducible exact ih0 _ _)
   | (with_reducible exact ih1 _ _ _)
   | (with_reducible exact ih2 _ _ _ _ _)
   | (with_reducible exact LeO.refl _)
   | (with_reducible exact LeO.none _)
   | (with_reducible refine LeO.ite ?_ ?_)
   | (with_reducible refine LeO.bind ?_ (fun _ => ?_))
   | exact ih0 _ _
   | exact ih1 _ _ _
   | exact ih2 _ _ _ _ _
   | exact LeO.none _
   | refine LeO.ite ?_ ?_
   | refine LeO.bind ?_ (fun _ => ?_)
  ·
   intro y0 y1 y2 y3 y4
   unfold posthornref12_sum.j2
   repeat' first
   | (with_reducible exact ih0 _ _)
   | (with_reducible exact ih1 _ _ _)
   | (with_reducible exact ih2 _ _ _ _ _)
   | (with_reducible exact LeO.refl _)
   | (with_reducible exact LeO.none _)
   | (with_reducible refine LeO.ite ?_ ?_)
   | (with_reducible refine LeO.bind ?_ (fun _ => ?_))
   | exact ih0 _ _
   | exact ih1 _ _ _
   | exact ih2 _ _ _ _ _
   | exact LeO.none _
   | refine LeO.ite ?_ ?_
   | refine LeO.bind ?_ (fun _ => ?_)
theorem posthornref12_sum.mono : ∀ a0 k, LeO (posthornref12_sum.f k a0) (posthornref12_sum.f (k + 1) a0) := by
 intro a0 k
 obtain ⟨ih0, ih1, ih2⟩ := posthornref12_sum.mono_l k
 unfold posthornref12_sum.f
 repeat' first
   | (with_reducible exact ih0 _ _)
   | (with_reducible exact ih1 _ _ _)
   | (with_reducible exact ih2 _ _ _ _ _)
   | (with_reducible exact LeO.refl _)
   | (with_reducible exact LeO.none _)
   | (with_reducible refine LeO.ite ?_ ?_)
   | (with_reducible refine LeO.bind ?_ (fun _ => ?_))
   | exact ih0 _ _
   | exact ih1 _ _ _
   | exact ih2 _ _ _ _ _
   | exact LeO.none _
   | refine LeO.ite ?_ ?_
   | refine LeO.bind ?_ (fun _ => ?_)
set_option maxHeartbeats 8000000 in
set_option maxRecDepth 100000 in
theorem posthornref12_sum.calls (k : Nat) (A0 : Option Addr) (c0 : Nat) (l0 : List (S64)) (r : Int) (w : World) (hr0 : Kd.C k64 w A0 l0.length l0) (hc0 : l0.length ≤ c0) (h : posthornref12_sum.f k l0 = some r) :
  Calls Tryd.prog 41 #[.slice A0 l0.length c0] w fun e w' => e = .returned (.int .i64 r) ∧ Drawn0 w w' := by
 have HR0 := Aside0.mk hr0
 have HC0 := Aside0.mk hc0
 clear hr0 hc0
 have H : (if (l0.length : Int) = 1 then (if 0 < (l0.length : Int) then (posthornref12_sum.j0 k l0 (((rd_T64 l0 0).f1) == 87)) else (none)) else (posthornref12_sum.j0 k l0 false)) = some r := h
 clear h
 have HC2 := Aside0.mk H
 clear H
 go_enter Tryd.func41, Tryd.ntmps41
 go_upto_region 1 with (fail)
 repeat (go_quiet (fail); go_upto_region 1 with (fail))
 go_cut [16] (fun v16 wc => ∃ (kq : Nat) (x16_1 : Bool), v16 = .bool x16_1 ∧ Aside0 (posthornref12_sum.j0 kq l0 x16_1 = some r) ∧ Aside0 (kq ≤ k) ∧ Drawn0 w wc)
 case first =>
  have H := HC2.out
  clear HC2
  by_cases c3 : (l0.length : Int) = 1
  ·
   rw [if_pos c3] at H
   have c3b0 : ((l0.length : Int) == 1) = true := beq_iff_eq.mpr c3
   have c3b1 : ((l0.length : Int) != 1) = false := bne_eq_false_iff_eq.mpr c3
   clear c3
   (first | rw [c3b0] | (simp only [i64_w, i32_w]; rw [c3b0]) | skip)
   by_cases c4 : 0 < (l0.length : Int)
   ·
    rw [if_pos c4] at H
    have c4b0 : decide (0 < (l0.length : Int)) = true := decide_eq_true c4
    have c4b1 : decide (0 < l0.length) = true := decide_eq_true (by omega)
    clear c4
    have H' := Aside0.mk H
    clear H
    have p283 : 0 ≤ (0 : Int) := (by omega)
    have q283 : 0 < (l0.length : Int) := of_decide_eq_true (by first | (with_reducible assumption) | assumption)
    obtain ⟨ad283, e283, hx283_0, hx283_1⟩ := at_T64 HR0.out 0 p283 q283
    cases e283
    have qi283 : (0 < l0.length) = True := eq_true (by omega)
    (try rw [show ((0 : Int)).toNat = 0 from rfl] at hx283_0)
    (try rw [show 0 * 2 = 0 from rfl] at hx283_0)
    (try rw [Addr.add_zero'] at hx283_0)
    (try rw [show ((0 : Int)).toNat = 0 from rfl] at hx283_1)
    (try rw [show 0 * 2 = 0 from rfl] at hx283_1)
    (try rw [Addr.add_zero'] at hx283_1)
    replace p283 := eq_true p283
    replace q283 := eq_true q283
    go_wp2
    repeat (go_quiet (fail); try go_wp2)
    go_meet
    case rel => exact ⟨_, ((((rd_T64 l0 0).f1) == 87)), (by first | rfl | (simp; done) | (simp [*]; done)), H', ⟨by first | omega | exact Nat.le_refl _⟩, by repeat (first | exact Drawn0.refl _ | apply Drawn0.step)⟩
   ·
    rw [if_neg c4] at H
    exact absurd H (by simp)
  ·
   rw [if_neg c3] at H
   have c3b0 : ((l0.length : Int) == 1) = false := beq_eq_false_iff_ne.mpr c3
   have c3b1 : ((l0.length : Int) != 1) = true := bne_iff_ne.mpr c3
   (first | rw [c3b0] | (simp only [i64_w, i32_w]; rw [c3b0]) | skip)
   have H' := Aside0.mk H
   clear H
   go_wp2
   repeat (go_quiet (fail); try go_wp2)
   go_meet
   case rel => exact ⟨_, (false), (by first | rfl | (simp; done) | (simp [*]; done)), H', ⟨by first | omega | exact Nat.le_refl _⟩, by repeat (first | exact Drawn0.refl _ | apply Drawn0.step)⟩
 case rest =>
  clear HC2
  try clear p2
  try clear q2
  try clear hx2
  try clear qi2
  try clear c3
  try clear c3b0
  try clear c3b1
  try clear c4
  try clear c4b0
  try clear c4b1
  try clear hx283_0
  try clear hx283_1
  try clear p283
  try clear q283
  obtain ⟨kq, x16_1, rfl, HA, HJ1, ⟨mc1, rfl⟩⟩ := hcut
  cases kq with
  | zero => exact absurd HA.out (by simp [posthornref12_sum.j0])
  | succ kj1 =>
   have H := HA.out
   clear HA
   simp only [posthornref12_sum.j0] at H
   by_cases c5 : x16_1 = true
   ·
    subst c5
    have H1 : (if 0 < (l0.length : Int) then (some (wrap64 (604800 * ((rd_T64 l0 0).f0)))) else (none)) = some r := by rw [if_pos rfl] at H; exact H
    clear H
    have H := H1
    clear H1
    by_cases c6 : 0 < (l0.length : Int)
    ·
     rw [if_pos c6] at H
     have c6b0 : decide (0 < (l0.length : Int)) = true := decide_eq_true c6
     have c6b1 : decide (0 < l0.length) = true := decide_eq_true (by omega)
     clear c6
     obtain rfl := Option.some.inj H
     have p284 : 0 ≤ (0 : Int) := (by omega)
     have q284 : 0 < (l0.length : Int) := of_decide_eq_true (by first | (with_reducible assumption) | assumption)
     obtain ⟨ad284, e284, hx284_0, hx284_1⟩ := at_T64 HR0.out 0 p284 q284
     cases e284
     have qi284 : (0 < l0.length) = True := eq_true (by omega)
     (try rw [show ((0 : Int)).toNat = 0 from rfl] at hx284_0)
     (try rw [show 0 * 2 = 0 from rfl] at hx284_0)
     (try rw [Addr.add_zero'] at hx284_0)
     (try rw [show ((0 : Int)).toNat = 0 from rfl] at hx284_1)
     (try rw [show 0 * 2 = 0 from rfl] at hx284_1)
     (try rw [Addr.add_zero'] at hx284_1)
     replace p284 := eq_true p284
     replace q284 := eq_true q284
     go_wp2
     repeat (go_quiet (fail); try go_wp2)
     go_ret
     exact ⟨by first | rfl | (simp; done) | (simp [*]; done), by repeat (first | exact Drawn0.refl _ | apply Drawn0.step)⟩
    ·
     rw [if_neg c6] at H
     exact absurd H (by simp)
   ·
    replace c5 := Bool.eq_false_iff.mpr c5
    subst c5
    have H1 : (posthornref12_sum.l0 kj1 l0 0 0) = some r := by rw [if_neg (show ¬ (false = true) by decide)] at H; exact H
    clear H
    have H := H1
    clear H1
    have H' := Aside0.mk H
    clear H
    go_wp2
    repeat (go_quiet (fail); try go_wp2)
    go_loopg [3, 4] kj1 (fun kq v3 v4 w' => ∃ (x3_2 : Int) (x4_2 : Int), v3 = .int .i64 x3_2 ∧ v4 = .int .i64 x4_2 ∧ Aside0 (posthornref12_sum.l0 kq l0 x3_2 x4_2 = some r) ∧ Aside0 (kq ≤ kj1) ∧ Drawn0 w w')
    case atStart => exact ⟨(0), (0), (by first | rfl | (simp; done) | (simp [*]; done)), (by first | rfl | (simp; done) | (simp [*]; done)), H', ⟨Nat.le_refl _⟩, by repeat (first | exact Drawn0.refl _ | apply Drawn0.step)⟩
    case round =>
     clear H'
     try clear c1
     try clear p2
     try clear q2
     try clear hx2
     try clear qi2
     try clear c3
     try clear c3b0
     try clear c3b1
     try clear c4
     try clear c4b0
     try clear c4b1
     try clear c5
     try clear c6
     try clear c6b0
     try clear c6b1
     try clear p6
     try clear hx283_0
     try clear hx283_1
     try clear hx284_0
     try clear hx284_1
     try clear p2
     try clear p283
     try clear p284
     try clear q2
     try clear q283
     try clear q284
     obtain ⟨x3_2, x4_2, rfl, rfl, HA, HK2, ⟨m2, rfl⟩⟩ := hrel
     cases gk with
     | zero => exact absurd HA.out (by simp [posthornref12_sum.l0])
     | succ k2 =>
      have H := HA.out
      clear HA
      simp only [posthornref12_sum.l0] at H
      by_cases c7 : x4_2 < (l0.length : Int)
      ·
       rw [if_pos c7] at H
       have c7b0 : decide (x4_2 < (l0.length : Int)) = true := decide_eq_true c7
       clear c7
       by_cases c8 : 0 ≤ x4_2
       ·
        rw [if_pos c8] at H
        have c8b0 : decide (0 ≤ x4_2) = true := decide_eq_true c8
        clear c8
        replace H := Option.bind_eq_some_iff.mp H
        obtain ⟨t287, A90, H⟩ := H
        replace H : (if t287 < 0 then (some (-1)) else (if x4_2 = 0 then (posthornref12_sum.j2 k2 l0 x3_2 x4_2 t287 (decide (t287 > 1))) else (posthornref12_sum.j2 k2 l0 x3_2 x4_2 t287 false))) = some r := H
        have A9 := Aside0.mk A90
        clear A90
        by_cases c10 : t287 < 0
        ·
         rw [if_pos c10] at H
         have c10b0 : decide (t287 < 0) = true := decide_eq_true c10
         clear c10
         obtain rfl := Option.some.inj H
         have p286 : 0 ≤ (x4_2 : Int) := of_decide_eq_true (by first | (with_reducible assumption) | assumption)
         have q286 : x4_2 < (l0.length : Int) := of_decide_eq_true (by first | (with_reducible assumption) | assumption)
         obtain ⟨ad286, e286, hx286_0, hx286_1⟩ := at_T64 HR0.out x4_2 p286 q286
         cases e286
         replace p286 := eq_true p286
         replace q286 := eq_true q286
         go_wp2_with (first | (go_at_call 49; (with_reducible refine (posthornref12_order.calls ((rd_T64 l0 x4_2).f1) t287 _ A9.out).mono ?_); rintro e w' ⟨rfl, ⟨nd, rfl⟩⟩; (try first | exact ⟨rfl, _, World.drewN_drewN _ _ _⟩ | exact ⟨rfl, _, Eq.trans (World.drewN_drewN _ _ _) (congrArg (World.drewN _) (Nat.add_assoc _ _ _))⟩)))
         repeat (go_quiet (first | (go_at_call 49; (with_reducible refine (posthornref12_order.calls ((rd_T64 l0 x4_2).f1) t287 _ A9.out).mono ?_); rintro e w' ⟨rfl, ⟨nd, rfl⟩⟩; (try first | exact ⟨rfl, _, World.drewN_drewN _ _ _⟩ | exact ⟨rfl, _, Eq.trans (World.drewN_drewN _ _ _) (congrArg (World.drewN _) (Nat.add_assoc _ _ _))⟩))); try go_wp2_with (first | (go_at_call 49; (with_reducible refine (posthornref12_order.calls ((rd_T64 l0 x4_2).f1) t287 _ A9.out).mono ?_); rintro e w' ⟨rfl, ⟨nd, rfl⟩⟩; (try first | exact ⟨rfl, _, World.drewN_drewN _ _ _⟩ | exact ⟨rfl, _, Eq.trans (World.drewN_drewN _ _ _) (congrArg (World.drewN _) (Nat.add_assoc _ _ _))⟩))))
         go_ret
         exact ⟨by first | rfl | (simp; done) | (simp [*]; done), by repeat (first | exact Drawn0.refl _ | apply Drawn0.step)⟩
        ·
         rw [if_neg c10] at H
         have c10b0 : decide (t287 < 0) = false := decide_eq_false c10
         clear c10
         have HC11 := Aside0.mk H
         clear H
         have p286 : 0 ≤ (x4_2 : Int) := of_decide_eq_true (by first | (with_reducible assumption) | assumption)
         have q286 : x4_2 < (l0.length : Int) := of_decide_eq_true (by first | (with_reducible assumption) | assumption)
         obtain ⟨ad286, e286, hx286_0, hx286_1⟩ := at_T64 HR0.out x4_2 p286 q286
         cases e286
         replace p286 := eq_true p286
         replace q286 := eq_true q286
         go_upto_region 10 with (first | (go_at_call 49; (with_reducible refine (posthornref12_order.calls ((rd_T64 l0 x4_2).f1) t287 _ A9.out).mono ?_); rintro e w' ⟨rfl, ⟨nd, rfl⟩⟩; (try first | exact ⟨rfl, _, World.drewN_drewN _ _ _⟩ | exact ⟨rfl, _, Eq.trans (World.drewN_drewN _ _ _) (congrArg (World.drewN _) (Nat.add_assoc _ _ _))⟩)))
         repeat (go_quiet (first | (go_at_call 49; (with_reducible refine (posthornref12_order.calls ((rd_T64 l0 x4_2).f1) t287 _ A9.out).mono ?_); rintro e w' ⟨rfl, ⟨nd, rfl⟩⟩; (try first | exact ⟨rfl, _, World.drewN_drewN _ _ _⟩ | exact ⟨rfl, _, Eq.trans (World.drewN_drewN _ _ _) (congrArg (World.drewN _) (Nat.add_assoc _ _ _))⟩))); go_upto_region 10 with (first | (go_at_call 49; (with_reducible refine (posthornref12_order.calls ((rd_T64 l0 x4_2).f1) t287 _ A9.out).mono ?_); rintro e w' ⟨rfl, ⟨nd, rfl⟩⟩; (try first | exact ⟨rfl, _, World.drewN_drewN _ _ _⟩ | exact ⟨rfl, _, Eq.trans (World.drewN_drewN _ _ _) (congrArg (World.drewN _) (Nat.add_assoc _ _ _))⟩))))
         (try simp only [Act.put, List.setIfInBounds_toArray, List.set_cons_zero, List.set_cons_succ])
         go_cut [41] (fun v41 wc => ∃ (kq : Nat) (x41_10 : Bool), v41 = .bool x41_10 ∧ Aside0 (posthornref12_sum.j2 kq l0 x3_2 x4_2 t287 x41_10 = some r) ∧ Aside0 (kq ≤ k2) ∧ Drawn0 w wc)
         case first =>
          have H := HC11.out
          clear HC11
          by_cases c12 : x4_2 = 0
          ·
           rw [if_pos c12] at H
           have c12b0 : (x4_2 == 0) = true := beq_iff_eq.mpr c12
           have c12b1 : (x4_2 != 0) = false := bne_eq_false_iff_eq.mpr c12
           clear c12
           (first | rw [c12b0] | (simp only [i64_w, i32_w]; rw [c12b0]) | skip)
           have H' := Aside0.mk H
           clear H
           go_wp2
           repeat (go_quiet (fail); try go_wp2)
           go_meet
           case rel => exact ⟨_, (decide (t287 > 1)), (by first | rfl | (simp; done) | (simp [*]; done)), H', ⟨by have := HJ1.out; have := HK2.out; first | omega | exact Nat.le_refl _⟩, by repeat (first | exact Drawn0.refl _ | apply Drawn0.step)⟩
          ·
           rw [if_neg c12] at H
           have c12b0 : (x4_2 == 0) = false := beq_eq_false_iff_ne.mpr c12
           have c12b1 : (x4_2 != 0) = true := bne_iff_ne.mpr c12
           (first | rw [c12b0] | (simp only [i64_w, i32_w]; rw [c12b0]) | skip)
           have H' := Aside0.mk H
           clear H
           go_wp2
           repeat (go_quiet (fail); try go_wp2)
           go_meet
           case rel => exact ⟨_, (false), (by first | rfl | (simp; done) | (simp [*]; done)), H', ⟨by have := HJ1.out; have := HK2.out; first | omega | exact Nat.le_refl _⟩, by repeat (first | exact Drawn0.refl _ | apply Drawn0.step)⟩
         case rest =>
          clear HC11
          try clear c1
          try clear p2
          try clear q2
          try clear hx2
          try clear qi2
          try clear c3
          try clear c3b0
          try clear c3b1
          try clear c4
          try clear c4b0
          try clear c4b1
          try clear c5
          try clear c6
          try clear c6b0
          try clear c6b1
          try clear p6
          try clear c7
          try clear c7b0
          try clear c8
          try clear c8b0
          try clear c10
          try clear c10b0
          try clear c12
          try clear c12b0
          try clear c12b1
          try clear hx283_0
          try clear hx283_1
          try clear hx284_0
          try clear hx284_1
          try clear hx286_0
          try clear hx286_1
          try clear p2
          try clear p283
          try clear p284
          try clear p286
          try clear p6
          try clear q2
          try clear q283
          try clear q284
          try clear q286
          obtain ⟨kq, x41_10, rfl, HA, HJ10, ⟨mc10, rfl⟩⟩ := hcut
          cases kq with
          | zero => exact absurd HA.out (by simp [posthornref12_sum.j2])
          | succ kj10 =>
           have H := HA.out
           clear HA
           simp only [posthornref12_sum.j2] at H
           by_cases c13 : x41_10 = true
           ·
            subst c13
            have H1 : (some (-1)) = some r := by rw [if_pos rfl] at H; exact H
            clear H
            have H := H1
            clear H1
            obtain rfl := Option.some.inj H
            go_wp2
            repeat (go_quiet (fail); try go_wp2)
            go_ret
            exact ⟨by first | rfl | (simp; done) | (simp [*]; done), by repeat (first | exact Drawn0.refl _ | apply Drawn0.step)⟩
           ·
            replace c13 := Bool.eq_false_iff.mpr c13
            subst c13
            have H1 : (if x4_2 > 0 then (if 0 ≤ (wrap64 (x4_2 - 1)) then (if (wrap64 (x4_2 - 1)) < (l0.length : Int) then ((posthornref12_order.f ((rd_T64 l0 (wrap64 (x4_2 - 1))).f1)).bind fun t289 => (if t289 = 0 then (if t287 = 1 then (if t289 = 1 then (if t287 < 2 then (some (-1)) else (if t289 ≥ 2 then (if t287 = (wrap64 (t289 + 1)) then (if 0 ≤ x4_2 then (if x4_2 < (l0.length : Int) then ((posthornref12_worth.f ((rd_T64 l0 x4_2).f1)).bind fun t292 => (posthornref12_sum.l0 kj10 l0 (wrap64 (x3_2 + (wrap64 (((rd_T64 l0 x4_2).f0) * t292)))) (wrap64 (x4_2 + 1)))) else (none)) else (none)) else (some (-1))) else (if 0 ≤ x4_2 then (if x4_2 < (l0.length : Int) then ((posthornref12_worth.f ((rd_T64 l0 x4_2).f1)).bind fun t295 => (posthornref12_sum.l0 kj10 l0 (wrap64 (x3_2 + (wrap64 (((rd_T64 l0 x4_2).f0) * t295)))) (wrap64 (x4_2 + 1)))) else (none)) else (none)))) else (if t289 ≥ 2 then (if t287 = (wrap64 (t289 + 1)) then (if 0 ≤ x4_2 then (if x4_2 < (l0.length : Int) then ((posthornref12_worth.f ((rd_T64 l0 x4_2).f1)).bind fun t298 => (posthornref12_sum.l0 kj10 l0 (wrap64 (x3_2 + (wrap64 (((rd_T64 l0 x4_2).f0) * t298)))) (wrap64 (x4_2 + 1)))) else (none)) else (none)) else (some (-1))) else (if 0 ≤ x4_2 then (if x4_2 < (l0.length : Int) then ((posthornref12_worth.f ((rd_T64 l0 x4_2).f1)).bind fun t301 => (posthornref12_sum.l0 kj10 l0 (wrap64 (x3_2 + (wrap64 (((rd_T64 l0 x4_2).f0) * t301)))) (wrap64 (x4_2 + 1)))) else (none)) else (none)))) else (some (-1))) else (if t289 = 1 then (if t287 < 2 then (some (-1)) else (if t289 ≥ 2 then (if t287 = (wrap64 (t289 + 1)) then (if 0 ≤ x4_2 then (if x4_2 < (l0.length : Int) then ((posthornref12_worth.f ((rd_T64 l0 x4_2).f1)).bind fun t304 => (posthornref12_sum.l0 kj10 l0 (wrap64 (x3_2 + (wrap64 (((rd_T64 l0 x4_2).f0) * t304)))) (wrap64 (x4_2 + 1)))) else (none)) else (none)) else (some (-1))) else (if 0 ≤ x4_2 then (if x4_2 < (l0.length : Int) then ((posthornref12_worth.f ((rd_T64 l0 x4_2).f1)).bind fun t307 => (posthornref12_sum.l0 kj10 l0 (wrap64 (x3_2 + (wrap64 (((rd_T64 l0 x4_2).f0) * t307)))) (wrap64 (x4_2 + 1)))) else (none)) else (none)))) else (if t289 ≥ 2 then (if t287 = (wrap64 (t289 + 1)) then (if 0 ≤ x4_2 then (if x4_2 < (l0.length : Int) then ((posthornref12_worth.f ((rd_T64 l0 x4_2).f1)).bind fun t310 => (posthornref12_sum.l0 kj10 l0 (wrap64 (x3_2 + (wrap64 (((rd_T64 l0 x4_2).f0) * t310)))) (wrap64 (x4_2 + 1)))) else (none)) else (none)) else (some (-1))) else (if 0 ≤ x4_2 then (if x4_2 < (l0.length : Int) then ((posthornref12_worth.f ((rd_T64 l0 x4_2).f1)).bind fun t313 => (posthornref12_sum.l0 kj10 l0 (wrap64 (x3_2 + (wrap64 (((rd_T64 l0 x4_2).f0) * t313)))) (wrap64 (x4_2 + 1)))) else (none)) else (none)))))) else (none)) else (none)) else (if 0 ≤ x4_2 then (if x4_2 < (l0.length : Int) then ((posthornref12_worth.f ((rd_T64 l0 x4_2).f1)).bind fun t316 => (posthornref12_sum.l0 kj10 l0 (wrap64 (x3_2 + (wrap64 (((rd_T64 l0 x4_2).f0) * t316)))) (wrap64 (x4_2 + 1)))) else (none)) else (none))) = some r := by rw [if_neg (show ¬ (false = true) by decide)] at H; exact H
            clear H
            have H := H1
            clear H1
            by_cases c14 : x4_2 > 0
            ·
             rw [if_pos c14] at H
             have c14b0 : decide (0 < x4_2) = true := decide_eq_true c14
             clear c14
             obtain ⟨ji15, hji15⟩ : ∃ j_ : Int, (wrap64 (x4_2 - 1)) = j_ := ⟨_, rfl⟩
             replace H : (if 0 ≤ (ji15) then (if (ji15) < (l0.length : Int) then ((posthornref12_order.f ((rd_T64 l0 (ji15)).f1)).bind fun t289 => (if t289 = 0 then (if t287 = 1 then (if t289 = 1 then (if t287 < 2 then (some (-1)) else (if t289 ≥ 2 then (if t287 = (wrap64 (t289 + 1)) then (if 0 ≤ x4_2 then (if x4_2 < (l0.length : Int) then ((posthornref12_worth.f ((rd_T64 l0 x4_2).f1)).bind fun t292 => (posthornref12_sum.l0 kj10 l0 (wrap64 (x3_2 + (wrap64 (((rd_T64 l0 x4_2).f0) * t292)))) (wrap64 (x4_2 + 1)))) else (none)) else (none)) else (some (-1))) else (if 0 ≤ x4_2 then (if x4_2 < (l0.length : Int) then ((posthornref12_worth.f ((rd_T64 l0 x4_2).f1)).bind fun t295 => (posthornref12_sum.l0 kj10 l0 (wrap64 (x3_2 + (wrap64 (((rd_T64 l0 x4_2).f0) * t295)))) (wrap64 (x4_2 + 1)))) else (none)) else (none)))) else (if t289 ≥ 2 then (if t287 = (wrap64 (t289 + 1)) then (if 0 ≤ x4_2 then (if x4_2 < (l0.length : Int) then ((posthornref12_worth.f ((rd_T64 l0 x4_2).f1)).bind fun t298 => (posthornref12_sum.l0 kj10 l0 (wrap64 (x3_2 + (wrap64 (((rd_T64 l0 x4_2).f0) * t298)))) (wrap64 (x4_2 + 1)))) else (none)) else (none)) else (some (-1))) else (if 0 ≤ x4_2 then (if x4_2 < (l0.length : Int) then ((posthornref12_worth.f ((rd_T64 l0 x4_2).f1)).bind fun t301 => (posthornref12_sum.l0 kj10 l0 (wrap64 (x3_2 + (wrap64 (((rd_T64 l0 x4_2).f0) * t301)))) (wrap64 (x4_2 + 1)))) else (none)) else (none)))) else (some (-1))) else (if t289 = 1 then (if t287 < 2 then (some (-1)) else (if t289 ≥ 2 then (if t287 = (wrap64 (t289 + 1)) then (if 0 ≤ x4_2 then (if x4_2 < (l0.length : Int) then ((posthornref12_worth.f ((rd_T64 l0 x4_2).f1)).bind fun t304 => (posthornref12_sum.l0 kj10 l0 (wrap64 (x3_2 + (wrap64 (((rd_T64 l0 x4_2).f0) * t304)))) (wrap64 (x4_2 + 1)))) else (none)) else (none)) else (some (-1))) else (if 0 ≤ x4_2 then (if x4_2 < (l0.length : Int) then ((posthornref12_worth.f ((rd_T64 l0 x4_2).f1)).bind fun t307 => (posthornref12_sum.l0 kj10 l0 (wrap64 (x3_2 + (wrap64 (((rd_T64 l0 x4_2).f0) * t307)))) (wrap64 (x4_2 + 1)))) else (none)) else (none)))) else (if t289 ≥ 2 then (if t287 = (wrap64 (t289 + 1)) then (if 0 ≤ x4_2 then (if x4_2 < (l0.length : Int) then ((posthornref12_worth.f ((rd_T64 l0 x4_2).f1)).bind fun t310 => (posthornref12_sum.l0 kj10 l0 (wrap64 (x3_2 + (wrap64 (((rd_T64 l0 x4_2).f0) * t310)))) (wrap64 (x4_2 + 1)))) else (none)) else (none)) else (some (-1))) else (if 0 ≤ x4_2 then (if x4_2 < (l0.length : Int) then ((posthornref12_worth.f ((rd_T64 l0 x4_2).f1)).bind fun t313 => (posthornref12_sum.l0 kj10 l0 (wrap64 (x3_2 + (wrap64 (((rd_T64 l0 x4_2).f0) * t313)))) (wrap64 (x4_2 + 1)))) else (none)) else (none)))))) else (none)) else (none)) = some r := by first | (rw [hji15] at H; exact H) | (simp only [hji15] at H ⊢; exact H)
             have hji15w : (IntKind.i64.wrap (x4_2 - 1)) = ji15 := (i64_w _).trans hji15
             by_cases c16 : 0 ≤ (ji15)
             ·
              rw [if_pos c16] at H
              have c16b0 : decide (0 ≤ (ji15)) = true := decide_eq_true c16
              clear c16
              by_cases c17 : (ji15) < (l0.length : Int)
              ·
               rw [if_pos c17] at H
               have c17b0 : decide ((ji15) < (l0.length : Int)) = true := decide_eq_true c17
               clear c17
               replace H := Option.bind_eq_some_iff.mp H
               obtain ⟨t289, A180, H⟩ := H
               replace H : (if t289 = 0 then (if t287 = 1 then (if t289 = 1 then (if t287 < 2 then (some (-1)) else (if t289 ≥ 2 then (if t287 = (wrap64 (t289 + 1)) then (if 0 ≤ x4_2 then (if x4_2 < (l0.length : Int) then ((posthornref12_worth.f ((rd_T64 l0 x4_2).f1)).bind fun t292 => (posthornref12_sum.l0 kj10 l0 (wrap64 (x3_2 + (wrap64 (((rd_T64 l0 x4_2).f0) * t292)))) (wrap64 (x4_2 + 1)))) else (none)) else (none)) else (some (-1))) else (if 0 ≤ x4_2 then (if x4_2 < (l0.length : Int) then ((posthornref12_worth.f ((rd_T64 l0 x4_2).f1)).bind fun t295 => (posthornref12_sum.l0 kj10 l0 (wrap64 (x3_2 + (wrap64 (((rd_T64 l0 x4_2).f0) * t295)))) (wrap64 (x4_2 + 1)))) else (none)) else (none)))) else (if t289 ≥ 2 then (if t287 = (wrap64 (t289 + 1)) then (if 0 ≤ x4_2 then (if x4_2 < (l0.length : Int) then ((posthornref12_worth.f ((rd_T64 l0 x4_2).f1)).bind fun t298 => (posthornref12_sum.l0 kj10 l0 (wrap64 (x3_2 + (wrap64 (((rd_T64 l0 x4_2).f0) * t298)))) (wrap64 (x4_2 + 1)))) else (none)) else (none)) else (some (-1))) else (if 0 ≤ x4_2 then (if x4_2 < (l0.length : Int) then ((posthornref12_worth.f ((rd_T64 l0 x4_2).f1)).bind fun t301 => (posthornref12_sum.l0 kj10 l0 (wrap64 (x3_2 + (wrap64 (((rd_T64 l0 x4_2).f0) * t301)))) (wrap64 (x4_2 + 1)))) else (none)) else (none)))) else (some (-1))) else (if t289 = 1 then (if t287 < 2 then (some (-1)) else (if t289 ≥ 2 then (if t287 = (wrap64 (t289 + 1)) then (if 0 ≤ x4_2 then (if x4_2 < (l0.length : Int) then ((posthornref12_worth.f ((rd_T64 l0 x4_2).f1)).bind fun t304 => (posthornref12_sum.l0 kj10 l0 (wrap64 (x3_2 + (wrap64 (((rd_T64 l0 x4_2).f0) * t304)))) (wrap64 (x4_2 + 1)))) else (none)) else (none)) else (some (-1))) else (if 0 ≤ x4_2 then (if x4_2 < (l0.length : Int) then ((posthornref12_worth.f ((rd_T64 l0 x4_2).f1)).bind fun t307 => (posthornref12_sum.l0 kj10 l0 (wrap64 (x3_2 + (wrap64 (((rd_T64 l0 x4_2).f0) * t307)))) (wrap64 (x4_2 + 1)))) else (none)) else (none)))) else (if t289 ≥ 2 then (if t287 = (wrap64 (t289 + 1)) then (if 0 ≤ x4_2 then (if x4_2 < (l0.length : Int) then ((posthornref12_worth.f ((rd_T64 l0 x4_2).f1)).bind fun t310 => (posthornref12_sum.l0 kj10 l0 (wrap64 (x3_2 + (wrap64 (((rd_T64 l0 x4_2).f0) * t310)))) (wrap64 (x4_2 + 1)))) else (none)) else (none)) else (some (-1))) else (if 0 ≤ x4_2 then (if x4_2 < (l0.length : Int) then ((posthornref12_worth.f ((rd_T64 l0 x4_2).f1)).bind fun t313 => (posthornref12_sum.l0 kj10 l0 (wrap64 (x3_2 + (wrap64 (((rd_T64 l0 x4_2).f0) * t313)))) (wrap64 (x4_2 + 1)))) else (none)) else (none))))) = some r := H
               have A18 := Aside0.mk A180
               clear A180
               by_cases c19 : t289 = 0
               ·
                rw [if_pos c19] at H
                have c19b0 : (t289 == 0) = true := beq_iff_eq.mpr c19
                have c19b1 : (t289 != 0) = false := bne_eq_false_iff_eq.mpr c19
                clear c19
                by_cases c20 : t287 = 1
                ·
                 rw [if_pos c20] at H
                 have c20b0 : (t287 == 1) = true := beq_iff_eq.mpr c20
                 have c20b1 : (t287 != 1) = false := bne_eq_false_iff_eq.mpr c20
                 clear c20
                 by_cases c21 : t289 = 1
                 ·
                  rw [if_pos c21] at H
                  have c21b0 : (t289 == 1) = true := beq_iff_eq.mpr c21
                  have c21b1 : (t289 != 1) = false := bne_eq_false_iff_eq.mpr c21
                  clear c21
                  by_cases c22 : t287 < 2
                  ·
                   rw [if_pos c22] at H
                   have c22b0 : decide (t287 < 2) = true := decide_eq_true c22
                   clear c22
                   obtain rfl := Option.some.inj H
                   have p288 : 0 ≤ ((ji15) : Int) := of_decide_eq_true (by first | (with_reducible assumption) | assumption)
                   have q288 : (ji15) < (l0.length : Int) := of_decide_eq_true (by first | (with_reducible assumption) | assumption)
                   obtain ⟨ad288, e288, hx288_0, hx288_1⟩ := at_T64 HR0.out (ji15) p288 q288
                   obtain rfl : ad286 = ad288 := (by injection e288)
                   replace p288 := eq_true p288
                   replace q288 := eq_true q288
                   go_wp2_with (first | (go_at_call 49; (with_reducible refine (posthornref12_order.calls ((rd_T64 l0 (ji15)).f1) t289 _ A18.out).mono ?_); rintro e w' ⟨rfl, ⟨nd, rfl⟩⟩; (try first | exact ⟨rfl, _, World.drewN_drewN _ _ _⟩ | exact ⟨rfl, _, Eq.trans (World.drewN_drewN _ _ _) (congrArg (World.drewN _) (Nat.add_assoc _ _ _))⟩)))
                   repeat (go_quiet (first | (go_at_call 49; (with_reducible refine (posthornref12_order.calls ((rd_T64 l0 (ji15)).f1) t289 _ A18.out).mono ?_); rintro e w' ⟨rfl, ⟨nd, rfl⟩⟩; (try first | exact ⟨rfl, _, World.drewN_drewN _ _ _⟩ | exact ⟨rfl, _, Eq.trans (World.drewN_drewN _ _ _) (congrArg (World.drewN _) (Nat.add_assoc _ _ _))⟩))); try go_wp2_with (first | (go_at_call 49; (with_reducible refine (posthornref12_order.calls ((rd_T64 l0 (ji15)).f1) t289 _ A18.out).mono ?_); rintro e w' ⟨rfl, ⟨nd, rfl⟩⟩; (try first | exact ⟨rfl, _, World.drewN_drewN _ _ _⟩ | exact ⟨rfl, _, Eq.trans (World.drewN_drewN _ _ _) (congrArg (World.drewN _) (Nat.add_assoc _ _ _))⟩))))
                   go_ret
                   exact ⟨by first | rfl | (simp; done) | (simp only [← hji15] <;> (first | rfl | simp)) | (simp [*]; done), by repeat (first | exact Drawn0.refl _ | apply Drawn0.step)⟩
                  ·
                   rw [if_neg c22] at H
                   have c22b0 : decide (t287 < 2) = false := decide_eq_false c22
                   clear c22
                   by_cases c23 : t289 ≥ 2
                   ·
                    rw [if_pos c23] at H
                    have c23b0 : decide (2 ≤ t289) = true := decide_eq_true c23
                    clear c23
                    by_cases c24 : t287 = (wrap64 (t289 + 1))
                    ·
                     rw [if_pos c24] at H
                     have c24b0 : (t287 == (wrap64 (t289 + 1))) = true := beq_iff_eq.mpr c24
                     have c24b1 : (t287 != (wrap64 (t289 + 1))) = false := bne_eq_false_iff_eq.mpr c24
                     clear c24
                     by_cases c25 : 0 ≤ x4_2
                     ·
                      rw [if_pos c25] at H
                      have c25b0 : decide (0 ≤ x4_2) = true := decide_eq_true c25
                      clear c25
                      by_cases c26 : x4_2 < (l0.length : Int)
                      ·
                       rw [if_pos c26] at H
                       have c26b0 : decide (x4_2 < (l0.length : Int)) = true := decide_eq_true c26
                       clear c26
                       replace H := Option.bind_eq_some_iff.mp H
                       obtain ⟨t292, A270, H⟩ := H
                       replace H : (posthornref12_sum.l0 kj10 l0 (wrap64 (x3_2 + (wrap64 (((rd_T64 l0 x4_2).f0) * t292)))) (wrap64 (x4_2 + 1))) = some r := H
                       have A27 := Aside0.mk A270
                       clear A270
                       have H' := Aside0.mk H
                       clear H
                       have p288 : 0 ≤ ((ji15) : Int) := of_decide_eq_true (by first | (with_reducible assumption) | assumption)
                       have q288 : (ji15) < (l0.length : Int) := of_decide_eq_true (by first | (with_reducible assumption) | assumption)
                       obtain ⟨ad288, e288, hx288_0, hx288_1⟩ := at_T64 HR0.out (ji15) p288 q288
                       obtain rfl : ad286 = ad288 := (by injection e288)
                       replace p288 := eq_true p288
                       replace q288 := eq_true q288
                       go_wp2_with (first | (go_at_call 49; (with_reducible refine (posthornref12_order.calls ((rd_T64 l0 (ji15)).f1) t289 _ A18.out).mono ?_); rintro e w' ⟨rfl, ⟨nd, rfl⟩⟩; (try first | exact ⟨rfl, _, World.drewN_drewN _ _ _⟩ | exact ⟨rfl, _, Eq.trans (World.drewN_drewN _ _ _) (congrArg (World.drewN _) (Nat.add_assoc _ _ _))⟩); have p290 : 0 ≤ (x4_2 : Int) := of_decide_eq_true (by first | (with_reducible assumption) | assumption); have q290 : x4_2 < (l0.length : Int) := of_decide_eq_true (by first | (with_reducible assumption) | assumption); obtain ⟨ad290, e290, hx290_0, hx290_1⟩ := at_T64 HR0.out x4_2 p290 q290; obtain rfl : ad286 = ad290 := (by injection e290); replace p290 := eq_true p290; replace q290 := eq_true q290; have p291 : 0 ≤ (x4_2 : Int) := of_decide_eq_true (by first | (with_reducible assumption) | assumption); have q291 : x4_2 < (l0.length : Int) := of_decide_eq_true (by first | (with_reducible assumption) | assumption); obtain ⟨ad291, e291, hx291_0, hx291_1⟩ := at_T64 HR0.out x4_2 p291 q291; obtain rfl : ad286 = ad291 := (by injection e291); replace p291 := eq_true p291; replace q291 := eq_true q291) | (go_at_call 50; (with_reducible refine (posthornref12_worth.calls ((rd_T64 l0 x4_2).f1) t292 _ A27.out).mono ?_); rintro e w' ⟨rfl, ⟨nd, rfl⟩⟩; (try first | exact ⟨rfl, _, World.drewN_drewN _ _ _⟩ | exact ⟨rfl, _, Eq.trans (World.drewN_drewN _ _ _) (congrArg (World.drewN _) (Nat.add_assoc _ _ _))⟩)))
                       repeat (go_quiet (first | (go_at_call 49; (with_reducible refine (posthornref12_order.calls ((rd_T64 l0 (ji15)).f1) t289 _ A18.out).mono ?_); rintro e w' ⟨rfl, ⟨nd, rfl⟩⟩; (try first | exact ⟨rfl, _, World.drewN_drewN _ _ _⟩ | exact ⟨rfl, _, Eq.trans (World.drewN_drewN _ _ _) (congrArg (World.drewN _) (Nat.add_assoc _ _ _))⟩); have p290 : 0 ≤ (x4_2 : Int) := of_decide_eq_true (by first | (with_reducible assumption) | assumption); have q290 : x4_2 < (l0.length : Int) := of_decide_eq_true (by first | (with_reducible assumption) | assumption); obtain ⟨ad290, e290, hx290_0, hx290_1⟩ := at_T64 HR0.out x4_2 p290 q290; obtain rfl : ad286 = ad290 := (by injection e290); replace p290 := eq_true p290; replace q290 := eq_true q290; have p291 : 0 ≤ (x4_2 : Int) := of_decide_eq_true (by first | (with_reducible assumption) | assumption); have q291 : x4_2 < (l0.length : Int) := of_decide_eq_true (by first | (with_reducible assumption) | assumption); obtain ⟨ad291, e291, hx291_0, hx291_1⟩ := at_T64 HR0.out x4_2 p291 q291; obtain rfl : ad286 = ad291 := (by injection e291); replace p291 := eq_true p291; replace q291 := eq_true q291) | (go_at_call 50; (with_reducible refine (posthornref12_worth.calls ((rd_T64 l0 x4_2).f1) t292 _ A27.out).mono ?_); rintro e w' ⟨rfl, ⟨nd, rfl⟩⟩; (try first | exact ⟨rfl, _, World.drewN_drewN _ _ _⟩ | exact ⟨rfl, _, Eq.trans (World.drewN_drewN _ _ _) (congrArg (World.drewN _) (Nat.add_assoc _ _ _))⟩))); try go_wp2_with (first | (go_at_call 49; (with_reducible refine (posthornref12_order.calls ((rd_T64 l0 (ji15)).f1) t289 _ A18.out).mono ?_); rintro e w' ⟨rfl, ⟨nd, rfl⟩⟩; (try first | exact ⟨rfl, _, World.drewN_drewN _ _ _⟩ | exact ⟨rfl, _, Eq.trans (World.drewN_drewN _ _ _) (congrArg (World.drewN _) (Nat.add_assoc _ _ _))⟩); have p290 : 0 ≤ (x4_2 : Int) := of_decide_eq_true (by first | (with_reducible assumption) | assumption); have q290 : x4_2 < (l0.length : Int) := of_decide_eq_true (by first | (with_reducible assumption) | assumption); obtain ⟨ad290, e290, hx290_0, hx290_1⟩ := at_T64 HR0.out x4_2 p290 q290; obtain rfl : ad286 = ad290 := (by injection e290); replace p290 := eq_true p290; replace q290 := eq_true q290; have p291 : 0 ≤ (x4_2 : Int) := of_decide_eq_true (by first | (with_reducible assumption) | assumption); have q291 : x4_2 < (l0.length : Int) := of_decide_eq_true (by first | (with_reducible assumption) | assumption); obtain ⟨ad291, e291, hx291_0, hx291_1⟩ := at_T64 HR0.out x4_2 p291 q291; obtain rfl : ad286 = ad291 := (by injection e291); replace p291 := eq_true p291; replace q291 := eq_true q291) | (go_at_call 50; (with_reducible refine (posthornref12_worth.calls ((rd_T64 l0 x4_2).f1) t292 _ A27.out).mono ?_); rintro e w' ⟨rfl, ⟨nd, rfl⟩⟩; (try first | exact ⟨rfl, _, World.drewN_drewN _ _ _⟩ | exact ⟨rfl, _, Eq.trans (World.drewN_drewN _ _ _) (congrArg (World.drewN _) (Nat.add_assoc _ _ _))⟩))))
                       go_roundg kj10
                       case measure => have := HJ1.out; have := HK2.out; have := HJ10.out; omega
                       case rel => exact ⟨(wrap64 (x3_2 + (wrap64 (((rd_T64 l0 x4_2).f0) * t292)))), (wrap64 (x4_2 + 1)), (by first | rfl | (simp; done) | (simp [*]; done)), (by first | rfl | (simp; done) | (simp [*]; done)), H', ⟨by have := HJ1.out; have := HK2.out; have := HJ10.out; omega⟩, by repeat (first | exact Drawn0.refl _ | apply Drawn0.step)⟩
                      ·
                       rw [if_neg c26] at H
                       exact absurd H (by simp)
                     ·
                      rw [if_neg c25] at H
                      exact absurd H (by simp)
                    ·
                     rw [if_neg c24] at H
                     have c24b0 : (t287 == (wrap64 (t289 + 1))) = false := beq_eq_false_iff_ne.mpr c24
                     have c24b1 : (t287 != (wrap64 (t289 + 1))) = true := bne_iff_ne.mpr c24
                     obtain rfl := Option.some.inj H
                     have p288 : 0 ≤ ((ji15) : Int) := of_decide_eq_true (by first | (with_reducible assumption) | assumption)
                     have q288 : (ji15) < (l0.length : Int) := of_decide_eq_true (by first | (with_reducible assumption) | assumption)
                     obtain ⟨ad288, e288, hx288_0, hx288_1⟩ := at_T64 HR0.out (ji15) p288 q288
                     obtain rfl : ad286 = ad288 := (by injection e288)
                     replace p288 := eq_true p288
                     replace q288 := eq_true q288
                     go_wp2_with (first | (go_at_call 49; (with_reducible refine (posthornref12_order.calls ((rd_T64 l0 (ji15)).f1) t289 _ A18.out).mono ?_); rintro e w' ⟨rfl, ⟨nd, rfl⟩⟩; (try first | exact ⟨rfl, _, World.drewN_drewN _ _ _⟩ | exact ⟨rfl, _, Eq.trans (World.drewN_drewN _ _ _) (congrArg (World.drewN _) (Nat.add_assoc _ _ _))⟩)))
                     repeat (go_quiet (first | (go_at_call 49; (with_reducible refine (posthornref12_order.calls ((rd_T64 l0 (ji15)).f1) t289 _ A18.out).mono ?_); rintro e w' ⟨rfl, ⟨nd, rfl⟩⟩; (try first | exact ⟨rfl, _, World.drewN_drewN _ _ _⟩ | exact ⟨rfl, _, Eq.trans (World.drewN_drewN _ _ _) (congrArg (World.drewN _) (Nat.add_assoc _ _ _))⟩))); try go_wp2_with (first | (go_at_call 49; (with_reducible refine (posthornref12_order.calls ((rd_T64 l0 (ji15)).f1) t289 _ A18.out).mono ?_); rintro e w' ⟨rfl, ⟨nd, rfl⟩⟩; (try first | exact ⟨rfl, _, World.drewN_drewN _ _ _⟩ | exact ⟨rfl, _, Eq.trans (World.drewN_drewN _ _ _) (congrArg (World.drewN _) (Nat.add_assoc _ _ _))⟩))))
                     go_ret
                     exact ⟨by first | rfl | (simp; done) | (simp only [← hji15] <;> (first | rfl | simp)) | (simp [*]; done), by repeat (first | exact Drawn0.refl _ | apply Drawn0.step)⟩
                   ·
                    rw [if_neg c23] at H
                    have c23b0 : decide (2 ≤ t289) = false := decide_eq_false c23
                    clear c23
                    by_cases c28 : 0 ≤ x4_2
                    ·
                     rw [if_pos c28] at H
                     have c28b0 : decide (0 ≤ x4_2) = true := decide_eq_true c28
                     clear c28
                     by_cases c29 : x4_2 < (l0.length : Int)
                     ·
                      rw [if_pos c29] at H
                      have c29b0 : decide (x4_2 < (l0.length : Int)) = true := decide_eq_true c29
                      clear c29
                      replace H := Option.bind_eq_some_iff.mp H
                      obtain ⟨t295, A300, H⟩ := H
                      replace H : (posthornref12_sum.l0 kj10 l0 (wrap64 (x3_2 + (wrap64 (((rd_T64 l0 x4_2).f0) * t295)))) (wrap64 (x4_2 + 1))) = some r := H
                      have A30 := Aside0.mk A300
                      clear A300
                      have H' := Aside0.mk H
                      clear H
                      have p288 : 0 ≤ ((ji15) : Int) := of_decide_eq_true (by first | (with_reducible assumption) | assumption)
                      have q288 : (ji15) < (l0.length : Int) := of_decide_eq_true (by first | (with_reducible assumption) | assumption)
                      obtain ⟨ad288, e288, hx288_0, hx288_1⟩ := at_T64 HR0.out (ji15) p288 q288
                      obtain rfl : ad286 = ad288 := (by injection e288)
                      replace p288 := eq_true p288
                      replace q288 := eq_true q288
                      go_wp2_with (first | (go_at_call 49; (with_reducible refine (posthornref12_order.calls ((rd_T64 l0 (ji15)).f1) t289 _ A18.out).mono ?_); rintro e w' ⟨rfl, ⟨nd, rfl⟩⟩; (try first | exact ⟨rfl, _, World.drewN_drewN _ _ _⟩ | exact ⟨rfl, _, Eq.trans (World.drewN_drewN _ _ _) (congrArg (World.drewN _) (Nat.add_assoc _ _ _))⟩); have p293 : 0 ≤ (x4_2 : Int) := of_decide_eq_true (by first | (with_reducible assumption) | assumption); have q293 : x4_2 < (l0.length : Int) := of_decide_eq_true (by first | (with_reducible assumption) | assumption); obtain ⟨ad293, e293, hx293_0, hx293_1⟩ := at_T64 HR0.out x4_2 p293 q293; obtain rfl : ad286 = ad293 := (by injection e293); replace p293 := eq_true p293; replace q293 := eq_true q293; have p294 : 0 ≤ (x4_2 : Int) := of_decide_eq_true (by first | (with_reducible assumption) | assumption); have q294 : x4_2 < (l0.length : Int) := of_decide_eq_true (by first | (with_reducible assumption) | assumption); obtain ⟨ad294, e294, hx294_0, hx294_1⟩ := at_T64 HR0.out x4_2 p294 q294; obtain rfl : ad286 = ad294 := (by injection e294); replace p294 := eq_true p294; replace q294 := eq_true q294) | (go_at_call 50; (with_reducible refine (posthornref12_worth.calls ((rd_T64 l0 x4_2).f1) t295 _ A30.out).mono ?_); rintro e w' ⟨rfl, ⟨nd, rfl⟩⟩; (try first | exact ⟨rfl, _, World.drewN_drewN _ _ _⟩ | exact ⟨rfl, _, Eq.trans (World.drewN_drewN _ _ _) (congrArg (World.drewN _) (Nat.add_assoc _ _ _))⟩)))
                      repeat (go_quiet (first | (go_at_call 49; (with_reducible refine (posthornref12_order.calls ((rd_T64 l0 (ji15)).f1) t289 _ A18.out).mono ?_); rintro e w' ⟨rfl, ⟨nd, rfl⟩⟩; (try first | exact ⟨rfl, _, World.drewN_drewN _ _ _⟩ | exact ⟨rfl, _, Eq.trans (World.drewN_drewN _ _ _) (congrArg (World.drewN _) (Nat.add_assoc _ _ _))⟩); have p293 : 0 ≤ (x4_2 : Int) := of_decide_eq_true (by first | (with_reducible assumption) | assumption); have q293 : x4_2 < (l0.length : Int) := of_decide_eq_true (by first | (with_reducible assumption) | assumption); obtain ⟨ad293, e293, hx293_0, hx293_1⟩ := at_T64 HR0.out x4_2 p293 q293; obtain rfl : ad286 = ad293 := (by injection e293); replace p293 := eq_true p293; replace q293 := eq_true q293; have p294 : 0 ≤ (x4_2 : Int) := of_decide_eq_true (by first | (with_reducible assumption) | assumption); have q294 : x4_2 < (l0.length : Int) := of_decide_eq_true (by first | (with_reducible assumption) | assumption); obtain ⟨ad294, e294, hx294_0, hx294_1⟩ := at_T64 HR0.out x4_2 p294 q294; obtain rfl : ad286 = ad294 := (by injection e294); replace p294 := eq_true p294; replace q294 := eq_true q294) | (go_at_call 50; (with_reducible refine (posthornref12_worth.calls ((rd_T64 l0 x4_2).f1) t295 _ A30.out).mono ?_); rintro e w' ⟨rfl, ⟨nd, rfl⟩⟩; (try first | exact ⟨rfl, _, World.drewN_drewN _ _ _⟩ | exact ⟨rfl, _, Eq.trans (World.drewN_drewN _ _ _) (congrArg (World.drewN _) (Nat.add_assoc _ _ _))⟩))); try go_wp2_with (first | (go_at_call 49; (with_reducible refine (posthornref12_order.calls ((rd_T64 l0 (ji15)).f1) t289 _ A18.out).mono ?_); rintro e w' ⟨rfl, ⟨nd, rfl⟩⟩; (try first | exact ⟨rfl, _, World.drewN_drewN _ _ _⟩ | exact ⟨rfl, _, Eq.trans (World.drewN_drewN _ _ _) (congrArg (World.drewN _) (Nat.add_assoc _ _ _))⟩); have p293 : 0 ≤ (x4_2 : Int) := of_decide_eq_true (by first | (with_reducible assumption) | assumption); have q293 : x4_2 < (l0.length : Int) := of_decide_eq_true (by first | (with_reducible assumption) | assumption); obtain ⟨ad293, e293, hx293_0, hx293_1⟩ := at_T64 HR0.out x4_2 p293 q293; obtain rfl : ad286 = ad293 := (by injection e293); replace p293 := eq_true p293; replace q293 := eq_true q293; have p294 : 0 ≤ (x4_2 : Int) := of_decide_eq_true (by first | (with_reducible assumption) | assumption); have q294 : x4_2 < (l0.length : Int) := of_decide_eq_true (by first | (with_reducible assumption) | assumption); obtain ⟨ad294, e294, hx294_0, hx294_1⟩ := at_T64 HR0.out x4_2 p294 q294; obtain rfl : ad286 = ad294 := (by injection e294); replace p294 := eq_true p294; replace q294 := eq_true q294) | (go_at_call 50; (with_reducible refine (posthornref12_worth.calls ((rd_T64 l0 x4_2).f1) t295 _ A30.out).mono ?_); rintro e w' ⟨rfl, ⟨nd, rfl⟩⟩; (try first | exact ⟨rfl, _, World.drewN_drewN _ _ _⟩ | exact ⟨rfl, _, Eq.trans (World.drewN_drewN _ _ _) (congrArg (World.drewN _) (Nat.add_assoc _ _ _))⟩))))
                      go_roundg kj10
                      case measure => have := HJ1.out; have := HK2.out; have := HJ10.out; omega
                      case rel => exact ⟨(wrap64 (x3_2 + (wrap64 (((rd_T64 l0 x4_2).f0) * t295)))), (wrap64 (x4_2 + 1)), (by first | rfl | (simp; done) | (simp [*]; done)), (by first | rfl | (simp; done) | (simp [*]; done)), H', ⟨by have := HJ1.out; have := HK2.out; have := HJ10.out; omega⟩, by repeat (first | exact Drawn0.refl _ | apply Drawn0.step)⟩
                     ·
                      rw [if_neg c29] at H
                      exact absurd H (by simp)
                    ·
                     rw [if_neg c28] at H
                     exact absurd H (by simp)
                 ·
                  rw [if_neg c21] at H
                  have c21b0 : (t289 == 1) = false := beq_eq_false_iff_ne.mpr c21
                  have c21b1 : (t289 != 1) = true := bne_iff_ne.mpr c21
                  by_cases c31 : t289 ≥ 2
                  ·
                   rw [if_pos c31] at H
                   have c31b0 : decide (2 ≤ t289) = true := decide_eq_true c31
                   clear c31
                   by_cases c32 : t287 = (wrap64 (t289 + 1))
                   ·
                    rw [if_pos c32] at H
                    have c32b0 : (t287 == (wrap64 (t289 + 1))) = true := beq_iff_eq.mpr c32
                    have c32b1 : (t287 != (wrap64 (t289 + 1))) = false := bne_eq_false_iff_eq.mpr c32
                    clear c32
                    by_cases c33 : 0 ≤ x4_2
                    ·
                     rw [if_pos c33] at H
                     have c33b0 : decide (0 ≤ x4_2) = true := decide_eq_true c33
                     clear c33
                     by_cases c34 : x4_2 < (l0.length : Int)
                     ·
                      rw [if_pos c34] at H
                      have c34b0 : decide (x4_2 < (l0.length : Int)) = true := decide_eq_true c34
                      clear c34
                      replace H := Option.bind_eq_some_iff.mp H
                      obtain ⟨t298, A350, H⟩ := H
                      replace H : (posthornref12_sum.l0 kj10 l0 (wrap64 (x3_2 + (wrap64 (((rd_T64 l0 x4_2).f0) * t298)))) (wrap64 (x4_2 + 1))) = some r := H
                      have A35 := Aside0.mk A350
                      clear A350
                      have H' := Aside0.mk H
                      clear H
                      have p288 : 0 ≤ ((ji15) : Int) := of_decide_eq_true (by first | (with_reducible assumption) | assumption)
                      have q288 : (ji15) < (l0.length : Int) := of_decide_eq_true (by first | (with_reducible assumption) | assumption)
                      obtain ⟨ad288, e288, hx288_0, hx288_1⟩ := at_T64 HR0.out (ji15) p288 q288
                      obtain rfl : ad286 = ad288 := (by injection e288)
                      replace p288 := eq_true p288
                      replace q288 := eq_true q288
                      go_wp2_with (first | (go_at_call 49; (with_reducible refine (posthornref12_order.calls ((rd_T64 l0 (ji15)).f1) t289 _ A18.out).mono ?_); rintro e w' ⟨rfl, ⟨nd, rfl⟩⟩; (try first | exact ⟨rfl, _, World.drewN_drewN _ _ _⟩ | exact ⟨rfl, _, Eq.trans (World.drewN_drewN _ _ _) (congrArg (World.drewN _) (Nat.add_assoc _ _ _))⟩); have p296 : 0 ≤ (x4_2 : Int) := of_decide_eq_true (by first | (with_reducible assumption) | assumption); have q296 : x4_2 < (l0.length : Int) := of_decide_eq_true (by first | (with_reducible assumption) | assumption); obtain ⟨ad296, e296, hx296_0, hx296_1⟩ := at_T64 HR0.out x4_2 p296 q296; obtain rfl : ad286 = ad296 := (by injection e296); replace p296 := eq_true p296; replace q296 := eq_true q296; have p297 : 0 ≤ (x4_2 : Int) := of_decide_eq_true (by first | (with_reducible assumption) | assumption); have q297 : x4_2 < (l0.length : Int) := of_decide_eq_true (by first | (with_reducible assumption) | assumption); obtain ⟨ad297, e297, hx297_0, hx297_1⟩ := at_T64 HR0.out x4_2 p297 q297; obtain rfl : ad286 = ad297 := (by injection e297); replace p297 := eq_true p297; replace q297 := eq_true q297) | (go_at_call 50; (with_reducible refine (posthornref12_worth.calls ((rd_T64 l0 x4_2).f1) t298 _ A35.out).mono ?_); rintro e w' ⟨rfl, ⟨nd, rfl⟩⟩; (try first | exact ⟨rfl, _, World.drewN_drewN _ _ _⟩ | exact ⟨rfl, _, Eq.trans (World.drewN_drewN _ _ _) (congrArg (World.drewN _) (Nat.add_assoc _ _ _))⟩)))
                      repeat (go_quiet (first | (go_at_call 49; (with_reducible refine (posthornref12_order.calls ((rd_T64 l0 (ji15)).f1) t289 _ A18.out).mono ?_); rintro e w' ⟨rfl, ⟨nd, rfl⟩⟩; (try first | exact ⟨rfl, _, World.drewN_drewN _ _ _⟩ | exact ⟨rfl, _, Eq.trans (World.drewN_drewN _ _ _) (congrArg (World.drewN _) (Nat.add_assoc _ _ _))⟩); have p296 : 0 ≤ (x4_2 : Int) := of_decide_eq_true (by first | (with_reducible assumption) | assumption); have q296 : x4_2 < (l0.length : Int) := of_decide_eq_true (by first | (with_reducible assumption) | assumption); obtain ⟨ad296, e296, hx296_0, hx296_1⟩ := at_T64 HR0.out x4_2 p296 q296; obtain rfl : ad286 = ad296 := (by injection e296); replace p296 := eq_true p296; replace q296 := eq_true q296; have p297 : 0 ≤ (x4_2 : Int) := of_decide_eq_true (by first | (with_reducible assumption) | assumption); have q297 : x4_2 < (l0.length : Int) := of_decide_eq_true (by first | (with_reducible assumption) | assumption); obtain ⟨ad297, e297, hx297_0, hx297_1⟩ := at_T64 HR0.out x4_2 p297 q297; obtain rfl : ad286 = ad297 := (by injection e297); replace p297 := eq_true p297; replace q297 := eq_true q297) | (go_at_call 50; (with_reducible refine (posthornref12_worth.calls ((rd_T64 l0 x4_2).f1) t298 _ A35.out).mono ?_); rintro e w' ⟨rfl, ⟨nd, rfl⟩⟩; (try first | exact ⟨rfl, _, World.drewN_drewN _ _ _⟩ | exact ⟨rfl, _, Eq.trans (World.drewN_drewN _ _ _) (congrArg (World.drewN _) (Nat.add_assoc _ _ _))⟩))); try go_wp2_with (first | (go_at_call 49; (with_reducible refine (posthornref12_order.calls ((rd_T64 l0 (ji15)).f1) t289 _ A18.out).mono ?_); rintro e w' ⟨rfl, ⟨nd, rfl⟩⟩; (try first | exact ⟨rfl, _, World.drewN_drewN _ _ _⟩ | exact ⟨rfl, _, Eq.trans (World.drewN_drewN _ _ _) (congrArg (World.drewN _) (Nat.add_assoc _ _ _))⟩); have p296 : 0 ≤ (x4_2 : Int) := of_decide_eq_true (by first | (with_reducible assumption) | assumption); have q296 : x4_2 < (l0.length : Int) := of_decide_eq_true (by first | (with_reducible assumption) | assumption); obtain ⟨ad296, e296, hx296_0, hx296_1⟩ := at_T64 HR0.out x4_2 p296 q296; obtain rfl : ad286 = ad296 := (by injection e296); replace p296 := eq_true p296; replace q296 := eq_true q296; have p297 : 0 ≤ (x4_2 : Int) := of_decide_eq_true (by first | (with_reducible assumption) | assumption); have q297 : x4_2 < (l0.length : Int) := of_decide_eq_true (by first | (with_reducible assumption) | assumption); obtain ⟨ad297, e297, hx297_0, hx297_1⟩ := at_T64 HR0.out x4_2 p297 q297; obtain rfl : ad286 = ad297 := (by injection e297); replace p297 := eq_true p297; replace q297 := eq_true q297) | (go_at_call 50; (with_reducible refine (posthornref12_worth.calls ((rd_T64 l0 x4_2).f1) t298 _ A35.out).mono ?_); rintro e w' ⟨rfl, ⟨nd, rfl⟩⟩; (try first | exact ⟨rfl, _, World.drewN_drewN _ _ _⟩ | exact ⟨rfl, _, Eq.trans (World.drewN_drewN _ _ _) (congrArg (World.drewN _) (Nat.add_assoc _ _ _))⟩))))
                      go_roundg kj10
                      case measure => have := HJ1.out; have := HK2.out; have := HJ10.out; omega
                      case rel => exact ⟨(wrap64 (x3_2 + (wrap64 (((rd_T64 l0 x4_2).f0) * t298)))), (wrap64 (x4_2 + 1)), (by first | rfl | (simp; done) | (simp [*]; done)), (by first | rfl | (simp; done) | (simp [*]; done)), H', ⟨by have := HJ1.out; have := HK2.out; have := HJ10.out; omega⟩, by repeat (first | exact Drawn0.refl _ | apply Drawn0.step)⟩
                     ·
                      rw [if_neg c34] at H
                      exact absurd H (by simp)
                    ·
                     rw [if_neg c33] at H
                     exact absurd H (by simp)
                   ·
                    rw [if_neg c32] at H
                    have c32b0 : (t287 == (wrap64 (t289 + 1))) = false := beq_eq_false_iff_ne.mpr c32
                    have c32b1 : (t287 != (wrap64 (t289 + 1))) = true := bne_iff_ne.mpr c32
                    obtain rfl := Option.some.inj H
                    have p288 : 0 ≤ ((ji15) : Int) := of_decide_eq_true (by first | (with_reducible assumption) | assumption)
                    have q288 : (ji15) < (l0.length : Int) := of_decide_eq_true (by first | (with_reducible assumption) | assumption)
                    obtain ⟨ad288, e288, hx288_0, hx288_1⟩ := at_T64 HR0.out (ji15) p288 q288
                    obtain rfl : ad286 = ad288 := (by injection e288)
                    replace p288 := eq_true p288
                    replace q288 := eq_true q288
                    go_wp2_with (first | (go_at_call 49; (with_reducible refine (posthornref12_order.calls ((rd_T64 l0 (ji15)).f1) t289 _ A18.out).mono ?_); rintro e w' ⟨rfl, ⟨nd, rfl⟩⟩; (try first | exact ⟨rfl, _, World.drewN_drewN _ _ _⟩ | exact ⟨rfl, _, Eq.trans (World.drewN_drewN _ _ _) (congrArg (World.drewN _) (Nat.add_assoc _ _ _))⟩)))
                    repeat (go_quiet (first | (go_at_call 49; (with_reducible refine (posthornref12_order.calls ((rd_T64 l0 (ji15)).f1) t289 _ A18.out).mono ?_); rintro e w' ⟨rfl, ⟨nd, rfl⟩⟩; (try first | exact ⟨rfl, _, World.drewN_drewN _ _ _⟩ | exact ⟨rfl, _, Eq.trans (World.drewN_drewN _ _ _) (congrArg (World.drewN _) (Nat.add_assoc _ _ _))⟩))); try go_wp2_with (first | (go_at_call 49; (with_reducible refine (posthornref12_order.calls ((rd_T64 l0 (ji15)).f1) t289 _ A18.out).mono ?_); rintro e w' ⟨rfl, ⟨nd, rfl⟩⟩; (try first | exact ⟨rfl, _, World.drewN_drewN _ _ _⟩ | exact ⟨rfl, _, Eq.trans (World.drewN_drewN _ _ _) (congrArg (World.drewN _) (Nat.add_assoc _ _ _))⟩))))
                    go_ret
                    exact ⟨by first | rfl | (simp; done) | (simp only [← hji15] <;> (first | rfl | simp)) | (simp [*]; done), by repeat (first | exact Drawn0.refl _ | apply Drawn0.step)⟩
                  ·
                   rw [if_neg c31] at H
                   have c31b0 : decide (2 ≤ t289) = false := decide_eq_false c31
                   clear c31
                   by_cases c36 : 0 ≤ x4_2
                   ·
                    rw [if_pos c36] at H
                    have c36b0 : decide (0 ≤ x4_2) = true := decide_eq_true c36
                    clear c36
                    by_cases c37 : x4_2 < (l0.length : Int)
                    ·
                     rw [if_pos c37] at H
                     have c37b0 : decide (x4_2 < (l0.length : Int)) = true := decide_eq_true c37
                     clear c37
                     replace H := Option.bind_eq_some_iff.mp H
                     obtain ⟨t301, A380, H⟩ := H
                     replace H : (posthornref12_sum.l0 kj10 l0 (wrap64 (x3_2 + (wrap64 (((rd_T64 l0 x4_2).f0) * t301)))) (wrap64 (x4_2 + 1))) = some r := H
                     have A38 := Aside0.mk A380
                     clear A380
                     have H' := Aside0.mk H
                     clear H
                     have p288 : 0 ≤ ((ji15) : Int) := of_decide_eq_true (by first | (with_reducible assumption) | assumption)
                     have q288 : (ji15) < (l0.length : Int) := of_decide_eq_true (by first | (with_reducible assumption) | assumption)
                     obtain ⟨ad288, e288, hx288_0, hx288_1⟩ := at_T64 HR0.out (ji15) p288 q288
                     obtain rfl : ad286 = ad288 := (by injection e288)
                     replace p288 := eq_true p288
                     replace q288 := eq_true q288
                     go_wp2_with (first | (go_at_call 49; (with_reducible refine (posthornref12_order.calls ((rd_T64 l0 (ji15)).f1) t289 _ A18.out).mono ?_); rintro e w' ⟨rfl, ⟨nd, rfl⟩⟩; (try first | exact ⟨rfl, _, World.drewN_drewN _ _ _⟩ | exact ⟨rfl, _, Eq.trans (World.drewN_drewN _ _ _) (congrArg (World.drewN _) (Nat.add_assoc _ _ _))⟩); have p299 : 0 ≤ (x4_2 : Int) := of_decide_eq_true (by first | (with_reducible assumption) | assumption); have q299 : x4_2 < (l0.length : Int) := of_decide_eq_true (by first | (with_reducible assumption) | assumption); obtain ⟨ad299, e299, hx299_0, hx299_1⟩ := at_T64 HR0.out x4_2 p299 q299; obtain rfl : ad286 = ad299 := (by injection e299); replace p299 := eq_true p299; replace q299 := eq_true q299; have p300 : 0 ≤ (x4_2 : Int) := of_decide_eq_true (by first | (with_reducible assumption) | assumption); have q300 : x4_2 < (l0.length : Int) := of_decide_eq_true (by first | (with_reducible assumption) | assumption); obtain ⟨ad300, e300, hx300_0, hx300_1⟩ := at_T64 HR0.out x4_2 p300 q300; obtain rfl : ad286 = ad300 := (by injection e300); replace p300 := eq_true p300; replace q300 := eq_true q300) | (go_at_call 50; (with_reducible refine (posthornref12_worth.calls ((rd_T64 l0 x4_2).f1) t301 _ A38.out).mono ?_); rintro e w' ⟨rfl, ⟨nd, rfl⟩⟩; (try first | exact ⟨rfl, _, World.drewN_drewN _ _ _⟩ | exact ⟨rfl, _, Eq.trans (World.drewN_drewN _ _ _) (congrArg (World.drewN _) (Nat.add_assoc _ _ _))⟩)))
                     repeat (go_quiet (first | (go_at_call 49; (with_reducible refine (posthornref12_order.calls ((rd_T64 l0 (ji15)).f1) t289 _ A18.out).mono ?_); rintro e w' ⟨rfl, ⟨nd, rfl⟩⟩; (try first | exact ⟨rfl, _, World.drewN_drewN _ _ _⟩ | exact ⟨rfl, _, Eq.trans (World.drewN_drewN _ _ _) (congrArg (World.drewN _) (Nat.add_assoc _ _ _))⟩); have p299 : 0 ≤ (x4_2 : Int) := of_decide_eq_true (by first | (with_reducible assumption) | assumption); have q299 : x4_2 < (l0.length : Int) := of_decide_eq_true (by first | (with_reducible assumption) | assumption); obtain ⟨ad299, e299, hx299_0, hx299_1⟩ := at_T64 HR0.out x4_2 p299 q299; obtain rfl : ad286 = ad299 := (by injection e299); replace p299 := eq_true p299; replace q299 := eq_true q299; have p300 : 0 ≤ (x4_2 : Int) := of_decide_eq_true (by first | (with_reducible assumption) | assumption); have q300 : x4_2 < (l0.length : Int) := of_decide_eq_true (by first | (with_reducible assumption) | assumption); obtain ⟨ad300, e300, hx300_0, hx300_1⟩ := at_T64 HR0.out x4_2 p300 q300; obtain rfl : ad286 = ad300 := (by injection e300); replace p300 := eq_true p300; replace q300 := eq_true q300) | (go_at_call 50; (with_reducible refine (posthornref12_worth.calls ((rd_T64 l0 x4_2).f1) t301 _ A38.out).mono ?_); rintro e w' ⟨rfl, ⟨nd, rfl⟩⟩; (try first | exact ⟨rfl, _, World.drewN_drewN _ _ _⟩ | exact ⟨rfl, _, Eq.trans (World.drewN_drewN _ _ _) (congrArg (World.drewN _) (Nat.add_assoc _ _ _))⟩))); try go_wp2_with (first | (go_at_call 49; (with_reducible refine (posthornref12_order.calls ((rd_T64 l0 (ji15)).f1) t289 _ A18.out).mono ?_); rintro e w' ⟨rfl, ⟨nd, rfl⟩⟩; (try first | exact ⟨rfl, _, World.drewN_drewN _ _ _⟩ | exact ⟨rfl, _, Eq.trans (World.drewN_drewN _ _ _) (congrArg (World.drewN _) (Nat.add_assoc _ _ _))⟩); have p299 : 0 ≤ (x4_2 : Int) := of_decide_eq_true (by first | (with_reducible assumption) | assumption); have q299 : x4_2 < (l0.length : Int) := of_decide_eq_true (by first | (with_reducible assumption) | assumption); obtain ⟨ad299, e299, hx299_0, hx299_1⟩ := at_T64 HR0.out x4_2 p299 q299; obtain rfl : ad286 = ad299 := (by injection e299); replace p299 := eq_true p299; replace q299 := eq_true q299; have p300 : 0 ≤ (x4_2 : Int) := of_decide_eq_true (by first | (with_reducible assumption) | assumption); have q300 : x4_2 < (l0.length : Int) := of_decide_eq_true (by first | (with_reducible assumption) | assumption); obtain ⟨ad300, e300, hx300_0, hx300_1⟩ := at_T64 HR0.out x4_2 p300 q300; obtain rfl : ad286 = ad300 := (by injection e300); replace p300 := eq_true p300; replace q300 := eq_true q300) | (go_at_call 50; (with_reducible refine (posthornref12_worth.calls ((rd_T64 l0 x4_2).f1) t301 _ A38.out).mono ?_); rintro e w' ⟨rfl, ⟨nd, rfl⟩⟩; (try first | exact ⟨rfl, _, World.drewN_drewN _ _ _⟩ | exact ⟨rfl, _, Eq.trans (World.drewN_drewN _ _ _) (congrArg (World.drewN _) (Nat.add_assoc _ _ _))⟩))))
                     go_roundg kj10
                     case measure => have := HJ1.out; have := HK2.out; have := HJ10.out; omega
                     case rel => exact ⟨(wrap64 (x3_2 + (wrap64 (((rd_T64 l0 x4_2).f0) * t301)))), (wrap64 (x4_2 + 1)), (by first | rfl | (simp; done) | (simp [*]; done)), (by first | rfl | (simp; done) | (simp [*]; done)), H', ⟨by have := HJ1.out; have := HK2.out; have := HJ10.out; omega⟩, by repeat (first | exact Drawn0.refl _ | apply Drawn0.step)⟩
                    ·
                     rw [if_neg c37] at H
                     exact absurd H (by simp)
                   ·
                    rw [if_neg c36] at H
                    exact absurd H (by simp)
                ·
                 rw [if_neg c20] at H
                 have c20b0 : (t287 == 1) = false := beq_eq_false_iff_ne.mpr c20
                 have c20b1 : (t287 != 1) = true := bne_iff_ne.mpr c20
                 obtain rfl := Option.some.inj H
                 have p288 : 0 ≤ ((ji15) : Int) := of_decide_eq_true (by first | (with_reducible assumption) | assumption)
                 have q288 : (ji15) < (l0.length : Int) := of_decide_eq_true (by first | (with_reducible assumption) | assumption)
                 obtain ⟨ad288, e288, hx288_0, hx288_1⟩ := at_T64 HR0.out (ji15) p288 q288
                 obtain rfl : ad286 = ad288 := (by injection e288)
                 replace p288 := eq_true p288
                 replace q288 := eq_true q288
                 go_wp2_with (first | (go_at_call 49; (with_reducible refine (posthornref12_order.calls ((rd_T64 l0 (ji15)).f1) t289 _ A18.out).mono ?_); rintro e w' ⟨rfl, ⟨nd, rfl⟩⟩; (try first | exact ⟨rfl, _, World.drewN_drewN _ _ _⟩ | exact ⟨rfl, _, Eq.trans (World.drewN_drewN _ _ _) (congrArg (World.drewN _) (Nat.add_assoc _ _ _))⟩)))
                 repeat (go_quiet (first | (go_at_call 49; (with_reducible refine (posthornref12_order.calls ((rd_T64 l0 (ji15)).f1) t289 _ A18.out).mono ?_); rintro e w' ⟨rfl, ⟨nd, rfl⟩⟩; (try first | exact ⟨rfl, _, World.drewN_drewN _ _ _⟩ | exact ⟨rfl, _, Eq.trans (World.drewN_drewN _ _ _) (congrArg (World.drewN _) (Nat.add_assoc _ _ _))⟩))); try go_wp2_with (first | (go_at_call 49; (with_reducible refine (posthornref12_order.calls ((rd_T64 l0 (ji15)).f1) t289 _ A18.out).mono ?_); rintro e w' ⟨rfl, ⟨nd, rfl⟩⟩; (try first | exact ⟨rfl, _, World.drewN_drewN _ _ _⟩ | exact ⟨rfl, _, Eq.trans (World.drewN_drewN _ _ _) (congrArg (World.drewN _) (Nat.add_assoc _ _ _))⟩))))
                 go_ret
                 exact ⟨by first | rfl | (simp; done) | (simp only [← hji15] <;> (first | rfl | simp)) | (simp [*]; done), by repeat (first | exact Drawn0.refl _ | apply Drawn0.step)⟩
               ·
                rw [if_neg c19] at H
                have c19b0 : (t289 == 0) = false := beq_eq_false_iff_ne.mpr c19
                have c19b1 : (t289 != 0) = true := bne_iff_ne.mpr c19
                by_cases c39 : t289 = 1
                ·
                 rw [if_pos c39] at H
                 have c39b0 : (t289 == 1) = true := beq_iff_eq.mpr c39
                 have c39b1 : (t289 != 1) = false := bne_eq_false_iff_eq.mpr c39
                 clear c39
                 by_cases c40 : t287 < 2
                 ·
                  rw [if_pos c40] at H
                  have c40b0 : decide (t287 < 2) = true := decide_eq_true c40
                  clear c40
                  obtain rfl := Option.some.inj H
                  have p288 : 0 ≤ ((ji15) : Int) := of_decide_eq_true (by first | (with_reducible assumption) | assumption)
                  have q288 : (ji15) < (l0.length : Int) := of_decide_eq_true (by first | (with_reducible assumption) | assumption)
                  obtain ⟨ad288, e288, hx288_0, hx288_1⟩ := at_T64 HR0.out (ji15) p288 q288
                  obtain rfl : ad286 = ad288 := (by injection e288)
                  replace p288 := eq_true p288
                  replace q288 := eq_true q288
                  go_wp2_with (first | (go_at_call 49; (with_reducible refine (posthornref12_order.calls ((rd_T64 l0 (ji15)).f1) t289 _ A18.out).mono ?_); rintro e w' ⟨rfl, ⟨nd, rfl⟩⟩; (try first | exact ⟨rfl, _, World.drewN_drewN _ _ _⟩ | exact ⟨rfl, _, Eq.trans (World.drewN_drewN _ _ _) (congrArg (World.drewN _) (Nat.add_assoc _ _ _))⟩)))
                  repeat (go_quiet (first | (go_at_call 49; (with_reducible refine (posthornref12_order.calls ((rd_T64 l0 (ji15)).f1) t289 _ A18.out).mono ?_); rintro e w' ⟨rfl, ⟨nd, rfl⟩⟩; (try first | exact ⟨rfl, _, World.drewN_drewN _ _ _⟩ | exact ⟨rfl, _, Eq.trans (World.drewN_drewN _ _ _) (congrArg (World.drewN _) (Nat.add_assoc _ _ _))⟩))); try go_wp2_with (first | (go_at_call 49; (with_reducible refine (posthornref12_order.calls ((rd_T64 l0 (ji15)).f1) t289 _ A18.out).mono ?_); rintro e w' ⟨rfl, ⟨nd, rfl⟩⟩; (try first | exact ⟨rfl, _, World.drewN_drewN _ _ _⟩ | exact ⟨rfl, _, Eq.trans (World.drewN_drewN _ _ _) (congrArg (World.drewN _) (Nat.add_assoc _ _ _))⟩))))
                  go_ret
                  exact ⟨by first | rfl | (simp; done) | (simp only [← hji15] <;> (first | rfl | simp)) | (simp [*]; done), by repeat (first | exact Drawn0.refl _ | apply Drawn0.step)⟩
                 ·
                  rw [if_neg c40] at H
                  have c40b0 : decide (t287 < 2) = false := decide_eq_false c40
                  clear c40
                  by_cases c41 : t289 ≥ 2
                  ·
                   rw [if_pos c41] at H
                   have c41b0 : decide (2 ≤ t289) = true := decide_eq_true c41
                   clear c41
                   by_cases c42 : t287 = (wrap64 (t289 + 1))
                   ·
                    rw [if_pos c42] at H
                    have c42b0 : (t287 == (wrap64 (t289 + 1))) = true := beq_iff_eq.mpr c42
                    have c42b1 : (t287 != (wrap64 (t289 + 1))) = false := bne_eq_false_iff_eq.mpr c42
                    clear c42
                    by_cases c43 : 0 ≤ x4_2
                    ·
                     rw [if_pos c43] at H
                     have c43b0 : decide (0 ≤ x4_2) = true := decide_eq_true c43
                     clear c43
                     by_cases c44 : x4_2 < (l0.length : Int)
                     ·
                      rw [if_pos c44] at H
                      have c44b0 : decide (x4_2 < (l0.length : Int)) = true := decide_eq_true c44
                      clear c44
                      replace H := Option.bind_eq_some_iff.mp H
                      obtain ⟨t304, A450, H⟩ := H
                      replace H : (posthornref12_sum.l0 kj10 l0 (wrap64 (x3_2 + (wrap64 (((rd_T64 l0 x4_2).f0) * t304)))) (wrap64 (x4_2 + 1))) = some r := H
                      have A45 := Aside0.mk A450
                      clear A450
                      have H' := Aside0.mk H
                      clear H
                      have p288 : 0 ≤ ((ji15) : Int) := of_decide_eq_true (by first | (with_reducible assumption) | assumption)
                      have q288 : (ji15) < (l0.length : Int) := of_decide_eq_true (by first | (with_reducible assumption) | assumption)
                      obtain ⟨ad288, e288, hx288_0, hx288_1⟩ := at_T64 HR0.out (ji15) p288 q288
                      obtain rfl : ad286 = ad288 := (by injection e288)
                      replace p288 := eq_true p288
                      replace q288 := eq_true q288
                      go_wp2_with (first | (go_at_call 49; (with_reducible refine (posthornref12_order.calls ((rd_T64 l0 (ji15)).f1) t289 _ A18.out).mono ?_); rintro e w' ⟨rfl, ⟨nd, rfl⟩⟩; (try first | exact ⟨rfl, _, World.drewN_drewN _ _ _⟩ | exact ⟨rfl, _, Eq.trans (World.drewN_drewN _ _ _) (congrArg (World.drewN _) (Nat.add_assoc _ _ _))⟩); have p302 : 0 ≤ (x4_2 : Int) := of_decide_eq_true (by first | (with_reducible assumption) | assumption); have q302 : x4_2 < (l0.length : Int) := of_decide_eq_true (by first | (with_reducible assumption) | assumption); obtain ⟨ad302, e302, hx302_0, hx302_1⟩ := at_T64 HR0.out x4_2 p302 q302; obtain rfl : ad286 = ad302 := (by injection e302); replace p302 := eq_true p302; replace q302 := eq_true q302; have p303 : 0 ≤ (x4_2 : Int) := of_decide_eq_true (by first | (with_reducible assumption) | assumption); have q303 : x4_2 < (l0.length : Int) := of_decide_eq_true (by first | (with_reducible assumption) | assumption); obtain ⟨ad303, e303, hx303_0, hx303_1⟩ := at_T64 HR0.out x4_2 p303 q303; obtain rfl : ad286 = ad303 := (by injection e303); replace p303 := eq_true p303; replace q303 := eq_true q303) | (go_at_call 50; (with_reducible refine (posthornref12_worth.calls ((rd_T64 l0 x4_2).f1) t304 _ A45.out).mono ?_); rintro e w' ⟨rfl, ⟨nd, rfl⟩⟩; (try first | exact ⟨rfl, _, World.drewN_drewN _ _ _⟩ | exact ⟨rfl, _, Eq.trans (World.drewN_drewN _ _ _) (congrArg (World.drewN _) (Nat.add_assoc _ _ _))⟩)))
                      repeat (go_quiet (first | (go_at_call 49; (with_reducible refine (posthornref12_order.calls ((rd_T64 l0 (ji15)).f1) t289 _ A18.out).mono ?_); rintro e w' ⟨rfl, ⟨nd, rfl⟩⟩; (try first | exact ⟨rfl, _, World.drewN_drewN _ _ _⟩ | exact ⟨rfl, _, Eq.trans (World.drewN_drewN _ _ _) (congrArg (World.drewN _) (Nat.add_assoc _ _ _))⟩); have p302 : 0 ≤ (x4_2 : Int) := of_decide_eq_true (by first | (with_reducible assumption) | assumption); have q302 : x4_2 < (l0.length : Int) := of_decide_eq_true (by first | (with_reducible assumption) | assumption); obtain ⟨ad302, e302, hx302_0, hx302_1⟩ := at_T64 HR0.out x4_2 p302 q302; obtain rfl : ad286 = ad302 := (by injection e302); replace p302 := eq_true p302; replace q302 := eq_true q302; have p303 : 0 ≤ (x4_2 : Int) := of_decide_eq_true (by first | (with_reducible assumption) | assumption); have q303 : x4_2 < (l0.length : Int) := of_decide_eq_true (by first | (with_reducible assumption) | assumption); obtain ⟨ad303, e303, hx303_0, hx303_1⟩ := at_T64 HR0.out x4_2 p303 q303; obtain rfl : ad286 = ad303 := (by injection e303); replace p303 := eq_true p303; replace q303 := eq_true q303) | (go_at_call 50; (with_reducible refine (posthornref12_worth.calls ((rd_T64 l0 x4_2).f1) t304 _ A45.out).mono ?_); rintro e w' ⟨rfl, ⟨nd, rfl⟩⟩; (try first | exact ⟨rfl, _, World.drewN_drewN _ _ _⟩ | exact ⟨rfl, _, Eq.trans (World.drewN_drewN _ _ _) (congrArg (World.drewN _) (Nat.add_assoc _ _ _))⟩))); try go_wp2_with (first | (go_at_call 49; (with_reducible refine (posthornref12_order.calls ((rd_T64 l0 (ji15)).f1) t289 _ A18.out).mono ?_); rintro e w' ⟨rfl, ⟨nd, rfl⟩⟩; (try first | exact ⟨rfl, _, World.drewN_drewN _ _ _⟩ | exact ⟨rfl, _, Eq.trans (World.drewN_drewN _ _ _) (congrArg (World.drewN _) (Nat.add_assoc _ _ _))⟩); have p302 : 0 ≤ (x4_2 : Int) := of_decide_eq_true (by first | (with_reducible assumption) | assumption); have q302 : x4_2 < (l0.length : Int) := of_decide_eq_true (by first | (with_reducible assumption) | assumption); obtain ⟨ad302, e302, hx302_0, hx302_1⟩ := at_T64 HR0.out x4_2 p302 q302; obtain rfl : ad286 = ad302 := (by injection e302); replace p302 := eq_true p302; replace q302 := eq_true q302; have p303 : 0 ≤ (x4_2 : Int) := of_decide_eq_true (by first | (with_reducible assumption) | assumption); have q303 : x4_2 < (l0.length : Int) := of_decide_eq_true (by first | (with_reducible assumption) | assumption); obtain ⟨ad303, e303, hx303_0, hx303_1⟩ := at_T64 HR0.out x4_2 p303 q303; obtain rfl : ad286 = ad303 := (by injection e303); replace p303 := eq_true p303; replace q303 := eq_true q303) | (go_at_call 50; (with_reducible refine (posthornref12_worth.calls ((rd_T64 l0 x4_2).f1) t304 _ A45.out).mono ?_); rintro e w' ⟨rfl, ⟨nd, rfl⟩⟩; (try first | exact ⟨rfl, _, World.drewN_drewN _ _ _⟩ | exact ⟨rfl, _, Eq.trans (World.drewN_drewN _ _ _) (congrArg (World.drewN _) (Nat.add_assoc _ _ _))⟩))))
                      go_roundg kj10
                      case measure => have := HJ1.out; have := HK2.out; have := HJ10.out; omega
                      case rel => exact ⟨(wrap64 (x3_2 + (wrap64 (((rd_T64 l0 x4_2).f0) * t304)))), (wrap64 (x4_2 + 1)), (by first | rfl | (simp; done) | (simp [*]; done)), (by first | rfl | (simp; done) | (simp [*]; done)), H', ⟨by have := HJ1.out; have := HK2.out; have := HJ10.out; omega⟩, by repeat (first | exact Drawn0.refl _ | apply Drawn0.step)⟩
                     ·
                      rw [if_neg c44] at H
                      exact absurd H (by simp)
                    ·
                     rw [if_neg c43] at H
                     exact absurd H (by simp)
                   ·
                    rw [if_neg c42] at H
                    have c42b0 : (t287 == (wrap64 (t289 + 1))) = false := beq_eq_false_iff_ne.mpr c42
                    have c42b1 : (t287 != (wrap64 (t289 + 1))) = true := bne_iff_ne.mpr c42
                    obtain rfl := Option.some.inj H
                    have p288 : 0 ≤ ((ji15) : Int) := of_decide_eq_true (by first | (with_reducible assumption) | assumption)
                    have q288 : (ji15) < (l0.length : Int) := of_decide_eq_true (by first | (with_reducible assumption) | assumption)
                    obtain ⟨ad288, e288, hx288_0, hx288_1⟩ := at_T64 HR0.out (ji15) p288 q288
                    obtain rfl : ad286 = ad288 := (by injection e288)
                    replace p288 := eq_true p288
                    replace q288 := eq_true q288
                    go_wp2_with (first | (go_at_call 49; (with_reducible refine (posthornref12_order.calls ((rd_T64 l0 (ji15)).f1) t289 _ A18.out).mono ?_); rintro e w' ⟨rfl, ⟨nd, rfl⟩⟩; (try first | exact ⟨rfl, _, World.drewN_drewN _ _ _⟩ | exact ⟨rfl, _, Eq.trans (World.drewN_drewN _ _ _) (congrArg (World.drewN _) (Nat.add_assoc _ _ _))⟩)))
                    repeat (go_quiet (first | (go_at_call 49; (with_reducible refine (posthornref12_order.calls ((rd_T64 l0 (ji15)).f1) t289 _ A18.out).mono ?_); rintro e w' ⟨rfl, ⟨nd, rfl⟩⟩; (try first | exact ⟨rfl, _, World.drewN_drewN _ _ _⟩ | exact ⟨rfl, _, Eq.trans (World.drewN_drewN _ _ _) (congrArg (World.drewN _) (Nat.add_assoc _ _ _))⟩))); try go_wp2_with (first | (go_at_call 49; (with_reducible refine (posthornref12_order.calls ((rd_T64 l0 (ji15)).f1) t289 _ A18.out).mono ?_); rintro e w' ⟨rfl, ⟨nd, rfl⟩⟩; (try first | exact ⟨rfl, _, World.drewN_drewN _ _ _⟩ | exact ⟨rfl, _, Eq.trans (World.drewN_drewN _ _ _) (congrArg (World.drewN _) (Nat.add_assoc _ _ _))⟩))))
                    go_ret
                    exact ⟨by first | rfl | (simp; done) | (simp only [← hji15] <;> (first | rfl | simp)) | (simp [*]; done), by repeat (first | exact Drawn0.refl _ | apply Drawn0.step)⟩
                  ·
                   rw [if_neg c41] at H
                   have c41b0 : decide (2 ≤ t289) = false := decide_eq_false c41
                   clear c41
                   by_cases c46 : 0 ≤ x4_2
                   ·
                    rw [if_pos c46] at H
                    have c46b0 : decide (0 ≤ x4_2) = true := decide_eq_true c46
                    clear c46
                    by_cases c47 : x4_2 < (l0.length : Int)
                    ·
                     rw [if_pos c47] at H
                     have c47b0 : decide (x4_2 < (l0.length : Int)) = true := decide_eq_true c47
                     clear c47
                     replace H := Option.bind_eq_some_iff.mp H
                     obtain ⟨t307, A480, H⟩ := H
                     replace H : (posthornref12_sum.l0 kj10 l0 (wrap64 (x3_2 + (wrap64 (((rd_T64 l0 x4_2).f0) * t307)))) (wrap64 (x4_2 + 1))) = some r := H
                     have A48 := Aside0.mk A480
                     clear A480
                     have H' := Aside0.mk H
                     clear H
                     have p288 : 0 ≤ ((ji15) : Int) := of_decide_eq_true (by first | (with_reducible assumption) | assumption)
                     have q288 : (ji15) < (l0.length : Int) := of_decide_eq_true (by first | (with_reducible assumption) | assumption)
                     obtain ⟨ad288, e288, hx288_0, hx288_1⟩ := at_T64 HR0.out (ji15) p288 q288
                     obtain rfl : ad286 = ad288 := (by injection e288)
                     replace p288 := eq_true p288
                     replace q288 := eq_true q288
                     go_wp2_with (first | (go_at_call 49; (with_reducible refine (posthornref12_order.calls ((rd_T64 l0 (ji15)).f1) t289 _ A18.out).mono ?_); rintro e w' ⟨rfl, ⟨nd, rfl⟩⟩; (try first | exact ⟨rfl, _, World.drewN_drewN _ _ _⟩ | exact ⟨rfl, _, Eq.trans (World.drewN_drewN _ _ _) (congrArg (World.drewN _) (Nat.add_assoc _ _ _))⟩); have p305 : 0 ≤ (x4_2 : Int) := of_decide_eq_true (by first | (with_reducible assumption) | assumption); have q305 : x4_2 < (l0.length : Int) := of_decide_eq_true (by first | (with_reducible assumption) | assumption); obtain ⟨ad305, e305, hx305_0, hx305_1⟩ := at_T64 HR0.out x4_2 p305 q305; obtain rfl : ad286 = ad305 := (by injection e305); replace p305 := eq_true p305; replace q305 := eq_true q305; have p306 : 0 ≤ (x4_2 : Int) := of_decide_eq_true (by first | (with_reducible assumption) | assumption); have q306 : x4_2 < (l0.length : Int) := of_decide_eq_true (by first | (with_reducible assumption) | assumption); obtain ⟨ad306, e306, hx306_0, hx306_1⟩ := at_T64 HR0.out x4_2 p306 q306; obtain rfl : ad286 = ad306 := (by injection e306); replace p306 := eq_true p306; replace q306 := eq_true q306) | (go_at_call 50; (with_reducible refine (posthornref12_worth.calls ((rd_T64 l0 x4_2).f1) t307 _ A48.out).mono ?_); rintro e w' ⟨rfl, ⟨nd, rfl⟩⟩; (try first | exact ⟨rfl, _, World.drewN_drewN _ _ _⟩ | exact ⟨rfl, _, Eq.trans (World.drewN_drewN _ _ _) (congrArg (World.drewN _) (Nat.add_assoc _ _ _))⟩)))
                     repeat (go_quiet (first | (go_at_call 49; (with_reducible refine (posthornref12_order.calls ((rd_T64 l0 (ji15)).f1) t289 _ A18.out).mono ?_); rintro e w' ⟨rfl, ⟨nd, rfl⟩⟩; (try first | exact ⟨rfl, _, World.drewN_drewN _ _ _⟩ | exact ⟨rfl, _, Eq.trans (World.drewN_drewN _ _ _) (congrArg (World.drewN _) (Nat.add_assoc _ _ _))⟩); have p305 : 0 ≤ (x4_2 : Int) := of_decide_eq_true (by first | (with_reducible assumption) | assumption); have q305 : x4_2 < (l0.length : Int) := of_decide_eq_true (by first | (with_reducible assumption) | assumption); obtain ⟨ad305, e305, hx305_0, hx305_1⟩ := at_T64 HR0.out x4_2 p305 q305; obtain rfl : ad286 = ad305 := (by injection e305); replace p305 := eq_true p305; replace q305 := eq_true q305; have p306 : 0 ≤ (x4_2 : Int) := of_decide_eq_true (by first | (with_reducible assumption) | assumption); have q306 : x4_2 < (l0.length : Int) := of_decide_eq_true (by first | (with_reducible assumption) | assumption); obtain ⟨ad306, e306, hx306_0, hx306_1⟩ := at_T64 HR0.out x4_2 p306 q306; obtain rfl : ad286 = ad306 := (by injection e306); replace p306 := eq_true p306; replace q306 := eq_true q306) | (go_at_call 50; (with_reducible refine (posthornref12_worth.calls ((rd_T64 l0 x4_2).f1) t307 _ A48.out).mono ?_); rintro e w' ⟨rfl, ⟨nd, rfl⟩⟩; (try first | exact ⟨rfl, _, World.drewN_drewN _ _ _⟩ | exact ⟨rfl, _, Eq.trans (World.drewN_drewN _ _ _) (congrArg (World.drewN _) (Nat.add_assoc _ _ _))⟩))); try go_wp2_with (first | (go_at_call 49; (with_reducible refine (posthornref12_order.calls ((rd_T64 l0 (ji15)).f1) t289 _ A18.out).mono ?_); rintro e w' ⟨rfl, ⟨nd, rfl⟩⟩; (try first | exact ⟨rfl, _, World.drewN_drewN _ _ _⟩ | exact ⟨rfl, _, Eq.trans (World.drewN_drewN _ _ _) (congrArg (World.drewN _) (Nat.add_assoc _ _ _))⟩); have p305 : 0 ≤ (x4_2 : Int) := of_decide_eq_true (by first | (with_reducible assumption) | assumption); have q305 : x4_2 < (l0.length : Int) := of_decide_eq_true (by first | (with_reducible assumption) | assumption); obtain ⟨ad305, e305, hx305_0, hx305_1⟩ := at_T64 HR0.out x4_2 p305 q305; obtain rfl : ad286 = ad305 := (by injection e305); replace p305 := eq_true p305; replace q305 := eq_true q305; have p306 : 0 ≤ (x4_2 : Int) := of_decide_eq_true (by first | (with_reducible assumption) | assumption); have q306 : x4_2 < (l0.length : Int) := of_decide_eq_true (by first | (with_reducible assumption) | assumption); obtain ⟨ad306, e306, hx306_0, hx306_1⟩ := at_T64 HR0.out x4_2 p306 q306; obtain rfl : ad286 = ad306 := (by injection e306); replace p306 := eq_true p306; replace q306 := eq_true q306) | (go_at_call 50; (with_reducible refine (posthornref12_worth.calls ((rd_T64 l0 x4_2).f1) t307 _ A48.out).mono ?_); rintro e w' ⟨rfl, ⟨nd, rfl⟩⟩; (try first | exact ⟨rfl, _, World.drewN_drewN _ _ _⟩ | exact ⟨rfl, _, Eq.trans (World.drewN_drewN _ _ _) (congrArg (World.drewN _) (Nat.add_assoc _ _ _))⟩))))
                     go_roundg kj10
                     case measure => have := HJ1.out; have := HK2.out; have := HJ10.out; omega
                     case rel => exact ⟨(wrap64 (x3_2 + (wrap64 (((rd_T64 l0 x4_2).f0) * t307)))), (wrap64 (x4_2 + 1)), (by first | rfl | (simp; done) | (simp [*]; done)), (by first | rfl | (simp; done) | (simp [*]; done)), H', ⟨by have := HJ1.out; have := HK2.out; have := HJ10.out; omega⟩, by repeat (first | exact Drawn0.refl _ | apply Drawn0.step)⟩
                    ·
                     rw [if_neg c47] at H
                     exact absurd H (by simp)
                   ·
                    rw [if_neg c46] at H
                    exact absurd H (by simp)
                ·
                 rw [if_neg c39] at H
                 have c39b0 : (t289 == 1) = false := beq_eq_false_iff_ne.mpr c39
                 have c39b1 : (t289 != 1) = true := bne_iff_ne.mpr c39
                 by_cases c49 : t289 ≥ 2
                 ·
                  rw [if_pos c49] at H
                  have c49b0 : decide (2 ≤ t289) = true := decide_eq_true c49
                  clear c49
                  by_cases c50 : t287 = (wrap64 (t289 + 1))
                  ·
                   rw [if_pos c50] at H
                   have c50b0 : (t287 == (wrap64 (t289 + 1))) = true := beq_iff_eq.mpr c50
                   have c50b1 : (t287 != (wrap64 (t289 + 1))) = false := bne_eq_false_iff_eq.mpr c50
                   clear c50
                   by_cases c51 : 0 ≤ x4_2
                   ·
                    rw [if_pos c51] at H
                    have c51b0 : decide (0 ≤ x4_2) = true := decide_eq_true c51
                    clear c51
                    by_cases c52 : x4_2 < (l0.length : Int)
                    ·
                     rw [if_pos c52] at H
                     have c52b0 : decide (x4_2 < (l0.length : Int)) = true := decide_eq_true c52
                     clear c52
                     replace H := Option.bind_eq_some_iff.mp H
                     obtain ⟨t310, A530, H⟩ := H
                     replace H : (posthornref12_sum.l0 kj10 l0 (wrap64 (x3_2 + (wrap64 (((rd_T64 l0 x4_2).f0) * t310)))) (wrap64 (x4_2 + 1))) = some r := H
                     have A53 := Aside0.mk A530
                     clear A530
                     have H' := Aside0.mk H
                     clear H
                     have p288 : 0 ≤ ((ji15) : Int) := of_decide_eq_true (by first | (with_reducible assumption) | assumption)
                     have q288 : (ji15) < (l0.length : Int) := of_decide_eq_true (by first | (with_reducible assumption) | assumption)
                     obtain ⟨ad288, e288, hx288_0, hx288_1⟩ := at_T64 HR0.out (ji15) p288 q288
                     obtain rfl : ad286 = ad288 := (by injection e288)
                     replace p288 := eq_true p288
                     replace q288 := eq_true q288
                     go_wp2_with (first | (go_at_call 49; (with_reducible refine (posthornref12_order.calls ((rd_T64 l0 (ji15)).f1) t289 _ A18.out).mono ?_); rintro e w' ⟨rfl, ⟨nd, rfl⟩⟩; (try first | exact ⟨rfl, _, World.drewN_drewN _ _ _⟩ | exact ⟨rfl, _, Eq.trans (World.drewN_drewN _ _ _) (congrArg (World.drewN _) (Nat.add_assoc _ _ _))⟩); have p308 : 0 ≤ (x4_2 : Int) := of_decide_eq_true (by first | (with_reducible assumption) | assumption); have q308 : x4_2 < (l0.length : Int) := of_decide_eq_true (by first | (with_reducible assumption) | assumption); obtain ⟨ad308, e308, hx308_0, hx308_1⟩ := at_T64 HR0.out x4_2 p308 q308; obtain rfl : ad286 = ad308 := (by injection e308); replace p308 := eq_true p308; replace q308 := eq_true q308; have p309 : 0 ≤ (x4_2 : Int) := of_decide_eq_true (by first | (with_reducible assumption) | assumption); have q309 : x4_2 < (l0.length : Int) := of_decide_eq_true (by first | (with_reducible assumption) | assumption); obtain ⟨ad309, e309, hx309_0, hx309_1⟩ := at_T64 HR0.out x4_2 p309 q309; obtain rfl : ad286 = ad309 := (by injection e309); replace p309 := eq_true p309; replace q309 := eq_true q309) | (go_at_call 50; (with_reducible refine (posthornref12_worth.calls ((rd_T64 l0 x4_2).f1) t310 _ A53.out).mono ?_); rintro e w' ⟨rfl, ⟨nd, rfl⟩⟩; (try first | exact ⟨rfl, _, World.drewN_drewN _ _ _⟩ | exact ⟨rfl, _, Eq.trans (World.drewN_drewN _ _ _) (congrArg (World.drewN _) (Nat.add_assoc _ _ _))⟩)))
                     repeat (go_quiet (first | (go_at_call 49; (with_reducible refine (posthornref12_order.calls ((rd_T64 l0 (ji15)).f1) t289 _ A18.out).mono ?_); rintro e w' ⟨rfl, ⟨nd, rfl⟩⟩; (try first | exact ⟨rfl, _, World.drewN_drewN _ _ _⟩ | exact ⟨rfl, _, Eq.trans (World.drewN_drewN _ _ _) (congrArg (World.drewN _) (Nat.add_assoc _ _ _))⟩); have p308 : 0 ≤ (x4_2 : Int) := of_decide_eq_true (by first | (with_reducible assumption) | assumption); have q308 : x4_2 < (l0.length : Int) := of_decide_eq_true (by first | (with_reducible assumption) | assumption); obtain ⟨ad308, e308, hx308_0, hx308_1⟩ := at_T64 HR0.out x4_2 p308 q308; obtain rfl : ad286 = ad308 := (by injection e308); replace p308 := eq_true p308; replace q308 := eq_true q308; have p309 : 0 ≤ (x4_2 : Int) := of_decide_eq_true (by first | (with_reducible assumption) | assumption); have q309 : x4_2 < (l0.length : Int) := of_decide_eq_true (by first | (with_reducible assumption) | assumption); obtain ⟨ad309, e309, hx309_0, hx309_1⟩ := at_T64 HR0.out x4_2 p309 q309; obtain rfl : ad286 = ad309 := (by injection e309); replace p309 := eq_true p309; replace q309 := eq_true q309) | (go_at_call 50; (with_reducible refine (posthornref12_worth.calls ((rd_T64 l0 x4_2).f1) t310 _ A53.out).mono ?_); rintro e w' ⟨rfl, ⟨nd, rfl⟩⟩; (try first | exact ⟨rfl, _, World.drewN_drewN _ _ _⟩ | exact ⟨rfl, _, Eq.trans (World.drewN_drewN _ _ _) (congrArg (World.drewN _) (Nat.add_assoc _ _ _))⟩))); try go_wp2_with (first | (go_at_call 49; (with_reducible refine (posthornref12_order.calls ((rd_T64 l0 (ji15)).f1) t289 _ A18.out).mono ?_); rintro e w' ⟨rfl, ⟨nd, rfl⟩⟩; (try first | exact ⟨rfl, _, World.drewN_drewN _ _ _⟩ | exact ⟨rfl, _, Eq.trans (World.drewN_drewN _ _ _) (congrArg (World.drewN _) (Nat.add_assoc _ _ _))⟩); have p308 : 0 ≤ (x4_2 : Int) := of_decide_eq_true (by first | (with_reducible assumption) | assumption); have q308 : x4_2 < (l0.length : Int) := of_decide_eq_true (by first | (with_reducible assumption) | assumption); obtain ⟨ad308, e308, hx308_0, hx308_1⟩ := at_T64 HR0.out x4_2 p308 q308; obtain rfl : ad286 = ad308 := (by injection e308); replace p308 := eq_true p308; replace q308 := eq_true q308; have p309 : 0 ≤ (x4_2 : Int) := of_decide_eq_true (by first | (with_reducible assumption) | assumption); have q309 : x4_2 < (l0.length : Int) := of_decide_eq_true (by first | (with_reducible assumption) | assumption); obtain ⟨ad309, e309, hx309_0, hx309_1⟩ := at_T64 HR0.out x4_2 p309 q309; obtain rfl : ad286 = ad309 := (by injection e309); replace p309 := eq_true p309; replace q309 := eq_true q309) | (go_at_call 50; (with_reducible refine (posthornref12_worth.calls ((rd_T64 l0 x4_2).f1) t310 _ A53.out).mono ?_); rintro e w' ⟨rfl, ⟨nd, rfl⟩⟩; (try first | exact ⟨rfl, _, World.drewN_drewN _ _ _⟩ | exact ⟨rfl, _, Eq.trans (World.drewN_drewN _ _ _) (congrArg (World.drewN _) (Nat.add_assoc _ _ _))⟩))))
                     go_roundg kj10
                     case measure => have := HJ1.out; have := HK2.out; have := HJ10.out; omega
                     case rel => exact ⟨(wrap64 (x3_2 + (wrap64 (((rd_T64 l0 x4_2).f0) * t310)))), (wrap64 (x4_2 + 1)), (by first | rfl | (simp; done) | (simp [*]; done)), (by first | rfl | (simp; done) | (simp [*]; done)), H', ⟨by have := HJ1.out; have := HK2.out; have := HJ10.out; omega⟩, by repeat (first | exact Drawn0.refl _ | apply Drawn0.step)⟩
                    ·
                     rw [if_neg c52] at H
                     exact absurd H (by simp)
                   ·
                    rw [if_neg c51] at H
                    exact absurd H (by simp)
                  ·
                   rw [if_neg c50] at H
                   have c50b0 : (t287 == (wrap64 (t289 + 1))) = false := beq_eq_false_iff_ne.mpr c50
                   have c50b1 : (t287 != (wrap64 (t289 + 1))) = true := bne_iff_ne.mpr c50
                   obtain rfl := Option.some.inj H
                   have p288 : 0 ≤ ((ji15) : Int) := of_decide_eq_true (by first | (with_reducible assumption) | assumption)
                   have q288 : (ji15) < (l0.length : Int) := of_decide_eq_true (by first | (with_reducible assumption) | assumption)
                   obtain ⟨ad288, e288, hx288_0, hx288_1⟩ := at_T64 HR0.out (ji15) p288 q288
                   obtain rfl : ad286 = ad288 := (by injection e288)
                   replace p288 := eq_true p288
                   replace q288 := eq_true q288
                   go_wp2_with (first | (go_at_call 49; (with_reducible refine (posthornref12_order.calls ((rd_T64 l0 (ji15)).f1) t289 _ A18.out).mono ?_); rintro e w' ⟨rfl, ⟨nd, rfl⟩⟩; (try first | exact ⟨rfl, _, World.drewN_drewN _ _ _⟩ | exact ⟨rfl, _, Eq.trans (World.drewN_drewN _ _ _) (congrArg (World.drewN _) (Nat.add_assoc _ _ _))⟩)))
                   repeat (go_quiet (first | (go_at_call 49; (with_reducible refine (posthornref12_order.calls ((rd_T64 l0 (ji15)).f1) t289 _ A18.out).mono ?_); rintro e w' ⟨rfl, ⟨nd, rfl⟩⟩; (try first | exact ⟨rfl, _, World.drewN_drewN _ _ _⟩ | exact ⟨rfl, _, Eq.trans (World.drewN_drewN _ _ _) (congrArg (World.drewN _) (Nat.add_assoc _ _ _))⟩))); try go_wp2_with (first | (go_at_call 49; (with_reducible refine (posthornref12_order.calls ((rd_T64 l0 (ji15)).f1) t289 _ A18.out).mono ?_); rintro e w' ⟨rfl, ⟨nd, rfl⟩⟩; (try first | exact ⟨rfl, _, World.drewN_drewN _ _ _⟩ | exact ⟨rfl, _, Eq.trans (World.drewN_drewN _ _ _) (congrArg (World.drewN _) (Nat.add_assoc _ _ _))⟩))))
                   go_ret
                   exact ⟨by first | rfl | (simp; done) | (simp only [← hji15] <;> (first | rfl | simp)) | (simp [*]; done), by repeat (first | exact Drawn0.refl _ | apply Drawn0.step)⟩
                 ·
                  rw [if_neg c49] at H
                  have c49b0 : decide (2 ≤ t289) = false := decide_eq_false c49
                  clear c49
                  by_cases c54 : 0 ≤ x4_2
                  ·
                   rw [if_pos c54] at H
                   have c54b0 : decide (0 ≤ x4_2) = true := decide_eq_true c54
                   clear c54
                   by_cases c55 : x4_2 < (l0.length : Int)
                   ·
                    rw [if_pos c55] at H
                    have c55b0 : decide (x4_2 < (l0.length : Int)) = true := decide_eq_true c55
                    clear c55
                    replace H := Option.bind_eq_some_iff.mp H
                    obtain ⟨t313, A560, H⟩ := H
                    replace H : (posthornref12_sum.l0 kj10 l0 (wrap64 (x3_2 + (wrap64 (((rd_T64 l0 x4_2).f0) * t313)))) (wrap64 (x4_2 + 1))) = some r := H
                    have A56 := Aside0.mk A560
                    clear A560
                    have H' := Aside0.mk H
                    clear H
                    have p288 : 0 ≤ ((ji15) : Int) := of_decide_eq_true (by first | (with_reducible assumption) | assumption)
                    have q288 : (ji15) < (l0.length : Int) := of_decide_eq_true (by first | (with_reducible assumption) | assumption)
                    obtain ⟨ad288, e288, hx288_0, hx288_1⟩ := at_T64 HR0.out (ji15) p288 q288
                    obtain rfl : ad286 = ad288 := (by injection e288)
                    replace p288 := eq_true p288
                    replace q288 := eq_true q288
                    go_wp2_with (first | (go_at_call 49; (with_reducible refine (posthornref12_order.calls ((rd_T64 l0 (ji15)).f1) t289 _ A18.out).mono ?_); rintro e w' ⟨rfl, ⟨nd, rfl⟩⟩; (try first | exact ⟨rfl, _, World.drewN_drewN _ _ _⟩ | exact ⟨rfl, _, Eq.trans (World.drewN_drewN _ _ _) (congrArg (World.drewN _) (Nat.add_assoc _ _ _))⟩); have p311 : 0 ≤ (x4_2 : Int) := of_decide_eq_true (by first | (with_reducible assumption) | assumption); have q311 : x4_2 < (l0.length : Int) := of_decide_eq_true (by first | (with_reducible assumption) | assumption); obtain ⟨ad311, e311, hx311_0, hx311_1⟩ := at_T64 HR0.out x4_2 p311 q311; obtain rfl : ad286 = ad311 := (by injection e311); replace p311 := eq_true p311; replace q311 := eq_true q311; have p312 : 0 ≤ (x4_2 : Int) := of_decide_eq_true (by first | (with_reducible assumption) | assumption); have q312 : x4_2 < (l0.length : Int) := of_decide_eq_true (by first | (with_reducible assumption) | assumption); obtain ⟨ad312, e312, hx312_0, hx312_1⟩ := at_T64 HR0.out x4_2 p312 q312; obtain rfl : ad286 = ad312 := (by injection e312); replace p312 := eq_true p312; replace q312 := eq_true q312) | (go_at_call 50; (with_reducible refine (posthornref12_worth.calls ((rd_T64 l0 x4_2).f1) t313 _ A56.out).mono ?_); rintro e w' ⟨rfl, ⟨nd, rfl⟩⟩; (try first | exact ⟨rfl, _, World.drewN_drewN _ _ _⟩ | exact ⟨rfl, _, Eq.trans (World.drewN_drewN _ _ _) (congrArg (World.drewN _) (Nat.add_assoc _ _ _))⟩)))
                    repeat (go_quiet (first | (go_at_call 49; (with_reducible refine (posthornref12_order.calls ((rd_T64 l0 (ji15)).f1) t289 _ A18.out).mono ?_); rintro e w' ⟨rfl, ⟨nd, rfl⟩⟩; (try first | exact ⟨rfl, _, World.drewN_drewN _ _ _⟩ | exact ⟨rfl, _, Eq.trans (World.drewN_drewN _ _ _) (congrArg (World.drewN _) (Nat.add_assoc _ _ _))⟩); have p311 : 0 ≤ (x4_2 : Int) := of_decide_eq_true (by first | (with_reducible assumption) | assumption); have q311 : x4_2 < (l0.length : Int) := of_decide_eq_true (by first | (with_reducible assumption) | assumption); obtain ⟨ad311, e311, hx311_0, hx311_1⟩ := at_T64 HR0.out x4_2 p311 q311; obtain rfl : ad286 = ad311 := (by injection e311); replace p311 := eq_true p311; replace q311 := eq_true q311; have p312 : 0 ≤ (x4_2 : Int) := of_decide_eq_true (by first | (with_reducible assumption) | assumption); have q312 : x4_2 < (l0.length : Int) := of_decide_eq_true (by first | (with_reducible assumption) | assumption); obtain ⟨ad312, e312, hx312_0, hx312_1⟩ := at_T64 HR0.out x4_2 p312 q312; obtain rfl : ad286 = ad312 := (by injection e312); replace p312 := eq_true p312; replace q312 := eq_true q312) | (go_at_call 50; (with_reducible refine (posthornref12_worth.calls ((rd_T64 l0 x4_2).f1) t313 _ A56.out).mono ?_); rintro e w' ⟨rfl, ⟨nd, rfl⟩⟩; (try first | exact ⟨rfl, _, World.drewN_drewN _ _ _⟩ | exact ⟨rfl, _, Eq.trans (World.drewN_drewN _ _ _) (congrArg (World.drewN _) (Nat.add_assoc _ _ _))⟩))); try go_wp2_with (first | (go_at_call 49; (with_reducible refine (posthornref12_order.calls ((rd_T64 l0 (ji15)).f1) t289 _ A18.out).mono ?_); rintro e w' ⟨rfl, ⟨nd, rfl⟩⟩; (try first | exact ⟨rfl, _, World.drewN_drewN _ _ _⟩ | exact ⟨rfl, _, Eq.trans (World.drewN_drewN _ _ _) (congrArg (World.drewN _) (Nat.add_assoc _ _ _))⟩); have p311 : 0 ≤ (x4_2 : Int) := of_decide_eq_true (by first | (with_reducible assumption) | assumption); have q311 : x4_2 < (l0.length : Int) := of_decide_eq_true (by first | (with_reducible assumption) | assumption); obtain ⟨ad311, e311, hx311_0, hx311_1⟩ := at_T64 HR0.out x4_2 p311 q311; obtain rfl : ad286 = ad311 := (by injection e311); replace p311 := eq_true p311; replace q311 := eq_true q311; have p312 : 0 ≤ (x4_2 : Int) := of_decide_eq_true (by first | (with_reducible assumption) | assumption); have q312 : x4_2 < (l0.length : Int) := of_decide_eq_true (by first | (with_reducible assumption) | assumption); obtain ⟨ad312, e312, hx312_0, hx312_1⟩ := at_T64 HR0.out x4_2 p312 q312; obtain rfl : ad286 = ad312 := (by injection e312); replace p312 := eq_true p312; replace q312 := eq_true q312) | (go_at_call 50; (with_reducible refine (posthornref12_worth.calls ((rd_T64 l0 x4_2).f1) t313 _ A56.out).mono ?_); rintro e w' ⟨rfl, ⟨nd, rfl⟩⟩; (try first | exact ⟨rfl, _, World.drewN_drewN _ _ _⟩ | exact ⟨rfl, _, Eq.trans (World.drewN_drewN _ _ _) (congrArg (World.drewN _) (Nat.add_assoc _ _ _))⟩))))
                    go_roundg kj10
                    case measure => have := HJ1.out; have := HK2.out; have := HJ10.out; omega
                    case rel => exact ⟨(wrap64 (x3_2 + (wrap64 (((rd_T64 l0 x4_2).f0) * t313)))), (wrap64 (x4_2 + 1)), (by first | rfl | (simp; done) | (simp [*]; done)), (by first | rfl | (simp; done) | (simp [*]; done)), H', ⟨by have := HJ1.out; have := HK2.out; have := HJ10.out; omega⟩, by repeat (first | exact Drawn0.refl _ | apply Drawn0.step)⟩
                   ·
                    rw [if_neg c55] at H
                    exact absurd H (by simp)
                  ·
                   rw [if_neg c54] at H
                   exact absurd H (by simp)
              ·
               rw [if_neg c17] at H
               exact absurd H (by simp)
             ·
              rw [if_neg c16] at H
              exact absurd H (by simp)
            ·
             rw [if_neg c14] at H
             have c14b0 : decide (0 < x4_2) = false := decide_eq_false c14
             clear c14
             by_cases c57 : 0 ≤ x4_2
             ·
              rw [if_pos c57] at H
              have c57b0 : decide (0 ≤ x4_2) = true := decide_eq_true c57
              clear c57
              by_cases c58 : x4_2 < (l0.length : Int)
              ·
               rw [if_pos c58] at H
               have c58b0 : decide (x4_2 < (l0.length : Int)) = true := decide_eq_true c58
               clear c58
               replace H := Option.bind_eq_some_iff.mp H
               obtain ⟨t316, A590, H⟩ := H
               replace H : (posthornref12_sum.l0 kj10 l0 (wrap64 (x3_2 + (wrap64 (((rd_T64 l0 x4_2).f0) * t316)))) (wrap64 (x4_2 + 1))) = some r := H
               have A59 := Aside0.mk A590
               clear A590
               have H' := Aside0.mk H
               clear H
               have p314 : 0 ≤ (x4_2 : Int) := of_decide_eq_true (by first | (with_reducible assumption) | assumption)
               have q314 : x4_2 < (l0.length : Int) := of_decide_eq_true (by first | (with_reducible assumption) | assumption)
               obtain ⟨ad314, e314, hx314_0, hx314_1⟩ := at_T64 HR0.out x4_2 p314 q314
               obtain rfl : ad286 = ad314 := (by injection e314)
               replace p314 := eq_true p314
               replace q314 := eq_true q314
               have p315 : 0 ≤ (x4_2 : Int) := of_decide_eq_true (by first | (with_reducible assumption) | assumption)
               have q315 : x4_2 < (l0.length : Int) := of_decide_eq_true (by first | (with_reducible assumption) | assumption)
               obtain ⟨ad315, e315, hx315_0, hx315_1⟩ := at_T64 HR0.out x4_2 p315 q315
               obtain rfl : ad286 = ad315 := (by injection e315)
               replace p315 := eq_true p315
               replace q315 := eq_true q315
               go_wp2_with (first | (go_at_call 50; (with_reducible refine (posthornref12_worth.calls ((rd_T64 l0 x4_2).f1) t316 _ A59.out).mono ?_); rintro e w' ⟨rfl, ⟨nd, rfl⟩⟩; (try first | exact ⟨rfl, _, World.drewN_drewN _ _ _⟩ | exact ⟨rfl, _, Eq.trans (World.drewN_drewN _ _ _) (congrArg (World.drewN _) (Nat.add_assoc _ _ _))⟩)))
               repeat (go_quiet (first | (go_at_call 50; (with_reducible refine (posthornref12_worth.calls ((rd_T64 l0 x4_2).f1) t316 _ A59.out).mono ?_); rintro e w' ⟨rfl, ⟨nd, rfl⟩⟩; (try first | exact ⟨rfl, _, World.drewN_drewN _ _ _⟩ | exact ⟨rfl, _, Eq.trans (World.drewN_drewN _ _ _) (congrArg (World.drewN _) (Nat.add_assoc _ _ _))⟩))); try go_wp2_with (first | (go_at_call 50; (with_reducible refine (posthornref12_worth.calls ((rd_T64 l0 x4_2).f1) t316 _ A59.out).mono ?_); rintro e w' ⟨rfl, ⟨nd, rfl⟩⟩; (try first | exact ⟨rfl, _, World.drewN_drewN _ _ _⟩ | exact ⟨rfl, _, Eq.trans (World.drewN_drewN _ _ _) (congrArg (World.drewN _) (Nat.add_assoc _ _ _))⟩))))
               go_roundg kj10
               case measure => have := HJ1.out; have := HK2.out; have := HJ10.out; omega
               case rel => exact ⟨(wrap64 (x3_2 + (wrap64 (((rd_T64 l0 x4_2).f0) * t316)))), (wrap64 (x4_2 + 1)), (by first | rfl | (simp; done) | (simp [*]; done)), (by first | rfl | (simp; done) | (simp [*]; done)), H', ⟨by have := HJ1.out; have := HK2.out; have := HJ10.out; omega⟩, by repeat (first | exact Drawn0.refl _ | apply Drawn0.step)⟩
              ·
               rw [if_neg c58] at H
               exact absurd H (by simp)
             ·
              rw [if_neg c57] at H
              exact absurd H (by simp)
       ·
        rw [if_neg c8] at H
        exact absurd H (by simp)
      ·
       rw [if_neg c7] at H
       have c7b0 : decide (x4_2 < (l0.length : Int)) = false := decide_eq_false c7
       clear c7
       by_cases c60 : (l0.length : Int) = 0
       ·
        rw [if_pos c60] at H
        have c60b0 : ((l0.length : Int) == 0) = true := beq_iff_eq.mpr c60
        have c60b1 : ((l0.length : Int) != 0) = false := bne_eq_false_iff_eq.mpr c60
        clear c60
        obtain rfl := Option.some.inj H
        go_wp2
        repeat (go_quiet (fail); try go_wp2)
        go_ret
        exact ⟨by first | rfl | (simp; done) | (simp [*]; done), by repeat (first | exact Drawn0.refl _ | apply Drawn0.step)⟩
       ·
        rw [if_neg c60] at H
        have c60b0 : ((l0.length : Int) == 0) = false := beq_eq_false_iff_ne.mpr c60
        have c60b1 : ((l0.length : Int) != 0) = true := bne_iff_ne.mpr c60
        have c60b2 : ¬ (l0 = []) := fun h_ => c60 (by rw [h_]; rfl)
        obtain ⟨ji61, hji61⟩ : ∃ j_ : Int, (wrap64 ((l0.length : Int) - 1)) = j_ := ⟨_, rfl⟩
        replace H : (if 0 ≤ (ji61) then (if (ji61) < (l0.length : Int) then (if ((rd_T64 l0 (ji61)).f1) = 84 then (some (-1)) else (some x3_2)) else (none)) else (none)) = some r := by first | (rw [hji61] at H; exact H) | (simp only [hji61] at H ⊢; exact H)
        have hji61w : (IntKind.i64.wrap ((l0.length : Int) - 1)) = ji61 := (i64_w _).trans hji61
        by_cases c62 : 0 ≤ (ji61)
        ·
         rw [if_pos c62] at H
         have c62b0 : decide (0 ≤ (ji61)) = true := decide_eq_true c62
         clear c62
         by_cases c63 : (ji61) < (l0.length : Int)
         ·
          rw [if_pos c63] at H
          have c63b0 : decide ((ji61) < (l0.length : Int)) = true := decide_eq_true c63
          clear c63
          by_cases c64 : ((rd_T64 l0 (ji61)).f1) = 84
          ·
           rw [if_pos c64] at H
           have c64b0 : (((rd_T64 l0 (ji61)).f1) == 84) = true := beq_iff_eq.mpr c64
           have c64b1 : (((rd_T64 l0 (ji61)).f1) != 84) = false := bne_eq_false_iff_eq.mpr c64
           clear c64
           obtain rfl := Option.some.inj H
           have p285 : 0 ≤ ((ji61) : Int) := of_decide_eq_true (by first | (with_reducible assumption) | assumption)
           have q285 : (ji61) < (l0.length : Int) := of_decide_eq_true (by first | (with_reducible assumption) | assumption)
           obtain ⟨ad285, e285, hx285_0, hx285_1⟩ := at_T64 HR0.out (ji61) p285 q285
           cases e285
           replace p285 := eq_true p285
           replace q285 := eq_true q285
           go_wp2
           repeat (go_quiet (fail); try go_wp2)
           go_ret
           exact ⟨by first | rfl | (simp; done) | (simp only [← hji61] <;> (first | rfl | simp)) | (simp [*]; done), by repeat (first | exact Drawn0.refl _ | apply Drawn0.step)⟩
          ·
           rw [if_neg c64] at H
           have c64b0 : (((rd_T64 l0 (ji61)).f1) == 84) = false := beq_eq_false_iff_ne.mpr c64
           have c64b1 : (((rd_T64 l0 (ji61)).f1) != 84) = true := bne_iff_ne.mpr c64
           obtain rfl := Option.some.inj H
           have p285 : 0 ≤ ((ji61) : Int) := of_decide_eq_true (by first | (with_reducible assumption) | assumption)
           have q285 : (ji61) < (l0.length : Int) := of_decide_eq_true (by first | (with_reducible assumption) | assumption)
           obtain ⟨ad285, e285, hx285_0, hx285_1⟩ := at_T64 HR0.out (ji61) p285 q285
           cases e285
           replace p285 := eq_true p285
           replace q285 := eq_true q285
           go_wp2
           repeat (go_quiet (fail); try go_wp2)
           go_ret
           exact ⟨by first | rfl | (simp; done) | (simp only [← hji61] <;> (first | rfl | simp)) | (simp [*]; done), by repeat (first | exact Drawn0.refl _ | apply Drawn0.step)⟩
         ·
          rw [if_neg c63] at H
          exact absurd H (by simp)
        ·
         rw [if_neg c62] at H
         exact absurd H (by simp)

end Go.Proofs.YtiffbkfgimifbaaDoor.Print

-- Written by a program of this seat: functions of the program as Lean functions, and that its calls come to them.
import Derived.Test.YtiffbkfgimifbaaDoorPrint0
import Derived.Test.YtiffbkfgimifbaaDoorPrint12
namespace Go.Proofs.YtiffbkfgimifbaaDoor.Print
open Go.RowKit Go.Proofs.YtiffbkfgimifbaaDoorW.PrintWords Go.Proofs.YtiffbkfgimifbaaDoorW.PrintLast Go.Proofs.YtiffbkfgimifbaaDoorW.PrintMore
attribute [local go_sem] max2_int min2_int max_two min_two max_three min_three max_four min_four   -- for this text's walks alone
set_option linter.unusedVariables false
set_option linter.unusedSimpArgs false

/-! ### posthornref12_Span: function 22 -/
mutual
def posthornref12_Span.j0 : Nat → Int → Bool → Option (ByteArray × Int)
 | 0, _, _ => none
 | k + 1, x0, x10 => if x10 = true then (some ((⟨#[]⟩ : ByteArray), 110)) else (if x0 < 0 then (posthornref12_Span.j1 k (wrap64 (-x0)) (⟨#[45, 80]⟩ : ByteArray)) else (posthornref12_Span.j1 k x0 (⟨#[80]⟩ : ByteArray)))
def posthornref12_Span.j1 : Nat → Int → ByteArray → Option (ByteArray × Int)
 | 0, _, _ => none
 | k + 1, x0, x4 => if x0 > 0 then (posthornref12_Span.j2 k x0 x4 ((Int.tmod x0 604800) == 0)) else (posthornref12_Span.j2 k x0 x4 false)
def posthornref12_Span.j2 : Nat → Int → ByteArray → Bool → Option (ByteArray × Int)
 | 0, _, _, _ => none
 | k + 1, x0, x4, x21 => if x21 = true then ((posthornref12_decimal.f k (wrap64 (Int.tdiv x0 604800))).bind fun t269 => (if x4.size + t269.size ≤ 9223372036854775807 then (if (x4 ++ t269).size + 1 ≤ 9223372036854775807 then (some ((x4 ++ t269) ++ (⟨#[87]⟩ : ByteArray), 0)) else (none)) else (none))) else (if x0 ≥ 86400 then ((posthornref12_decimal.f k (wrap64 (Int.tdiv x0 86400))).bind fun t270 => (if x4.size + t270.size ≤ 9223372036854775807 then (if (x4 ++ t270).size + 1 ≤ 9223372036854775807 then (posthornref12_Span.j3 k x0 ((x4 ++ t270) ++ (⟨#[68]⟩ : ByteArray))) else (none)) else (none))) else (posthornref12_Span.j3 k x0 x4))
def posthornref12_Span.j3 : Nat → Int → ByteArray → Option (ByteArray × Int)
 | 0, _, _ => none
 | k + 1, x0, x4 => if x0 = 0 then (some ((⟨#[80, 84, 48, 83]⟩ : ByteArray), 0)) else (if (Int.tmod x0 86400) > 0 then (if x4.size + 1 ≤ 9223372036854775807 then (posthornref12_Span.j4 k (Int.tmod x0 86400) (x4 ++ (⟨#[84]⟩ : ByteArray))) else (none)) else (posthornref12_Span.j4 k (Int.tmod x0 86400) x4))
def posthornref12_Span.j4 : Nat → Int → ByteArray → Option (ByteArray × Int)
 | 0, _, _ => none
 | k + 1, x0, x4 => if x0 ≥ 3600 then ((posthornref12_decimal.f k (wrap64 (Int.tdiv x0 3600))).bind fun t271 => (if x4.size + t271.size ≤ 9223372036854775807 then (if (x4 ++ t271).size + 1 ≤ 9223372036854775807 then (posthornref12_Span.j5 k x0 ((x4 ++ t271) ++ (⟨#[72]⟩ : ByteArray))) else (none)) else (none))) else (posthornref12_Span.j5 k x0 x4)
def posthornref12_Span.j5 : Nat → Int → ByteArray → Option (ByteArray × Int)
 | 0, _, _ => none
 | k + 1, x0, x4 => if (Int.tmod x0 3600) ≥ 60 then (posthornref12_Span.j6 k x0 x4 true) else (if x0 ≥ 3600 then (posthornref12_Span.j6 k x0 x4 (decide ((Int.tmod x0 60) > 0))) else (posthornref12_Span.j6 k x0 x4 false))
def posthornref12_Span.j6 : Nat → Int → ByteArray → Bool → Option (ByteArray × Int)
 | 0, _, _, _ => none
 | k + 1, x0, x4, x63 => if x63 = true then ((posthornref12_decimal.f k (wrap64 (Int.tdiv (Int.tmod x0 3600) 60))).bind fun t272 => (if x4.size + t272.size ≤ 9223372036854775807 then (if (x4 ++ t272).size + 1 ≤ 9223372036854775807 then (if (Int.tmod x0 60) > 0 then ((posthornref12_decimal.f k (Int.tmod x0 60)).bind fun t273 => (if ((x4 ++ t272) ++ (⟨#[77]⟩ : ByteArray)).size + t273.size ≤ 9223372036854775807 then (if (((x4 ++ t272) ++ (⟨#[77]⟩ : ByteArray)) ++ t273).size + 1 ≤ 9223372036854775807 then (some ((((x4 ++ t272) ++ (⟨#[77]⟩ : ByteArray)) ++ t273) ++ (⟨#[83]⟩ : ByteArray), 0)) else (none)) else (none))) else (some ((x4 ++ t272) ++ (⟨#[77]⟩ : ByteArray), 0))) else (none)) else (none))) else (if (Int.tmod x0 60) > 0 then ((posthornref12_decimal.f k (Int.tmod x0 60)).bind fun t274 => (if x4.size + t274.size ≤ 9223372036854775807 then (if (x4 ++ t274).size + 1 ≤ 9223372036854775807 then (some ((x4 ++ t274) ++ (⟨#[83]⟩ : ByteArray), 0)) else (none)) else (none))) else (some (x4, 0)))
end
def posthornref12_Span.f (k : Nat) (a0 : Int) : Option (ByteArray × Int) := if a0 < (-1099511627776) then (posthornref12_Span.j0 k a0 true) else (posthornref12_Span.j0 k a0 (decide (a0 > 1099511627776)))
theorem posthornref12_Span.mono_l : ∀ k, (∀ y0 y1, LeO (posthornref12_Span.j0 k y0 y1) (posthornref12_Span.j0 (k + 1) y0 y1)) ∧ (∀ y0 y1, LeO (posthornref12_Span.j1 k y0 y1) (posthornref12_Span.j1 (k + 1) y0 y1)) ∧ (∀ y0 y1 y2, LeO (posthornref12_Span.j2 k y0 y1 y2) (posthornref12_Span.j2 (k + 1) y0 y1 y2)) ∧ (∀ y0 y1, LeO (posthornref12_Span.j3 k y0 y1) (posthornref12_Span.j3 (k + 1) y0 y1)) ∧ (∀ y0 y1, LeO (posthornref12_Span.j4 k y0 y1) (posthornref12_Span.j4 (k + 1) y0 y1)) ∧ (∀ y0 y1, LeO (posthornref12_Span.j5 k y0 y1) (posthornref12_Span.j5 (k + 1) y0 y1)) ∧ (∀ y0 y1 y2, LeO (posthornref12_Span.j6 k y0 y1 y2) (posthornref12_Span.j6 (k + 1) y0 y1 y2))
 | 0 => ⟨fun _ _ r h => by simp [posthornref12_Span.j0] at h, fun _ _ r h => by simp [posthornref12_Span.j1] at h, fun _ _ _ r h => by simp [posthornref12_Span.j2] at h, fun _ _ r h => by simp [posthornref12_Span.j3] at h, fun _ _ r h => by simp [posthornref12_Span.j4] at h, fun _ _ r h => by simp [posthornref12_Span.j5] at h, fun _ _ _ r h => by simp [posthornref12_Span.j6] at h⟩
 | k + 1 => by
  obtain ⟨ih0, ih1, ih2, ih3, ih4, ih5, ih6⟩ := posthornref12_Span.mono_l k
  refine ⟨?_, ?_, ?_, ?_, ?_, ?_, ?_⟩
  ·
   intro y0 y1
   unfold posthornref12_Span.j0
   repeat' first
   | (with_reducible exact ih0 _ _)
   | (with_reducible exact ih1 _ _)
   | (with_reducible exact ih2 _ _ _)
   | (with_reducible exact ih3 _ _)
   | (with_reducible exact ih4 _ _)
   | (with_reducible exact ih5 _ _)
   | (with_reducible exact ih6 _ _ _)
   | (with_reducible exact posthornref12_decimal.mono _ _)
   | (with_reducible exact LeO.refl _)
   | (with_reducible exact LeO.none _)
   | (with_reducible refine LeO.ite ?_ ?_)
   | (with_reducible refine LeO.bind ?_ (fun _ => ?_))
   | exact ih0 _ _
   | exact ih1 _ _
   | exact ih2 _ _ _
   | exact ih3 _ _
   | exact ih4 _ _
   | exact ih5 _ _
   | exact ih6 _ _ _
   | exact posthornref12_decimal.mono _ _
   | exact LeO.none _
   | refine LeO.ite ?_ ?_
   | refine LeO.bind ?_ (fun _ => ?_)
  ·
   intro y0 y1
   unfold posthornref12_Span.j1
   repeat' first
   | (with_reducible exact ih0 _ _)
   | (with_reducible exact ih1 _ _)
   | (with_reducible exact ih2 _ _ _)
   | (with_reducible exact ih3 _ _)
   | (with_reducible exact ih4 _ _)
   | (with_reducible exact ih5 _ _)
   | (with_reducible exact ih6 _ _ _)
   | (with_reducible exact posthornref12_decimal.mono _ _)
   | (with_reducible exact LeO.refl _)
   | (with_reducible exact LeO.none _)
   | (with_reducible refine LeO.ite ?_ ?_)
   | (with_reducible refine LeO.bind ?_ (fun _ => ?_))
   | exact ih0 _ _
   | exact ih1 _ _
   | exact ih2 _ _ _
   | exact ih3 _ _
   | exact ih4 _ _
   | exact ih5 _ _
   | exact ih6 _ _ _
   | exact posthornref12_decimal.mono _ _
   | exact LeO.none _
   | refine LeO.ite ?_ ?_
   | refine LeO.bind ?_ (fun _ => ?_)
  ·
   intro y0 y1 y2
   unfold posthornref12_Span.j2
   repeat' first
   | (with_reducible exact ih0 _ _)
   | (with_reducible exact ih1 _ _)
   | (with_reducible exact ih2 _ _ _)
   | (with_reducible exact ih3 _ _)
   | (with_reducible exact ih4 _ _)
   | (with_reducible exact ih5 _ _)
   | (with_reducible exact ih6 _ _ _)
   | (with_reducible exact posthornref12_decimal.mono _ _)
   | (with_reducible exact LeO.refl _)
   | (with_reducible exact LeO.none _)
   | (with_reducible refine LeO.ite ?_ ?_)
   | (with_reducible refine LeO.bind ?_ (fun _ => ?_))
   | exact ih0 _ _
   | exact ih1 _ _
   | exact ih2 _ _ _
   | exact ih3 _ _
   | exact ih4 _ _
   | exact ih5 _ _
   | exact ih6 _ _ _
   | exact posthornref12_decimal.mono _ _
   | exact LeO.none _
   | refine LeO.ite ?_ ?_
   | refine LeO.bind ?_ (fun _ => ?_)
  ·
   intro y0 y1
   unfold posthornref12_Span.j3
   repeat' first
   | (with_reducible exact ih0 _ _)
   | (with_reducible exact ih1 _ _)
   | (with_reducible exact ih2 _ _ _)
   | (with_reducible exact ih3 _ _)
   | (with_reducible exact ih4 _ _)
   | (with_reducible exact ih5 _ _)
   | (with_reducible exact ih6 _ _ _)
   | (with_reducible exact posthornref12_decimal.mono _ _)
   | (with_reducible exact LeO.refl _)
   | (with_reducible exact LeO.none _)
   | (with_reducible refine LeO.ite ?_ ?_)
   | (with_reducible refine LeO.bind ?_ (fun _ => ?_))
   | exact ih0 _ _
   | exact ih1 _ _
   | exact ih2 _ _ _
   | exact ih3 _ _
   | exact ih4 _ _
   | exact ih5 _ _
   | exact ih6 _ _ _
   | exact posthornref12_decimal.mono _ _
   | exact LeO.none _
   | refine LeO.ite ?_ ?_
   | refine LeO.bind ?_ (fun _ => ?_)
  ·
   intro y0 y1
   unfold posthornref12_Span.j4
   repeat' first
   | (with_reducible exact ih0 _ _)
   | (with_reducible exact ih1 _ _)
   | (with_reducible exact ih2 _ _ _)
   | (with_reducible exact ih3 _ _)
   | (with_reducible exact ih4 _ _)
   | (with_reducible exact ih5 _ _)
   | (with_reducible exact ih6 _ _ _)
   | (with_reducible exact posthornref12_decimal.mono _ _)
   | (with_reducible exact LeO.refl _)
   | (with_reducible exact LeO.none _)
   | (with_reducible refine LeO.ite ?_ ?_)
   | (with_reducible refine LeO.bind ?_ (fun _ => ?_))
   | exact ih0 _ _
   | exact ih1 _ _
   | exact ih2 _ _ _
   | exact ih3 _ _
   | exact ih4 _ _
   | exact ih5 _ _
   | exact ih6 _ _ _
   | exact posthornref12_decimal.mono _ _
   | exact LeO.none _
   | refine LeO.ite ?_ ?_
   | refine LeO.bind ?_ (fun _ => ?_)
  ·
   intro y0 y1
   unfold posthornref12_Span.j5
   repeat' first
   | (with_reducible exact ih0 _ _)
   | (with_reducible exact ih1 _ _)
   | (with_reducible exact ih2 _ _ _)
   | (with_reducible exact ih3 _ _)
   | (with_reducible exact ih4 _ _)
   | (with_reducible exact ih5 _ _)
   | (with_reducible exact ih6 _ _ _)
   | (with_reducible exact posthornref12_decimal.mono _ _)
   | (with_reducible exact LeO.refl _)
   | (with_reducible exact LeO.none _)
   | (with_reducible refine LeO.ite ?_ ?_)
   | (with_reducible refine LeO.bind ?_ (fun _ => ?_))
   | exact ih0 _ _
   | exact ih1 _ _
   | exact ih2 _ _ _
   | exact ih3 _ _
   | exact ih4 _ _
   | exact ih5 _ _
   | exact ih6 _ _ _
   | exact posthornref12_decimal.mono _ _
   | exact LeO.none _
   | refine LeO.ite ?_ ?_
   | refine LeO.bind ?_ (fun _ => ?_)
  ·
   intro y0 y1 y2
   unfold posthornref12_Span.j6
   repeat' first
   | (with_reducible exact ih0 _ _)
   | (with_reducible exact ih1 _ _)
   | (with_reducible exact ih2 _ _ _)
   | (with_reducible exact ih3 _ _)
   | (with_reducible exact ih4 _ _)
   | (with_reducible exact ih5 _ _)
   | (with_reducible exact ih6 _ _ _)
   | (with_reducible exact posthornref12_decimal.mono _ _)
   | (with_reducible exact LeO.refl _)
   | (with_reducible exact LeO.none _)
   | (with_reducible refine LeO.ite ?_ ?_)
   | (with_reducible refine LeO.bind ?_ (fun _ => ?_))
   | exact ih0 _ _
   | exact ih1 _ _
   | exact ih2 _ _ _
   | exact ih3 _ _
   | exact ih4 _ _
   | exact ih5 _ _
   | exact ih6 _ _ _
   | exact posthornref12_decimal.mono _ _
   | exact LeO.none _
   | refine LeO.ite ?_ ?_
   | refine LeO.bind ?_ (fun _ => ?_)
theorem posthornref12_Span.mono : ∀ a0 k, LeO (posthornref12_Span.f k a0) (posthornref12_Span.f (k + 1) a0) := by
 intro a0 k
 obtain ⟨ih0, ih1, ih2, ih3, ih4, ih5, ih6⟩ := posthornref12_Span.mono_l k
 unfold posthornref12_Span.f
 repeat' first
   | (with_reducible exact ih0 _ _)
   | (with_reducible exact ih1 _ _)
   | (with_reducible exact ih2 _ _ _)
   | (with_reducible exact ih3 _ _)
   | (with_reducible exact ih4 _ _)
   | (with_reducible exact ih5 _ _)
   | (with_reducible exact ih6 _ _ _)
   | (with_reducible exact posthornref12_decimal.mono _ _)
   | (with_reducible exact LeO.refl _)
   | (with_reducible exact LeO.none _)
   | (with_reducible refine LeO.ite ?_ ?_)
   | (with_reducible refine LeO.bind ?_ (fun _ => ?_))
   | exact ih0 _ _
   | exact ih1 _ _
   | exact ih2 _ _ _
   | exact ih3 _ _
   | exact ih4 _ _
   | exact ih5 _ _
   | exact ih6 _ _ _
   | exact posthornref12_decimal.mono _ _
   | exact LeO.none _
   | refine LeO.ite ?_ ?_
   | refine LeO.bind ?_ (fun _ => ?_)
set_option maxHeartbeats 8000000 in
set_option maxRecDepth 100000 in
theorem posthornref12_Span.calls (k : Nat) (a0 : Int) (r1 : ByteArray) (r2 : Int) (w : World) (h : posthornref12_Span.f k a0 = some (r1, r2)) :
  Calls Tryd.prog 22 #[.int .i64 a0] w fun e w' => e = .returned (.tuple #[.string r1, .int .i64 r2]) ∧ Below w.heap.size w w' := by
 have HB := Aside0.mk (Below.refl w.heap.size w)
 have H : (if a0 < (-1099511627776) then (posthornref12_Span.j0 k a0 true) else (posthornref12_Span.j0 k a0 (decide (a0 > 1099511627776)))) = some (r1, r2) := h
 clear h
 have HC2 := Aside0.mk H
 clear H
 go_enter Tryd.func22, Tryd.ntmps22
 go_upto_region 1 with (fail)
 go_cut [10] (fun v10 wc => ∃ (kq : Nat) (x10_1 : Bool), v10 = .bool x10_1 ∧ Aside0 (posthornref12_Span.j0 kq a0 x10_1 = some (r1, r2)) ∧ Aside0 (kq ≤ k) ∧ Aside0 (Below w.heap.size w wc))
 case first =>
  have H := HC2.out
  clear HC2
  by_cases c3 : a0 < (-1099511627776)
  ·
   rw [if_pos c3] at H
   have c3b0 : decide (a0 < (-1099511627776)) = true := decide_eq_true c3
   clear c3
   (first | rw [c3b0] | (simp only [i64_w, i32_w]; rw [c3b0]) | skip)
   have H' := Aside0.mk H
   clear H
   go_wp2
   go_meet
   case rel => exact ⟨_, (true), (by first | rfl | (simp; done) | (simp [*]; done)), H', ⟨by first | omega | exact Nat.le_refl _⟩, ⟨by repeat (first | (with_reducible first | exact HB.out | apply below_alloc | apply pw_below_drewN | apply below_drew1) | exact HB.out)⟩⟩
  ·
   rw [if_neg c3] at H
   have c3b0 : decide (a0 < (-1099511627776)) = false := decide_eq_false c3
   clear c3
   (first | rw [c3b0] | (simp only [i64_w, i32_w]; rw [c3b0]) | skip)
   have H' := Aside0.mk H
   clear H
   go_wp2
   go_meet
   case rel => exact ⟨_, (decide (a0 > 1099511627776)), (by first | rfl | (simp; done) | (simp [*]; done)), H', ⟨by first | omega | exact Nat.le_refl _⟩, ⟨by repeat (first | (with_reducible first | exact HB.out | apply below_alloc | apply pw_below_drewN | apply below_drew1) | exact HB.out)⟩⟩
 case rest =>
  clear HC2
  try clear c2
  try clear p2
  try clear c3
  try clear c3b0
  obtain ⟨kq, x10_1, rfl, HA, HJ1, HB⟩ := hcut
  cases kq with
  | zero => exact absurd HA.out (by simp [posthornref12_Span.j0])
  | succ kj1 =>
   have H := HA.out
   clear HA
   simp only [posthornref12_Span.j0, Int.tmod_tmod_of_dvd _ (show (60 : Int) ∣ 86400 by decide), Int.tmod_tmod_of_dvd _ (show (3600 : Int) ∣ 86400 by decide)] at H
   by_cases c4 : x10_1 = true
   ·
    subst c4
    have H1 : (some ((⟨#[]⟩ : ByteArray), 110)) = some (r1, r2) := by rw [if_pos rfl] at H; exact H
    clear H
    have H := H1
    clear H1
    simp only [Option.some.injEq, Prod.mk.injEq] at H
    obtain ⟨rfl, rfl⟩ := H
    go_wp2
    go_ret2
    exact ⟨by first | rfl | (simp [errW_none, errW_some] <;> rfl) | (simp [*, errW_none, errW_some] <;> rfl), by repeat (first | (with_reducible first | exact HB.out | apply below_alloc | apply pw_below_drewN | apply below_drew1) | exact HB.out)⟩
   ·
    replace c4 := Bool.eq_false_iff.mpr c4
    subst c4
    have H1 : (if a0 < 0 then (posthornref12_Span.j1 kj1 (wrap64 (-a0)) (⟨#[45, 80]⟩ : ByteArray)) else (posthornref12_Span.j1 kj1 a0 (⟨#[80]⟩ : ByteArray))) = some (r1, r2) := by rw [if_neg (show ¬ (false = true) by decide)] at H; exact H
    clear H
    have H := H1
    clear H1
    have HC5 := Aside0.mk H
    clear H
    go_upto_if 12 with (fail)
    go_cut [0, 4] (fun v0 v4 wc => ∃ (kq : Nat) (x0_4 : Int) (x4_4 : ByteArray), v0 = .int .i64 x0_4 ∧ v4 = .string x4_4 ∧ Aside0 (posthornref12_Span.j1 kq x0_4 x4_4 = some (r1, r2)) ∧ Aside0 (kq ≤ kj1) ∧ Aside0 (Below w.heap.size w wc))
    case first =>
     have H := HC5.out
     clear HC5
     by_cases c6 : a0 < 0
     ·
      rw [if_pos c6] at H
      have c6b0 : decide (a0 < 0) = true := decide_eq_true c6
      clear c6
      (first | rw [c6b0] | (simp only [i64_w, i32_w]; rw [c6b0]) | skip)
      have H' := Aside0.mk H
      clear H
      go_wp2
      go_meet
      case rel => exact ⟨_, (wrap64 (-a0)), ((⟨#[45, 80]⟩ : ByteArray)), (by first | rfl | (simp; done) | (simp [*]; done)), (by first | rfl | (simp; done) | (simp [*]; done)), H', ⟨by have := HJ1.out; first | omega | exact Nat.le_refl _⟩, ⟨by repeat (first | (with_reducible first | exact HB.out | apply below_alloc | apply pw_below_drewN | apply below_drew1) | exact HB.out)⟩⟩
     ·
      rw [if_neg c6] at H
      have c6b0 : decide (a0 < 0) = false := decide_eq_false c6
      clear c6
      (first | rw [c6b0] | (simp only [i64_w, i32_w]; rw [c6b0]) | skip)
      have H' := Aside0.mk H
      clear H
      go_wp2
      go_meet
      case rel => exact ⟨_, (a0), ((⟨#[80]⟩ : ByteArray)), (by first | rfl | (simp; done) | (simp [*]; done)), (by first | rfl | (simp; done) | (simp [*]; done)), H', ⟨by have := HJ1.out; first | omega | exact Nat.le_refl _⟩, ⟨by repeat (first | (with_reducible first | exact HB.out | apply below_alloc | apply pw_below_drewN | apply below_drew1) | exact HB.out)⟩⟩
    case rest =>
     clear HC5
     try clear c2
     try clear p2
     try clear c3
     try clear c3b0
     try clear c4
     try clear c6
     try clear c6b0
     try clear p6
     try clear p2
     obtain ⟨kq, x0_4, x4_4, rfl, rfl, HA, HJ4, HB⟩ := hcut
     cases kq with
     | zero => exact absurd HA.out (by simp [posthornref12_Span.j1])
     | succ kj4 =>
      have H := HA.out
      clear HA
      simp only [posthornref12_Span.j1, Int.tmod_tmod_of_dvd _ (show (60 : Int) ∣ 86400 by decide), Int.tmod_tmod_of_dvd _ (show (3600 : Int) ∣ 86400 by decide)] at H
      have HC7 := Aside0.mk H
      clear H
      go_upto_region 7 with (fail)
      go_cut [21] (fun v21 wc => ∃ (kq : Nat) (x21_6 : Bool), v21 = .bool x21_6 ∧ Aside0 (posthornref12_Span.j2 kq x0_4 x4_4 x21_6 = some (r1, r2)) ∧ Aside0 (kq ≤ kj4) ∧ Aside0 (Below w.heap.size w wc))
      case first =>
       have H := HC7.out
       clear HC7
       by_cases c8 : x0_4 > 0
       ·
        rw [if_pos c8] at H
        have c8b0 : decide (0 < x0_4) = true := decide_eq_true c8
        clear c8
        (first | rw [c8b0] | (simp only [i64_w, i32_w]; rw [c8b0]) | skip)
        have H' := Aside0.mk H
        clear H
        go_wp2
        go_meet
        case rel => exact ⟨_, (((Int.tmod x0_4 604800) == 0)), (by first | rfl | (simp; done) | (simp [*]; done)), H', ⟨by have := HJ1.out; have := HJ4.out; first | omega | exact Nat.le_refl _⟩, ⟨by repeat (first | (with_reducible first | exact HB.out | apply below_alloc | apply pw_below_drewN | apply below_drew1) | exact HB.out)⟩⟩
       ·
        rw [if_neg c8] at H
        have c8b0 : decide (0 < x0_4) = false := decide_eq_false c8
        clear c8
        (first | rw [c8b0] | (simp only [i64_w, i32_w]; rw [c8b0]) | skip)
        have H' := Aside0.mk H
        clear H
        go_wp2
        go_meet
        case rel => exact ⟨_, (false), (by first | rfl | (simp; done) | (simp [*]; done)), H', ⟨by have := HJ1.out; have := HJ4.out; first | omega | exact Nat.le_refl _⟩, ⟨by repeat (first | (with_reducible first | exact HB.out | apply below_alloc | apply pw_below_drewN | apply below_drew1) | exact HB.out)⟩⟩
      case rest =>
       clear HC7
       try clear c2
       try clear p2
       try clear c3
       try clear c3b0
       try clear c4
       try clear c6
       try clear c6b0
       try clear p6
       try clear c8
       try clear c8b0
       try clear p2
       try clear p6
       obtain ⟨kq, x21_6, rfl, HA, HJ6, HB⟩ := hcut
       cases kq with
       | zero => exact absurd HA.out (by simp [posthornref12_Span.j2])
       | succ kj6 =>
        have H := HA.out
        clear HA
        simp only [posthornref12_Span.j2, Int.tmod_tmod_of_dvd _ (show (60 : Int) ∣ 86400 by decide), Int.tmod_tmod_of_dvd _ (show (3600 : Int) ∣ 86400 by decide)] at H
        by_cases c9 : x21_6 = true
        ·
         subst c9
         have H1 : ((posthornref12_decimal.f kj6 (wrap64 (Int.tdiv x0_4 604800))).bind fun t269 => (if x4_4.size + t269.size ≤ 9223372036854775807 then (if (x4_4 ++ t269).size + 1 ≤ 9223372036854775807 then (some ((x4_4 ++ t269) ++ (⟨#[87]⟩ : ByteArray), 0)) else (none)) else (none))) = some (r1, r2) := by rw [if_pos rfl] at H; exact H
         clear H
         have H := H1
         clear H1
         replace H := Option.bind_eq_some_iff.mp H
         obtain ⟨t269, A100, H⟩ := H
         replace H : (if x4_4.size + t269.size ≤ 9223372036854775807 then (if (x4_4 ++ t269).size + 1 ≤ 9223372036854775807 then (some ((x4_4 ++ t269) ++ (⟨#[87]⟩ : ByteArray), 0)) else (none)) else (none)) = some (r1, r2) := H
         have A10 := Aside0.mk A100
         clear A100
         by_cases c11 : x4_4.size + t269.size ≤ 9223372036854775807
         ·
          rw [if_pos c11] at H
          have c11b0 := eq_true c11
          have c11b1 : decide (x4_4.size + t269.size ≤ 9223372036854775807) = true := decide_eq_true c11
          try have c11b2 : (9223372036854775807 < x4_4.size + t269.size) = False := eq_false (Nat.not_lt.2 c11)
          by_cases c12 : (x4_4 ++ t269).size + 1 ≤ 9223372036854775807
          ·
           rw [if_pos c12] at H
           have c12b0 := eq_true c12
           have c12b1 : decide ((x4_4 ++ t269).size + 1 ≤ 9223372036854775807) = true := decide_eq_true c12
           try have c12b2 : (9223372036854775807 < (x4_4 ++ t269).size + 1) = False := eq_false (Nat.not_lt.2 c12)
           try have c12b3 : (9223372036854775807 ≤ (x4_4 ++ t269).size) = False := eq_false (by omega)
           have c12b4 := c12
           try simp only [ByteArray.size_append, mk_size, List.length_cons, List.length_nil, Nat.zero_add, Nat.reduceAdd] at c12b4
           simp only [Option.some.injEq, Prod.mk.injEq] at H
           obtain ⟨rfl, rfl⟩ := H
           go_wp2_with (first | ((with_reducible refine gate_callee (f := 35) rfl ?_); refine goesL_ (some 25) rfl rfl Tryd.func35 (by kernel_rfl) rfl #[.int .i64 (wrap64 (Int.tdiv x0_4 604800))] rfl (by (try simp only [List.map_toArray, List.map_cons, List.map_nil]); first | done | rfl | (simp only [List.length_drop, List.length_take]; rfl)) ?_; (with_reducible refine (posthornref12_decimal.calls kj6 (wrap64 (Int.tdiv x0_4 604800)) t269 _ A10.out).mono ?_); rintro e w13 ⟨rfl, hb⟩; refine ⟨_, rfl, ?_⟩; have n0_ := Aside0.mk (below_step (by repeat (first | (with_reducible first | exact HB.out | apply below_alloc | apply pw_below_drewN | apply below_drew1) | exact HB.out)) hb); clear HB; have HB := n0_; clear n0_; (try clear hb); (try clear hb2); (try clear hk); (try clear hi)))
           go_ret2
           exact ⟨by first | rfl | (simp [errW_none, errW_some] <;> rfl) | (simp [*, errW_none, errW_some] <;> rfl), by repeat (first | (with_reducible first | exact HB.out | apply below_alloc | apply pw_below_drewN | apply below_drew1) | exact HB.out)⟩
          ·
           rw [if_neg c12] at H
           exact absurd H (by simp)
         ·
          rw [if_neg c11] at H
          exact absurd H (by simp)
        ·
         replace c9 := Bool.eq_false_iff.mpr c9
         subst c9
         have H1 : (if x0_4 ≥ 86400 then ((posthornref12_decimal.f kj6 (wrap64 (Int.tdiv x0_4 86400))).bind fun t270 => (if x4_4.size + t270.size ≤ 9223372036854775807 then (if (x4_4 ++ t270).size + 1 ≤ 9223372036854775807 then (posthornref12_Span.j3 kj6 x0_4 ((x4_4 ++ t270) ++ (⟨#[68]⟩ : ByteArray))) else (none)) else (none))) else (posthornref12_Span.j3 kj6 x0_4 x4_4)) = some (r1, r2) := by rw [if_neg (show ¬ (false = true) by decide)] at H; exact H
         clear H
         have H := H1
         clear H1
         have HC14 := Aside0.mk H
         clear H
         go_upto_if 29 with (fail)
         go_cut [4] (fun v4 wc => ∃ (kq : Nat) (x4_13 : ByteArray), v4 = .string x4_13 ∧ Aside0 (posthornref12_Span.j3 kq x0_4 x4_13 = some (r1, r2)) ∧ Aside0 (kq ≤ kj6) ∧ Aside0 (Below w.heap.size w wc))
         case first =>
          have H := HC14.out
          clear HC14
          by_cases c15 : x0_4 ≥ 86400
          ·
           rw [if_pos c15] at H
           have c15b0 : decide (86400 ≤ x0_4) = true := decide_eq_true c15
           clear c15
           (first | rw [c15b0] | (simp only [i64_w, i32_w]; rw [c15b0]) | skip)
           replace H := Option.bind_eq_some_iff.mp H
           obtain ⟨t270, A160, H⟩ := H
           replace H : (if x4_4.size + t270.size ≤ 9223372036854775807 then (if (x4_4 ++ t270).size + 1 ≤ 9223372036854775807 then (posthornref12_Span.j3 kj6 x0_4 ((x4_4 ++ t270) ++ (⟨#[68]⟩ : ByteArray))) else (none)) else (none)) = some (r1, r2) := H
           have A16 := Aside0.mk A160
           clear A160
           by_cases c17 : x4_4.size + t270.size ≤ 9223372036854775807
           ·
            rw [if_pos c17] at H
            have c17b0 := eq_true c17
            have c17b1 : decide (x4_4.size + t270.size ≤ 9223372036854775807) = true := decide_eq_true c17
            try have c17b2 : (9223372036854775807 < x4_4.size + t270.size) = False := eq_false (Nat.not_lt.2 c17)
            by_cases c18 : (x4_4 ++ t270).size + 1 ≤ 9223372036854775807
            ·
             rw [if_pos c18] at H
             have c18b0 := eq_true c18
             have c18b1 : decide ((x4_4 ++ t270).size + 1 ≤ 9223372036854775807) = true := decide_eq_true c18
             try have c18b2 : (9223372036854775807 < (x4_4 ++ t270).size + 1) = False := eq_false (Nat.not_lt.2 c18)
             try have c18b3 : (9223372036854775807 ≤ (x4_4 ++ t270).size) = False := eq_false (by omega)
             have c18b4 := c18
             try simp only [ByteArray.size_append, mk_size, List.length_cons, List.length_nil, Nat.zero_add, Nat.reduceAdd] at c18b4
             have H' := Aside0.mk H
             clear H
             go_wp2_with (first | ((with_reducible refine gate_callee (f := 35) rfl ?_); refine goesL_ (some 33) rfl rfl Tryd.func35 (by kernel_rfl) rfl #[.int .i64 (wrap64 (Int.tdiv x0_4 86400))] rfl (by (try simp only [List.map_toArray, List.map_cons, List.map_nil]); first | done | rfl | (simp only [List.length_drop, List.length_take]; rfl)) ?_; (with_reducible refine (posthornref12_decimal.calls kj6 (wrap64 (Int.tdiv x0_4 86400)) t270 _ A16.out).mono ?_); rintro e w19 ⟨rfl, hb⟩; refine ⟨_, rfl, ?_⟩; have n0_ := Aside0.mk (below_step (by repeat (first | (with_reducible first | exact HB.out | apply below_alloc | apply pw_below_drewN | apply below_drew1) | exact HB.out)) hb); clear HB; have HB := n0_; clear n0_; (try clear hb); (try clear hb2); (try clear hk); (try clear hi)))
             go_meet
             case rel => exact ⟨_, ((x4_4 ++ t270) ++ (⟨#[68]⟩ : ByteArray)), (by first | rfl | (simp; done) | (simp [*]; done)), H', ⟨by have := HJ1.out; have := HJ4.out; have := HJ6.out; first | omega | exact Nat.le_refl _⟩, ⟨by repeat (first | (with_reducible first | exact HB.out | apply below_alloc | apply pw_below_drewN | apply below_drew1) | exact HB.out)⟩⟩
            ·
             rw [if_neg c18] at H
             exact absurd H (by simp)
           ·
            rw [if_neg c17] at H
            exact absurd H (by simp)
          ·
           rw [if_neg c15] at H
           have c15b0 : decide (86400 ≤ x0_4) = false := decide_eq_false c15
           clear c15
           (first | rw [c15b0] | (simp only [i64_w, i32_w]; rw [c15b0]) | skip)
           have H' := Aside0.mk H
           clear H
           go_wp2
           go_meet
           case rel => exact ⟨_, (x4_4), (by first | rfl | (simp; done) | (simp [*]; done)), H', ⟨by have := HJ1.out; have := HJ4.out; have := HJ6.out; first | omega | exact Nat.le_refl _⟩, ⟨by repeat (first | (with_reducible first | exact HB.out | apply below_alloc | apply pw_below_drewN | apply below_drew1) | exact HB.out)⟩⟩
         case rest =>
          clear HC14
          try clear c1
          try clear c2
          try clear p2
          try clear c3
          try clear c3b0
          try clear c4
          try clear c6
          try clear c6b0
          try clear p6
          try clear c8
          try clear c8b0
          try clear c9
          try clear c11
          try clear c11b0
          try clear c11b1
          try clear c11b2
          try clear c12
          try clear c12b0
          try clear c12b1
          try clear c12b2
          try clear c15
          try clear c15b0
          try clear c17
          try clear c17b0
          try clear c17b1
          try clear c17b2
          try clear c18
          try clear c18b0
          try clear c18b1
          try clear c18b2
          try clear p2
          try clear p6
          obtain ⟨kq, x4_13, rfl, HA, HJ13, HB⟩ := hcut
          cases kq with
          | zero => exact absurd HA.out (by simp [posthornref12_Span.j3])
          | succ kj13 =>
           have H := HA.out
           clear HA
           simp only [posthornref12_Span.j3, Int.tmod_tmod_of_dvd _ (show (60 : Int) ∣ 86400 by decide), Int.tmod_tmod_of_dvd _ (show (3600 : Int) ∣ 86400 by decide)] at H
           by_cases c20 : x0_4 = 0
           ·
            rw [if_pos c20] at H
            have c20b0 : (x0_4 == 0) = true := beq_iff_eq.mpr c20
            have c20b1 : (x0_4 != 0) = false := bne_eq_false_iff_eq.mpr c20
            clear c20
            simp only [Option.some.injEq, Prod.mk.injEq] at H
            obtain ⟨rfl, rfl⟩ := H
            go_wp2
            go_ret2
            exact ⟨by first | rfl | (simp [errW_none, errW_some] <;> rfl) | (simp [*, errW_none, errW_some] <;> rfl), by repeat (first | (with_reducible first | exact HB.out | apply below_alloc | apply pw_below_drewN | apply below_drew1) | exact HB.out)⟩
           ·
            rw [if_neg c20] at H
            have c20b0 : (x0_4 == 0) = false := beq_eq_false_iff_ne.mpr c20
            have c20b1 : (x0_4 != 0) = true := bne_iff_ne.mpr c20
            have HC21 := Aside0.mk H
            clear H
            go_upto_if 41 with (fail)
            go_cut [4] (fun v4 wc => ∃ (kq : Nat) (x4_20 : ByteArray), v4 = .string x4_20 ∧ Aside0 (posthornref12_Span.j4 kq (Int.tmod x0_4 86400) x4_20 = some (r1, r2)) ∧ Aside0 (kq ≤ kj13) ∧ Aside0 (Below w.heap.size w wc))
            case first =>
             have H := HC21.out
             clear HC21
             by_cases c22 : (Int.tmod x0_4 86400) > 0
             ·
              rw [if_pos c22] at H
              have c22b0 : decide (0 < (Int.tmod x0_4 86400)) = true := decide_eq_true c22
              clear c22
              (first | rw [c22b0] | (simp only [i64_w, i32_w]; rw [c22b0]) | skip)
              by_cases c23 : x4_13.size + 1 ≤ 9223372036854775807
              ·
               rw [if_pos c23] at H
               have c23b0 := eq_true c23
               have c23b1 : decide (x4_13.size + 1 ≤ 9223372036854775807) = true := decide_eq_true c23
               try have c23b2 : (9223372036854775807 < x4_13.size + 1) = False := eq_false (Nat.not_lt.2 c23)
               try have c23b3 : (9223372036854775807 ≤ x4_13.size) = False := eq_false (by omega)
               have H' := Aside0.mk H
               clear H
               go_wp2
               go_meet
               case rel => exact ⟨_, (x4_13 ++ (⟨#[84]⟩ : ByteArray)), (by first | rfl | (simp; done) | (simp [*]; done)), H', ⟨by have := HJ1.out; have := HJ4.out; have := HJ6.out; have := HJ13.out; first | omega | exact Nat.le_refl _⟩, ⟨by repeat (first | (with_reducible first | exact HB.out | apply below_alloc | apply pw_below_drewN | apply below_drew1) | exact HB.out)⟩⟩
              ·
               rw [if_neg c23] at H
               exact absurd H (by simp)
             ·
              rw [if_neg c22] at H
              have c22b0 : decide (0 < (Int.tmod x0_4 86400)) = false := decide_eq_false c22
              clear c22
              (first | rw [c22b0] | (simp only [i64_w, i32_w]; rw [c22b0]) | skip)
              have H' := Aside0.mk H
              clear H
              go_wp2
              go_meet
              case rel => exact ⟨_, (x4_13), (by first | rfl | (simp; done) | (simp [*]; done)), H', ⟨by have := HJ1.out; have := HJ4.out; have := HJ6.out; have := HJ13.out; first | omega | exact Nat.le_refl _⟩, ⟨by repeat (first | (with_reducible first | exact HB.out | apply below_alloc | apply pw_below_drewN | apply below_drew1) | exact HB.out)⟩⟩
            case rest =>
             clear HC21
             try clear c1
             try clear c2
             try clear p2
             try clear c3
             try clear c3b0
             try clear c4
             try clear c6
             try clear c6b0
             try clear p6
             try clear c8
             try clear c8b0
             try clear c9
             try clear c11
             try clear c11b0
             try clear c11b1
             try clear c11b2
             try clear c12
             try clear c12b0
             try clear c12b1
             try clear c12b2
             try clear c15
             try clear c15b0
             try clear c17
             try clear c17b0
             try clear c17b1
             try clear c17b2
             try clear c18
             try clear c18b0
             try clear c18b1
             try clear c18b2
             try clear c20
             try clear c20b0
             try clear c20b1
             try clear c22
             try clear c22b0
             try clear c23
             try clear c23b0
             try clear c23b1
             try clear c23b2
             try clear p2
             try clear p6
             obtain ⟨kq, x4_20, rfl, HA, HJ20, HB⟩ := hcut
             cases kq with
             | zero => exact absurd HA.out (by simp [posthornref12_Span.j4])
             | succ kj20 =>
              have H := HA.out
              clear HA
              simp only [posthornref12_Span.j4, Int.tmod_tmod_of_dvd _ (show (60 : Int) ∣ 86400 by decide), Int.tmod_tmod_of_dvd _ (show (3600 : Int) ∣ 86400 by decide)] at H
              have HC24 := Aside0.mk H
              clear H
              go_upto_if 45 with (fail)
              go_cut [4] (fun v4 wc => ∃ (kq : Nat) (x4_23 : ByteArray), v4 = .string x4_23 ∧ Aside0 (posthornref12_Span.j5 kq (Int.tmod x0_4 86400) x4_23 = some (r1, r2)) ∧ Aside0 (kq ≤ kj20) ∧ Aside0 (Below w.heap.size w wc))
              case first =>
               have H := HC24.out
               clear HC24
               by_cases c25 : (Int.tmod x0_4 86400) ≥ 3600
               ·
                rw [if_pos c25] at H
                have c25b0 : decide (3600 ≤ (Int.tmod x0_4 86400)) = true := decide_eq_true c25
                clear c25
                (first | rw [c25b0] | (simp only [i64_w, i32_w]; rw [c25b0]) | skip)
                replace H := Option.bind_eq_some_iff.mp H
                obtain ⟨t271, A260, H⟩ := H
                replace H : (if x4_20.size + t271.size ≤ 9223372036854775807 then (if (x4_20 ++ t271).size + 1 ≤ 9223372036854775807 then (posthornref12_Span.j5 kj20 (Int.tmod x0_4 86400) ((x4_20 ++ t271) ++ (⟨#[72]⟩ : ByteArray))) else (none)) else (none)) = some (r1, r2) := H
                have A26 := Aside0.mk A260
                clear A260
                by_cases c27 : x4_20.size + t271.size ≤ 9223372036854775807
                ·
                 rw [if_pos c27] at H
                 have c27b0 := eq_true c27
                 have c27b1 : decide (x4_20.size + t271.size ≤ 9223372036854775807) = true := decide_eq_true c27
                 try have c27b2 : (9223372036854775807 < x4_20.size + t271.size) = False := eq_false (Nat.not_lt.2 c27)
                 by_cases c28 : (x4_20 ++ t271).size + 1 ≤ 9223372036854775807
                 ·
                  rw [if_pos c28] at H
                  have c28b0 := eq_true c28
                  have c28b1 : decide ((x4_20 ++ t271).size + 1 ≤ 9223372036854775807) = true := decide_eq_true c28
                  try have c28b2 : (9223372036854775807 < (x4_20 ++ t271).size + 1) = False := eq_false (Nat.not_lt.2 c28)
                  try have c28b3 : (9223372036854775807 ≤ (x4_20 ++ t271).size) = False := eq_false (by omega)
                  have c28b4 := c28
                  try simp only [ByteArray.size_append, mk_size, List.length_cons, List.length_nil, Nat.zero_add, Nat.reduceAdd] at c28b4
                  have H' := Aside0.mk H
                  clear H
                  go_wp2_with (first | ((with_reducible refine gate_callee (f := 35) rfl ?_); refine goesL_ (some 49) rfl rfl Tryd.func35 (by kernel_rfl) rfl #[.int .i64 (wrap64 (Int.tdiv (Int.tmod x0_4 86400) 3600))] rfl (by (try simp only [List.map_toArray, List.map_cons, List.map_nil]); first | done | rfl | (simp only [List.length_drop, List.length_take]; rfl)) ?_; (with_reducible refine (posthornref12_decimal.calls kj20 (wrap64 (Int.tdiv (Int.tmod x0_4 86400) 3600)) t271 _ A26.out).mono ?_); rintro e w29 ⟨rfl, hb⟩; refine ⟨_, rfl, ?_⟩; have n0_ := Aside0.mk (below_step (by repeat (first | (with_reducible first | exact HB.out | apply below_alloc | apply pw_below_drewN | apply below_drew1) | exact HB.out)) hb); clear HB; have HB := n0_; clear n0_; (try clear hb); (try clear hb2); (try clear hk); (try clear hi)))
                  go_meet
                  case rel => exact ⟨_, ((x4_20 ++ t271) ++ (⟨#[72]⟩ : ByteArray)), (by first | rfl | (simp; done) | (simp [*]; done)), H', ⟨by have := HJ1.out; have := HJ4.out; have := HJ6.out; have := HJ13.out; have := HJ20.out; first | omega | exact Nat.le_refl _⟩, ⟨by repeat (first | (with_reducible first | exact HB.out | apply below_alloc | apply pw_below_drewN | apply below_drew1) | exact HB.out)⟩⟩
                 ·
                  rw [if_neg c28] at H
                  exact absurd H (by simp)
                ·
                 rw [if_neg c27] at H
                 exact absurd H (by simp)
               ·
                rw [if_neg c25] at H
                have c25b0 : decide (3600 ≤ (Int.tmod x0_4 86400)) = false := decide_eq_false c25
                clear c25
                (first | rw [c25b0] | (simp only [i64_w, i32_w]; rw [c25b0]) | skip)
                have H' := Aside0.mk H
                clear H
                go_wp2
                go_meet
                case rel => exact ⟨_, (x4_20), (by first | rfl | (simp; done) | (simp [*]; done)), H', ⟨by have := HJ1.out; have := HJ4.out; have := HJ6.out; have := HJ13.out; have := HJ20.out; first | omega | exact Nat.le_refl _⟩, ⟨by repeat (first | (with_reducible first | exact HB.out | apply below_alloc | apply pw_below_drewN | apply below_drew1) | exact HB.out)⟩⟩
              case rest =>
               clear HC24
               try clear c1
               try clear c2
               try clear p2
               try clear c3
               try clear c3b0
               try clear c4
               try clear c6
               try clear c6b0
               try clear p6
               try clear c8
               try clear c8b0
               try clear c9
               try clear c11
               try clear c11b0
               try clear c11b1
               try clear c11b2
               try clear c12
               try clear c12b0
               try clear c12b1
               try clear c12b2
               try clear c15
               try clear c15b0
               try clear c17
               try clear c17b0
               try clear c17b1
               try clear c17b2
               try clear c18
               try clear c18b0
               try clear c18b1
               try clear c18b2
               try clear c20
               try clear c20b0
               try clear c20b1
               try clear c22
               try clear c22b0
               try clear c23
               try clear c23b0
               try clear c23b1
               try clear c23b2
               try clear c25
               try clear c25b0
               try clear c27
               try clear c27b0
               try clear c27b1
               try clear c27b2
               try clear c28
               try clear c28b0
               try clear c28b1
               try clear c28b2
               try clear p2
               try clear p6
               obtain ⟨kq, x4_23, rfl, HA, HJ23, HB⟩ := hcut
               cases kq with
               | zero => exact absurd HA.out (by simp [posthornref12_Span.j5])
               | succ kj23 =>
                have H := HA.out
                clear HA
                simp only [posthornref12_Span.j5, Int.tmod_tmod_of_dvd _ (show (60 : Int) ∣ 86400 by decide), Int.tmod_tmod_of_dvd _ (show (3600 : Int) ∣ 86400 by decide)] at H
                have HC30 := Aside0.mk H
                clear H
                go_upto_region 18 with (fail)
                go_cut [63] (fun v63 wc => ∃ (kq : Nat) (x63_29 : Bool), v63 = .bool x63_29 ∧ Aside0 (posthornref12_Span.j6 kq (Int.tmod x0_4 86400) x4_23 x63_29 = some (r1, r2)) ∧ Aside0 (kq ≤ kj23) ∧ Aside0 (Below w.heap.size w wc))
                case first =>
                 have H := HC30.out
                 clear HC30
                 by_cases c31 : (Int.tmod x0_4 3600) ≥ 60
                 ·
                  rw [if_pos c31] at H
                  have c31b0 : decide (60 ≤ (Int.tmod x0_4 3600)) = true := decide_eq_true c31
                  clear c31
                  (first | rw [c31b0] | (simp only [i64_w, i32_w]; rw [c31b0]) | skip)
                  have H' := Aside0.mk H
                  clear H
                  go_wp2
                  go_meet
                  case rel => exact ⟨_, (true), (by first | rfl | (simp; done) | (simp [*]; done)), H', ⟨by have := HJ1.out; have := HJ4.out; have := HJ6.out; have := HJ13.out; have := HJ20.out; have := HJ23.out; first | omega | exact Nat.le_refl _⟩, ⟨by repeat (first | (with_reducible first | exact HB.out | apply below_alloc | apply pw_below_drewN | apply below_drew1) | exact HB.out)⟩⟩
                 ·
                  rw [if_neg c31] at H
                  have c31b0 : decide (60 ≤ (Int.tmod x0_4 3600)) = false := decide_eq_false c31
                  clear c31
                  (first | rw [c31b0] | (simp only [i64_w, i32_w]; rw [c31b0]) | skip)
                  by_cases c32 : (Int.tmod x0_4 86400) ≥ 3600
                  ·
                   rw [if_pos c32] at H
                   have c32b0 : decide (3600 ≤ (Int.tmod x0_4 86400)) = true := decide_eq_true c32
                   clear c32
                   have H' := Aside0.mk H
                   clear H
                   go_wp2
                   go_meet
                   case rel => exact ⟨_, (decide ((Int.tmod x0_4 60) > 0)), (by first | rfl | (simp; done) | (simp [*]; done)), H', ⟨by have := HJ1.out; have := HJ4.out; have := HJ6.out; have := HJ13.out; have := HJ20.out; have := HJ23.out; first | omega | exact Nat.le_refl _⟩, ⟨by repeat (first | (with_reducible first | exact HB.out | apply below_alloc | apply pw_below_drewN | apply below_drew1) | exact HB.out)⟩⟩
                  ·
                   rw [if_neg c32] at H
                   have c32b0 : decide (3600 ≤ (Int.tmod x0_4 86400)) = false := decide_eq_false c32
                   clear c32
                   have H' := Aside0.mk H
                   clear H
                   go_wp2
                   go_meet
                   case rel => exact ⟨_, (false), (by first | rfl | (simp; done) | (simp [*]; done)), H', ⟨by have := HJ1.out; have := HJ4.out; have := HJ6.out; have := HJ13.out; have := HJ20.out; have := HJ23.out; first | omega | exact Nat.le_refl _⟩, ⟨by repeat (first | (with_reducible first | exact HB.out | apply below_alloc | apply pw_below_drewN | apply below_drew1) | exact HB.out)⟩⟩
                case rest =>
                 clear HC30
                 try clear c1
                 try clear c2
                 try clear p2
                 try clear c3
                 try clear c3b0
                 try clear c4
                 try clear c6
                 try clear c6b0
                 try clear p6
                 try clear c8
                 try clear c8b0
                 try clear c9
                 try clear c11
                 try clear c11b0
                 try clear c11b1
                 try clear c11b2
                 try clear c12
                 try clear c12b0
                 try clear c12b1
                 try clear c12b2
                 try clear c15
                 try clear c15b0
                 try clear c17
                 try clear c17b0
                 try clear c17b1
                 try clear c17b2
                 try clear c18
                 try clear c18b0
                 try clear c18b1
                 try clear c18b2
                 try clear c20
                 try clear c20b0
                 try clear c20b1
                 try clear c22
                 try clear c22b0
                 try clear c23
                 try clear c23b0
                 try clear c23b1
                 try clear c23b2
                 try clear c25
                 try clear c25b0
                 try clear c27
                 try clear c27b0
                 try clear c27b1
                 try clear c27b2
                 try clear c28
                 try clear c28b0
                 try clear c28b1
                 try clear c28b2
                 try clear c31
                 try clear c31b0
                 try clear c32
                 try clear c32b0
                 try clear p2
                 try clear p6
                 obtain ⟨kq, x63_29, rfl, HA, HJ29, HB⟩ := hcut
                 cases kq with
                 | zero => exact absurd HA.out (by simp [posthornref12_Span.j6])
                 | succ kj29 =>
                  have H := HA.out
                  clear HA
                  simp only [posthornref12_Span.j6, Int.tmod_tmod_of_dvd _ (show (60 : Int) ∣ 86400 by decide), Int.tmod_tmod_of_dvd _ (show (3600 : Int) ∣ 86400 by decide)] at H
                  by_cases c33 : x63_29 = true
                  ·
                   subst c33
                   have H1 : ((posthornref12_decimal.f kj29 (wrap64 (Int.tdiv (Int.tmod x0_4 3600) 60))).bind fun t272 => (if x4_23.size + t272.size ≤ 9223372036854775807 then (if (x4_23 ++ t272).size + 1 ≤ 9223372036854775807 then (if (Int.tmod x0_4 60) > 0 then ((posthornref12_decimal.f kj29 (Int.tmod x0_4 60)).bind fun t273 => (if ((x4_23 ++ t272) ++ (⟨#[77]⟩ : ByteArray)).size + t273.size ≤ 9223372036854775807 then (if (((x4_23 ++ t272) ++ (⟨#[77]⟩ : ByteArray)) ++ t273).size + 1 ≤ 9223372036854775807 then (some ((((x4_23 ++ t272) ++ (⟨#[77]⟩ : ByteArray)) ++ t273) ++ (⟨#[83]⟩ : ByteArray), 0)) else (none)) else (none))) else (some ((x4_23 ++ t272) ++ (⟨#[77]⟩ : ByteArray), 0))) else (none)) else (none))) = some (r1, r2) := by rw [if_pos rfl] at H; exact H
                   clear H
                   have H := H1
                   clear H1
                   replace H := Option.bind_eq_some_iff.mp H
                   obtain ⟨t272, A340, H⟩ := H
                   replace H : (if x4_23.size + t272.size ≤ 9223372036854775807 then (if (x4_23 ++ t272).size + 1 ≤ 9223372036854775807 then (if (Int.tmod x0_4 60) > 0 then ((posthornref12_decimal.f kj29 (Int.tmod x0_4 60)).bind fun t273 => (if ((x4_23 ++ t272) ++ (⟨#[77]⟩ : ByteArray)).size + t273.size ≤ 9223372036854775807 then (if (((x4_23 ++ t272) ++ (⟨#[77]⟩ : ByteArray)) ++ t273).size + 1 ≤ 9223372036854775807 then (some ((((x4_23 ++ t272) ++ (⟨#[77]⟩ : ByteArray)) ++ t273) ++ (⟨#[83]⟩ : ByteArray), 0)) else (none)) else (none))) else (some ((x4_23 ++ t272) ++ (⟨#[77]⟩ : ByteArray), 0))) else (none)) else (none)) = some (r1, r2) := H
                   have A34 := Aside0.mk A340
                   clear A340
                   by_cases c35 : x4_23.size + t272.size ≤ 9223372036854775807
                   ·
                    rw [if_pos c35] at H
                    have c35b0 := eq_true c35
                    have c35b1 : decide (x4_23.size + t272.size ≤ 9223372036854775807) = true := decide_eq_true c35
                    try have c35b2 : (9223372036854775807 < x4_23.size + t272.size) = False := eq_false (Nat.not_lt.2 c35)
                    by_cases c36 : (x4_23 ++ t272).size + 1 ≤ 9223372036854775807
                    ·
                     rw [if_pos c36] at H
                     have c36b0 := eq_true c36
                     have c36b1 : decide ((x4_23 ++ t272).size + 1 ≤ 9223372036854775807) = true := decide_eq_true c36
                     try have c36b2 : (9223372036854775807 < (x4_23 ++ t272).size + 1) = False := eq_false (Nat.not_lt.2 c36)
                     try have c36b3 : (9223372036854775807 ≤ (x4_23 ++ t272).size) = False := eq_false (by omega)
                     have c36b4 := c36
                     try simp only [ByteArray.size_append, mk_size, List.length_cons, List.length_nil, Nat.zero_add, Nat.reduceAdd] at c36b4
                     by_cases c37 : (Int.tmod x0_4 60) > 0
                     ·
                      rw [if_pos c37] at H
                      have c37b0 : decide (0 < (Int.tmod x0_4 60)) = true := decide_eq_true c37
                      clear c37
                      replace H := Option.bind_eq_some_iff.mp H
                      obtain ⟨t273, A380, H⟩ := H
                      replace H : (if ((x4_23 ++ t272) ++ (⟨#[77]⟩ : ByteArray)).size + t273.size ≤ 9223372036854775807 then (if (((x4_23 ++ t272) ++ (⟨#[77]⟩ : ByteArray)) ++ t273).size + 1 ≤ 9223372036854775807 then (some ((((x4_23 ++ t272) ++ (⟨#[77]⟩ : ByteArray)) ++ t273) ++ (⟨#[83]⟩ : ByteArray), 0)) else (none)) else (none)) = some (r1, r2) := H
                      have A38 := Aside0.mk A380
                      clear A380
                      by_cases c39 : ((x4_23 ++ t272) ++ (⟨#[77]⟩ : ByteArray)).size + t273.size ≤ 9223372036854775807
                      ·
                       rw [if_pos c39] at H
                       have c39b0 := eq_true c39
                       have c39b1 : decide (((x4_23 ++ t272) ++ (⟨#[77]⟩ : ByteArray)).size + t273.size ≤ 9223372036854775807) = true := decide_eq_true c39
                       try have c39b2 : (9223372036854775807 < ((x4_23 ++ t272) ++ (⟨#[77]⟩ : ByteArray)).size + t273.size) = False := eq_false (Nat.not_lt.2 c39)
                       have c39b4 := c39
                       try simp only [ByteArray.size_append, mk_size, List.length_cons, List.length_nil, Nat.zero_add, Nat.reduceAdd] at c39b4
                       by_cases c40 : (((x4_23 ++ t272) ++ (⟨#[77]⟩ : ByteArray)) ++ t273).size + 1 ≤ 9223372036854775807
                       ·
                        rw [if_pos c40] at H
                        have c40b0 := eq_true c40
                        have c40b1 : decide ((((x4_23 ++ t272) ++ (⟨#[77]⟩ : ByteArray)) ++ t273).size + 1 ≤ 9223372036854775807) = true := decide_eq_true c40
                        try have c40b2 : (9223372036854775807 < (((x4_23 ++ t272) ++ (⟨#[77]⟩ : ByteArray)) ++ t273).size + 1) = False := eq_false (Nat.not_lt.2 c40)
                        try have c40b3 : (9223372036854775807 ≤ (((x4_23 ++ t272) ++ (⟨#[77]⟩ : ByteArray)) ++ t273).size) = False := eq_false (by omega)
                        have c40b4 := c40
                        try simp only [ByteArray.size_append, mk_size, List.length_cons, List.length_nil, Nat.zero_add, Nat.reduceAdd] at c40b4
                        simp only [Option.some.injEq, Prod.mk.injEq] at H
                        obtain ⟨rfl, rfl⟩ := H
                        go_wp2_with (first | ((with_reducible refine gate_callee (f := 35) rfl ?_); refine goesL_ (some 68) rfl rfl Tryd.func35 (by kernel_rfl) rfl #[.int .i64 (wrap64 (Int.tdiv (Int.tmod x0_4 3600) 60))] rfl (by (try simp only [List.map_toArray, List.map_cons, List.map_nil]); first | done | rfl | (simp only [List.length_drop, List.length_take]; rfl)) ?_; (with_reducible refine (posthornref12_decimal.calls kj29 (wrap64 (Int.tdiv (Int.tmod x0_4 3600) 60)) t272 _ A34.out).mono ?_); rintro e w41 ⟨rfl, hb⟩; refine ⟨_, rfl, ?_⟩; have n0_ := Aside0.mk (below_step (by repeat (first | (with_reducible first | exact HB.out | apply below_alloc | apply pw_below_drewN | apply below_drew1) | exact HB.out)) hb); clear HB; have HB := n0_; clear n0_; (try clear hb); (try clear hb2); (try clear hk); (try clear hi)) | ((with_reducible refine gate_callee (f := 35) rfl ?_); refine goesL_ (some 77) rfl rfl Tryd.func35 (by kernel_rfl) rfl #[.int .i64 (Int.tmod x0_4 60)] rfl (by (try simp only [List.map_toArray, List.map_cons, List.map_nil]); first | done | rfl | (simp only [List.length_drop, List.length_take]; rfl)) ?_; (with_reducible refine (posthornref12_decimal.calls kj29 (Int.tmod x0_4 60) t273 _ A38.out).mono ?_); rintro e w42 ⟨rfl, hb⟩; refine ⟨_, rfl, ?_⟩; have n0_ := Aside0.mk (below_step (by repeat (first | (with_reducible first | exact HB.out | apply below_alloc | apply pw_below_drewN | apply below_drew1) | exact HB.out)) hb); clear HB; have HB := n0_; clear n0_; (try clear hb); (try clear hb2); (try clear hk); (try clear hi)))
                        go_ret2
                        exact ⟨by first | rfl | (simp [errW_none, errW_some] <;> rfl) | (simp [*, errW_none, errW_some] <;> rfl), by repeat (first | (with_reducible first | exact HB.out | apply below_alloc | apply pw_below_drewN | apply below_drew1) | exact HB.out)⟩
                       ·
                        rw [if_neg c40] at H
                        exact absurd H (by simp)
                      ·
                       rw [if_neg c39] at H
                       exact absurd H (by simp)
                     ·
                      rw [if_neg c37] at H
                      have c37b0 : decide (0 < (Int.tmod x0_4 60)) = false := decide_eq_false c37
                      clear c37
                      simp only [Option.some.injEq, Prod.mk.injEq] at H
                      obtain ⟨rfl, rfl⟩ := H
                      go_wp2_with (first | ((with_reducible refine gate_callee (f := 35) rfl ?_); refine goesL_ (some 68) rfl rfl Tryd.func35 (by kernel_rfl) rfl #[.int .i64 (wrap64 (Int.tdiv (Int.tmod x0_4 3600) 60))] rfl (by (try simp only [List.map_toArray, List.map_cons, List.map_nil]); first | done | rfl | (simp only [List.length_drop, List.length_take]; rfl)) ?_; (with_reducible refine (posthornref12_decimal.calls kj29 (wrap64 (Int.tdiv (Int.tmod x0_4 3600) 60)) t272 _ A34.out).mono ?_); rintro e w43 ⟨rfl, hb⟩; refine ⟨_, rfl, ?_⟩; have n0_ := Aside0.mk (below_step (by repeat (first | (with_reducible first | exact HB.out | apply below_alloc | apply pw_below_drewN | apply below_drew1) | exact HB.out)) hb); clear HB; have HB := n0_; clear n0_; (try clear hb); (try clear hb2); (try clear hk); (try clear hi)))
                      go_ret2
                      exact ⟨by first | rfl | (simp [errW_none, errW_some] <;> rfl) | (simp [*, errW_none, errW_some] <;> rfl), by repeat (first | (with_reducible first | exact HB.out | apply below_alloc | apply pw_below_drewN | apply below_drew1) | exact HB.out)⟩
                    ·
                     rw [if_neg c36] at H
                     exact absurd H (by simp)
                   ·
                    rw [if_neg c35] at H
                    exact absurd H (by simp)
                  ·
                   replace c33 := Bool.eq_false_iff.mpr c33
                   subst c33
                   have H1 : (if (Int.tmod x0_4 60) > 0 then ((posthornref12_decimal.f kj29 (Int.tmod x0_4 60)).bind fun t274 => (if x4_23.size + t274.size ≤ 9223372036854775807 then (if (x4_23 ++ t274).size + 1 ≤ 9223372036854775807 then (some ((x4_23 ++ t274) ++ (⟨#[83]⟩ : ByteArray), 0)) else (none)) else (none))) else (some (x4_23, 0))) = some (r1, r2) := by rw [if_neg (show ¬ (false = true) by decide)] at H; exact H
                   clear H
                   have H := H1
                   clear H1
                   by_cases c44 : (Int.tmod x0_4 60) > 0
                   ·
                    rw [if_pos c44] at H
                    have c44b0 : decide (0 < (Int.tmod x0_4 60)) = true := decide_eq_true c44
                    clear c44
                    replace H := Option.bind_eq_some_iff.mp H
                    obtain ⟨t274, A450, H⟩ := H
                    replace H : (if x4_23.size + t274.size ≤ 9223372036854775807 then (if (x4_23 ++ t274).size + 1 ≤ 9223372036854775807 then (some ((x4_23 ++ t274) ++ (⟨#[83]⟩ : ByteArray), 0)) else (none)) else (none)) = some (r1, r2) := H
                    have A45 := Aside0.mk A450
                    clear A450
                    by_cases c46 : x4_23.size + t274.size ≤ 9223372036854775807
                    ·
                     rw [if_pos c46] at H
                     have c46b0 := eq_true c46
                     have c46b1 : decide (x4_23.size + t274.size ≤ 9223372036854775807) = true := decide_eq_true c46
                     try have c46b2 : (9223372036854775807 < x4_23.size + t274.size) = False := eq_false (Nat.not_lt.2 c46)
                     by_cases c47 : (x4_23 ++ t274).size + 1 ≤ 9223372036854775807
                     ·
                      rw [if_pos c47] at H
                      have c47b0 := eq_true c47
                      have c47b1 : decide ((x4_23 ++ t274).size + 1 ≤ 9223372036854775807) = true := decide_eq_true c47
                      try have c47b2 : (9223372036854775807 < (x4_23 ++ t274).size + 1) = False := eq_false (Nat.not_lt.2 c47)
                      try have c47b3 : (9223372036854775807 ≤ (x4_23 ++ t274).size) = False := eq_false (by omega)
                      have c47b4 := c47
                      try simp only [ByteArray.size_append, mk_size, List.length_cons, List.length_nil, Nat.zero_add, Nat.reduceAdd] at c47b4
                      simp only [Option.some.injEq, Prod.mk.injEq] at H
                      obtain ⟨rfl, rfl⟩ := H
                      go_wp2_with (first | ((with_reducible refine gate_callee (f := 35) rfl ?_); refine goesL_ (some 77) rfl rfl Tryd.func35 (by kernel_rfl) rfl #[.int .i64 (Int.tmod x0_4 60)] rfl (by (try simp only [List.map_toArray, List.map_cons, List.map_nil]); first | done | rfl | (simp only [List.length_drop, List.length_take]; rfl)) ?_; (with_reducible refine (posthornref12_decimal.calls kj29 (Int.tmod x0_4 60) t274 _ A45.out).mono ?_); rintro e w48 ⟨rfl, hb⟩; refine ⟨_, rfl, ?_⟩; have n0_ := Aside0.mk (below_step (by repeat (first | (with_reducible first | exact HB.out | apply below_alloc | apply pw_below_drewN | apply below_drew1) | exact HB.out)) hb); clear HB; have HB := n0_; clear n0_; (try clear hb); (try clear hb2); (try clear hk); (try clear hi)))
                      go_ret2
                      exact ⟨by first | rfl | (simp [errW_none, errW_some] <;> rfl) | (simp [*, errW_none, errW_some] <;> rfl), by repeat (first | (with_reducible first | exact HB.out | apply below_alloc | apply pw_below_drewN | apply below_drew1) | exact HB.out)⟩
                     ·
                      rw [if_neg c47] at H
                      exact absurd H (by simp)
                    ·
                     rw [if_neg c46] at H
                     exact absurd H (by simp)
                   ·
                    rw [if_neg c44] at H
                    have c44b0 : decide (0 < (Int.tmod x0_4 60)) = false := decide_eq_false c44
                    clear c44
                    simp only [Option.some.injEq, Prod.mk.injEq] at H
                    obtain ⟨rfl, rfl⟩ := H
                    go_wp2
                    go_ret2
                    exact ⟨by first | rfl | (simp [errW_none, errW_some] <;> rfl) | (simp [*, errW_none, errW_some] <;> rfl), by repeat (first | (with_reducible first | exact HB.out | apply below_alloc | apply pw_below_drewN | apply below_drew1) | exact HB.out)⟩

end Go.Proofs.YtiffbkfgimifbaaDoor.Print

-- Written by a program of this seat: functions of the program as Lean functions, and that its calls come to them.
import Derived.Test.YtiffbkfgimifbaaDoorPrint0
import Derived.Test.YtiffbkfgimifbaaDoorPrint3
namespace Go.Proofs.YtiffbkfgimifbaaDoor.Print
open Go.RowKit Go.Proofs.YtiffbkfgimifbaaDoorW.PrintWords Go.Proofs.YtiffbkfgimifbaaDoorW.PrintLast Go.Proofs.YtiffbkfgimifbaaDoorW.PrintMore
attribute [local go_sem] max2_int min2_int max_two min_two max_three min_three max_four min_four   -- for this text's walks alone
set_option linter.unusedVariables false
set_option linter.unusedSimpArgs false

/-! ### posthornref12_Digits: function 30 -/
def posthornref12_Digits.l0 : Nat → Int → Int → ByteArray → Int → Option (ByteArray)
 | 0, _, _, _, _ => none
 | k + 1, x0, x1, x5, x6 => if x6 < x1 then ((some (([(wrap64 (48 + (Int.tmod x0 10))) % 256] : List Int) : List Int)).bind fun y130 => (if (strOfNums y130).size + x5.size ≤ 9223372036854775807 then (posthornref12_Digits.l0 k (wrap64 (Int.tdiv x0 10)) x1 ((strOfNums y130) ++ x5) (wrap64 (x6 + 1))) else (none))) else (some x5)
def posthornref12_Digits.f (k : Nat) (a0 : Int) (a1 : Int) : Option (ByteArray) := posthornref12_Digits.l0 k a0 a1 (⟨#[]⟩ : ByteArray) 0
theorem posthornref12_Digits.mono_l : ∀ k, (∀ y0 y1 y2 y3, LeO (posthornref12_Digits.l0 k y0 y1 y2 y3) (posthornref12_Digits.l0 (k + 1) y0 y1 y2 y3))
 | 0 => fun _ _ _ _ r h => by simp [posthornref12_Digits.l0] at h
 | k + 1 => by
  have ih0 := posthornref12_Digits.mono_l k
  ·
   intro y0 y1 y2 y3
   unfold posthornref12_Digits.l0
   repeat' first
   | (with_reducible exact ih0 _ _ _ _)
   | (with_reducible exact LeO.refl _)
   | (with_reducible exact LeO.none _)
   | (with_reducible refine LeO.ite ?_ ?_)
   | (with_reducible refine LeO.bind ?_ (fun _ => ?_))
   | exact ih0 _ _ _ _
   | exact LeO.none _
   | refine LeO.ite ?_ ?_
   | refine LeO.bind ?_ (fun _ => ?_)
theorem posthornref12_Digits.mono : ∀ a0 a1 k, LeO (posthornref12_Digits.f k a0 a1) (posthornref12_Digits.f (k + 1) a0 a1) := by
 intro a0 a1 k
 have ih0 := posthornref12_Digits.mono_l k
 unfold posthornref12_Digits.f
 repeat' first
   | (with_reducible exact ih0 _ _ _ _)
   | (with_reducible exact LeO.refl _)
   | (with_reducible exact LeO.none _)
   | (with_reducible refine LeO.ite ?_ ?_)
   | (with_reducible refine LeO.bind ?_ (fun _ => ?_))
   | exact ih0 _ _ _ _
   | exact LeO.none _
   | refine LeO.ite ?_ ?_
   | refine LeO.bind ?_ (fun _ => ?_)
set_option maxHeartbeats 8000000 in
set_option maxRecDepth 100000 in
theorem posthornref12_Digits.calls (k : Nat) (a0 : Int) (a1 : Int) (r : ByteArray) (w : World) (h : posthornref12_Digits.f k a0 a1 = some r) :
  Calls Tryd.prog 30 #[.int .i64 a0, .int .i64 a1] w fun e w' => e = .returned (.string r) ∧ Below w.heap.size w w' := by
 have HB := Aside0.mk (Below.refl w.heap.size w)
 have H : (posthornref12_Digits.l0 k a0 a1 (⟨#[]⟩ : ByteArray) 0) = some r := h
 clear h
 have H' := Aside0.mk H
 clear H
 go_enter Tryd.func30, Tryd.ntmps30
 go_wp2
 go_loopg [0, 5, 6] k (fun kq v0 v5 v6 w' => ∃ (x0_1 : Int) (x5_1 : ByteArray) (x6_1 : Int), v0 = .int .i64 x0_1 ∧ v5 = .string x5_1 ∧ v6 = .int .i64 x6_1 ∧ Aside0 (posthornref12_Digits.l0 kq x0_1 a1 x5_1 x6_1 = some r) ∧ Aside0 (kq ≤ k) ∧ Aside0 (Below w.heap.size w w'))
 case atStart => exact ⟨(a0), ((⟨#[]⟩ : ByteArray)), (0), (by first | rfl | (simp; done) | (simp [*]; done)), (by first | rfl | (simp; done) | (simp [*]; done)), (by first | rfl | (simp; done) | (simp [*]; done)), H', ⟨Nat.le_refl _⟩, ⟨by repeat (first | (with_reducible first | exact HB.out | apply below_alloc | apply pw_below_drewN | apply below_drew1) | exact HB.out)⟩⟩
 case round =>
  clear H'
  try clear p2
  obtain ⟨x0_1, x5_1, x6_1, rfl, rfl, rfl, HA, HK1, HB⟩ := hrel
  cases gk with
  | zero => exact absurd HA.out (by simp [posthornref12_Digits.l0])
  | succ k1 =>
   have H := HA.out
   clear HA
   simp only [posthornref12_Digits.l0] at H
   by_cases c3 : x6_1 < a1
   ·
    rw [if_pos c3] at H
    have c3b0 : decide (x6_1 < a1) = true := decide_eq_true c3
    clear c3
    obtain ⟨y130, hy130⟩ : ∃ y_ : List Int, y_ = (([(wrap64 (48 + (Int.tmod x0_1 10))) % 256] : List Int)) := ⟨_, rfl⟩
    replace H : (if (strOfNums y130).size + x5_1.size ≤ 9223372036854775807 then (posthornref12_Digits.l0 k1 (wrap64 (Int.tdiv x0_1 10)) a1 ((strOfNums y130) ++ x5_1) (wrap64 (x6_1 + 1))) else (none)) = some r := by first | (rw [hy130]; with_reducible exact H) | (have H2_ := (Option.bind_some _ _).symm.trans H; rw [hy130]; with_reducible exact H2_) | (have H2_ := (Option.bind_some _ _).symm.trans H; with_reducible exact H2_) | with_reducible exact H | (rw [hy130]; exact H) | exact H
    have Ny130 := Aside0.mk hy130
    clear hy130
    by_cases c4 : (strOfNums y130).size + x5_1.size ≤ 9223372036854775807
    ·
     rw [if_pos c4] at H
     have c4b0 := eq_true c4
     have c4b1 : decide ((strOfNums y130).size + x5_1.size ≤ 9223372036854775807) = true := decide_eq_true c4
     try have c4b2 : (9223372036854775807 < (strOfNums y130).size + x5_1.size) = False := eq_false (Nat.not_lt.2 c4)
     have H' := Aside0.mk H
     clear H
     go_wp2_with (first | ((with_reducible refine gate_dst (N := 16) rfl ?_); refine Kd.R_lit (Kd.int .u8) _ 5 ?hg (N := 16) ?hd (xs := ([(wrap64 (48 + (Int.tmod x0_1 10))) % 256] : List Int)) (inner := [.int .u8 ((wrap64 (48 + (Int.tmod x0_1 10))) % 256)]) (ok := fun _ => True) (okp := fun _ => True) ?hr ?hp (fun _ hk => hk) trivial (Below.refl _ _) (Nat.le_refl _) (by simp) ?_; (case hd => rfl); (case hg => rfl); (case hr => first | (go_simp; done) | (go_simp; rfl)); (case hp => exact (Reps.one (show Kd.M (Kd.int .u8) _ _ _ ((wrap64 (48 + (Int.tmod x0_1 10))) % 256) [.int .u8 ((wrap64 (48 + (Int.tmod x0_1 10))) % 256)] from rfl) (Reps.none _ _))); intro v131 w5 ho6 hb hg_ hnew_; clear hg_ hnew_; (first | rw [← Ny130.out] at ho6 | (simp only [Int.reduceToNat] at ho6; rw [← Ny130.out] at ho6)); have n0_ := Aside0.mk (Kd.R_lower ho6 (below_size (by repeat (first | (with_reducible first | exact HB.out | apply below_alloc | apply pw_below_drewN | apply below_drew1) | exact HB.out)))); have n1_ := Aside0.mk (below_step (by repeat (first | (with_reducible first | exact HB.out | apply below_alloc | apply pw_below_drewN | apply below_drew1) | exact HB.out)) hb); clear HB; have HO132 := n0_; have HB := n1_; clear n0_ n1_; clear hb ho6; have hcv7 := own_string (P := Tryd.prog) Tryd.underlying60 Tryd.underlying5 Tryd.underlying9 (Kd.own_of_R HO132.out)))
     go_roundg k1
     case measure => have := HK1.out; omega
     case rel => exact ⟨(wrap64 (Int.tdiv x0_1 10)), ((strOfNums y130) ++ x5_1), (wrap64 (x6_1 + 1)), (by first | rfl | (simp; done) | (simp [*]; done)), (by first | rfl | (simp; done) | (simp [*]; done)), (by first | rfl | (simp; done) | (simp [*]; done)), H', ⟨by have := HK1.out; omega⟩, ⟨by repeat (first | (with_reducible first | exact HB.out | apply below_alloc | apply pw_below_drewN | apply below_drew1) | exact HB.out)⟩⟩
    ·
     rw [if_neg c4] at H
     exact absurd H (by simp)
   ·
    rw [if_neg c3] at H
    have c3b0 : decide (x6_1 < a1) = false := decide_eq_false c3
    clear c3
    obtain rfl := Option.some.inj H
    go_wp2
    go_ret
    exact ⟨by first | rfl | (simp [errW_none, errW_some] <;> rfl) | (simp [*, errW_none, errW_some] <;> rfl), by repeat (first | (with_reducible first | exact HB.out | apply below_alloc | apply pw_below_drewN | apply below_drew1) | exact HB.out)⟩

/-! ### posthornref12_Print: function 18 -/
def posthornref12_Print.f (k : Nat) (a0 : Int) : Option (ByteArray × Int) := (posthornref12_Time.f a0).bind fun t133 => (if t133 = true then ((posthornref12_Civil.f k (wrap64 (Int.tdiv a0 86400))).bind fun bt134 => ((posthornref12_Digits.f k bt134.1 4).bind fun t138 => ((posthornref12_Digits.f k bt134.2.1 2).bind fun t139 => (if t138.size + t139.size ≤ 9223372036854775807 then ((posthornref12_Digits.f k bt134.2.2.1 2).bind fun t140 => (if (t138 ++ t139).size + t140.size ≤ 9223372036854775807 then (if ((t138 ++ t139) ++ t140).size + 1 ≤ 9223372036854775807 then ((posthornref12_Digits.f k (wrap64 (Int.tdiv (Int.tmod a0 86400) 3600)) 2).bind fun t141 => (if (((t138 ++ t139) ++ t140) ++ (⟨#[84]⟩ : ByteArray)).size + t141.size ≤ 9223372036854775807 then ((posthornref12_Digits.f k (wrap64 (Int.tdiv (Int.tmod a0 3600) 60)) 2).bind fun t142 => (if ((((t138 ++ t139) ++ t140) ++ (⟨#[84]⟩ : ByteArray)) ++ t141).size + t142.size ≤ 9223372036854775807 then ((posthornref12_Digits.f k (Int.tmod a0 60) 2).bind fun t143 => (if (((((t138 ++ t139) ++ t140) ++ (⟨#[84]⟩ : ByteArray)) ++ t141) ++ t142).size + t143.size ≤ 9223372036854775807 then (if ((((((t138 ++ t139) ++ t140) ++ (⟨#[84]⟩ : ByteArray)) ++ t141) ++ t142) ++ t143).size + 1 ≤ 9223372036854775807 then (some (((((((t138 ++ t139) ++ t140) ++ (⟨#[84]⟩ : ByteArray)) ++ t141) ++ t142) ++ t143) ++ (⟨#[90]⟩ : ByteArray), bt134.2.2.2)) else (none)) else (none))) else (none))) else (none))) else (none)) else (none))) else (none))))) else (some ((⟨#[]⟩ : ByteArray), 110)))
theorem posthornref12_Print.mono : ∀ a0 k, LeO (posthornref12_Print.f k a0) (posthornref12_Print.f (k + 1) a0) := by
 intro a0 k
 unfold posthornref12_Print.f
 repeat' first
   | (with_reducible exact posthornref12_Civil.mono _ _)
   | (with_reducible exact posthornref12_Digits.mono _ _ _)
   | (with_reducible exact LeO.refl _)
   | (with_reducible exact LeO.none _)
   | (with_reducible refine LeO.ite ?_ ?_)
   | (with_reducible refine LeO.bind ?_ (fun _ => ?_))
   | exact posthornref12_Civil.mono _ _
   | exact posthornref12_Digits.mono _ _ _
   | exact LeO.none _
   | refine LeO.ite ?_ ?_
   | refine LeO.bind ?_ (fun _ => ?_)
set_option maxHeartbeats 8000000 in
set_option maxRecDepth 100000 in
theorem posthornref12_Print.calls (k : Nat) (a0 : Int) (r1 : ByteArray) (r2 : Int) (w : World) (h : posthornref12_Print.f k a0 = some (r1, r2)) :
  Calls Tryd.prog 18 #[.int .i64 a0] w fun e w' => e = .returned (.tuple #[.string r1, .int .i64 r2]) ∧ Below w.heap.size w w' := by
 have HB := Aside0.mk (Below.refl w.heap.size w)
 have H : ((posthornref12_Time.f a0).bind fun t133 => (if t133 = true then ((posthornref12_Civil.f k (wrap64 (Int.tdiv a0 86400))).bind fun bt134 => ((posthornref12_Digits.f k bt134.1 4).bind fun t138 => ((posthornref12_Digits.f k bt134.2.1 2).bind fun t139 => (if t138.size + t139.size ≤ 9223372036854775807 then ((posthornref12_Digits.f k bt134.2.2.1 2).bind fun t140 => (if (t138 ++ t139).size + t140.size ≤ 9223372036854775807 then (if ((t138 ++ t139) ++ t140).size + 1 ≤ 9223372036854775807 then ((posthornref12_Digits.f k (wrap64 (Int.tdiv (Int.tmod a0 86400) 3600)) 2).bind fun t141 => (if (((t138 ++ t139) ++ t140) ++ (⟨#[84]⟩ : ByteArray)).size + t141.size ≤ 9223372036854775807 then ((posthornref12_Digits.f k (wrap64 (Int.tdiv (Int.tmod a0 3600) 60)) 2).bind fun t142 => (if ((((t138 ++ t139) ++ t140) ++ (⟨#[84]⟩ : ByteArray)) ++ t141).size + t142.size ≤ 9223372036854775807 then ((posthornref12_Digits.f k (Int.tmod a0 60) 2).bind fun t143 => (if (((((t138 ++ t139) ++ t140) ++ (⟨#[84]⟩ : ByteArray)) ++ t141) ++ t142).size + t143.size ≤ 9223372036854775807 then (if ((((((t138 ++ t139) ++ t140) ++ (⟨#[84]⟩ : ByteArray)) ++ t141) ++ t142) ++ t143).size + 1 ≤ 9223372036854775807 then (some (((((((t138 ++ t139) ++ t140) ++ (⟨#[84]⟩ : ByteArray)) ++ t141) ++ t142) ++ t143) ++ (⟨#[90]⟩ : ByteArray), bt134.2.2.2)) else (none)) else (none))) else (none))) else (none))) else (none)) else (none))) else (none))))) else (some ((⟨#[]⟩ : ByteArray), 110)))) = some (r1, r2) := h
 clear h
 replace H := Option.bind_eq_some_iff.mp H
 obtain ⟨t133, A20, H⟩ := H
 replace H : (if t133 = true then ((posthornref12_Civil.f k (wrap64 (Int.tdiv a0 86400))).bind fun bt134 => ((posthornref12_Digits.f k bt134.1 4).bind fun t138 => ((posthornref12_Digits.f k bt134.2.1 2).bind fun t139 => (if t138.size + t139.size ≤ 9223372036854775807 then ((posthornref12_Digits.f k bt134.2.2.1 2).bind fun t140 => (if (t138 ++ t139).size + t140.size ≤ 9223372036854775807 then (if ((t138 ++ t139) ++ t140).size + 1 ≤ 9223372036854775807 then ((posthornref12_Digits.f k (wrap64 (Int.tdiv (Int.tmod a0 86400) 3600)) 2).bind fun t141 => (if (((t138 ++ t139) ++ t140) ++ (⟨#[84]⟩ : ByteArray)).size + t141.size ≤ 9223372036854775807 then ((posthornref12_Digits.f k (wrap64 (Int.tdiv (Int.tmod a0 3600) 60)) 2).bind fun t142 => (if ((((t138 ++ t139) ++ t140) ++ (⟨#[84]⟩ : ByteArray)) ++ t141).size + t142.size ≤ 9223372036854775807 then ((posthornref12_Digits.f k (Int.tmod a0 60) 2).bind fun t143 => (if (((((t138 ++ t139) ++ t140) ++ (⟨#[84]⟩ : ByteArray)) ++ t141) ++ t142).size + t143.size ≤ 9223372036854775807 then (if ((((((t138 ++ t139) ++ t140) ++ (⟨#[84]⟩ : ByteArray)) ++ t141) ++ t142) ++ t143).size + 1 ≤ 9223372036854775807 then (some (((((((t138 ++ t139) ++ t140) ++ (⟨#[84]⟩ : ByteArray)) ++ t141) ++ t142) ++ t143) ++ (⟨#[90]⟩ : ByteArray), bt134.2.2.2)) else (none)) else (none))) else (none))) else (none))) else (none)) else (none))) else (none))))) else (some ((⟨#[]⟩ : ByteArray), 110))) = some (r1, r2) := H
 have A2 := Aside0.mk A20
 clear A20
 by_cases c3 : t133 = true
 ·
  subst c3
  have H1 : ((posthornref12_Civil.f k (wrap64 (Int.tdiv a0 86400))).bind fun bt134 => ((posthornref12_Digits.f k bt134.1 4).bind fun t138 => ((posthornref12_Digits.f k bt134.2.1 2).bind fun t139 => (if t138.size + t139.size ≤ 9223372036854775807 then ((posthornref12_Digits.f k bt134.2.2.1 2).bind fun t140 => (if (t138 ++ t139).size + t140.size ≤ 9223372036854775807 then (if ((t138 ++ t139) ++ t140).size + 1 ≤ 9223372036854775807 then ((posthornref12_Digits.f k (wrap64 (Int.tdiv (Int.tmod a0 86400) 3600)) 2).bind fun t141 => (if (((t138 ++ t139) ++ t140) ++ (⟨#[84]⟩ : ByteArray)).size + t141.size ≤ 9223372036854775807 then ((posthornref12_Digits.f k (wrap64 (Int.tdiv (Int.tmod a0 3600) 60)) 2).bind fun t142 => (if ((((t138 ++ t139) ++ t140) ++ (⟨#[84]⟩ : ByteArray)) ++ t141).size + t142.size ≤ 9223372036854775807 then ((posthornref12_Digits.f k (Int.tmod a0 60) 2).bind fun t143 => (if (((((t138 ++ t139) ++ t140) ++ (⟨#[84]⟩ : ByteArray)) ++ t141) ++ t142).size + t143.size ≤ 9223372036854775807 then (if ((((((t138 ++ t139) ++ t140) ++ (⟨#[84]⟩ : ByteArray)) ++ t141) ++ t142) ++ t143).size + 1 ≤ 9223372036854775807 then (some (((((((t138 ++ t139) ++ t140) ++ (⟨#[84]⟩ : ByteArray)) ++ t141) ++ t142) ++ t143) ++ (⟨#[90]⟩ : ByteArray), bt134.2.2.2)) else (none)) else (none))) else (none))) else (none))) else (none)) else (none))) else (none))))) = some (r1, r2) := by rw [if_pos rfl] at H; exact H
  clear H
  have H := H1
  clear H1
  replace H := Option.bind_eq_some_iff.mp H
  obtain ⟨⟨t134, t135, t136, t137⟩, A40, H⟩ := H
  replace H : ((posthornref12_Digits.f k t134 4).bind fun t138 => ((posthornref12_Digits.f k t135 2).bind fun t139 => (if t138.size + t139.size ≤ 9223372036854775807 then ((posthornref12_Digits.f k t136 2).bind fun t140 => (if (t138 ++ t139).size + t140.size ≤ 9223372036854775807 then (if ((t138 ++ t139) ++ t140).size + 1 ≤ 9223372036854775807 then ((posthornref12_Digits.f k (wrap64 (Int.tdiv (Int.tmod a0 86400) 3600)) 2).bind fun t141 => (if (((t138 ++ t139) ++ t140) ++ (⟨#[84]⟩ : ByteArray)).size + t141.size ≤ 9223372036854775807 then ((posthornref12_Digits.f k (wrap64 (Int.tdiv (Int.tmod a0 3600) 60)) 2).bind fun t142 => (if ((((t138 ++ t139) ++ t140) ++ (⟨#[84]⟩ : ByteArray)) ++ t141).size + t142.size ≤ 9223372036854775807 then ((posthornref12_Digits.f k (Int.tmod a0 60) 2).bind fun t143 => (if (((((t138 ++ t139) ++ t140) ++ (⟨#[84]⟩ : ByteArray)) ++ t141) ++ t142).size + t143.size ≤ 9223372036854775807 then (if ((((((t138 ++ t139) ++ t140) ++ (⟨#[84]⟩ : ByteArray)) ++ t141) ++ t142) ++ t143).size + 1 ≤ 9223372036854775807 then (some (((((((t138 ++ t139) ++ t140) ++ (⟨#[84]⟩ : ByteArray)) ++ t141) ++ t142) ++ t143) ++ (⟨#[90]⟩ : ByteArray), t137)) else (none)) else (none))) else (none))) else (none))) else (none)) else (none))) else (none)))) = some (r1, r2) := H
  have A4 := Aside0.mk A40
  clear A40
  replace H := Option.bind_eq_some_iff.mp H
  obtain ⟨t138, A50, H⟩ := H
  replace H : ((posthornref12_Digits.f k t135 2).bind fun t139 => (if t138.size + t139.size ≤ 9223372036854775807 then ((posthornref12_Digits.f k t136 2).bind fun t140 => (if (t138 ++ t139).size + t140.size ≤ 9223372036854775807 then (if ((t138 ++ t139) ++ t140).size + 1 ≤ 9223372036854775807 then ((posthornref12_Digits.f k (wrap64 (Int.tdiv (Int.tmod a0 86400) 3600)) 2).bind fun t141 => (if (((t138 ++ t139) ++ t140) ++ (⟨#[84]⟩ : ByteArray)).size + t141.size ≤ 9223372036854775807 then ((posthornref12_Digits.f k (wrap64 (Int.tdiv (Int.tmod a0 3600) 60)) 2).bind fun t142 => (if ((((t138 ++ t139) ++ t140) ++ (⟨#[84]⟩ : ByteArray)) ++ t141).size + t142.size ≤ 9223372036854775807 then ((posthornref12_Digits.f k (Int.tmod a0 60) 2).bind fun t143 => (if (((((t138 ++ t139) ++ t140) ++ (⟨#[84]⟩ : ByteArray)) ++ t141) ++ t142).size + t143.size ≤ 9223372036854775807 then (if ((((((t138 ++ t139) ++ t140) ++ (⟨#[84]⟩ : ByteArray)) ++ t141) ++ t142) ++ t143).size + 1 ≤ 9223372036854775807 then (some (((((((t138 ++ t139) ++ t140) ++ (⟨#[84]⟩ : ByteArray)) ++ t141) ++ t142) ++ t143) ++ (⟨#[90]⟩ : ByteArray), t137)) else (none)) else (none))) else (none))) else (none))) else (none)) else (none))) else (none))) = some (r1, r2) := H
  have A5 := Aside0.mk A50
  clear A50
  replace H := Option.bind_eq_some_iff.mp H
  obtain ⟨t139, A60, H⟩ := H
  replace H : (if t138.size + t139.size ≤ 9223372036854775807 then ((posthornref12_Digits.f k t136 2).bind fun t140 => (if (t138 ++ t139).size + t140.size ≤ 9223372036854775807 then (if ((t138 ++ t139) ++ t140).size + 1 ≤ 9223372036854775807 then ((posthornref12_Digits.f k (wrap64 (Int.tdiv (Int.tmod a0 86400) 3600)) 2).bind fun t141 => (if (((t138 ++ t139) ++ t140) ++ (⟨#[84]⟩ : ByteArray)).size + t141.size ≤ 9223372036854775807 then ((posthornref12_Digits.f k (wrap64 (Int.tdiv (Int.tmod a0 3600) 60)) 2).bind fun t142 => (if ((((t138 ++ t139) ++ t140) ++ (⟨#[84]⟩ : ByteArray)) ++ t141).size + t142.size ≤ 9223372036854775807 then ((posthornref12_Digits.f k (Int.tmod a0 60) 2).bind fun t143 => (if (((((t138 ++ t139) ++ t140) ++ (⟨#[84]⟩ : ByteArray)) ++ t141) ++ t142).size + t143.size ≤ 9223372036854775807 then (if ((((((t138 ++ t139) ++ t140) ++ (⟨#[84]⟩ : ByteArray)) ++ t141) ++ t142) ++ t143).size + 1 ≤ 9223372036854775807 then (some (((((((t138 ++ t139) ++ t140) ++ (⟨#[84]⟩ : ByteArray)) ++ t141) ++ t142) ++ t143) ++ (⟨#[90]⟩ : ByteArray), t137)) else (none)) else (none))) else (none))) else (none))) else (none)) else (none))) else (none)) = some (r1, r2) := H
  have A6 := Aside0.mk A60
  clear A60
  by_cases c7 : t138.size + t139.size ≤ 9223372036854775807
  ·
   rw [if_pos c7] at H
   have c7b0 := eq_true c7
   have c7b1 : decide (t138.size + t139.size ≤ 9223372036854775807) = true := decide_eq_true c7
   try have c7b2 : (9223372036854775807 < t138.size + t139.size) = False := eq_false (Nat.not_lt.2 c7)
   replace H := Option.bind_eq_some_iff.mp H
   obtain ⟨t140, A80, H⟩ := H
   replace H : (if (t138 ++ t139).size + t140.size ≤ 9223372036854775807 then (if ((t138 ++ t139) ++ t140).size + 1 ≤ 9223372036854775807 then ((posthornref12_Digits.f k (wrap64 (Int.tdiv (Int.tmod a0 86400) 3600)) 2).bind fun t141 => (if (((t138 ++ t139) ++ t140) ++ (⟨#[84]⟩ : ByteArray)).size + t141.size ≤ 9223372036854775807 then ((posthornref12_Digits.f k (wrap64 (Int.tdiv (Int.tmod a0 3600) 60)) 2).bind fun t142 => (if ((((t138 ++ t139) ++ t140) ++ (⟨#[84]⟩ : ByteArray)) ++ t141).size + t142.size ≤ 9223372036854775807 then ((posthornref12_Digits.f k (Int.tmod a0 60) 2).bind fun t143 => (if (((((t138 ++ t139) ++ t140) ++ (⟨#[84]⟩ : ByteArray)) ++ t141) ++ t142).size + t143.size ≤ 9223372036854775807 then (if ((((((t138 ++ t139) ++ t140) ++ (⟨#[84]⟩ : ByteArray)) ++ t141) ++ t142) ++ t143).size + 1 ≤ 9223372036854775807 then (some (((((((t138 ++ t139) ++ t140) ++ (⟨#[84]⟩ : ByteArray)) ++ t141) ++ t142) ++ t143) ++ (⟨#[90]⟩ : ByteArray), t137)) else (none)) else (none))) else (none))) else (none))) else (none)) else (none)) = some (r1, r2) := H
   have A8 := Aside0.mk A80
   clear A80
   by_cases c9 : (t138 ++ t139).size + t140.size ≤ 9223372036854775807
   ·
    rw [if_pos c9] at H
    have c9b0 := eq_true c9
    have c9b1 : decide ((t138 ++ t139).size + t140.size ≤ 9223372036854775807) = true := decide_eq_true c9
    try have c9b2 : (9223372036854775807 < (t138 ++ t139).size + t140.size) = False := eq_false (Nat.not_lt.2 c9)
    have c9b4 := c9
    try simp only [ByteArray.size_append, mk_size, List.length_cons, List.length_nil, Nat.zero_add, Nat.reduceAdd] at c9b4
    by_cases c10 : ((t138 ++ t139) ++ t140).size + 1 ≤ 9223372036854775807
    ·
     rw [if_pos c10] at H
     have c10b0 := eq_true c10
     have c10b1 : decide (((t138 ++ t139) ++ t140).size + 1 ≤ 9223372036854775807) = true := decide_eq_true c10
     try have c10b2 : (9223372036854775807 < ((t138 ++ t139) ++ t140).size + 1) = False := eq_false (Nat.not_lt.2 c10)
     try have c10b3 : (9223372036854775807 ≤ ((t138 ++ t139) ++ t140).size) = False := eq_false (by omega)
     have c10b4 := c10
     try simp only [ByteArray.size_append, mk_size, List.length_cons, List.length_nil, Nat.zero_add, Nat.reduceAdd] at c10b4
     replace H := Option.bind_eq_some_iff.mp H
     obtain ⟨t141, A110, H⟩ := H
     replace H : (if (((t138 ++ t139) ++ t140) ++ (⟨#[84]⟩ : ByteArray)).size + t141.size ≤ 9223372036854775807 then ((posthornref12_Digits.f k (wrap64 (Int.tdiv (Int.tmod a0 3600) 60)) 2).bind fun t142 => (if ((((t138 ++ t139) ++ t140) ++ (⟨#[84]⟩ : ByteArray)) ++ t141).size + t142.size ≤ 9223372036854775807 then ((posthornref12_Digits.f k (Int.tmod a0 60) 2).bind fun t143 => (if (((((t138 ++ t139) ++ t140) ++ (⟨#[84]⟩ : ByteArray)) ++ t141) ++ t142).size + t143.size ≤ 9223372036854775807 then (if ((((((t138 ++ t139) ++ t140) ++ (⟨#[84]⟩ : ByteArray)) ++ t141) ++ t142) ++ t143).size + 1 ≤ 9223372036854775807 then (some (((((((t138 ++ t139) ++ t140) ++ (⟨#[84]⟩ : ByteArray)) ++ t141) ++ t142) ++ t143) ++ (⟨#[90]⟩ : ByteArray), t137)) else (none)) else (none))) else (none))) else (none)) = some (r1, r2) := H
     have A11 := Aside0.mk A110
     clear A110
     by_cases c12 : (((t138 ++ t139) ++ t140) ++ (⟨#[84]⟩ : ByteArray)).size + t141.size ≤ 9223372036854775807
     ·
      rw [if_pos c12] at H
      have c12b0 := eq_true c12
      have c12b1 : decide ((((t138 ++ t139) ++ t140) ++ (⟨#[84]⟩ : ByteArray)).size + t141.size ≤ 9223372036854775807) = true := decide_eq_true c12
      try have c12b2 : (9223372036854775807 < (((t138 ++ t139) ++ t140) ++ (⟨#[84]⟩ : ByteArray)).size + t141.size) = False := eq_false (Nat.not_lt.2 c12)
      have c12b4 := c12
      try simp only [ByteArray.size_append, mk_size, List.length_cons, List.length_nil, Nat.zero_add, Nat.reduceAdd] at c12b4
      replace H := Option.bind_eq_some_iff.mp H
      obtain ⟨t142, A130, H⟩ := H
      replace H : (if ((((t138 ++ t139) ++ t140) ++ (⟨#[84]⟩ : ByteArray)) ++ t141).size + t142.size ≤ 9223372036854775807 then ((posthornref12_Digits.f k (Int.tmod a0 60) 2).bind fun t143 => (if (((((t138 ++ t139) ++ t140) ++ (⟨#[84]⟩ : ByteArray)) ++ t141) ++ t142).size + t143.size ≤ 9223372036854775807 then (if ((((((t138 ++ t139) ++ t140) ++ (⟨#[84]⟩ : ByteArray)) ++ t141) ++ t142) ++ t143).size + 1 ≤ 9223372036854775807 then (some (((((((t138 ++ t139) ++ t140) ++ (⟨#[84]⟩ : ByteArray)) ++ t141) ++ t142) ++ t143) ++ (⟨#[90]⟩ : ByteArray), t137)) else (none)) else (none))) else (none)) = some (r1, r2) := H
      have A13 := Aside0.mk A130
      clear A130
      by_cases c14 : ((((t138 ++ t139) ++ t140) ++ (⟨#[84]⟩ : ByteArray)) ++ t141).size + t142.size ≤ 9223372036854775807
      ·
       rw [if_pos c14] at H
       have c14b0 := eq_true c14
       have c14b1 : decide (((((t138 ++ t139) ++ t140) ++ (⟨#[84]⟩ : ByteArray)) ++ t141).size + t142.size ≤ 9223372036854775807) = true := decide_eq_true c14
       try have c14b2 : (9223372036854775807 < ((((t138 ++ t139) ++ t140) ++ (⟨#[84]⟩ : ByteArray)) ++ t141).size + t142.size) = False := eq_false (Nat.not_lt.2 c14)
       have c14b4 := c14
       try simp only [ByteArray.size_append, mk_size, List.length_cons, List.length_nil, Nat.zero_add, Nat.reduceAdd] at c14b4
       replace H := Option.bind_eq_some_iff.mp H
       obtain ⟨t143, A150, H⟩ := H
       replace H : (if (((((t138 ++ t139) ++ t140) ++ (⟨#[84]⟩ : ByteArray)) ++ t141) ++ t142).size + t143.size ≤ 9223372036854775807 then (if ((((((t138 ++ t139) ++ t140) ++ (⟨#[84]⟩ : ByteArray)) ++ t141) ++ t142) ++ t143).size + 1 ≤ 9223372036854775807 then (some (((((((t138 ++ t139) ++ t140) ++ (⟨#[84]⟩ : ByteArray)) ++ t141) ++ t142) ++ t143) ++ (⟨#[90]⟩ : ByteArray), t137)) else (none)) else (none)) = some (r1, r2) := H
       have A15 := Aside0.mk A150
       clear A150
       by_cases c16 : (((((t138 ++ t139) ++ t140) ++ (⟨#[84]⟩ : ByteArray)) ++ t141) ++ t142).size + t143.size ≤ 9223372036854775807
       ·
        rw [if_pos c16] at H
        have c16b0 := eq_true c16
        have c16b1 : decide ((((((t138 ++ t139) ++ t140) ++ (⟨#[84]⟩ : ByteArray)) ++ t141) ++ t142).size + t143.size ≤ 9223372036854775807) = true := decide_eq_true c16
        try have c16b2 : (9223372036854775807 < (((((t138 ++ t139) ++ t140) ++ (⟨#[84]⟩ : ByteArray)) ++ t141) ++ t142).size + t143.size) = False := eq_false (Nat.not_lt.2 c16)
        have c16b4 := c16
        try simp only [ByteArray.size_append, mk_size, List.length_cons, List.length_nil, Nat.zero_add, Nat.reduceAdd] at c16b4
        by_cases c17 : ((((((t138 ++ t139) ++ t140) ++ (⟨#[84]⟩ : ByteArray)) ++ t141) ++ t142) ++ t143).size + 1 ≤ 9223372036854775807
        ·
         rw [if_pos c17] at H
         have c17b0 := eq_true c17
         have c17b1 : decide (((((((t138 ++ t139) ++ t140) ++ (⟨#[84]⟩ : ByteArray)) ++ t141) ++ t142) ++ t143).size + 1 ≤ 9223372036854775807) = true := decide_eq_true c17
         try have c17b2 : (9223372036854775807 < ((((((t138 ++ t139) ++ t140) ++ (⟨#[84]⟩ : ByteArray)) ++ t141) ++ t142) ++ t143).size + 1) = False := eq_false (Nat.not_lt.2 c17)
         try have c17b3 : (9223372036854775807 ≤ ((((((t138 ++ t139) ++ t140) ++ (⟨#[84]⟩ : ByteArray)) ++ t141) ++ t142) ++ t143).size) = False := eq_false (by omega)
         have c17b4 := c17
         try simp only [ByteArray.size_append, mk_size, List.length_cons, List.length_nil, Nat.zero_add, Nat.reduceAdd] at c17b4
         simp only [Option.some.injEq, Prod.mk.injEq] at H
         obtain ⟨rfl, rfl⟩ := H
         go_enter Tryd.func18, Tryd.ntmps18
         go_wp2_with (first | ((with_reducible refine gate_callee (f := 16) rfl ?_); refine goesL_ (some 10) rfl rfl Tryd.func16 (by kernel_rfl) rfl #[.int .i64 a0] rfl (by (try simp only [List.map_toArray, List.map_cons, List.map_nil]); first | done | rfl | (simp only [List.length_drop, List.length_take]; rfl)) ?_; (with_reducible refine (posthornref12_Time.calls a0 true _ A2.out).mono ?_); rintro e w' ⟨rfl, ⟨nd, rfl⟩⟩; refine ⟨_, rfl, ?_⟩) | ((with_reducible refine gate_callee (f := 13) rfl ?_); refine goesL_ (some 15) rfl rfl Tryd.func13 (by kernel_rfl) rfl #[.int .i64 (wrap64 (Int.tdiv a0 86400))] rfl (by (try simp only [List.map_toArray, List.map_cons, List.map_nil]); first | done | rfl | (simp only [List.length_drop, List.length_take]; rfl)) ?_; (with_reducible refine (posthornref12_Civil.calls k (wrap64 (Int.tdiv a0 86400)) t134 t135 t136 t137 _ A4.out).mono ?_); rintro e w' ⟨rfl, ⟨nd, rfl⟩⟩; refine ⟨_, rfl, ?_⟩) | ((with_reducible refine gate_callee (f := 30) rfl ?_); refine goesL_ (some 23) rfl rfl Tryd.func30 (by kernel_rfl) rfl #[.int .i64 t134, .int .i64 4] rfl (by (try simp only [List.map_toArray, List.map_cons, List.map_nil]); first | done | rfl | (simp only [List.length_drop, List.length_take]; rfl)) ?_; (with_reducible refine (posthornref12_Digits.calls k t134 4 t138 _ A5.out).mono ?_); rintro e w18 ⟨rfl, hb⟩; refine ⟨_, rfl, ?_⟩; have n0_ := Aside0.mk (below_step (by repeat (first | (with_reducible first | exact HB.out | apply below_alloc | apply pw_below_drewN | apply below_drew1) | exact HB.out)) hb); clear HB; have HB := n0_; clear n0_; (try clear hb); (try clear hb2); (try clear hk); (try clear hi)) | ((with_reducible refine gate_callee (f := 30) rfl ?_); refine goesL_ (some 25) rfl rfl Tryd.func30 (by kernel_rfl) rfl #[.int .i64 t135, .int .i64 2] rfl (by (try simp only [List.map_toArray, List.map_cons, List.map_nil]); first | done | rfl | (simp only [List.length_drop, List.length_take]; rfl)) ?_; (with_reducible refine (posthornref12_Digits.calls k t135 2 t139 _ A6.out).mono ?_); rintro e w19 ⟨rfl, hb⟩; refine ⟨_, rfl, ?_⟩; have n0_ := Aside0.mk (below_step (by repeat (first | (with_reducible first | exact HB.out | apply below_alloc | apply pw_below_drewN | apply below_drew1) | exact HB.out)) hb); clear HB; have HB := n0_; clear n0_; (try clear hb); (try clear hb2); (try clear hk); (try clear hi)) | ((with_reducible refine gate_callee (f := 30) rfl ?_); refine goesL_ (some 28) rfl rfl Tryd.func30 (by kernel_rfl) rfl #[.int .i64 t136, .int .i64 2] rfl (by (try simp only [List.map_toArray, List.map_cons, List.map_nil]); first | done | rfl | (simp only [List.length_drop, List.length_take]; rfl)) ?_; (with_reducible refine (posthornref12_Digits.calls k t136 2 t140 _ A8.out).mono ?_); rintro e w20 ⟨rfl, hb⟩; refine ⟨_, rfl, ?_⟩; have n0_ := Aside0.mk (below_step (by repeat (first | (with_reducible first | exact HB.out | apply below_alloc | apply pw_below_drewN | apply below_drew1) | exact HB.out)) hb); clear HB; have HB := n0_; clear n0_; (try clear hb); (try clear hb2); (try clear hk); (try clear hi)) | ((with_reducible refine gate_callee (f := 30) rfl ?_); refine goesL_ (some 33) rfl rfl Tryd.func30 (by kernel_rfl) rfl #[.int .i64 (wrap64 (Int.tdiv (Int.tmod a0 86400) 3600)), .int .i64 2] rfl (by (try simp only [List.map_toArray, List.map_cons, List.map_nil]); first | done | rfl | (simp only [List.length_drop, List.length_take]; rfl)) ?_; (with_reducible refine (posthornref12_Digits.calls k (wrap64 (Int.tdiv (Int.tmod a0 86400) 3600)) 2 t141 _ A11.out).mono ?_); rintro e w21 ⟨rfl, hb⟩; refine ⟨_, rfl, ?_⟩; have n0_ := Aside0.mk (below_step (by repeat (first | (with_reducible first | exact HB.out | apply below_alloc | apply pw_below_drewN | apply below_drew1) | exact HB.out)) hb); clear HB; have HB := n0_; clear n0_; (try clear hb); (try clear hb2); (try clear hk); (try clear hi)) | ((with_reducible refine gate_callee (f := 30) rfl ?_); refine goesL_ (some 38) rfl rfl Tryd.func30 (by kernel_rfl) rfl #[.int .i64 (wrap64 (Int.tdiv (Int.tmod a0 3600) 60)), .int .i64 2] rfl (by (try simp only [List.map_toArray, List.map_cons, List.map_nil]); first | done | rfl | (simp only [List.length_drop, List.length_take]; rfl)) ?_; (with_reducible refine (posthornref12_Digits.calls k (wrap64 (Int.tdiv (Int.tmod a0 3600) 60)) 2 t142 _ A13.out).mono ?_); rintro e w22 ⟨rfl, hb⟩; refine ⟨_, rfl, ?_⟩; have n0_ := Aside0.mk (below_step (by repeat (first | (with_reducible first | exact HB.out | apply below_alloc | apply pw_below_drewN | apply below_drew1) | exact HB.out)) hb); clear HB; have HB := n0_; clear n0_; (try clear hb); (try clear hb2); (try clear hk); (try clear hi)) | ((with_reducible refine gate_callee (f := 30) rfl ?_); refine goesL_ (some 42) rfl rfl Tryd.func30 (by kernel_rfl) rfl #[.int .i64 (Int.tmod a0 60), .int .i64 2] rfl (by (try simp only [List.map_toArray, List.map_cons, List.map_nil]); first | done | rfl | (simp only [List.length_drop, List.length_take]; rfl)) ?_; (with_reducible refine (posthornref12_Digits.calls k (Int.tmod a0 60) 2 t143 _ A15.out).mono ?_); rintro e w23 ⟨rfl, hb⟩; refine ⟨_, rfl, ?_⟩; have n0_ := Aside0.mk (below_step (by repeat (first | (with_reducible first | exact HB.out | apply below_alloc | apply pw_below_drewN | apply below_drew1) | exact HB.out)) hb); clear HB; have HB := n0_; clear n0_; (try clear hb); (try clear hb2); (try clear hk); (try clear hi)))
         go_ret2
         exact ⟨by first | rfl | (simp [errW_none, errW_some] <;> rfl) | (simp [*, errW_none, errW_some] <;> rfl), by repeat (first | (with_reducible first | exact HB.out | apply below_alloc | apply pw_below_drewN | apply below_drew1) | exact HB.out)⟩
        ·
         rw [if_neg c17] at H
         exact absurd H (by simp)
       ·
        rw [if_neg c16] at H
        exact absurd H (by simp)
      ·
       rw [if_neg c14] at H
       exact absurd H (by simp)
     ·
      rw [if_neg c12] at H
      exact absurd H (by simp)
    ·
     rw [if_neg c10] at H
     exact absurd H (by simp)
   ·
    rw [if_neg c9] at H
    exact absurd H (by simp)
  ·
   rw [if_neg c7] at H
   exact absurd H (by simp)
 ·
  replace c3 := Bool.eq_false_iff.mpr c3
  subst c3
  have H1 : (some ((⟨#[]⟩ : ByteArray), 110)) = some (r1, r2) := by rw [if_neg (show ¬ (false = true) by decide)] at H; exact H
  clear H
  have H := H1
  clear H1
  simp only [Option.some.injEq, Prod.mk.injEq] at H
  obtain ⟨rfl, rfl⟩ := H
  go_enter Tryd.func18, Tryd.ntmps18
  go_wp2_with (first | ((with_reducible refine gate_callee (f := 16) rfl ?_); refine goesL_ (some 10) rfl rfl Tryd.func16 (by kernel_rfl) rfl #[.int .i64 a0] rfl (by (try simp only [List.map_toArray, List.map_cons, List.map_nil]); first | done | rfl | (simp only [List.length_drop, List.length_take]; rfl)) ?_; (with_reducible refine (posthornref12_Time.calls a0 false _ A2.out).mono ?_); rintro e w' ⟨rfl, ⟨nd, rfl⟩⟩; refine ⟨_, rfl, ?_⟩))
  go_ret2
  exact ⟨by first | rfl | (simp [errW_none, errW_some] <;> rfl) | (simp [*, errW_none, errW_some] <;> rfl), by repeat (first | (with_reducible first | exact HB.out | apply below_alloc | apply pw_below_drewN | apply below_drew1) | exact HB.out)⟩

/-! ### when_number: function 31 -/
def when_number.l0 : Nat → ByteArray → Int → Int → Int → Option (Int)
 | 0, _, _, _, _ => none
 | k + 1, x0, x3, x6, x7 => if x7 < x6 then (if 0 ≤ x7 then (if x7 < (x0.size : Int) then (if (bt x0 x7) < 48 then (some (-1)) else (if (bt x0 x7) > 57 then (some (-1)) else (when_number.l0 k x0 (wrap64 ((wrap64 (10 * x3)) + (((bt x0 x7) - 48) % 256))) x6 (wrap64 (x7 + 1))))) else (none)) else (none)) else (if x0.toList = ([] : List UInt8) then (some (-1)) else (if (x0.size : Int) > 10 then (some (-1)) else (some x3)))
def when_number.f (k : Nat) (a0 : ByteArray) : Option (Int) := when_number.l0 k a0 0 (a0.size : Int) 0
theorem when_number.mono_l : ∀ k, (∀ y0 y1 y2 y3, LeO (when_number.l0 k y0 y1 y2 y3) (when_number.l0 (k + 1) y0 y1 y2 y3))
 | 0 => fun _ _ _ _ r h => by simp [when_number.l0] at h
 | k + 1 => by
  have ih0 := when_number.mono_l k
  ·
   intro y0 y1 y2 y3
   unfold when_number.l0
   repeat' first
   | (with_reducible exact ih0 _ _ _ _)
   | (with_reducible exact LeO.refl _)
   | (with_reducible exact LeO.none _)
   | (with_reducible refine LeO.ite ?_ ?_)
   | (with_reducible refine LeO.bind ?_ (fun _ => ?_))
   | exact ih0 _ _ _ _
   | exact LeO.none _
   | refine LeO.ite ?_ ?_
   | refine LeO.bind ?_ (fun _ => ?_)
theorem when_number.mono : ∀ a0 k, LeO (when_number.f k a0) (when_number.f (k + 1) a0) := by
 intro a0 k
 have ih0 := when_number.mono_l k
 unfold when_number.f
 repeat' first
   | (with_reducible exact ih0 _ _ _ _)
   | (with_reducible exact LeO.refl _)
   | (with_reducible exact LeO.none _)
   | (with_reducible refine LeO.ite ?_ ?_)
   | (with_reducible refine LeO.bind ?_ (fun _ => ?_))
   | exact ih0 _ _ _ _
   | exact LeO.none _
   | refine LeO.ite ?_ ?_
   | refine LeO.bind ?_ (fun _ => ?_)
set_option maxHeartbeats 8000000 in
set_option maxRecDepth 100000 in
theorem when_number.calls (k : Nat) (a0 : ByteArray) (r : Int) (w : World) (h : when_number.f k a0 = some r) :
  Calls Tryd.prog 31 #[.string a0] w fun e w' => e = .returned (.int .i64 r) ∧ Drawn0 w w' := by
 have H : (when_number.l0 k a0 0 (a0.size : Int) 0) = some r := h
 clear h
 have H' := Aside0.mk H
 clear H
 go_enter Tryd.func31, Tryd.ntmps31
 go_wp2
 go_loopg [3, 7] k (fun kq v3 v7 w' => ∃ (x3_1 : Int) (x7_1 : Int), v3 = .int .i64 x3_1 ∧ v7 = .int .i64 x7_1 ∧ Aside0 (when_number.l0 kq a0 x3_1 (a0.size : Int) x7_1 = some r) ∧ Aside0 (kq ≤ k) ∧ Drawn0 w w')
 case atStart => exact ⟨(0), (0), (by first | rfl | (simp; done) | (simp [*]; done)), (by first | rfl | (simp; done) | (simp [*]; done)), H', ⟨Nat.le_refl _⟩, by repeat (first | exact Drawn0.refl _ | apply Drawn0.step)⟩
 case round =>
  clear H'
  obtain ⟨x3_1, x7_1, rfl, rfl, HA, HK1, ⟨m1, rfl⟩⟩ := hrel
  cases gk with
  | zero => exact absurd HA.out (by simp [when_number.l0])
  | succ k1 =>
   have H := HA.out
   clear HA
   simp only [when_number.l0] at H
   by_cases c2 : x7_1 < (a0.size : Int)
   ·
    rw [if_pos c2] at H
    have c2b0 : decide (x7_1 < (a0.size : Int)) = true := decide_eq_true c2
    clear c2
    by_cases c3 : 0 ≤ x7_1
    ·
     rw [if_pos c3] at H
     have c3b0 : decide (0 ≤ x7_1) = true := decide_eq_true c3
     clear c3
     by_cases c4 : x7_1 < (a0.size : Int)
     ·
      rw [if_pos c4] at H
      have c4b0 : decide (x7_1 < (a0.size : Int)) = true := decide_eq_true c4
      clear c4
      by_cases c6 : (bt a0 x7_1) < 48
      ·
       rw [if_pos c6] at H
       have c6b0 : decide ((bt a0 x7_1) < 48) = true := decide_eq_true c6
       clear c6
       obtain rfl := Option.some.inj H
       have p5 : 0 ≤ (x7_1 : Int) := of_decide_eq_true (by first | (with_reducible assumption) | assumption)
       have q5 : x7_1 < (a0.size : Int) := of_decide_eq_true (by first | (with_reducible assumption) | assumption)
       have hx5 := bt_at a0 x7_1
       replace p5 := eq_true p5
       replace q5 := eq_true q5
       go_wp2
       go_ret
       exact ⟨by first | rfl | (simp; done) | (simp [*]; done), by repeat (first | exact Drawn0.refl _ | apply Drawn0.step)⟩
      ·
       rw [if_neg c6] at H
       have c6b0 : decide ((bt a0 x7_1) < 48) = false := decide_eq_false c6
       clear c6
       by_cases c8 : (bt a0 x7_1) > 57
       ·
        rw [if_pos c8] at H
        have c8b0 : decide (57 < (bt a0 x7_1)) = true := decide_eq_true c8
        clear c8
        obtain rfl := Option.some.inj H
        have p5 : 0 ≤ (x7_1 : Int) := of_decide_eq_true (by first | (with_reducible assumption) | assumption)
        have q5 : x7_1 < (a0.size : Int) := of_decide_eq_true (by first | (with_reducible assumption) | assumption)
        have hx5 := bt_at a0 x7_1
        replace p5 := eq_true p5
        replace q5 := eq_true q5
        have p7 : 0 ≤ (x7_1 : Int) := of_decide_eq_true (by first | (with_reducible assumption) | assumption)
        have q7 : x7_1 < (a0.size : Int) := of_decide_eq_true (by first | (with_reducible assumption) | assumption)
        have hx7 := bt_at a0 x7_1
        replace p7 := eq_true p7
        replace q7 := eq_true q7
        go_wp2
        go_ret
        exact ⟨by first | rfl | (simp; done) | (simp [*]; done), by repeat (first | exact Drawn0.refl _ | apply Drawn0.step)⟩
       ·
        rw [if_neg c8] at H
        have c8b0 : decide (57 < (bt a0 x7_1)) = false := decide_eq_false c8
        clear c8
        have H' := Aside0.mk H
        clear H
        have p5 : 0 ≤ (x7_1 : Int) := of_decide_eq_true (by first | (with_reducible assumption) | assumption)
        have q5 : x7_1 < (a0.size : Int) := of_decide_eq_true (by first | (with_reducible assumption) | assumption)
        have hx5 := bt_at a0 x7_1
        replace p5 := eq_true p5
        replace q5 := eq_true q5
        have p7 : 0 ≤ (x7_1 : Int) := of_decide_eq_true (by first | (with_reducible assumption) | assumption)
        have q7 : x7_1 < (a0.size : Int) := of_decide_eq_true (by first | (with_reducible assumption) | assumption)
        have hx7 := bt_at a0 x7_1
        replace p7 := eq_true p7
        replace q7 := eq_true q7
        have p9 : 0 ≤ (x7_1 : Int) := of_decide_eq_true (by first | (with_reducible assumption) | assumption)
        have q9 : x7_1 < (a0.size : Int) := of_decide_eq_true (by first | (with_reducible assumption) | assumption)
        have hx9 := bt_at a0 x7_1
        replace p9 := eq_true p9
        replace q9 := eq_true q9
        go_wp2
        go_roundg k1
        case measure => have := HK1.out; omega
        case rel => exact ⟨(wrap64 ((wrap64 (10 * x3_1)) + (((bt a0 x7_1) - 48) % 256))), (wrap64 (x7_1 + 1)), (by first | rfl | (simp; done) | (simp [*]; done)), (by first | rfl | (simp; done) | (simp [*]; done)), H', ⟨by have := HK1.out; omega⟩, by repeat (first | exact Drawn0.refl _ | apply Drawn0.step)⟩
     ·
      rw [if_neg c4] at H
      exact absurd H (by simp)
    ·
     rw [if_neg c3] at H
     exact absurd H (by simp)
   ·
    rw [if_neg c2] at H
    have c2b0 : decide (x7_1 < (a0.size : Int)) = false := decide_eq_false c2
    clear c2
    by_cases c10 : a0.toList = ([] : List UInt8)
    ·
     rw [if_pos c10] at H
     have c10b0 : (a0.toList == ([] : List UInt8)) = true := beq_iff_eq.mpr c10
     have c10b1 : (a0.toList != ([] : List UInt8)) = false := bne_eq_false_iff_eq.mpr c10
     clear c10
     obtain rfl := Option.some.inj H
     go_wp2
     go_ret
     exact ⟨by first | rfl | (simp; done) | (simp [*]; done), by repeat (first | exact Drawn0.refl _ | apply Drawn0.step)⟩
    ·
     rw [if_neg c10] at H
     have c10b0 : (a0.toList == ([] : List UInt8)) = false := beq_eq_false_iff_ne.mpr c10
     have c10b1 : (a0.toList != ([] : List UInt8)) = true := bne_iff_ne.mpr c10
     by_cases c11 : (a0.size : Int) > 10
     ·
      rw [if_pos c11] at H
      have c11b0 : decide (10 < (a0.size : Int)) = true := decide_eq_true c11
      have c11b1 : decide (10 < a0.size) = true := decide_eq_true (by omega)
      clear c11
      obtain rfl := Option.some.inj H
      go_wp2
      go_ret
      exact ⟨by first | rfl | (simp; done) | (simp [*]; done), by repeat (first | exact Drawn0.refl _ | apply Drawn0.step)⟩
     ·
      rw [if_neg c11] at H
      have c11b0 : decide (10 < (a0.size : Int)) = false := decide_eq_false c11
      have c11b1 : decide (10 < a0.size) = false := decide_eq_false (by omega)
      clear c11
      obtain rfl := Option.some.inj H
      go_wp2
      go_ret
      exact ⟨by first | rfl | (simp; done) | (simp [*]; done), by repeat (first | exact Drawn0.refl _ | apply Drawn0.step)⟩

end Go.Proofs.YtiffbkfgimifbaaDoor.Print

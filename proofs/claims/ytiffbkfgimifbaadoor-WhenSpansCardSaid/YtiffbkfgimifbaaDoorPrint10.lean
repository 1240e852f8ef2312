-- Written by a program of this seat: functions of the program as Lean functions, and that its calls come to them.
import Derived.Test.YtiffbkfgimifbaaDoorPrint0
import Derived.Test.YtiffbkfgimifbaaDoorPrint9
namespace Go.Proofs.YtiffbkfgimifbaaDoor.Print
open Go.RowKit Go.Proofs.YtiffbkfgimifbaaDoorW.PrintWords Go.Proofs.YtiffbkfgimifbaaDoorW.PrintLast Go.Proofs.YtiffbkfgimifbaaDoorW.PrintMore
attribute [local go_sem] max2_int min2_int max_two min_two max_three min_three max_four min_four   -- for this text's walks alone
set_option linter.unusedVariables false
set_option linter.unusedSimpArgs false

/-! ### posthornref12_Print: function 18 -/
def posthornref12_Print.f (k : Nat) (a0 : Int) : Option (ByteArray × Int) := (posthornref12_Time.f a0).bind fun t217 => (if t217 = true then ((posthornref12_Civil.f k (wrap64 (Int.tdiv a0 86400))).bind fun bt218 => ((posthornref12_Digits.f k bt218.1 4).bind fun t222 => ((posthornref12_Digits.f k bt218.2.1 2).bind fun t223 => (if t222.size + t223.size ≤ 9223372036854775807 then ((posthornref12_Digits.f k bt218.2.2.1 2).bind fun t224 => (if (t222 ++ t223).size + t224.size ≤ 9223372036854775807 then (if ((t222 ++ t223) ++ t224).size + 1 ≤ 9223372036854775807 then ((posthornref12_Digits.f k (wrap64 (Int.tdiv (Int.tmod a0 86400) 3600)) 2).bind fun t225 => (if (((t222 ++ t223) ++ t224) ++ (⟨#[84]⟩ : ByteArray)).size + t225.size ≤ 9223372036854775807 then ((posthornref12_Digits.f k (wrap64 (Int.tdiv (Int.tmod a0 3600) 60)) 2).bind fun t226 => (if ((((t222 ++ t223) ++ t224) ++ (⟨#[84]⟩ : ByteArray)) ++ t225).size + t226.size ≤ 9223372036854775807 then ((posthornref12_Digits.f k (Int.tmod a0 60) 2).bind fun t227 => (if (((((t222 ++ t223) ++ t224) ++ (⟨#[84]⟩ : ByteArray)) ++ t225) ++ t226).size + t227.size ≤ 9223372036854775807 then (if ((((((t222 ++ t223) ++ t224) ++ (⟨#[84]⟩ : ByteArray)) ++ t225) ++ t226) ++ t227).size + 1 ≤ 9223372036854775807 then (some (((((((t222 ++ t223) ++ t224) ++ (⟨#[84]⟩ : ByteArray)) ++ t225) ++ t226) ++ t227) ++ (⟨#[90]⟩ : ByteArray), bt218.2.2.2)) else (none)) else (none))) else (none))) else (none))) else (none)) else (none))) else (none))))) else (some ((⟨#[]⟩ : ByteArray), 110)))
theorem posthornref12_Print.mono : ∀ a0 k, LeO (posthornref12_Print.f k a0) (posthornref12_Print.f (k + 1) a0) := by
 intro a0 k
 unfold posthornref12_Print.f
 repeat' first
   | (with_reducible exact posthornref12_Civil.mono _ _)
   | (with_reducible exact posthornref12_Digits.mono _ _ _)
   | (with_reducible exact LeO.refl _)
   | (with_reducible exact LeO.none _)
   | (with_reducible refine LeO.ite ?_ ?_)
   | (with_reducible refine LeO.bind ?_ (fun _ => ?_))
   | exact posthornref12_Civil.mono _ _
   | exact posthornref12_Digits.mono _ _ _
   | exact LeO.none _
   | refine LeO.ite ?_ ?_
   | refine LeO.bind ?_ (fun _ => ?_)
set_option maxHeartbeats 8000000 in
set_option maxRecDepth 100000 in
theorem posthornref12_Print.calls (k : Nat) (a0 : Int) (r1 : ByteArray) (r2 : Int) (w : World) (h : posthornref12_Print.f k a0 = some (r1, r2)) :
  Calls Tryd.prog 18 #[.int .i64 a0] w fun e w' => e = .returned (.tuple #[.string r1, .int .i64 r2]) ∧ Below w.heap.size w w' := by
 have HB := Aside0.mk (Below.refl w.heap.size w)
 have H : ((posthornref12_Time.f a0).bind fun t217 => (if t217 = true then ((posthornref12_Civil.f k (wrap64 (Int.tdiv a0 86400))).bind fun bt218 => ((posthornref12_Digits.f k bt218.1 4).bind fun t222 => ((posthornref12_Digits.f k bt218.2.1 2).bind fun t223 => (if t222.size + t223.size ≤ 9223372036854775807 then ((posthornref12_Digits.f k bt218.2.2.1 2).bind fun t224 => (if (t222 ++ t223).size + t224.size ≤ 9223372036854775807 then (if ((t222 ++ t223) ++ t224).size + 1 ≤ 9223372036854775807 then ((posthornref12_Digits.f k (wrap64 (Int.tdiv (Int.tmod a0 86400) 3600)) 2).bind fun t225 => (if (((t222 ++ t223) ++ t224) ++ (⟨#[84]⟩ : ByteArray)).size + t225.size ≤ 9223372036854775807 then ((posthornref12_Digits.f k (wrap64 (Int.tdiv (Int.tmod a0 3600) 60)) 2).bind fun t226 => (if ((((t222 ++ t223) ++ t224) ++ (⟨#[84]⟩ : ByteArray)) ++ t225).size + t226.size ≤ 9223372036854775807 then ((posthornref12_Digits.f k (Int.tmod a0 60) 2).bind fun t227 => (if (((((t222 ++ t223) ++ t224) ++ (⟨#[84]⟩ : ByteArray)) ++ t225) ++ t226).size + t227.size ≤ 9223372036854775807 then (if ((((((t222 ++ t223) ++ t224) ++ (⟨#[84]⟩ : ByteArray)) ++ t225) ++ t226) ++ t227).size + 1 ≤ 9223372036854775807 then (some (((((((t222 ++ t223) ++ t224) ++ (⟨#[84]⟩ : ByteArray)) ++ t225) ++ t226) ++ t227) ++ (⟨#[90]⟩ : ByteArray), bt218.2.2.2)) else (none)) else (none))) else (none))) else (none))) else (none)) else (none))) else (none))))) else (some ((⟨#[]⟩ : ByteArray), 110)))) = some (r1, r2) := h
 clear h
 replace H := Option.bind_eq_some_iff.mp H
 obtain ⟨t217, A20, H⟩ := H
 replace H : (if t217 = true then ((posthornref12_Civil.f k (wrap64 (Int.tdiv a0 86400))).bind fun bt218 => ((posthornref12_Digits.f k bt218.1 4).bind fun t222 => ((posthornref12_Digits.f k bt218.2.1 2).bind fun t223 => (if t222.size + t223.size ≤ 9223372036854775807 then ((posthornref12_Digits.f k bt218.2.2.1 2).bind fun t224 => (if (t222 ++ t223).size + t224.size ≤ 9223372036854775807 then (if ((t222 ++ t223) ++ t224).size + 1 ≤ 9223372036854775807 then ((posthornref12_Digits.f k (wrap64 (Int.tdiv (Int.tmod a0 86400) 3600)) 2).bind fun t225 => (if (((t222 ++ t223) ++ t224) ++ (⟨#[84]⟩ : ByteArray)).size + t225.size ≤ 9223372036854775807 then ((posthornref12_Digits.f k (wrap64 (Int.tdiv (Int.tmod a0 3600) 60)) 2).bind fun t226 => (if ((((t222 ++ t223) ++ t224) ++ (⟨#[84]⟩ : ByteArray)) ++ t225).size + t226.size ≤ 9223372036854775807 then ((posthornref12_Digits.f k (Int.tmod a0 60) 2).bind fun t227 => (if (((((t222 ++ t223) ++ t224) ++ (⟨#[84]⟩ : ByteArray)) ++ t225) ++ t226).size + t227.size ≤ 9223372036854775807 then (if ((((((t222 ++ t223) ++ t224) ++ (⟨#[84]⟩ : ByteArray)) ++ t225) ++ t226) ++ t227).size + 1 ≤ 9223372036854775807 then (some (((((((t222 ++ t223) ++ t224) ++ (⟨#[84]⟩ : ByteArray)) ++ t225) ++ t226) ++ t227) ++ (⟨#[90]⟩ : ByteArray), bt218.2.2.2)) else (none)) else (none))) else (none))) else (none))) else (none)) else (none))) else (none))))) else (some ((⟨#[]⟩ : ByteArray), 110))) = some (r1, r2) := H
 have A2 := Aside0.mk A20
 clear A20
 by_cases c3 : t217 = true
 ·
  subst c3
  have H1 : ((posthornref12_Civil.f k (wrap64 (Int.tdiv a0 86400))).bind fun bt218 => ((posthornref12_Digits.f k bt218.1 4).bind fun t222 => ((posthornref12_Digits.f k bt218.2.1 2).bind fun t223 => (if t222.size + t223.size ≤ 9223372036854775807 then ((posthornref12_Digits.f k bt218.2.2.1 2).bind fun t224 => (if (t222 ++ t223).size + t224.size ≤ 9223372036854775807 then (if ((t222 ++ t223) ++ t224).size + 1 ≤ 9223372036854775807 then ((posthornref12_Digits.f k (wrap64 (Int.tdiv (Int.tmod a0 86400) 3600)) 2).bind fun t225 => (if (((t222 ++ t223) ++ t224) ++ (⟨#[84]⟩ : ByteArray)).size + t225.size ≤ 9223372036854775807 then ((posthornref12_Digits.f k (wrap64 (Int.tdiv (Int.tmod a0 3600) 60)) 2).bind fun t226 => (if ((((t222 ++ t223) ++ t224) ++ (⟨#[84]⟩ : ByteArray)) ++ t225).size + t226.size ≤ 9223372036854775807 then ((posthornref12_Digits.f k (Int.tmod a0 60) 2).bind fun t227 => (if (((((t222 ++ t223) ++ t224) ++ (⟨#[84]⟩ : ByteArray)) ++ t225) ++ t226).size + t227.size ≤ 9223372036854775807 then (if ((((((t222 ++ t223) ++ t224) ++ (⟨#[84]⟩ : ByteArray)) ++ t225) ++ t226) ++ t227).size + 1 ≤ 9223372036854775807 then (some (((((((t222 ++ t223) ++ t224) ++ (⟨#[84]⟩ : ByteArray)) ++ t225) ++ t226) ++ t227) ++ (⟨#[90]⟩ : ByteArray), bt218.2.2.2)) else (none)) else (none))) else (none))) else (none))) else (none)) else (none))) else (none))))) = some (r1, r2) := by rw [if_pos rfl] at H; exact H
  clear H
  have H := H1
  clear H1
  replace H := Option.bind_eq_some_iff.mp H
  obtain ⟨⟨t218, t219, t220, t221⟩, A40, H⟩ := H
  replace H : ((posthornref12_Digits.f k t218 4).bind fun t222 => ((posthornref12_Digits.f k t219 2).bind fun t223 => (if t222.size + t223.size ≤ 9223372036854775807 then ((posthornref12_Digits.f k t220 2).bind fun t224 => (if (t222 ++ t223).size + t224.size ≤ 9223372036854775807 then (if ((t222 ++ t223) ++ t224).size + 1 ≤ 9223372036854775807 then ((posthornref12_Digits.f k (wrap64 (Int.tdiv (Int.tmod a0 86400) 3600)) 2).bind fun t225 => (if (((t222 ++ t223) ++ t224) ++ (⟨#[84]⟩ : ByteArray)).size + t225.size ≤ 9223372036854775807 then ((posthornref12_Digits.f k (wrap64 (Int.tdiv (Int.tmod a0 3600) 60)) 2).bind fun t226 => (if ((((t222 ++ t223) ++ t224) ++ (⟨#[84]⟩ : ByteArray)) ++ t225).size + t226.size ≤ 9223372036854775807 then ((posthornref12_Digits.f k (Int.tmod a0 60) 2).bind fun t227 => (if (((((t222 ++ t223) ++ t224) ++ (⟨#[84]⟩ : ByteArray)) ++ t225) ++ t226).size + t227.size ≤ 9223372036854775807 then (if ((((((t222 ++ t223) ++ t224) ++ (⟨#[84]⟩ : ByteArray)) ++ t225) ++ t226) ++ t227).size + 1 ≤ 9223372036854775807 then (some (((((((t222 ++ t223) ++ t224) ++ (⟨#[84]⟩ : ByteArray)) ++ t225) ++ t226) ++ t227) ++ (⟨#[90]⟩ : ByteArray), t221)) else (none)) else (none))) else (none))) else (none))) else (none)) else (none))) else (none)))) = some (r1, r2) := H
  have A4 := Aside0.mk A40
  clear A40
  replace H := Option.bind_eq_some_iff.mp H
  obtain ⟨t222, A50, H⟩ := H
  replace H : ((posthornref12_Digits.f k t219 2).bind fun t223 => (if t222.size + t223.size ≤ 9223372036854775807 then ((posthornref12_Digits.f k t220 2).bind fun t224 => (if (t222 ++ t223).size + t224.size ≤ 9223372036854775807 then (if ((t222 ++ t223) ++ t224).size + 1 ≤ 9223372036854775807 then ((posthornref12_Digits.f k (wrap64 (Int.tdiv (Int.tmod a0 86400) 3600)) 2).bind fun t225 => (if (((t222 ++ t223) ++ t224) ++ (⟨#[84]⟩ : ByteArray)).size + t225.size ≤ 9223372036854775807 then ((posthornref12_Digits.f k (wrap64 (Int.tdiv (Int.tmod a0 3600) 60)) 2).bind fun t226 => (if ((((t222 ++ t223) ++ t224) ++ (⟨#[84]⟩ : ByteArray)) ++ t225).size + t226.size ≤ 9223372036854775807 then ((posthornref12_Digits.f k (Int.tmod a0 60) 2).bind fun t227 => (if (((((t222 ++ t223) ++ t224) ++ (⟨#[84]⟩ : ByteArray)) ++ t225) ++ t226).size + t227.size ≤ 9223372036854775807 then (if ((((((t222 ++ t223) ++ t224) ++ (⟨#[84]⟩ : ByteArray)) ++ t225) ++ t226) ++ t227).size + 1 ≤ 9223372036854775807 then (some (((((((t222 ++ t223) ++ t224) ++ (⟨#[84]⟩ : ByteArray)) ++ t225) ++ t226) ++ t227) ++ (⟨#[90]⟩ : ByteArray), t221)) else (none)) else (none))) else (none))) else (none))) else (none)) else (none))) else (none))) = some (r1, r2) := H
  have A5 := Aside0.mk A50
  clear A50
  replace H := Option.bind_eq_some_iff.mp H
  obtain ⟨t223, A60, H⟩ := H
  replace H : (if t222.size + t223.size ≤ 9223372036854775807 then ((posthornref12_Digits.f k t220 2).bind fun t224 => (if (t222 ++ t223).size + t224.size ≤ 9223372036854775807 then (if ((t222 ++ t223) ++ t224).size + 1 ≤ 9223372036854775807 then ((posthornref12_Digits.f k (wrap64 (Int.tdiv (Int.tmod a0 86400) 3600)) 2).bind fun t225 => (if (((t222 ++ t223) ++ t224) ++ (⟨#[84]⟩ : ByteArray)).size + t225.size ≤ 9223372036854775807 then ((posthornref12_Digits.f k (wrap64 (Int.tdiv (Int.tmod a0 3600) 60)) 2).bind fun t226 => (if ((((t222 ++ t223) ++ t224) ++ (⟨#[84]⟩ : ByteArray)) ++ t225).size + t226.size ≤ 9223372036854775807 then ((posthornref12_Digits.f k (Int.tmod a0 60) 2).bind fun t227 => (if (((((t222 ++ t223) ++ t224) ++ (⟨#[84]⟩ : ByteArray)) ++ t225) ++ t226).size + t227.size ≤ 9223372036854775807 then (if ((((((t222 ++ t223) ++ t224) ++ (⟨#[84]⟩ : ByteArray)) ++ t225) ++ t226) ++ t227).size + 1 ≤ 9223372036854775807 then (some (((((((t222 ++ t223) ++ t224) ++ (⟨#[84]⟩ : ByteArray)) ++ t225) ++ t226) ++ t227) ++ (⟨#[90]⟩ : ByteArray), t221)) else (none)) else (none))) else (none))) else (none))) else (none)) else (none))) else (none)) = some (r1, r2) := H
  have A6 := Aside0.mk A60
  clear A60
  by_cases c7 : t222.size + t223.size ≤ 9223372036854775807
  ·
   rw [if_pos c7] at H
   have c7b0 := eq_true c7
   have c7b1 : decide (t222.size + t223.size ≤ 9223372036854775807) = true := decide_eq_true c7
   try have c7b2 : (9223372036854775807 < t222.size + t223.size) = False := eq_false (Nat.not_lt.2 c7)
   replace H := Option.bind_eq_some_iff.mp H
   obtain ⟨t224, A80, H⟩ := H
   replace H : (if (t222 ++ t223).size + t224.size ≤ 9223372036854775807 then (if ((t222 ++ t223) ++ t224).size + 1 ≤ 9223372036854775807 then ((posthornref12_Digits.f k (wrap64 (Int.tdiv (Int.tmod a0 86400) 3600)) 2).bind fun t225 => (if (((t222 ++ t223) ++ t224) ++ (⟨#[84]⟩ : ByteArray)).size + t225.size ≤ 9223372036854775807 then ((posthornref12_Digits.f k (wrap64 (Int.tdiv (Int.tmod a0 3600) 60)) 2).bind fun t226 => (if ((((t222 ++ t223) ++ t224) ++ (⟨#[84]⟩ : ByteArray)) ++ t225).size + t226.size ≤ 9223372036854775807 then ((posthornref12_Digits.f k (Int.tmod a0 60) 2).bind fun t227 => (if (((((t222 ++ t223) ++ t224) ++ (⟨#[84]⟩ : ByteArray)) ++ t225) ++ t226).size + t227.size ≤ 9223372036854775807 then (if ((((((t222 ++ t223) ++ t224) ++ (⟨#[84]⟩ : ByteArray)) ++ t225) ++ t226) ++ t227).size + 1 ≤ 9223372036854775807 then (some (((((((t222 ++ t223) ++ t224) ++ (⟨#[84]⟩ : ByteArray)) ++ t225) ++ t226) ++ t227) ++ (⟨#[90]⟩ : ByteArray), t221)) else (none)) else (none))) else (none))) else (none))) else (none)) else (none)) = some (r1, r2) := H
   have A8 := Aside0.mk A80
   clear A80
   by_cases c9 : (t222 ++ t223).size + t224.size ≤ 9223372036854775807
   ·
    rw [if_pos c9] at H
    have c9b0 := eq_true c9
    have c9b1 : decide ((t222 ++ t223).size + t224.size ≤ 9223372036854775807) = true := decide_eq_true c9
    try have c9b2 : (9223372036854775807 < (t222 ++ t223).size + t224.size) = False := eq_false (Nat.not_lt.2 c9)
    have c9b4 := c9
    try simp only [ByteArray.size_append, mk_size, List.length_cons, List.length_nil, Nat.zero_add, Nat.reduceAdd] at c9b4
    by_cases c10 : ((t222 ++ t223) ++ t224).size + 1 ≤ 9223372036854775807
    ·
     rw [if_pos c10] at H
     have c10b0 := eq_true c10
     have c10b1 : decide (((t222 ++ t223) ++ t224).size + 1 ≤ 9223372036854775807) = true := decide_eq_true c10
     try have c10b2 : (9223372036854775807 < ((t222 ++ t223) ++ t224).size + 1) = False := eq_false (Nat.not_lt.2 c10)
     try have c10b3 : (9223372036854775807 ≤ ((t222 ++ t223) ++ t224).size) = False := eq_false (by omega)
     have c10b4 := c10
     try simp only [ByteArray.size_append, mk_size, List.length_cons, List.length_nil, Nat.zero_add, Nat.reduceAdd] at c10b4
     replace H := Option.bind_eq_some_iff.mp H
     obtain ⟨t225, A110, H⟩ := H
     replace H : (if (((t222 ++ t223) ++ t224) ++ (⟨#[84]⟩ : ByteArray)).size + t225.size ≤ 9223372036854775807 then ((posthornref12_Digits.f k (wrap64 (Int.tdiv (Int.tmod a0 3600) 60)) 2).bind fun t226 => (if ((((t222 ++ t223) ++ t224) ++ (⟨#[84]⟩ : ByteArray)) ++ t225).size + t226.size ≤ 9223372036854775807 then ((posthornref12_Digits.f k (Int.tmod a0 60) 2).bind fun t227 => (if (((((t222 ++ t223) ++ t224) ++ (⟨#[84]⟩ : ByteArray)) ++ t225) ++ t226).size + t227.size ≤ 9223372036854775807 then (if ((((((t222 ++ t223) ++ t224) ++ (⟨#[84]⟩ : ByteArray)) ++ t225) ++ t226) ++ t227).size + 1 ≤ 9223372036854775807 then (some (((((((t222 ++ t223) ++ t224) ++ (⟨#[84]⟩ : ByteArray)) ++ t225) ++ t226) ++ t227) ++ (⟨#[90]⟩ : ByteArray), t221)) else (none)) else (none))) else (none))) else (none)) = some (r1, r2) := H
     have A11 := Aside0.mk A110
     clear A110
     by_cases c12 : (((t222 ++ t223) ++ t224) ++ (⟨#[84]⟩ : ByteArray)).size + t225.size ≤ 9223372036854775807
     ·
      rw [if_pos c12] at H
      have c12b0 := eq_true c12
      have c12b1 : decide ((((t222 ++ t223) ++ t224) ++ (⟨#[84]⟩ : ByteArray)).size + t225.size ≤ 9223372036854775807) = true := decide_eq_true c12
      try have c12b2 : (9223372036854775807 < (((t222 ++ t223) ++ t224) ++ (⟨#[84]⟩ : ByteArray)).size + t225.size) = False := eq_false (Nat.not_lt.2 c12)
      have c12b4 := c12
      try simp only [ByteArray.size_append, mk_size, List.length_cons, List.length_nil, Nat.zero_add, Nat.reduceAdd] at c12b4
      replace H := Option.bind_eq_some_iff.mp H
      obtain ⟨t226, A130, H⟩ := H
      replace H : (if ((((t222 ++ t223) ++ t224) ++ (⟨#[84]⟩ : ByteArray)) ++ t225).size + t226.size ≤ 9223372036854775807 then ((posthornref12_Digits.f k (Int.tmod a0 60) 2).bind fun t227 => (if (((((t222 ++ t223) ++ t224) ++ (⟨#[84]⟩ : ByteArray)) ++ t225) ++ t226).size + t227.size ≤ 9223372036854775807 then (if ((((((t222 ++ t223) ++ t224) ++ (⟨#[84]⟩ : ByteArray)) ++ t225) ++ t226) ++ t227).size + 1 ≤ 9223372036854775807 then (some (((((((t222 ++ t223) ++ t224) ++ (⟨#[84]⟩ : ByteArray)) ++ t225) ++ t226) ++ t227) ++ (⟨#[90]⟩ : ByteArray), t221)) else (none)) else (none))) else (none)) = some (r1, r2) := H
      have A13 := Aside0.mk A130
      clear A130
      by_cases c14 : ((((t222 ++ t223) ++ t224) ++ (⟨#[84]⟩ : ByteArray)) ++ t225).size + t226.size ≤ 9223372036854775807
      ·
       rw [if_pos c14] at H
       have c14b0 := eq_true c14
       have c14b1 : decide (((((t222 ++ t223) ++ t224) ++ (⟨#[84]⟩ : ByteArray)) ++ t225).size + t226.size ≤ 9223372036854775807) = true := decide_eq_true c14
       try have c14b2 : (9223372036854775807 < ((((t222 ++ t223) ++ t224) ++ (⟨#[84]⟩ : ByteArray)) ++ t225).size + t226.size) = False := eq_false (Nat.not_lt.2 c14)
       have c14b4 := c14
       try simp only [ByteArray.size_append, mk_size, List.length_cons, List.length_nil, Nat.zero_add, Nat.reduceAdd] at c14b4
       replace H := Option.bind_eq_some_iff.mp H
       obtain ⟨t227, A150, H⟩ := H
       replace H : (if (((((t222 ++ t223) ++ t224) ++ (⟨#[84]⟩ : ByteArray)) ++ t225) ++ t226).size + t227.size ≤ 9223372036854775807 then (if ((((((t222 ++ t223) ++ t224) ++ (⟨#[84]⟩ : ByteArray)) ++ t225) ++ t226) ++ t227).size + 1 ≤ 9223372036854775807 then (some (((((((t222 ++ t223) ++ t224) ++ (⟨#[84]⟩ : ByteArray)) ++ t225) ++ t226) ++ t227) ++ (⟨#[90]⟩ : ByteArray), t221)) else (none)) else (none)) = some (r1, r2) := H
       have A15 := Aside0.mk A150
       clear A150
       by_cases c16 : (((((t222 ++ t223) ++ t224) ++ (⟨#[84]⟩ : ByteArray)) ++ t225) ++ t226).size + t227.size ≤ 9223372036854775807
       ·
        rw [if_pos c16] at H
        have c16b0 := eq_true c16
        have c16b1 : decide ((((((t222 ++ t223) ++ t224) ++ (⟨#[84]⟩ : ByteArray)) ++ t225) ++ t226).size + t227.size ≤ 9223372036854775807) = true := decide_eq_true c16
        try have c16b2 : (9223372036854775807 < (((((t222 ++ t223) ++ t224) ++ (⟨#[84]⟩ : ByteArray)) ++ t225) ++ t226).size + t227.size) = False := eq_false (Nat.not_lt.2 c16)
        have c16b4 := c16
        try simp only [ByteArray.size_append, mk_size, List.length_cons, List.length_nil, Nat.zero_add, Nat.reduceAdd] at c16b4
        by_cases c17 : ((((((t222 ++ t223) ++ t224) ++ (⟨#[84]⟩ : ByteArray)) ++ t225) ++ t226) ++ t227).size + 1 ≤ 9223372036854775807
        ·
         rw [if_pos c17] at H
         have c17b0 := eq_true c17
         have c17b1 : decide (((((((t222 ++ t223) ++ t224) ++ (⟨#[84]⟩ : ByteArray)) ++ t225) ++ t226) ++ t227).size + 1 ≤ 9223372036854775807) = true := decide_eq_true c17
         try have c17b2 : (9223372036854775807 < ((((((t222 ++ t223) ++ t224) ++ (⟨#[84]⟩ : ByteArray)) ++ t225) ++ t226) ++ t227).size + 1) = False := eq_false (Nat.not_lt.2 c17)
         try have c17b3 : (9223372036854775807 ≤ ((((((t222 ++ t223) ++ t224) ++ (⟨#[84]⟩ : ByteArray)) ++ t225) ++ t226) ++ t227).size) = False := eq_false (by omega)
         have c17b4 := c17
         try simp only [ByteArray.size_append, mk_size, List.length_cons, List.length_nil, Nat.zero_add, Nat.reduceAdd] at c17b4
         simp only [Option.some.injEq, Prod.mk.injEq] at H
         obtain ⟨rfl, rfl⟩ := H
         go_enter Tryd.func18, Tryd.ntmps18
         go_wp2_with (first | ((with_reducible refine gate_callee (f := 16) rfl ?_); refine goesL_ (some 10) rfl rfl Tryd.func16 (by kernel_rfl) rfl #[.int .i64 a0] rfl (by (try simp only [List.map_toArray, List.map_cons, List.map_nil]); first | done | rfl | (simp only [List.length_drop, List.length_take]; rfl)) ?_; (with_reducible refine (posthornref12_Time.calls a0 true _ A2.out).mono ?_); rintro e w' ⟨rfl, ⟨nd, rfl⟩⟩; refine ⟨_, rfl, ?_⟩) | ((with_reducible refine gate_callee (f := 13) rfl ?_); refine goesL_ (some 15) rfl rfl Tryd.func13 (by kernel_rfl) rfl #[.int .i64 (wrap64 (Int.tdiv a0 86400))] rfl (by (try simp only [List.map_toArray, List.map_cons, List.map_nil]); first | done | rfl | (simp only [List.length_drop, List.length_take]; rfl)) ?_; (with_reducible refine (posthornref12_Civil.calls k (wrap64 (Int.tdiv a0 86400)) t218 t219 t220 t221 _ A4.out).mono ?_); rintro e w' ⟨rfl, ⟨nd, rfl⟩⟩; refine ⟨_, rfl, ?_⟩) | ((with_reducible refine gate_callee (f := 30) rfl ?_); refine goesL_ (some 23) rfl rfl Tryd.func30 (by kernel_rfl) rfl #[.int .i64 t218, .int .i64 4] rfl (by (try simp only [List.map_toArray, List.map_cons, List.map_nil]); first | done | rfl | (simp only [List.length_drop, List.length_take]; rfl)) ?_; (with_reducible refine (posthornref12_Digits.calls k t218 4 t222 _ A5.out).mono ?_); rintro e w18 ⟨rfl, hb⟩; refine ⟨_, rfl, ?_⟩; have n0_ := Aside0.mk (below_step (by repeat (first | (with_reducible first | exact HB.out | apply below_alloc | apply pw_below_drewN | apply below_drew1) | exact HB.out)) hb); clear HB; have HB := n0_; clear n0_; (try clear hb); (try clear hb2); (try clear hk); (try clear hi)) | ((with_reducible refine gate_callee (f := 30) rfl ?_); refine goesL_ (some 25) rfl rfl Tryd.func30 (by kernel_rfl) rfl #[.int .i64 t219, .int .i64 2] rfl (by (try simp only [List.map_toArray, List.map_cons, List.map_nil]); first | done | rfl | (simp only [List.length_drop, List.length_take]; rfl)) ?_; (with_reducible refine (posthornref12_Digits.calls k t219 2 t223 _ A6.out).mono ?_); rintro e w19 ⟨rfl, hb⟩; refine ⟨_, rfl, ?_⟩; have n0_ := Aside0.mk (below_step (by repeat (first | (with_reducible first | exact HB.out | apply below_alloc | apply pw_below_drewN | apply below_drew1) | exact HB.out)) hb); clear HB; have HB := n0_; clear n0_; (try clear hb); (try clear hb2); (try clear hk); (try clear hi)) | ((with_reducible refine gate_callee (f := 30) rfl ?_); refine goesL_ (some 28) rfl rfl Tryd.func30 (by kernel_rfl) rfl #[.int .i64 t220, .int .i64 2] rfl (by (try simp only [List.map_toArray, List.map_cons, List.map_nil]); first | done | rfl | (simp only [List.length_drop, List.length_take]; rfl)) ?_; (with_reducible refine (posthornref12_Digits.calls k t220 2 t224 _ A8.out).mono ?_); rintro e w20 ⟨rfl, hb⟩; refine ⟨_, rfl, ?_⟩; have n0_ := Aside0.mk (below_step (by repeat (first | (with_reducible first | exact HB.out | apply below_alloc | apply pw_below_drewN | apply below_drew1) | exact HB.out)) hb); clear HB; have HB := n0_; clear n0_; (try clear hb); (try clear hb2); (try clear hk); (try clear hi)) | ((with_reducible refine gate_callee (f := 30) rfl ?_); refine goesL_ (some 33) rfl rfl Tryd.func30 (by kernel_rfl) rfl #[.int .i64 (wrap64 (Int.tdiv (Int.tmod a0 86400) 3600)), .int .i64 2] rfl (by (try simp only [List.map_toArray, List.map_cons, List.map_nil]); first | done | rfl | (simp only [List.length_drop, List.length_take]; rfl)) ?_; (with_reducible refine (posthornref12_Digits.calls k (wrap64 (Int.tdiv (Int.tmod a0 86400) 3600)) 2 t225 _ A11.out).mono ?_); rintro e w21 ⟨rfl, hb⟩; refine ⟨_, rfl, ?_⟩; have n0_ := Aside0.mk (below_step (by repeat (first | (with_reducible first | exact HB.out | apply below_alloc | apply pw_below_drewN | apply below_drew1) | exact HB.out)) hb); clear HB; have HB := n0_; clear n0_; (try clear hb); (try clear hb2); (try clear hk); (try clear hi)) | ((with_reducible refine gate_callee (f := 30) rfl ?_); refine goesL_ (some 38) rfl rfl Tryd.func30 (by kernel_rfl) rfl #[.int .i64 (wrap64 (Int.tdiv (Int.tmod a0 3600) 60)), .int .i64 2] rfl (by (try simp only [List.map_toArray, List.map_cons, List.map_nil]); first | done | rfl | (simp only [List.length_drop, List.length_take]; rfl)) ?_; (with_reducible refine (posthornref12_Digits.calls k (wrap64 (Int.tdiv (Int.tmod a0 3600) 60)) 2 t226 _ A13.out).mono ?_); rintro e w22 ⟨rfl, hb⟩; refine ⟨_, rfl, ?_⟩; have n0_ := Aside0.mk (below_step (by repeat (first | (with_reducible first | exact HB.out | apply below_alloc | apply pw_below_drewN | apply below_drew1) | exact HB.out)) hb); clear HB; have HB := n0_; clear n0_; (try clear hb); (try clear hb2); (try clear hk); (try clear hi)) | ((with_reducible refine gate_callee (f := 30) rfl ?_); refine goesL_ (some 42) rfl rfl Tryd.func30 (by kernel_rfl) rfl #[.int .i64 (Int.tmod a0 60), .int .i64 2] rfl (by (try simp only [List.map_toArray, List.map_cons, List.map_nil]); first | done | rfl | (simp only [List.length_drop, List.length_take]; rfl)) ?_; (with_reducible refine (posthornref12_Digits.calls k (Int.tmod a0 60) 2 t227 _ A15.out).mono ?_); rintro e w23 ⟨rfl, hb⟩; refine ⟨_, rfl, ?_⟩; have n0_ := Aside0.mk (below_step (by repeat (first | (with_reducible first | exact HB.out | apply below_alloc | apply pw_below_drewN | apply below_drew1) | exact HB.out)) hb); clear HB; have HB := n0_; clear n0_; (try clear hb); (try clear hb2); (try clear hk); (try clear hi)))
         go_ret2
         exact ⟨by first | rfl | (simp [errW_none, errW_some] <;> rfl) | (simp [*, errW_none, errW_some] <;> rfl), by repeat (first | (with_reducible first | exact HB.out | apply below_alloc | apply pw_below_drewN | apply below_drew1) | exact HB.out)⟩
        ·
         rw [if_neg c17] at H
         exact absurd H (by simp)
       ·
        rw [if_neg c16] at H
        exact absurd H (by simp)
      ·
       rw [if_neg c14] at H
       exact absurd H (by simp)
     ·
      rw [if_neg c12] at H
      exact absurd H (by simp)
    ·
     rw [if_neg c10] at H
     exact absurd H (by simp)
   ·
    rw [if_neg c9] at H
    exact absurd H (by simp)
  ·
   rw [if_neg c7] at H
   exact absurd H (by simp)
 ·
  replace c3 := Bool.eq_false_iff.mpr c3
  subst c3
  have H1 : (some ((⟨#[]⟩ : ByteArray), 110)) = some (r1, r2) := by rw [if_neg (show ¬ (false = true) by decide)] at H; exact H
  clear H
  have H := H1
  clear H1
  simp only [Option.some.injEq, Prod.mk.injEq] at H
  obtain ⟨rfl, rfl⟩ := H
  go_enter Tryd.func18, Tryd.ntmps18
  go_wp2_with (first | ((with_reducible refine gate_callee (f := 16) rfl ?_); refine goesL_ (some 10) rfl rfl Tryd.func16 (by kernel_rfl) rfl #[.int .i64 a0] rfl (by (try simp only [List.map_toArray, List.map_cons, List.map_nil]); first | done | rfl | (simp only [List.length_drop, List.length_take]; rfl)) ?_; (with_reducible refine (posthornref12_Time.calls a0 false _ A2.out).mono ?_); rintro e w' ⟨rfl, ⟨nd, rfl⟩⟩; refine ⟨_, rfl, ?_⟩))
  go_ret2
  exact ⟨by first | rfl | (simp [errW_none, errW_some] <;> rfl) | (simp [*, errW_none, errW_some] <;> rfl), by repeat (first | (with_reducible first | exact HB.out | apply below_alloc | apply pw_below_drewN | apply below_drew1) | exact HB.out)⟩

/-! ### posthornref12_Value: function 32 -/
mutual
def posthornref12_Value.j0 : Nat → ByteArray → Bool → Option (Int)
 | 0, _, _ => none
 | k + 1, x0, x12 => if x12 = true then (some (-1)) else (posthornref12_Value.l0 k x0 0 0)
def posthornref12_Value.l0 : Nat → ByteArray → Int → Int → Option (Int)
 | 0, _, _, _ => none
 | k + 1, x0, x3, x4 => if x4 < (x0.size : Int) then (if 0 ≤ x4 then (if (bt x0 x4) < 48 then (some (-1)) else (if (bt x0 x4) > 57 then (some (-1)) else (posthornref12_Value.l0 k x0 (wrap64 ((wrap64 ((wrap64 (10 * x3)) + (wrap64 (bt x0 x4)))) - 48)) (wrap64 (x4 + 1))))) else (none)) else (some x3)
end
def posthornref12_Value.f (k : Nat) (a0 : ByteArray) : Option (Int) := if (a0.size : Int) = 0 then (posthornref12_Value.j0 k a0 true) else (posthornref12_Value.j0 k a0 (decide ((a0.size : Int) > 10)))
theorem posthornref12_Value.mono_l : ∀ k, (∀ y0 y1, LeO (posthornref12_Value.j0 k y0 y1) (posthornref12_Value.j0 (k + 1) y0 y1)) ∧ (∀ y0 y1 y2, LeO (posthornref12_Value.l0 k y0 y1 y2) (posthornref12_Value.l0 (k + 1) y0 y1 y2))
 | 0 => ⟨fun _ _ r h => by simp [posthornref12_Value.j0] at h, fun _ _ _ r h => by simp [posthornref12_Value.l0] at h⟩
 | k + 1 => by
  obtain ⟨ih0, ih1⟩ := posthornref12_Value.mono_l k
  refine ⟨?_, ?_⟩
  ·
   intro y0 y1
   unfold posthornref12_Value.j0
   repeat' first
   | (with_reducible exact ih0 _ _)
   | (with_reducible exact ih1 _ _ _)
   | (with_reducible exact LeO.refl _)
   | (with_reducible exact LeO.none _)
   | (with_reducible refine LeO.ite ?_ ?_)
   | (with_reducible refine LeO.bind ?_ (fun _ => ?_))
   | exact ih0 _ _
   | exact ih1 _ _ _
   | exact LeO.none _
   | refine LeO.ite ?_ ?_
   | refine LeO.bind ?_ (fun _ => ?_)
  ·
   intro y0 y1 y2
   unfold posthornref12_Value.l0
   repeat' first
   | (with_reducible exact ih0 _ _)
   | (with_reducible exact ih1 _ _ _)
   | (with_reducible exact LeO.refl _)
   | (with_reducible exact LeO.none _)
   | (with_reducible refine LeO.ite ?_ ?_)
   | (with_reducible refine LeO.bind ?_ (fun _ => ?_))
   | exact ih0 _ _
   | exact ih1 _ _ _
   | exact LeO.none _
   | refine LeO.ite ?_ ?_
   | refine LeO.bind ?_ (fun _ => ?_)
theorem posthornref12_Value.mono : ∀ a0 k, LeO (posthornref12_Value.f k a0) (posthornref12_Value.f (k + 1) a0) := by
 intro a0 k
 obtain ⟨ih0, ih1⟩ := posthornref12_Value.mono_l k
 unfold posthornref12_Value.f
 repeat' first
   | (with_reducible exact ih0 _ _)
   | (with_reducible exact ih1 _ _ _)
   | (with_reducible exact LeO.refl _)
   | (with_reducible exact LeO.none _)
   | (with_reducible refine LeO.ite ?_ ?_)
   | (with_reducible refine LeO.bind ?_ (fun _ => ?_))
   | exact ih0 _ _
   | exact ih1 _ _ _
   | exact LeO.none _
   | refine LeO.ite ?_ ?_
   | refine LeO.bind ?_ (fun _ => ?_)
set_option maxHeartbeats 8000000 in
set_option maxRecDepth 100000 in
theorem posthornref12_Value.calls (k : Nat) (a0 : ByteArray) (r : Int) (w : World) (h : posthornref12_Value.f k a0 = some r) :
  Calls Tryd.prog 32 #[.string a0] w fun e w' => e = .returned (.int .i64 r) ∧ Drawn0 w w' := by
 have H : (if (a0.size : Int) = 0 then (posthornref12_Value.j0 k a0 true) else (posthornref12_Value.j0 k a0 (decide ((a0.size : Int) > 10)))) = some r := h
 clear h
 have HC2 := Aside0.mk H
 clear H
 go_enter Tryd.func32, Tryd.ntmps32
 go_upto_region 1 with (fail)
 go_cut [12] (fun v12 wc => ∃ (kq : Nat) (x12_1 : Bool), v12 = .bool x12_1 ∧ Aside0 (posthornref12_Value.j0 kq a0 x12_1 = some r) ∧ Aside0 (kq ≤ k) ∧ Drawn0 w wc)
 case first =>
  have H := HC2.out
  clear HC2
  by_cases c3 : (a0.size : Int) = 0
  ·
   rw [if_pos c3] at H
   have c3b0 : ((a0.size : Int) == 0) = true := beq_iff_eq.mpr c3
   have c3b1 : ((a0.size : Int) != 0) = false := bne_eq_false_iff_eq.mpr c3
   clear c3
   (first | rw [c3b0] | (simp only [i64_w, i32_w]; rw [c3b0]) | skip)
   have H' := Aside0.mk H
   clear H
   go_wp2
   go_meet
   case rel => exact ⟨_, (true), (by first | rfl | (simp; done) | (simp [*]; done)), H', ⟨by first | omega | exact Nat.le_refl _⟩, by repeat (first | exact Drawn0.refl _ | apply Drawn0.step)⟩
  ·
   rw [if_neg c3] at H
   have c3b0 : ((a0.size : Int) == 0) = false := beq_eq_false_iff_ne.mpr c3
   have c3b1 : ((a0.size : Int) != 0) = true := bne_iff_ne.mpr c3
   (first | rw [c3b0] | (simp only [i64_w, i32_w]; rw [c3b0]) | skip)
   have H' := Aside0.mk H
   clear H
   go_wp2
   go_meet
   case rel => exact ⟨_, (decide ((a0.size : Int) > 10)), (by first | rfl | (simp; done) | (simp [*]; done)), H', ⟨by first | omega | exact Nat.le_refl _⟩, by repeat (first | exact Drawn0.refl _ | apply Drawn0.step)⟩
 case rest =>
  clear HC2
  try clear p2
  try clear c3
  try clear c3b0
  try clear c3b1
  obtain ⟨kq, x12_1, rfl, HA, HJ1, ⟨mc1, rfl⟩⟩ := hcut
  cases kq with
  | zero => exact absurd HA.out (by simp [posthornref12_Value.j0])
  | succ kj1 =>
   have H := HA.out
   clear HA
   simp only [posthornref12_Value.j0] at H
   by_cases c4 : x12_1 = true
   ·
    subst c4
    have H1 : (some (-1)) = some r := by rw [if_pos rfl] at H; exact H
    clear H
    have H := H1
    clear H1
    obtain rfl := Option.some.inj H
    go_wp2
    go_ret
    exact ⟨by first | rfl | (simp; done) | (simp [*]; done), by repeat (first | exact Drawn0.refl _ | apply Drawn0.step)⟩
   ·
    replace c4 := Bool.eq_false_iff.mpr c4
    subst c4
    have H1 : (posthornref12_Value.l0 kj1 a0 0 0) = some r := by rw [if_neg (show ¬ (false = true) by decide)] at H; exact H
    clear H
    have H := H1
    clear H1
    have H' := Aside0.mk H
    clear H
    go_wp2
    go_loopg [3, 4] kj1 (fun kq v3 v4 w' => ∃ (x3_2 : Int) (x4_2 : Int), v3 = .int .i64 x3_2 ∧ v4 = .int .i64 x4_2 ∧ Aside0 (posthornref12_Value.l0 kq a0 x3_2 x4_2 = some r) ∧ Aside0 (kq ≤ kj1) ∧ Drawn0 w w')
    case atStart => exact ⟨(0), (0), (by first | rfl | (simp; done) | (simp [*]; done)), (by first | rfl | (simp; done) | (simp [*]; done)), H', ⟨Nat.le_refl _⟩, by repeat (first | exact Drawn0.refl _ | apply Drawn0.step)⟩
    case round =>
     clear H'
     try clear c1
     try clear p2
     try clear c3
     try clear c3b0
     try clear c3b1
     try clear c4
     try clear p2
     obtain ⟨x3_2, x4_2, rfl, rfl, HA, HK2, ⟨m2, rfl⟩⟩ := hrel
     cases gk with
     | zero => exact absurd HA.out (by simp [posthornref12_Value.l0])
     | succ k2 =>
      have H := HA.out
      clear HA
      simp only [posthornref12_Value.l0] at H
      by_cases c5 : x4_2 < (a0.size : Int)
      ·
       rw [if_pos c5] at H
       have c5b0 : decide (x4_2 < (a0.size : Int)) = true := decide_eq_true c5
       clear c5
       by_cases c6 : 0 ≤ x4_2
       ·
        rw [if_pos c6] at H
        have c6b0 : decide (0 ≤ x4_2) = true := decide_eq_true c6
        clear c6
        by_cases c8 : (bt a0 x4_2) < 48
        ·
         rw [if_pos c8] at H
         have c8b0 : decide ((bt a0 x4_2) < 48) = true := decide_eq_true c8
         clear c8
         obtain rfl := Option.some.inj H
         have p7 : 0 ≤ (x4_2 : Int) := of_decide_eq_true (by first | (with_reducible assumption) | assumption)
         have q7 : x4_2 < (a0.size : Int) := of_decide_eq_true (by first | (with_reducible assumption) | assumption)
         have hx7 := bt_at a0 x4_2
         replace p7 := eq_true p7
         replace q7 := eq_true q7
         go_wp2
         go_ret
         exact ⟨by first | rfl | (simp; done) | (simp [*]; done), by repeat (first | exact Drawn0.refl _ | apply Drawn0.step)⟩
        ·
         rw [if_neg c8] at H
         have c8b0 : decide ((bt a0 x4_2) < 48) = false := decide_eq_false c8
         clear c8
         by_cases c10 : (bt a0 x4_2) > 57
         ·
          rw [if_pos c10] at H
          have c10b0 : decide (57 < (bt a0 x4_2)) = true := decide_eq_true c10
          clear c10
          obtain rfl := Option.some.inj H
          have p7 : 0 ≤ (x4_2 : Int) := of_decide_eq_true (by first | (with_reducible assumption) | assumption)
          have q7 : x4_2 < (a0.size : Int) := of_decide_eq_true (by first | (with_reducible assumption) | assumption)
          have hx7 := bt_at a0 x4_2
          replace p7 := eq_true p7
          replace q7 := eq_true q7
          have p9 : 0 ≤ (x4_2 : Int) := of_decide_eq_true (by first | (with_reducible assumption) | assumption)
          have q9 : x4_2 < (a0.size : Int) := of_decide_eq_true (by first | (with_reducible assumption) | assumption)
          have hx9 := bt_at a0 x4_2
          replace p9 := eq_true p9
          replace q9 := eq_true q9
          go_wp2
          go_ret
          exact ⟨by first | rfl | (simp; done) | (simp [*]; done), by repeat (first | exact Drawn0.refl _ | apply Drawn0.step)⟩
         ·
          rw [if_neg c10] at H
          have c10b0 : decide (57 < (bt a0 x4_2)) = false := decide_eq_false c10
          clear c10
          have H' := Aside0.mk H
          clear H
          have p7 : 0 ≤ (x4_2 : Int) := of_decide_eq_true (by first | (with_reducible assumption) | assumption)
          have q7 : x4_2 < (a0.size : Int) := of_decide_eq_true (by first | (with_reducible assumption) | assumption)
          have hx7 := bt_at a0 x4_2
          replace p7 := eq_true p7
          replace q7 := eq_true q7
          have p9 : 0 ≤ (x4_2 : Int) := of_decide_eq_true (by first | (with_reducible assumption) | assumption)
          have q9 : x4_2 < (a0.size : Int) := of_decide_eq_true (by first | (with_reducible assumption) | assumption)
          have hx9 := bt_at a0 x4_2
          replace p9 := eq_true p9
          replace q9 := eq_true q9
          have p11 : 0 ≤ (x4_2 : Int) := of_decide_eq_true (by first | (with_reducible assumption) | assumption)
          have q11 : x4_2 < (a0.size : Int) := of_decide_eq_true (by first | (with_reducible assumption) | assumption)
          have hx11 := bt_at a0 x4_2
          replace p11 := eq_true p11
          replace q11 := eq_true q11
          go_wp2
          go_roundg k2
          case measure => have := HJ1.out; have := HK2.out; omega
          case rel => exact ⟨(wrap64 ((wrap64 ((wrap64 (10 * x3_2)) + (wrap64 (bt a0 x4_2)))) - 48)), (wrap64 (x4_2 + 1)), (by first | rfl | (simp; done) | (simp [*]; done)), (by first | rfl | (simp; done) | (simp [*]; done)), H', ⟨by have := HJ1.out; have := HK2.out; omega⟩, by repeat (first | exact Drawn0.refl _ | apply Drawn0.step)⟩
       ·
        rw [if_neg c6] at H
        exact absurd H (by simp)
      ·
       rw [if_neg c5] at H
       have c5b0 : decide (x4_2 < (a0.size : Int)) = false := decide_eq_false c5
       clear c5
       obtain rfl := Option.some.inj H
       go_wp2
       go_ret
       exact ⟨by first | rfl | (simp; done) | (simp [*]; done), by repeat (first | exact Drawn0.refl _ | apply Drawn0.step)⟩

/-! ### posthornref12_Parse: function 20 -/
def posthornref12_Parse.f (k : Nat) (a0 : ByteArray) : Option (Int × Int) := if (a0.size : Int) = 16 then (if 0 ≤ 4 then (if 4 ≤ (a0.size : Int) then ((posthornref12_Value.f k (a0.extract 0 4)).bind fun t228 => (if 4 ≤ 6 then (if 6 ≤ (a0.size : Int) then ((posthornref12_Value.f k (a0.extract 4 6)).bind fun t229 => (if 6 ≤ 8 then (if 8 ≤ (a0.size : Int) then ((posthornref12_Value.f k (a0.extract 6 8)).bind fun t230 => ((posthornref12_Days.f k t228 t229 t230).bind fun bt231 => (if 9 ≤ 11 then (if 11 ≤ (a0.size : Int) then ((posthornref12_Value.f k (a0.extract 9 11)).bind fun t233 => (if 11 ≤ 13 then (if 13 ≤ (a0.size : Int) then ((posthornref12_Value.f k (a0.extract 11 13)).bind fun t234 => (if 13 ≤ 15 then (if 15 ≤ (a0.size : Int) then ((posthornref12_Value.f k (a0.extract 13 15)).bind fun t235 => ((posthornref12_Print.f k (wrap64 ((wrap64 ((wrap64 ((wrap64 (86400 * bt231.1)) + (wrap64 (3600 * t233)))) + (wrap64 (60 * t234)))) + t235))).bind fun bt236 => (if bt231.2 = 0 then (if bt236.2 = 0 then (if bt236.1.toList = a0.toList then (some (wrap64 ((wrap64 ((wrap64 ((wrap64 (86400 * bt231.1)) + (wrap64 (3600 * t233)))) + (wrap64 (60 * t234)))) + t235), bt231.2)) else (some (0, 110))) else (some (0, 110))) else (some (0, 110))))) else (none)) else (none))) else (none)) else (none))) else (none)) else (none)))) else (none)) else (none))) else (none)) else (none))) else (none)) else (none)) else (some (0, 110))
theorem posthornref12_Parse.mono : ∀ a0 k, LeO (posthornref12_Parse.f k a0) (posthornref12_Parse.f (k + 1) a0) := by
 intro a0 k
 unfold posthornref12_Parse.f
 repeat' first
   | (with_reducible exact posthornref12_Days.mono _ _ _ _)
   | (with_reducible exact posthornref12_Print.mono _ _)
   | (with_reducible exact posthornref12_Value.mono _ _)
   | (with_reducible exact LeO.refl _)
   | (with_reducible exact LeO.none _)
   | (with_reducible refine LeO.ite ?_ ?_)
   | (with_reducible refine LeO.bind ?_ (fun _ => ?_))
   | exact posthornref12_Days.mono _ _ _ _
   | exact posthornref12_Print.mono _ _
   | exact posthornref12_Value.mono _ _
   | exact LeO.none _
   | refine LeO.ite ?_ ?_
   | refine LeO.bind ?_ (fun _ => ?_)
set_option maxHeartbeats 8000000 in
set_option maxRecDepth 100000 in
theorem posthornref12_Parse.calls (k : Nat) (a0 : ByteArray) (r1 : Int) (r2 : Int) (w : World) (h : posthornref12_Parse.f k a0 = some (r1, r2)) :
  Calls Tryd.prog 20 #[.string a0] w fun e w' => e = .returned (.tuple #[.int .i64 r1, .int .i64 r2]) ∧ Below w.heap.size w w' := by
 have HB := Aside0.mk (Below.refl w.heap.size w)
 have H : (if (a0.size : Int) = 16 then (if 0 ≤ 4 then (if 4 ≤ (a0.size : Int) then ((posthornref12_Value.f k (a0.extract 0 4)).bind fun t228 => (if 4 ≤ 6 then (if 6 ≤ (a0.size : Int) then ((posthornref12_Value.f k (a0.extract 4 6)).bind fun t229 => (if 6 ≤ 8 then (if 8 ≤ (a0.size : Int) then ((posthornref12_Value.f k (a0.extract 6 8)).bind fun t230 => ((posthornref12_Days.f k t228 t229 t230).bind fun bt231 => (if 9 ≤ 11 then (if 11 ≤ (a0.size : Int) then ((posthornref12_Value.f k (a0.extract 9 11)).bind fun t233 => (if 11 ≤ 13 then (if 13 ≤ (a0.size : Int) then ((posthornref12_Value.f k (a0.extract 11 13)).bind fun t234 => (if 13 ≤ 15 then (if 15 ≤ (a0.size : Int) then ((posthornref12_Value.f k (a0.extract 13 15)).bind fun t235 => ((posthornref12_Print.f k (wrap64 ((wrap64 ((wrap64 ((wrap64 (86400 * bt231.1)) + (wrap64 (3600 * t233)))) + (wrap64 (60 * t234)))) + t235))).bind fun bt236 => (if bt231.2 = 0 then (if bt236.2 = 0 then (if bt236.1.toList = a0.toList then (some (wrap64 ((wrap64 ((wrap64 ((wrap64 (86400 * bt231.1)) + (wrap64 (3600 * t233)))) + (wrap64 (60 * t234)))) + t235), bt231.2)) else (some (0, 110))) else (some (0, 110))) else (some (0, 110))))) else (none)) else (none))) else (none)) else (none))) else (none)) else (none)))) else (none)) else (none))) else (none)) else (none))) else (none)) else (none)) else (some (0, 110))) = some (r1, r2) := h
 clear h
 by_cases c2 : (a0.size : Int) = 16
 ·
  rw [if_pos c2] at H
  have c2b0 : ((a0.size : Int) == 16) = true := beq_iff_eq.mpr c2
  have c2b1 : ((a0.size : Int) != 16) = false := bne_eq_false_iff_eq.mpr c2
  clear c2
  by_cases c3 : 0 ≤ 4
  ·
   rw [if_pos c3] at H
   have c3b0 := eq_true c3
   have c3b1 : decide (0 ≤ 4) = true := decide_eq_true c3
   clear c3
   by_cases c4 : 4 ≤ (a0.size : Int)
   ·
    rw [if_pos c4] at H
    have c4b0 := eq_true c4
    have c4b1 : decide (4 ≤ (a0.size : Int)) = true := decide_eq_true c4
    clear c4
    replace H := Option.bind_eq_some_iff.mp H
    obtain ⟨t228, A50, H⟩ := H
    replace H : (if 4 ≤ 6 then (if 6 ≤ (a0.size : Int) then ((posthornref12_Value.f k (a0.extract 4 6)).bind fun t229 => (if 6 ≤ 8 then (if 8 ≤ (a0.size : Int) then ((posthornref12_Value.f k (a0.extract 6 8)).bind fun t230 => ((posthornref12_Days.f k t228 t229 t230).bind fun bt231 => (if 9 ≤ 11 then (if 11 ≤ (a0.size : Int) then ((posthornref12_Value.f k (a0.extract 9 11)).bind fun t233 => (if 11 ≤ 13 then (if 13 ≤ (a0.size : Int) then ((posthornref12_Value.f k (a0.extract 11 13)).bind fun t234 => (if 13 ≤ 15 then (if 15 ≤ (a0.size : Int) then ((posthornref12_Value.f k (a0.extract 13 15)).bind fun t235 => ((posthornref12_Print.f k (wrap64 ((wrap64 ((wrap64 ((wrap64 (86400 * bt231.1)) + (wrap64 (3600 * t233)))) + (wrap64 (60 * t234)))) + t235))).bind fun bt236 => (if bt231.2 = 0 then (if bt236.2 = 0 then (if bt236.1.toList = a0.toList then (some (wrap64 ((wrap64 ((wrap64 ((wrap64 (86400 * bt231.1)) + (wrap64 (3600 * t233)))) + (wrap64 (60 * t234)))) + t235), bt231.2)) else (some (0, 110))) else (some (0, 110))) else (some (0, 110))))) else (none)) else (none))) else (none)) else (none))) else (none)) else (none)))) else (none)) else (none))) else (none)) else (none)) = some (r1, r2) := H
    have A5 := Aside0.mk A50
    clear A50
    by_cases c6 : 4 ≤ 6
    ·
     rw [if_pos c6] at H
     have c6b0 := eq_true c6
     have c6b1 : decide (4 ≤ 6) = true := decide_eq_true c6
     clear c6
     by_cases c7 : 6 ≤ (a0.size : Int)
     ·
      rw [if_pos c7] at H
      have c7b0 := eq_true c7
      have c7b1 : decide (6 ≤ (a0.size : Int)) = true := decide_eq_true c7
      clear c7
      replace H := Option.bind_eq_some_iff.mp H
      obtain ⟨t229, A80, H⟩ := H
      replace H : (if 6 ≤ 8 then (if 8 ≤ (a0.size : Int) then ((posthornref12_Value.f k (a0.extract 6 8)).bind fun t230 => ((posthornref12_Days.f k t228 t229 t230).bind fun bt231 => (if 9 ≤ 11 then (if 11 ≤ (a0.size : Int) then ((posthornref12_Value.f k (a0.extract 9 11)).bind fun t233 => (if 11 ≤ 13 then (if 13 ≤ (a0.size : Int) then ((posthornref12_Value.f k (a0.extract 11 13)).bind fun t234 => (if 13 ≤ 15 then (if 15 ≤ (a0.size : Int) then ((posthornref12_Value.f k (a0.extract 13 15)).bind fun t235 => ((posthornref12_Print.f k (wrap64 ((wrap64 ((wrap64 ((wrap64 (86400 * bt231.1)) + (wrap64 (3600 * t233)))) + (wrap64 (60 * t234)))) + t235))).bind fun bt236 => (if bt231.2 = 0 then (if bt236.2 = 0 then (if bt236.1.toList = a0.toList then (some (wrap64 ((wrap64 ((wrap64 ((wrap64 (86400 * bt231.1)) + (wrap64 (3600 * t233)))) + (wrap64 (60 * t234)))) + t235), bt231.2)) else (some (0, 110))) else (some (0, 110))) else (some (0, 110))))) else (none)) else (none))) else (none)) else (none))) else (none)) else (none)))) else (none)) else (none)) = some (r1, r2) := H
      have A8 := Aside0.mk A80
      clear A80
      by_cases c9 : 6 ≤ 8
      ·
       rw [if_pos c9] at H
       have c9b0 := eq_true c9
       have c9b1 : decide (6 ≤ 8) = true := decide_eq_true c9
       clear c9
       by_cases c10 : 8 ≤ (a0.size : Int)
       ·
        rw [if_pos c10] at H
        have c10b0 := eq_true c10
        have c10b1 : decide (8 ≤ (a0.size : Int)) = true := decide_eq_true c10
        clear c10
        replace H := Option.bind_eq_some_iff.mp H
        obtain ⟨t230, A110, H⟩ := H
        replace H : ((posthornref12_Days.f k t228 t229 t230).bind fun bt231 => (if 9 ≤ 11 then (if 11 ≤ (a0.size : Int) then ((posthornref12_Value.f k (a0.extract 9 11)).bind fun t233 => (if 11 ≤ 13 then (if 13 ≤ (a0.size : Int) then ((posthornref12_Value.f k (a0.extract 11 13)).bind fun t234 => (if 13 ≤ 15 then (if 15 ≤ (a0.size : Int) then ((posthornref12_Value.f k (a0.extract 13 15)).bind fun t235 => ((posthornref12_Print.f k (wrap64 ((wrap64 ((wrap64 ((wrap64 (86400 * bt231.1)) + (wrap64 (3600 * t233)))) + (wrap64 (60 * t234)))) + t235))).bind fun bt236 => (if bt231.2 = 0 then (if bt236.2 = 0 then (if bt236.1.toList = a0.toList then (some (wrap64 ((wrap64 ((wrap64 ((wrap64 (86400 * bt231.1)) + (wrap64 (3600 * t233)))) + (wrap64 (60 * t234)))) + t235), bt231.2)) else (some (0, 110))) else (some (0, 110))) else (some (0, 110))))) else (none)) else (none))) else (none)) else (none))) else (none)) else (none))) = some (r1, r2) := H
        have A11 := Aside0.mk A110
        clear A110
        replace H := Option.bind_eq_some_iff.mp H
        obtain ⟨⟨t231, t232⟩, A120, H⟩ := H
        replace H : (if 9 ≤ 11 then (if 11 ≤ (a0.size : Int) then ((posthornref12_Value.f k (a0.extract 9 11)).bind fun t233 => (if 11 ≤ 13 then (if 13 ≤ (a0.size : Int) then ((posthornref12_Value.f k (a0.extract 11 13)).bind fun t234 => (if 13 ≤ 15 then (if 15 ≤ (a0.size : Int) then ((posthornref12_Value.f k (a0.extract 13 15)).bind fun t235 => ((posthornref12_Print.f k (wrap64 ((wrap64 ((wrap64 ((wrap64 (86400 * t231)) + (wrap64 (3600 * t233)))) + (wrap64 (60 * t234)))) + t235))).bind fun bt236 => (if t232 = 0 then (if bt236.2 = 0 then (if bt236.1.toList = a0.toList then (some (wrap64 ((wrap64 ((wrap64 ((wrap64 (86400 * t231)) + (wrap64 (3600 * t233)))) + (wrap64 (60 * t234)))) + t235), t232)) else (some (0, 110))) else (some (0, 110))) else (some (0, 110))))) else (none)) else (none))) else (none)) else (none))) else (none)) else (none)) = some (r1, r2) := H
        have A12 := Aside0.mk A120
        clear A120
        by_cases c13 : 9 ≤ 11
        ·
         rw [if_pos c13] at H
         have c13b0 := eq_true c13
         have c13b1 : decide (9 ≤ 11) = true := decide_eq_true c13
         clear c13
         by_cases c14 : 11 ≤ (a0.size : Int)
         ·
          rw [if_pos c14] at H
          have c14b0 := eq_true c14
          have c14b1 : decide (11 ≤ (a0.size : Int)) = true := decide_eq_true c14
          clear c14
          replace H := Option.bind_eq_some_iff.mp H
          obtain ⟨t233, A150, H⟩ := H
          replace H : (if 11 ≤ 13 then (if 13 ≤ (a0.size : Int) then ((posthornref12_Value.f k (a0.extract 11 13)).bind fun t234 => (if 13 ≤ 15 then (if 15 ≤ (a0.size : Int) then ((posthornref12_Value.f k (a0.extract 13 15)).bind fun t235 => ((posthornref12_Print.f k (wrap64 ((wrap64 ((wrap64 ((wrap64 (86400 * t231)) + (wrap64 (3600 * t233)))) + (wrap64 (60 * t234)))) + t235))).bind fun bt236 => (if t232 = 0 then (if bt236.2 = 0 then (if bt236.1.toList = a0.toList then (some (wrap64 ((wrap64 ((wrap64 ((wrap64 (86400 * t231)) + (wrap64 (3600 * t233)))) + (wrap64 (60 * t234)))) + t235), t232)) else (some (0, 110))) else (some (0, 110))) else (some (0, 110))))) else (none)) else (none))) else (none)) else (none)) = some (r1, r2) := H
          have A15 := Aside0.mk A150
          clear A150
          by_cases c16 : 11 ≤ 13
          ·
           rw [if_pos c16] at H
           have c16b0 := eq_true c16
           have c16b1 : decide (11 ≤ 13) = true := decide_eq_true c16
           clear c16
           by_cases c17 : 13 ≤ (a0.size : Int)
           ·
            rw [if_pos c17] at H
            have c17b0 := eq_true c17
            have c17b1 : decide (13 ≤ (a0.size : Int)) = true := decide_eq_true c17
            clear c17
            replace H := Option.bind_eq_some_iff.mp H
            obtain ⟨t234, A180, H⟩ := H
            replace H : (if 13 ≤ 15 then (if 15 ≤ (a0.size : Int) then ((posthornref12_Value.f k (a0.extract 13 15)).bind fun t235 => ((posthornref12_Print.f k (wrap64 ((wrap64 ((wrap64 ((wrap64 (86400 * t231)) + (wrap64 (3600 * t233)))) + (wrap64 (60 * t234)))) + t235))).bind fun bt236 => (if t232 = 0 then (if bt236.2 = 0 then (if bt236.1.toList = a0.toList then (some (wrap64 ((wrap64 ((wrap64 ((wrap64 (86400 * t231)) + (wrap64 (3600 * t233)))) + (wrap64 (60 * t234)))) + t235), t232)) else (some (0, 110))) else (some (0, 110))) else (some (0, 110))))) else (none)) else (none)) = some (r1, r2) := H
            have A18 := Aside0.mk A180
            clear A180
            by_cases c19 : 13 ≤ 15
            ·
             rw [if_pos c19] at H
             have c19b0 := eq_true c19
             have c19b1 : decide (13 ≤ 15) = true := decide_eq_true c19
             clear c19
             by_cases c20 : 15 ≤ (a0.size : Int)
             ·
              rw [if_pos c20] at H
              have c20b0 := eq_true c20
              have c20b1 : decide (15 ≤ (a0.size : Int)) = true := decide_eq_true c20
              clear c20
              replace H := Option.bind_eq_some_iff.mp H
              obtain ⟨t235, A210, H⟩ := H
              replace H : ((posthornref12_Print.f k (wrap64 ((wrap64 ((wrap64 ((wrap64 (86400 * t231)) + (wrap64 (3600 * t233)))) + (wrap64 (60 * t234)))) + t235))).bind fun bt236 => (if t232 = 0 then (if bt236.2 = 0 then (if bt236.1.toList = a0.toList then (some (wrap64 ((wrap64 ((wrap64 ((wrap64 (86400 * t231)) + (wrap64 (3600 * t233)))) + (wrap64 (60 * t234)))) + t235), t232)) else (some (0, 110))) else (some (0, 110))) else (some (0, 110)))) = some (r1, r2) := H
              have A21 := Aside0.mk A210
              clear A210
              replace H := Option.bind_eq_some_iff.mp H
              obtain ⟨⟨t236, t237⟩, A220, H⟩ := H
              replace H : (if t232 = 0 then (if t237 = 0 then (if t236.toList = a0.toList then (some (wrap64 ((wrap64 ((wrap64 ((wrap64 (86400 * t231)) + (wrap64 (3600 * t233)))) + (wrap64 (60 * t234)))) + t235), t232)) else (some (0, 110))) else (some (0, 110))) else (some (0, 110))) = some (r1, r2) := H
              have A22 := Aside0.mk A220
              clear A220
              by_cases c23 : t232 = 0
              ·
               rw [if_pos c23] at H
               have c23b0 : (t232 == 0) = true := beq_iff_eq.mpr c23
               have c23b1 : (t232 != 0) = false := bne_eq_false_iff_eq.mpr c23
               clear c23
               by_cases c24 : t237 = 0
               ·
                rw [if_pos c24] at H
                have c24b0 : (t237 == 0) = true := beq_iff_eq.mpr c24
                have c24b1 : (t237 != 0) = false := bne_eq_false_iff_eq.mpr c24
                clear c24
                by_cases c25 : t236.toList = a0.toList
                ·
                 rw [if_pos c25] at H
                 have c25b0 : (t236.toList == a0.toList) = true := beq_iff_eq.mpr c25
                 have c25b1 : (t236.toList != a0.toList) = false := bne_eq_false_iff_eq.mpr c25
                 clear c25
                 simp only [Option.some.injEq, Prod.mk.injEq] at H
                 obtain ⟨rfl, rfl⟩ := H
                 go_enter Tryd.func20, Tryd.ntmps20
                 go_wp2_with (first | (go_at_call 32; (with_reducible refine (posthornref12_Value.calls k (a0.extract 0 4) t228 _ A5.out).mono ?_); rintro e w' ⟨rfl, ⟨nd, rfl⟩⟩; (try first | exact ⟨rfl, _, World.drewN_drewN _ _ _⟩ | exact ⟨rfl, _, Eq.trans (World.drewN_drewN _ _ _) (congrArg (World.drewN _) (Nat.add_assoc _ _ _))⟩)) | (go_at_call 32; (with_reducible refine (posthornref12_Value.calls k (a0.extract 4 6) t229 _ A8.out).mono ?_); rintro e w' ⟨rfl, ⟨nd, rfl⟩⟩; (try first | exact ⟨rfl, _, World.drewN_drewN _ _ _⟩ | exact ⟨rfl, _, Eq.trans (World.drewN_drewN _ _ _) (congrArg (World.drewN _) (Nat.add_assoc _ _ _))⟩)) | (go_at_call 32; (with_reducible refine (posthornref12_Value.calls k (a0.extract 6 8) t230 _ A11.out).mono ?_); rintro e w' ⟨rfl, ⟨nd, rfl⟩⟩; (try first | exact ⟨rfl, _, World.drewN_drewN _ _ _⟩ | exact ⟨rfl, _, Eq.trans (World.drewN_drewN _ _ _) (congrArg (World.drewN _) (Nat.add_assoc _ _ _))⟩)) | (go_at_call 11; (with_reducible refine (posthornref12_Days.calls k t228 t229 t230 t231 t232 _ A12.out).mono ?_); rintro e w' ⟨rfl, ⟨nd, rfl⟩⟩; (try first | exact ⟨rfl, _, World.drewN_drewN _ _ _⟩ | exact ⟨rfl, _, Eq.trans (World.drewN_drewN _ _ _) (congrArg (World.drewN _) (Nat.add_assoc _ _ _))⟩)) | (go_at_call 32; (with_reducible refine (posthornref12_Value.calls k (a0.extract 9 11) t233 _ A15.out).mono ?_); rintro e w' ⟨rfl, ⟨nd, rfl⟩⟩; (try first | exact ⟨rfl, _, World.drewN_drewN _ _ _⟩ | exact ⟨rfl, _, Eq.trans (World.drewN_drewN _ _ _) (congrArg (World.drewN _) (Nat.add_assoc _ _ _))⟩)) | (go_at_call 32; (with_reducible refine (posthornref12_Value.calls k (a0.extract 11 13) t234 _ A18.out).mono ?_); rintro e w' ⟨rfl, ⟨nd, rfl⟩⟩; (try first | exact ⟨rfl, _, World.drewN_drewN _ _ _⟩ | exact ⟨rfl, _, Eq.trans (World.drewN_drewN _ _ _) (congrArg (World.drewN _) (Nat.add_assoc _ _ _))⟩)) | (go_at_call 32; (with_reducible refine (posthornref12_Value.calls k (a0.extract 13 15) t235 _ A21.out).mono ?_); rintro e w' ⟨rfl, ⟨nd, rfl⟩⟩; (try first | exact ⟨rfl, _, World.drewN_drewN _ _ _⟩ | exact ⟨rfl, _, Eq.trans (World.drewN_drewN _ _ _) (congrArg (World.drewN _) (Nat.add_assoc _ _ _))⟩)) | (go_at_call 18; (with_reducible refine (posthornref12_Print.calls k (wrap64 ((wrap64 ((wrap64 ((wrap64 (86400 * t231)) + (wrap64 (3600 * t233)))) + (wrap64 (60 * t234)))) + t235)) t236 t237 _ A22.out).mono ?_); rintro e w26 ⟨rfl, hb⟩; have n0_ := Aside0.mk (below_step (by repeat (first | (with_reducible first | exact HB.out | apply below_alloc | apply pw_below_drewN | apply below_drew1) | exact HB.out)) hb); clear HB; have HB := n0_; clear n0_; (try clear hb); (try clear hb2); (try clear hk); (try clear hi)))
                 repeat (go_quiet (first | (go_at_call 32; (with_reducible refine (posthornref12_Value.calls k (a0.extract 0 4) t228 _ A5.out).mono ?_); rintro e w' ⟨rfl, ⟨nd, rfl⟩⟩; (try first | exact ⟨rfl, _, World.drewN_drewN _ _ _⟩ | exact ⟨rfl, _, Eq.trans (World.drewN_drewN _ _ _) (congrArg (World.drewN _) (Nat.add_assoc _ _ _))⟩)) | (go_at_call 32; (with_reducible refine (posthornref12_Value.calls k (a0.extract 4 6) t229 _ A8.out).mono ?_); rintro e w' ⟨rfl, ⟨nd, rfl⟩⟩; (try first | exact ⟨rfl, _, World.drewN_drewN _ _ _⟩ | exact ⟨rfl, _, Eq.trans (World.drewN_drewN _ _ _) (congrArg (World.drewN _) (Nat.add_assoc _ _ _))⟩)) | (go_at_call 32; (with_reducible refine (posthornref12_Value.calls k (a0.extract 6 8) t230 _ A11.out).mono ?_); rintro e w' ⟨rfl, ⟨nd, rfl⟩⟩; (try first | exact ⟨rfl, _, World.drewN_drewN _ _ _⟩ | exact ⟨rfl, _, Eq.trans (World.drewN_drewN _ _ _) (congrArg (World.drewN _) (Nat.add_assoc _ _ _))⟩)) | (go_at_call 11; (with_reducible refine (posthornref12_Days.calls k t228 t229 t230 t231 t232 _ A12.out).mono ?_); rintro e w' ⟨rfl, ⟨nd, rfl⟩⟩; (try first | exact ⟨rfl, _, World.drewN_drewN _ _ _⟩ | exact ⟨rfl, _, Eq.trans (World.drewN_drewN _ _ _) (congrArg (World.drewN _) (Nat.add_assoc _ _ _))⟩)) | (go_at_call 32; (with_reducible refine (posthornref12_Value.calls k (a0.extract 9 11) t233 _ A15.out).mono ?_); rintro e w' ⟨rfl, ⟨nd, rfl⟩⟩; (try first | exact ⟨rfl, _, World.drewN_drewN _ _ _⟩ | exact ⟨rfl, _, Eq.trans (World.drewN_drewN _ _ _) (congrArg (World.drewN _) (Nat.add_assoc _ _ _))⟩)) | (go_at_call 32; (with_reducible refine (posthornref12_Value.calls k (a0.extract 11 13) t234 _ A18.out).mono ?_); rintro e w' ⟨rfl, ⟨nd, rfl⟩⟩; (try first | exact ⟨rfl, _, World.drewN_drewN _ _ _⟩ | exact ⟨rfl, _, Eq.trans (World.drewN_drewN _ _ _) (congrArg (World.drewN _) (Nat.add_assoc _ _ _))⟩)) | (go_at_call 32; (with_reducible refine (posthornref12_Value.calls k (a0.extract 13 15) t235 _ A21.out).mono ?_); rintro e w' ⟨rfl, ⟨nd, rfl⟩⟩; (try first | exact ⟨rfl, _, World.drewN_drewN _ _ _⟩ | exact ⟨rfl, _, Eq.trans (World.drewN_drewN _ _ _) (congrArg (World.drewN _) (Nat.add_assoc _ _ _))⟩)) | (go_at_call 18; (with_reducible refine (posthornref12_Print.calls k (wrap64 ((wrap64 ((wrap64 ((wrap64 (86400 * t231)) + (wrap64 (3600 * t233)))) + (wrap64 (60 * t234)))) + t235)) t236 t237 _ A22.out).mono ?_); rintro e w26 ⟨rfl, hb⟩; have n0_ := Aside0.mk (below_step (by repeat (first | (with_reducible first | exact HB.out | apply below_alloc | apply pw_below_drewN | apply below_drew1) | exact HB.out)) hb); clear HB; have HB := n0_; clear n0_; (try clear hb); (try clear hb2); (try clear hk); (try clear hi))); try go_wp2_with (first | (go_at_call 32; (with_reducible refine (posthornref12_Value.calls k (a0.extract 0 4) t228 _ A5.out).mono ?_); rintro e w' ⟨rfl, ⟨nd, rfl⟩⟩; (try first | exact ⟨rfl, _, World.drewN_drewN _ _ _⟩ | exact ⟨rfl, _, Eq.trans (World.drewN_drewN _ _ _) (congrArg (World.drewN _) (Nat.add_assoc _ _ _))⟩)) | (go_at_call 32; (with_reducible refine (posthornref12_Value.calls k (a0.extract 4 6) t229 _ A8.out).mono ?_); rintro e w' ⟨rfl, ⟨nd, rfl⟩⟩; (try first | exact ⟨rfl, _, World.drewN_drewN _ _ _⟩ | exact ⟨rfl, _, Eq.trans (World.drewN_drewN _ _ _) (congrArg (World.drewN _) (Nat.add_assoc _ _ _))⟩)) | (go_at_call 32; (with_reducible refine (posthornref12_Value.calls k (a0.extract 6 8) t230 _ A11.out).mono ?_); rintro e w' ⟨rfl, ⟨nd, rfl⟩⟩; (try first | exact ⟨rfl, _, World.drewN_drewN _ _ _⟩ | exact ⟨rfl, _, Eq.trans (World.drewN_drewN _ _ _) (congrArg (World.drewN _) (Nat.add_assoc _ _ _))⟩)) | (go_at_call 11; (with_reducible refine (posthornref12_Days.calls k t228 t229 t230 t231 t232 _ A12.out).mono ?_); rintro e w' ⟨rfl, ⟨nd, rfl⟩⟩; (try first | exact ⟨rfl, _, World.drewN_drewN _ _ _⟩ | exact ⟨rfl, _, Eq.trans (World.drewN_drewN _ _ _) (congrArg (World.drewN _) (Nat.add_assoc _ _ _))⟩)) | (go_at_call 32; (with_reducible refine (posthornref12_Value.calls k (a0.extract 9 11) t233 _ A15.out).mono ?_); rintro e w' ⟨rfl, ⟨nd, rfl⟩⟩; (try first | exact ⟨rfl, _, World.drewN_drewN _ _ _⟩ | exact ⟨rfl, _, Eq.trans (World.drewN_drewN _ _ _) (congrArg (World.drewN _) (Nat.add_assoc _ _ _))⟩)) | (go_at_call 32; (with_reducible refine (posthornref12_Value.calls k (a0.extract 11 13) t234 _ A18.out).mono ?_); rintro e w' ⟨rfl, ⟨nd, rfl⟩⟩; (try first | exact ⟨rfl, _, World.drewN_drewN _ _ _⟩ | exact ⟨rfl, _, Eq.trans (World.drewN_drewN _ _ _) (congrArg (World.drewN _) (Nat.add_assoc _ _ _))⟩)) | (go_at_call 32; (with_reducible refine (posthornref12_Value.calls k (a0.extract 13 15) t235 _ A21.out).mono ?_); rintro e w' ⟨rfl, ⟨nd, rfl⟩⟩; (try first | exact ⟨rfl, _, World.drewN_drewN _ _ _⟩ | exact ⟨rfl, _, Eq.trans (World.drewN_drewN _ _ _) (congrArg (World.drewN _) (Nat.add_assoc _ _ _))⟩)) | (go_at_call 18; (with_reducible refine (posthornref12_Print.calls k (wrap64 ((wrap64 ((wrap64 ((wrap64 (86400 * t231)) + (wrap64 (3600 * t233)))) + (wrap64 (60 * t234)))) + t235)) t236 t237 _ A22.out).mono ?_); rintro e w26 ⟨rfl, hb⟩; have n0_ := Aside0.mk (below_step (by repeat (first | (with_reducible first | exact HB.out | apply below_alloc | apply pw_below_drewN | apply below_drew1) | exact HB.out)) hb); clear HB; have HB := n0_; clear n0_; (try clear hb); (try clear hb2); (try clear hk); (try clear hi))))
                 go_ret2
                 exact ⟨by first | rfl | (simp [errW_none, errW_some] <;> rfl) | (simp [*, errW_none, errW_some] <;> rfl), by repeat (first | (with_reducible first | exact HB.out | apply below_alloc | apply pw_below_drewN | apply below_drew1) | exact HB.out)⟩
                ·
                 rw [if_neg c25] at H
                 have c25b0 : (t236.toList == a0.toList) = false := beq_eq_false_iff_ne.mpr c25
                 have c25b1 : (t236.toList != a0.toList) = true := bne_iff_ne.mpr c25
                 simp only [Option.some.injEq, Prod.mk.injEq] at H
                 obtain ⟨rfl, rfl⟩ := H
                 go_enter Tryd.func20, Tryd.ntmps20
                 go_wp2_with (first | (go_at_call 32; (with_reducible refine (posthornref12_Value.calls k (a0.extract 0 4) t228 _ A5.out).mono ?_); rintro e w' ⟨rfl, ⟨nd, rfl⟩⟩; (try first | exact ⟨rfl, _, World.drewN_drewN _ _ _⟩ | exact ⟨rfl, _, Eq.trans (World.drewN_drewN _ _ _) (congrArg (World.drewN _) (Nat.add_assoc _ _ _))⟩)) | (go_at_call 32; (with_reducible refine (posthornref12_Value.calls k (a0.extract 4 6) t229 _ A8.out).mono ?_); rintro e w' ⟨rfl, ⟨nd, rfl⟩⟩; (try first | exact ⟨rfl, _, World.drewN_drewN _ _ _⟩ | exact ⟨rfl, _, Eq.trans (World.drewN_drewN _ _ _) (congrArg (World.drewN _) (Nat.add_assoc _ _ _))⟩)) | (go_at_call 32; (with_reducible refine (posthornref12_Value.calls k (a0.extract 6 8) t230 _ A11.out).mono ?_); rintro e w' ⟨rfl, ⟨nd, rfl⟩⟩; (try first | exact ⟨rfl, _, World.drewN_drewN _ _ _⟩ | exact ⟨rfl, _, Eq.trans (World.drewN_drewN _ _ _) (congrArg (World.drewN _) (Nat.add_assoc _ _ _))⟩)) | (go_at_call 11; (with_reducible refine (posthornref12_Days.calls k t228 t229 t230 t231 t232 _ A12.out).mono ?_); rintro e w' ⟨rfl, ⟨nd, rfl⟩⟩; (try first | exact ⟨rfl, _, World.drewN_drewN _ _ _⟩ | exact ⟨rfl, _, Eq.trans (World.drewN_drewN _ _ _) (congrArg (World.drewN _) (Nat.add_assoc _ _ _))⟩)) | (go_at_call 32; (with_reducible refine (posthornref12_Value.calls k (a0.extract 9 11) t233 _ A15.out).mono ?_); rintro e w' ⟨rfl, ⟨nd, rfl⟩⟩; (try first | exact ⟨rfl, _, World.drewN_drewN _ _ _⟩ | exact ⟨rfl, _, Eq.trans (World.drewN_drewN _ _ _) (congrArg (World.drewN _) (Nat.add_assoc _ _ _))⟩)) | (go_at_call 32; (with_reducible refine (posthornref12_Value.calls k (a0.extract 11 13) t234 _ A18.out).mono ?_); rintro e w' ⟨rfl, ⟨nd, rfl⟩⟩; (try first | exact ⟨rfl, _, World.drewN_drewN _ _ _⟩ | exact ⟨rfl, _, Eq.trans (World.drewN_drewN _ _ _) (congrArg (World.drewN _) (Nat.add_assoc _ _ _))⟩)) | (go_at_call 32; (with_reducible refine (posthornref12_Value.calls k (a0.extract 13 15) t235 _ A21.out).mono ?_); rintro e w' ⟨rfl, ⟨nd, rfl⟩⟩; (try first | exact ⟨rfl, _, World.drewN_drewN _ _ _⟩ | exact ⟨rfl, _, Eq.trans (World.drewN_drewN _ _ _) (congrArg (World.drewN _) (Nat.add_assoc _ _ _))⟩)) | (go_at_call 18; (with_reducible refine (posthornref12_Print.calls k (wrap64 ((wrap64 ((wrap64 ((wrap64 (86400 * t231)) + (wrap64 (3600 * t233)))) + (wrap64 (60 * t234)))) + t235)) t236 t237 _ A22.out).mono ?_); rintro e w27 ⟨rfl, hb⟩; have n0_ := Aside0.mk (below_step (by repeat (first | (with_reducible first | exact HB.out | apply below_alloc | apply pw_below_drewN | apply below_drew1) | exact HB.out)) hb); clear HB; have HB := n0_; clear n0_; (try clear hb); (try clear hb2); (try clear hk); (try clear hi)))
                 repeat (go_quiet (first | (go_at_call 32; (with_reducible refine (posthornref12_Value.calls k (a0.extract 0 4) t228 _ A5.out).mono ?_); rintro e w' ⟨rfl, ⟨nd, rfl⟩⟩; (try first | exact ⟨rfl, _, World.drewN_drewN _ _ _⟩ | exact ⟨rfl, _, Eq.trans (World.drewN_drewN _ _ _) (congrArg (World.drewN _) (Nat.add_assoc _ _ _))⟩)) | (go_at_call 32; (with_reducible refine (posthornref12_Value.calls k (a0.extract 4 6) t229 _ A8.out).mono ?_); rintro e w' ⟨rfl, ⟨nd, rfl⟩⟩; (try first | exact ⟨rfl, _, World.drewN_drewN _ _ _⟩ | exact ⟨rfl, _, Eq.trans (World.drewN_drewN _ _ _) (congrArg (World.drewN _) (Nat.add_assoc _ _ _))⟩)) | (go_at_call 32; (with_reducible refine (posthornref12_Value.calls k (a0.extract 6 8) t230 _ A11.out).mono ?_); rintro e w' ⟨rfl, ⟨nd, rfl⟩⟩; (try first | exact ⟨rfl, _, World.drewN_drewN _ _ _⟩ | exact ⟨rfl, _, Eq.trans (World.drewN_drewN _ _ _) (congrArg (World.drewN _) (Nat.add_assoc _ _ _))⟩)) | (go_at_call 11; (with_reducible refine (posthornref12_Days.calls k t228 t229 t230 t231 t232 _ A12.out).mono ?_); rintro e w' ⟨rfl, ⟨nd, rfl⟩⟩; (try first | exact ⟨rfl, _, World.drewN_drewN _ _ _⟩ | exact ⟨rfl, _, Eq.trans (World.drewN_drewN _ _ _) (congrArg (World.drewN _) (Nat.add_assoc _ _ _))⟩)) | (go_at_call 32; (with_reducible refine (posthornref12_Value.calls k (a0.extract 9 11) t233 _ A15.out).mono ?_); rintro e w' ⟨rfl, ⟨nd, rfl⟩⟩; (try first | exact ⟨rfl, _, World.drewN_drewN _ _ _⟩ | exact ⟨rfl, _, Eq.trans (World.drewN_drewN _ _ _) (congrArg (World.drewN _) (Nat.add_assoc _ _ _))⟩)) | (go_at_call 32; (with_reducible refine (posthornref12_Value.calls k (a0.extract 11 13) t234 _ A18.out).mono ?_); rintro e w' ⟨rfl, ⟨nd, rfl⟩⟩; (try first | exact ⟨rfl, _, World.drewN_drewN _ _ _⟩ | exact ⟨rfl, _, Eq.trans (World.drewN_drewN _ _ _) (congrArg (World.drewN _) (Nat.add_assoc _ _ _))⟩)) | (go_at_call 32; (with_reducible refine (posthornref12_Value.calls k (a0.extract 13 15) t235 _ A21.out).mono ?_); rintro e w' ⟨rfl, ⟨nd, rfl⟩⟩; (try first | exact ⟨rfl, _, World.drewN_drewN _ _ _⟩ | exact ⟨rfl, _, Eq.trans (World.drewN_drewN _ _ _) (congrArg (World.drewN _) (Nat.add_assoc _ _ _))⟩)) | (go_at_call 18; (with_reducible refine (posthornref12_Print.calls k (wrap64 ((wrap64 ((wrap64 ((wrap64 (86400 * t231)) + (wrap64 (3600 * t233)))) + (wrap64 (60 * t234)))) + t235)) t236 t237 _ A22.out).mono ?_); rintro e w27 ⟨rfl, hb⟩; have n0_ := Aside0.mk (below_step (by repeat (first | (with_reducible first | exact HB.out | apply below_alloc | apply pw_below_drewN | apply below_drew1) | exact HB.out)) hb); clear HB; have HB := n0_; clear n0_; (try clear hb); (try clear hb2); (try clear hk); (try clear hi))); try go_wp2_with (first | (go_at_call 32; (with_reducible refine (posthornref12_Value.calls k (a0.extract 0 4) t228 _ A5.out).mono ?_); rintro e w' ⟨rfl, ⟨nd, rfl⟩⟩; (try first | exact ⟨rfl, _, World.drewN_drewN _ _ _⟩ | exact ⟨rfl, _, Eq.trans (World.drewN_drewN _ _ _) (congrArg (World.drewN _) (Nat.add_assoc _ _ _))⟩)) | (go_at_call 32; (with_reducible refine (posthornref12_Value.calls k (a0.extract 4 6) t229 _ A8.out).mono ?_); rintro e w' ⟨rfl, ⟨nd, rfl⟩⟩; (try first | exact ⟨rfl, _, World.drewN_drewN _ _ _⟩ | exact ⟨rfl, _, Eq.trans (World.drewN_drewN _ _ _) (congrArg (World.drewN _) (Nat.add_assoc _ _ _))⟩)) | (go_at_call 32; (with_reducible refine (posthornref12_Value.calls k (a0.extract 6 8) t230 _ A11.out).mono ?_); rintro e w' ⟨rfl, ⟨nd, rfl⟩⟩; (try first | exact ⟨rfl, _, World.drewN_drewN _ _ _⟩ | exact ⟨rfl, _, Eq.trans (World.drewN_drewN _ _ _) (congrArg (World.drewN _) (Nat.add_assoc _ _ _))⟩)) | (go_at_call 11; (with_reducible refine (posthornref12_Days.calls k t228 t229 t230 t231 t232 _ A12.out).mono ?_); rintro e w' ⟨rfl, ⟨nd, rfl⟩⟩; (try first | exact ⟨rfl, _, World.drewN_drewN _ _ _⟩ | exact ⟨rfl, _, Eq.trans (World.drewN_drewN _ _ _) (congrArg (World.drewN _) (Nat.add_assoc _ _ _))⟩)) | (go_at_call 32; (with_reducible refine (posthornref12_Value.calls k (a0.extract 9 11) t233 _ A15.out).mono ?_); rintro e w' ⟨rfl, ⟨nd, rfl⟩⟩; (try first | exact ⟨rfl, _, World.drewN_drewN _ _ _⟩ | exact ⟨rfl, _, Eq.trans (World.drewN_drewN _ _ _) (congrArg (World.drewN _) (Nat.add_assoc _ _ _))⟩)) | (go_at_call 32; (with_reducible refine (posthornref12_Value.calls k (a0.extract 11 13) t234 _ A18.out).mono ?_); rintro e w' ⟨rfl, ⟨nd, rfl⟩⟩; (try first | exact ⟨rfl, _, World.drewN_drewN _ _ _⟩ | exact ⟨rfl, _, Eq.trans (World.drewN_drewN _ _ _) (congrArg (World.drewN _) (Nat.add_assoc _ _ _))⟩)) | (go_at_call 32; (with_reducible refine (posthornref12_Value.calls k (a0.extract 13 15) t235 _ A21.out).mono ?_); rintro e w' ⟨rfl, ⟨nd, rfl⟩⟩; (try first | exact ⟨rfl, _, World.drewN_drewN _ _ _⟩ | exact ⟨rfl, _, Eq.trans (World.drewN_drewN _ _ _) (congrArg (World.drewN _) (Nat.add_assoc _ _ _))⟩)) | (go_at_call 18; (with_reducible refine (posthornref12_Print.calls k (wrap64 ((wrap64 ((wrap64 ((wrap64 (86400 * t231)) + (wrap64 (3600 * t233)))) + (wrap64 (60 * t234)))) + t235)) t236 t237 _ A22.out).mono ?_); rintro e w27 ⟨rfl, hb⟩; have n0_ := Aside0.mk (below_step (by repeat (first | (with_reducible first | exact HB.out | apply below_alloc | apply pw_below_drewN | apply below_drew1) | exact HB.out)) hb); clear HB; have HB := n0_; clear n0_; (try clear hb); (try clear hb2); (try clear hk); (try clear hi))))
                 go_ret2
                 exact ⟨by first | rfl | (simp [errW_none, errW_some] <;> rfl) | (simp [*, errW_none, errW_some] <;> rfl), by repeat (first | (with_reducible first | exact HB.out | apply below_alloc | apply pw_below_drewN | apply below_drew1) | exact HB.out)⟩
               ·
                rw [if_neg c24] at H
                have c24b0 : (t237 == 0) = false := beq_eq_false_iff_ne.mpr c24
                have c24b1 : (t237 != 0) = true := bne_iff_ne.mpr c24
                simp only [Option.some.injEq, Prod.mk.injEq] at H
                obtain ⟨rfl, rfl⟩ := H
                go_enter Tryd.func20, Tryd.ntmps20
                go_wp2_with (first | (go_at_call 32; (with_reducible refine (posthornref12_Value.calls k (a0.extract 0 4) t228 _ A5.out).mono ?_); rintro e w' ⟨rfl, ⟨nd, rfl⟩⟩; (try first | exact ⟨rfl, _, World.drewN_drewN _ _ _⟩ | exact ⟨rfl, _, Eq.trans (World.drewN_drewN _ _ _) (congrArg (World.drewN _) (Nat.add_assoc _ _ _))⟩)) | (go_at_call 32; (with_reducible refine (posthornref12_Value.calls k (a0.extract 4 6) t229 _ A8.out).mono ?_); rintro e w' ⟨rfl, ⟨nd, rfl⟩⟩; (try first | exact ⟨rfl, _, World.drewN_drewN _ _ _⟩ | exact ⟨rfl, _, Eq.trans (World.drewN_drewN _ _ _) (congrArg (World.drewN _) (Nat.add_assoc _ _ _))⟩)) | (go_at_call 32; (with_reducible refine (posthornref12_Value.calls k (a0.extract 6 8) t230 _ A11.out).mono ?_); rintro e w' ⟨rfl, ⟨nd, rfl⟩⟩; (try first | exact ⟨rfl, _, World.drewN_drewN _ _ _⟩ | exact ⟨rfl, _, Eq.trans (World.drewN_drewN _ _ _) (congrArg (World.drewN _) (Nat.add_assoc _ _ _))⟩)) | (go_at_call 11; (with_reducible refine (posthornref12_Days.calls k t228 t229 t230 t231 t232 _ A12.out).mono ?_); rintro e w' ⟨rfl, ⟨nd, rfl⟩⟩; (try first | exact ⟨rfl, _, World.drewN_drewN _ _ _⟩ | exact ⟨rfl, _, Eq.trans (World.drewN_drewN _ _ _) (congrArg (World.drewN _) (Nat.add_assoc _ _ _))⟩)) | (go_at_call 32; (with_reducible refine (posthornref12_Value.calls k (a0.extract 9 11) t233 _ A15.out).mono ?_); rintro e w' ⟨rfl, ⟨nd, rfl⟩⟩; (try first | exact ⟨rfl, _, World.drewN_drewN _ _ _⟩ | exact ⟨rfl, _, Eq.trans (World.drewN_drewN _ _ _) (congrArg (World.drewN _) (Nat.add_assoc _ _ _))⟩)) | (go_at_call 32; (with_reducible refine (posthornref12_Value.calls k (a0.extract 11 13) t234 _ A18.out).mono ?_); rintro e w' ⟨rfl, ⟨nd, rfl⟩⟩; (try first | exact ⟨rfl, _, World.drewN_drewN _ _ _⟩ | exact ⟨rfl, _, Eq.trans (World.drewN_drewN _ _ _) (congrArg (World.drewN _) (Nat.add_assoc _ _ _))⟩)) | (go_at_call 32; (with_reducible refine (posthornref12_Value.calls k (a0.extract 13 15) t235 _ A21.out).mono ?_); rintro e w' ⟨rfl, ⟨nd, rfl⟩⟩; (try first | exact ⟨rfl, _, World.drewN_drewN _ _ _⟩ | exact ⟨rfl, _, Eq.trans (World.drewN_drewN _ _ _) (congrArg (World.drewN _) (Nat.add_assoc _ _ _))⟩)) | (go_at_call 18; (with_reducible refine (posthornref12_Print.calls k (wrap64 ((wrap64 ((wrap64 ((wrap64 (86400 * t231)) + (wrap64 (3600 * t233)))) + (wrap64 (60 * t234)))) + t235)) t236 t237 _ A22.out).mono ?_); rintro e w28 ⟨rfl, hb⟩; have n0_ := Aside0.mk (below_step (by repeat (first | (with_reducible first | exact HB.out | apply below_alloc | apply pw_below_drewN | apply below_drew1) | exact HB.out)) hb); clear HB; have HB := n0_; clear n0_; (try clear hb); (try clear hb2); (try clear hk); (try clear hi)))
                repeat (go_quiet (first | (go_at_call 32; (with_reducible refine (posthornref12_Value.calls k (a0.extract 0 4) t228 _ A5.out).mono ?_); rintro e w' ⟨rfl, ⟨nd, rfl⟩⟩; (try first | exact ⟨rfl, _, World.drewN_drewN _ _ _⟩ | exact ⟨rfl, _, Eq.trans (World.drewN_drewN _ _ _) (congrArg (World.drewN _) (Nat.add_assoc _ _ _))⟩)) | (go_at_call 32; (with_reducible refine (posthornref12_Value.calls k (a0.extract 4 6) t229 _ A8.out).mono ?_); rintro e w' ⟨rfl, ⟨nd, rfl⟩⟩; (try first | exact ⟨rfl, _, World.drewN_drewN _ _ _⟩ | exact ⟨rfl, _, Eq.trans (World.drewN_drewN _ _ _) (congrArg (World.drewN _) (Nat.add_assoc _ _ _))⟩)) | (go_at_call 32; (with_reducible refine (posthornref12_Value.calls k (a0.extract 6 8) t230 _ A11.out).mono ?_); rintro e w' ⟨rfl, ⟨nd, rfl⟩⟩; (try first | exact ⟨rfl, _, World.drewN_drewN _ _ _⟩ | exact ⟨rfl, _, Eq.trans (World.drewN_drewN _ _ _) (congrArg (World.drewN _) (Nat.add_assoc _ _ _))⟩)) | (go_at_call 11; (with_reducible refine (posthornref12_Days.calls k t228 t229 t230 t231 t232 _ A12.out).mono ?_); rintro e w' ⟨rfl, ⟨nd, rfl⟩⟩; (try first | exact ⟨rfl, _, World.drewN_drewN _ _ _⟩ | exact ⟨rfl, _, Eq.trans (World.drewN_drewN _ _ _) (congrArg (World.drewN _) (Nat.add_assoc _ _ _))⟩)) | (go_at_call 32; (with_reducible refine (posthornref12_Value.calls k (a0.extract 9 11) t233 _ A15.out).mono ?_); rintro e w' ⟨rfl, ⟨nd, rfl⟩⟩; (try first | exact ⟨rfl, _, World.drewN_drewN _ _ _⟩ | exact ⟨rfl, _, Eq.trans (World.drewN_drewN _ _ _) (congrArg (World.drewN _) (Nat.add_assoc _ _ _))⟩)) | (go_at_call 32; (with_reducible refine (posthornref12_Value.calls k (a0.extract 11 13) t234 _ A18.out).mono ?_); rintro e w' ⟨rfl, ⟨nd, rfl⟩⟩; (try first | exact ⟨rfl, _, World.drewN_drewN _ _ _⟩ | exact ⟨rfl, _, Eq.trans (World.drewN_drewN _ _ _) (congrArg (World.drewN _) (Nat.add_assoc _ _ _))⟩)) | (go_at_call 32; (with_reducible refine (posthornref12_Value.calls k (a0.extract 13 15) t235 _ A21.out).mono ?_); rintro e w' ⟨rfl, ⟨nd, rfl⟩⟩; (try first | exact ⟨rfl, _, World.drewN_drewN _ _ _⟩ | exact ⟨rfl, _, Eq.trans (World.drewN_drewN _ _ _) (congrArg (World.drewN _) (Nat.add_assoc _ _ _))⟩)) | (go_at_call 18; (with_reducible refine (posthornref12_Print.calls k (wrap64 ((wrap64 ((wrap64 ((wrap64 (86400 * t231)) + (wrap64 (3600 * t233)))) + (wrap64 (60 * t234)))) + t235)) t236 t237 _ A22.out).mono ?_); rintro e w28 ⟨rfl, hb⟩; have n0_ := Aside0.mk (below_step (by repeat (first | (with_reducible first | exact HB.out | apply below_alloc | apply pw_below_drewN | apply below_drew1) | exact HB.out)) hb); clear HB; have HB := n0_; clear n0_; (try clear hb); (try clear hb2); (try clear hk); (try clear hi))); try go_wp2_with (first | (go_at_call 32; (with_reducible refine (posthornref12_Value.calls k (a0.extract 0 4) t228 _ A5.out).mono ?_); rintro e w' ⟨rfl, ⟨nd, rfl⟩⟩; (try first | exact ⟨rfl, _, World.drewN_drewN _ _ _⟩ | exact ⟨rfl, _, Eq.trans (World.drewN_drewN _ _ _) (congrArg (World.drewN _) (Nat.add_assoc _ _ _))⟩)) | (go_at_call 32; (with_reducible refine (posthornref12_Value.calls k (a0.extract 4 6) t229 _ A8.out).mono ?_); rintro e w' ⟨rfl, ⟨nd, rfl⟩⟩; (try first | exact ⟨rfl, _, World.drewN_drewN _ _ _⟩ | exact ⟨rfl, _, Eq.trans (World.drewN_drewN _ _ _) (congrArg (World.drewN _) (Nat.add_assoc _ _ _))⟩)) | (go_at_call 32; (with_reducible refine (posthornref12_Value.calls k (a0.extract 6 8) t230 _ A11.out).mono ?_); rintro e w' ⟨rfl, ⟨nd, rfl⟩⟩; (try first | exact ⟨rfl, _, World.drewN_drewN _ _ _⟩ | exact ⟨rfl, _, Eq.trans (World.drewN_drewN _ _ _) (congrArg (World.drewN _) (Nat.add_assoc _ _ _))⟩)) | (go_at_call 11; (with_reducible refine (posthornref12_Days.calls k t228 t229 t230 t231 t232 _ A12.out).mono ?_); rintro e w' ⟨rfl, ⟨nd, rfl⟩⟩; (try first | exact ⟨rfl, _, World.drewN_drewN _ _ _⟩ | exact ⟨rfl, _, Eq.trans (World.drewN_drewN _ _ _) (congrArg (World.drewN _) (Nat.add_assoc _ _ _))⟩)) | (go_at_call 32; (with_reducible refine (posthornref12_Value.calls k (a0.extract 9 11) t233 _ A15.out).mono ?_); rintro e w' ⟨rfl, ⟨nd, rfl⟩⟩; (try first | exact ⟨rfl, _, World.drewN_drewN _ _ _⟩ | exact ⟨rfl, _, Eq.trans (World.drewN_drewN _ _ _) (congrArg (World.drewN _) (Nat.add_assoc _ _ _))⟩)) | (go_at_call 32; (with_reducible refine (posthornref12_Value.calls k (a0.extract 11 13) t234 _ A18.out).mono ?_); rintro e w' ⟨rfl, ⟨nd, rfl⟩⟩; (try first | exact ⟨rfl, _, World.drewN_drewN _ _ _⟩ | exact ⟨rfl, _, Eq.trans (World.drewN_drewN _ _ _) (congrArg (World.drewN _) (Nat.add_assoc _ _ _))⟩)) | (go_at_call 32; (with_reducible refine (posthornref12_Value.calls k (a0.extract 13 15) t235 _ A21.out).mono ?_); rintro e w' ⟨rfl, ⟨nd, rfl⟩⟩; (try first | exact ⟨rfl, _, World.drewN_drewN _ _ _⟩ | exact ⟨rfl, _, Eq.trans (World.drewN_drewN _ _ _) (congrArg (World.drewN _) (Nat.add_assoc _ _ _))⟩)) | (go_at_call 18; (with_reducible refine (posthornref12_Print.calls k (wrap64 ((wrap64 ((wrap64 ((wrap64 (86400 * t231)) + (wrap64 (3600 * t233)))) + (wrap64 (60 * t234)))) + t235)) t236 t237 _ A22.out).mono ?_); rintro e w28 ⟨rfl, hb⟩; have n0_ := Aside0.mk (below_step (by repeat (first | (with_reducible first | exact HB.out | apply below_alloc | apply pw_below_drewN | apply below_drew1) | exact HB.out)) hb); clear HB; have HB := n0_; clear n0_; (try clear hb); (try clear hb2); (try clear hk); (try clear hi))))
                go_ret2
                exact ⟨by first | rfl | (simp [errW_none, errW_some] <;> rfl) | (simp [*, errW_none, errW_some] <;> rfl), by repeat (first | (with_reducible first | exact HB.out | apply below_alloc | apply pw_below_drewN | apply below_drew1) | exact HB.out)⟩
              ·
               rw [if_neg c23] at H
               have c23b0 : (t232 == 0) = false := beq_eq_false_iff_ne.mpr c23
               have c23b1 : (t232 != 0) = true := bne_iff_ne.mpr c23
               simp only [Option.some.injEq, Prod.mk.injEq] at H
               obtain ⟨rfl, rfl⟩ := H
               go_enter Tryd.func20, Tryd.ntmps20
               go_wp2_with (first | (go_at_call 32; (with_reducible refine (posthornref12_Value.calls k (a0.extract 0 4) t228 _ A5.out).mono ?_); rintro e w' ⟨rfl, ⟨nd, rfl⟩⟩; (try first | exact ⟨rfl, _, World.drewN_drewN _ _ _⟩ | exact ⟨rfl, _, Eq.trans (World.drewN_drewN _ _ _) (congrArg (World.drewN _) (Nat.add_assoc _ _ _))⟩)) | (go_at_call 32; (with_reducible refine (posthornref12_Value.calls k (a0.extract 4 6) t229 _ A8.out).mono ?_); rintro e w' ⟨rfl, ⟨nd, rfl⟩⟩; (try first | exact ⟨rfl, _, World.drewN_drewN _ _ _⟩ | exact ⟨rfl, _, Eq.trans (World.drewN_drewN _ _ _) (congrArg (World.drewN _) (Nat.add_assoc _ _ _))⟩)) | (go_at_call 32; (with_reducible refine (posthornref12_Value.calls k (a0.extract 6 8) t230 _ A11.out).mono ?_); rintro e w' ⟨rfl, ⟨nd, rfl⟩⟩; (try first | exact ⟨rfl, _, World.drewN_drewN _ _ _⟩ | exact ⟨rfl, _, Eq.trans (World.drewN_drewN _ _ _) (congrArg (World.drewN _) (Nat.add_assoc _ _ _))⟩)) | (go_at_call 11; (with_reducible refine (posthornref12_Days.calls k t228 t229 t230 t231 t232 _ A12.out).mono ?_); rintro e w' ⟨rfl, ⟨nd, rfl⟩⟩; (try first | exact ⟨rfl, _, World.drewN_drewN _ _ _⟩ | exact ⟨rfl, _, Eq.trans (World.drewN_drewN _ _ _) (congrArg (World.drewN _) (Nat.add_assoc _ _ _))⟩)) | (go_at_call 32; (with_reducible refine (posthornref12_Value.calls k (a0.extract 9 11) t233 _ A15.out).mono ?_); rintro e w' ⟨rfl, ⟨nd, rfl⟩⟩; (try first | exact ⟨rfl, _, World.drewN_drewN _ _ _⟩ | exact ⟨rfl, _, Eq.trans (World.drewN_drewN _ _ _) (congrArg (World.drewN _) (Nat.add_assoc _ _ _))⟩)) | (go_at_call 32; (with_reducible refine (posthornref12_Value.calls k (a0.extract 11 13) t234 _ A18.out).mono ?_); rintro e w' ⟨rfl, ⟨nd, rfl⟩⟩; (try first | exact ⟨rfl, _, World.drewN_drewN _ _ _⟩ | exact ⟨rfl, _, Eq.trans (World.drewN_drewN _ _ _) (congrArg (World.drewN _) (Nat.add_assoc _ _ _))⟩)) | (go_at_call 32; (with_reducible refine (posthornref12_Value.calls k (a0.extract 13 15) t235 _ A21.out).mono ?_); rintro e w' ⟨rfl, ⟨nd, rfl⟩⟩; (try first | exact ⟨rfl, _, World.drewN_drewN _ _ _⟩ | exact ⟨rfl, _, Eq.trans (World.drewN_drewN _ _ _) (congrArg (World.drewN _) (Nat.add_assoc _ _ _))⟩)) | (go_at_call 18; (with_reducible refine (posthornref12_Print.calls k (wrap64 ((wrap64 ((wrap64 ((wrap64 (86400 * t231)) + (wrap64 (3600 * t233)))) + (wrap64 (60 * t234)))) + t235)) t236 t237 _ A22.out).mono ?_); rintro e w29 ⟨rfl, hb⟩; have n0_ := Aside0.mk (below_step (by repeat (first | (with_reducible first | exact HB.out | apply below_alloc | apply pw_below_drewN | apply below_drew1) | exact HB.out)) hb); clear HB; have HB := n0_; clear n0_; (try clear hb); (try clear hb2); (try clear hk); (try clear hi)))
               repeat (go_quiet (first | (go_at_call 32; (with_reducible refine (posthornref12_Value.calls k (a0.extract 0 4) t228 _ A5.out).mono ?_); rintro e w' ⟨rfl, ⟨nd, rfl⟩⟩; (try first | exact ⟨rfl, _, World.drewN_drewN _ _ _⟩ | exact ⟨rfl, _, Eq.trans (World.drewN_drewN _ _ _) (congrArg (World.drewN _) (Nat.add_assoc _ _ _))⟩)) | (go_at_call 32; (with_reducible refine (posthornref12_Value.calls k (a0.extract 4 6) t229 _ A8.out).mono ?_); rintro e w' ⟨rfl, ⟨nd, rfl⟩⟩; (try first | exact ⟨rfl, _, World.drewN_drewN _ _ _⟩ | exact ⟨rfl, _, Eq.trans (World.drewN_drewN _ _ _) (congrArg (World.drewN _) (Nat.add_assoc _ _ _))⟩)) | (go_at_call 32; (with_reducible refine (posthornref12_Value.calls k (a0.extract 6 8) t230 _ A11.out).mono ?_); rintro e w' ⟨rfl, ⟨nd, rfl⟩⟩; (try first | exact ⟨rfl, _, World.drewN_drewN _ _ _⟩ | exact ⟨rfl, _, Eq.trans (World.drewN_drewN _ _ _) (congrArg (World.drewN _) (Nat.add_assoc _ _ _))⟩)) | (go_at_call 11; (with_reducible refine (posthornref12_Days.calls k t228 t229 t230 t231 t232 _ A12.out).mono ?_); rintro e w' ⟨rfl, ⟨nd, rfl⟩⟩; (try first | exact ⟨rfl, _, World.drewN_drewN _ _ _⟩ | exact ⟨rfl, _, Eq.trans (World.drewN_drewN _ _ _) (congrArg (World.drewN _) (Nat.add_assoc _ _ _))⟩)) | (go_at_call 32; (with_reducible refine (posthornref12_Value.calls k (a0.extract 9 11) t233 _ A15.out).mono ?_); rintro e w' ⟨rfl, ⟨nd, rfl⟩⟩; (try first | exact ⟨rfl, _, World.drewN_drewN _ _ _⟩ | exact ⟨rfl, _, Eq.trans (World.drewN_drewN _ _ _) (congrArg (World.drewN _) (Nat.add_assoc _ _ _))⟩)) | (go_at_call 32; (with_reducible refine (posthornref12_Value.calls k (a0.extract 11 13) t234 _ A18.out).mono ?_); rintro e w' ⟨rfl, ⟨nd, rfl⟩⟩; (try first | exact ⟨rfl, _, World.drewN_drewN _ _ _⟩ | exact ⟨rfl, _, Eq.trans (World.drewN_drewN _ _ _) (congrArg (World.drewN _) (Nat.add_assoc _ _ _))⟩)) | (go_at_call 32; (with_reducible refine (posthornref12_Value.calls k (a0.extract 13 15) t235 _ A21.out).mono ?_); rintro e w' ⟨rfl, ⟨nd, rfl⟩⟩; (try first | exact ⟨rfl, _, World.drewN_drewN _ _ _⟩ | exact ⟨rfl, _, Eq.trans (World.drewN_drewN _ _ _) (congrArg (World.drewN _) (Nat.add_assoc _ _ _))⟩)) | (go_at_call 18; (with_reducible refine (posthornref12_Print.calls k (wrap64 ((wrap64 ((wrap64 ((wrap64 (86400 * t231)) + (wrap64 (3600 * t233)))) + (wrap64 (60 * t234)))) + t235)) t236 t237 _ A22.out).mono ?_); rintro e w29 ⟨rfl, hb⟩; have n0_ := Aside0.mk (below_step (by repeat (first | (with_reducible first | exact HB.out | apply below_alloc | apply pw_below_drewN | apply below_drew1) | exact HB.out)) hb); clear HB; have HB := n0_; clear n0_; (try clear hb); (try clear hb2); (try clear hk); (try clear hi))); try go_wp2_with (first | (go_at_call 32; (with_reducible refine (posthornref12_Value.calls k (a0.extract 0 4) t228 _ A5.out).mono ?_); rintro e w' ⟨rfl, ⟨nd, rfl⟩⟩; (try first | exact ⟨rfl, _, World.drewN_drewN _ _ _⟩ | exact ⟨rfl, _, Eq.trans (World.drewN_drewN _ _ _) (congrArg (World.drewN _) (Nat.add_assoc _ _ _))⟩)) | (go_at_call 32; (with_reducible refine (posthornref12_Value.calls k (a0.extract 4 6) t229 _ A8.out).mono ?_); rintro e w' ⟨rfl, ⟨nd, rfl⟩⟩; (try first | exact ⟨rfl, _, World.drewN_drewN _ _ _⟩ | exact ⟨rfl, _, Eq.trans (World.drewN_drewN _ _ _) (congrArg (World.drewN _) (Nat.add_assoc _ _ _))⟩)) | (go_at_call 32; (with_reducible refine (posthornref12_Value.calls k (a0.extract 6 8) t230 _ A11.out).mono ?_); rintro e w' ⟨rfl, ⟨nd, rfl⟩⟩; (try first | exact ⟨rfl, _, World.drewN_drewN _ _ _⟩ | exact ⟨rfl, _, Eq.trans (World.drewN_drewN _ _ _) (congrArg (World.drewN _) (Nat.add_assoc _ _ _))⟩)) | (go_at_call 11; (with_reducible refine (posthornref12_Days.calls k t228 t229 t230 t231 t232 _ A12.out).mono ?_); rintro e w' ⟨rfl, ⟨nd, rfl⟩⟩; (try first | exact ⟨rfl, _, World.drewN_drewN _ _ _⟩ | exact ⟨rfl, _, Eq.trans (World.drewN_drewN _ _ _) (congrArg (World.drewN _) (Nat.add_assoc _ _ _))⟩)) | (go_at_call 32; (with_reducible refine (posthornref12_Value.calls k (a0.extract 9 11) t233 _ A15.out).mono ?_); rintro e w' ⟨rfl, ⟨nd, rfl⟩⟩; (try first | exact ⟨rfl, _, World.drewN_drewN _ _ _⟩ | exact ⟨rfl, _, Eq.trans (World.drewN_drewN _ _ _) (congrArg (World.drewN _) (Nat.add_assoc _ _ _))⟩)) | (go_at_call 32; (with_reducible refine (posthornref12_Value.calls k (a0.extract 11 13) t234 _ A18.out).mono ?_); rintro e w' ⟨rfl, ⟨nd, rfl⟩⟩; (try first | exact ⟨rfl, _, World.drewN_drewN _ _ _⟩ | exact ⟨rfl, _, Eq.trans (World.drewN_drewN _ _ _) (congrArg (World.drewN _) (Nat.add_assoc _ _ _))⟩)) | (go_at_call 32; (with_reducible refine (posthornref12_Value.calls k (a0.extract 13 15) t235 _ A21.out).mono ?_); rintro e w' ⟨rfl, ⟨nd, rfl⟩⟩; (try first | exact ⟨rfl, _, World.drewN_drewN _ _ _⟩ | exact ⟨rfl, _, Eq.trans (World.drewN_drewN _ _ _) (congrArg (World.drewN _) (Nat.add_assoc _ _ _))⟩)) | (go_at_call 18; (with_reducible refine (posthornref12_Print.calls k (wrap64 ((wrap64 ((wrap64 ((wrap64 (86400 * t231)) + (wrap64 (3600 * t233)))) + (wrap64 (60 * t234)))) + t235)) t236 t237 _ A22.out).mono ?_); rintro e w29 ⟨rfl, hb⟩; have n0_ := Aside0.mk (below_step (by repeat (first | (with_reducible first | exact HB.out | apply below_alloc | apply pw_below_drewN | apply below_drew1) | exact HB.out)) hb); clear HB; have HB := n0_; clear n0_; (try clear hb); (try clear hb2); (try clear hk); (try clear hi))))
               go_ret2
               exact ⟨by first | rfl | (simp [errW_none, errW_some] <;> rfl) | (simp [*, errW_none, errW_some] <;> rfl), by repeat (first | (with_reducible first | exact HB.out | apply below_alloc | apply pw_below_drewN | apply below_drew1) | exact HB.out)⟩
             ·
              rw [if_neg c20] at H
              exact absurd H (by simp)
            ·
             rw [if_neg c19] at H
             exact absurd H (by simp)
           ·
            rw [if_neg c17] at H
            exact absurd H (by simp)
          ·
           rw [if_neg c16] at H
           exact absurd H (by simp)
         ·
          rw [if_neg c14] at H
          exact absurd H (by simp)
        ·
         rw [if_neg c13] at H
         exact absurd H (by simp)
       ·
        rw [if_neg c10] at H
        exact absurd H (by simp)
      ·
       rw [if_neg c9] at H
       exact absurd H (by simp)
     ·
      rw [if_neg c7] at H
      exact absurd H (by simp)
    ·
     rw [if_neg c6] at H
     exact absurd H (by simp)
   ·
    rw [if_neg c4] at H
    exact absurd H (by simp)
  ·
   rw [if_neg c3] at H
   exact absurd H (by simp)
 ·
  rw [if_neg c2] at H
  have c2b0 : ((a0.size : Int) == 16) = false := beq_eq_false_iff_ne.mpr c2
  have c2b1 : ((a0.size : Int) != 16) = true := bne_iff_ne.mpr c2
  simp only [Option.some.injEq, Prod.mk.injEq] at H
  obtain ⟨rfl, rfl⟩ := H
  go_enter Tryd.func20, Tryd.ntmps20
  go_wp2
  repeat (go_quiet (fail); try go_wp2)
  go_ret2
  exact ⟨by first | rfl | (simp [errW_none, errW_some] <;> rfl) | (simp [*, errW_none, errW_some] <;> rfl), by repeat (first | (with_reducible first | exact HB.out | apply below_alloc | apply pw_below_drewN | apply below_drew1) | exact HB.out)⟩

end Go.Proofs.YtiffbkfgimifbaaDoor.Print

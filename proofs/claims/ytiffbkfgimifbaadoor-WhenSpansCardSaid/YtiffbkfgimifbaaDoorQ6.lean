/- The fixed calls of each law. -/
import Derived.Test.YtiffbkfgimifbaaDoorPrint0
import Derived.Test.YtiffbkfgimifbaaDoorGSpan
import Derived.Test.YtiffbkfgimifbaaDoorPrint7
import Derived.Test.YtiffbkfgimifbaaDoorQ5
namespace Go.Proofs.YtiffbkfgimifbaaDoor.Print
open Go.RowKit Go.Proofs.YtiffbkfgimifbaaDoorW.PrintWords Go.Proofs.YtiffbkfgimifbaaDoorW.PrintLast Go.Proofs.YtiffbkfgimifbaaDoorW.PrintMore
open Cal

theorem itoaB_1 : itoaB 1 = ⟨#[49]⟩ := by unfold itoaB; rw [itoa_nat 1 (by omega), dec_nat 1 (by omega) (by omega)]; rfl
theorem itoaB_2 : itoaB 2 = ⟨#[50]⟩ := by unfold itoaB; rw [itoa_nat 2 (by omega), dec_nat 2 (by omega) (by omega)]; rfl
theorem alive_span : when_Span.f (-93600) = some (⟨#[45, 80, 49, 68, 84, 50, 72]⟩, 0) := by
  have e1 : when_Span.put ⟨#[45, 80]⟩ (93600 / 86400) ⟨#[68]⟩ = ⟨#[45, 80, 49, 68]⟩ := by
    rw [show (93600 : Int) / 86400 = 1 from rfl, when_Span.put_pos (by omega), itoaB_1]; rfl
  have e2 : when_Span.put (⟨#[45, 80, 49, 68]⟩ ++ ⟨#[84]⟩) (93600 % 86400 / 3600) ⟨#[72]⟩ = ⟨#[45, 80, 49, 68, 84, 50, 72]⟩ := by
    rw [show (93600 : Int) % 86400 / 3600 = 2 from rfl, when_Span.put_pos (by omega), itoaB_2]; rfl
  unfold when_Span.f
  rw [if_neg (by omega), if_pos (by omega), show -(-93600 : Int) = 93600 from rfl]
  unfold when_Span.body when_Span.hms
  rw [if_neg (show ¬ ((0 : Int) < 93600 ∧ (93600 : Int) % 604800 = 0) by omega), if_neg (show ¬ (93600 : Int) = 0 by omega), e1, if_neg (show ¬ ((3600 ≤ (93600 : Int) % 86400 ∧ (0 : Int) < 93600 % 60) ∧ (93600 : Int) % 86400 / 60 % 60 = 0) by omega), if_pos (show (0 : Int) < 93600 % 86400 by omega), e2, when_Span.put_neg (by omega), when_Span.put_neg (by omega)]
theorem alive_ev : Ev (fun k => posthornlaw12_alive.f k) true := by
  unfold posthornlaw12_alive.f
  refine Ev.bind (whenPrint_ev 0) ?_
  refine Ev.bind (whenParse_ev _ (by decide)) ?_
  refine Ev.bind_now alive_span ?_
  refine Ev.bind (whenDays_ev _ _ _) ?_
  have p0 : printR 0 = (⟨#[49, 57, 55, 48, 48, 49, 48, 49, 84, 48, 48, 48, 48, 48, 48, 90]⟩, 0) := by
    unfold printR
    rw [if_pos (by omega), civilR_of (y := 1970) (m := 1) (d := 1) (by decide) (by decide)]
    rfl
  have p1 : parseR (bl ⟨#[50, 48, 50, 52, 48, 50, 50, 57, 84, 48, 48, 48, 48, 48, 48, 90]⟩) = (1709164800, 0) := by decide +kernel
  have p2 : daysR 2023 2 29 = (0, 110) := by decide +kernel
  rw [p0, p1, p2]
  refine Ev.ite_pos (by rw [bl_toList]) (Ev.ite_pos rfl (Ev.ite_pos rfl (Ev.ite_pos rfl (Ev.ite_pos (by rw [bl_toList]) (Ev.ite_pos rfl ?_)))))
  exact Ev.now _
end Go.Proofs.YtiffbkfgimifbaaDoor.Print

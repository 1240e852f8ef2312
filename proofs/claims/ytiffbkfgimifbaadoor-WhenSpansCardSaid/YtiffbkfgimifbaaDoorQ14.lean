/- The law of lengths. -/
import Derived.Test.YtiffbkfgimifbaaDoorPrint0
import Derived.Test.YtiffbkfgimifbaaDoorPrint17
import Derived.Test.YtiffbkfgimifbaaDoorQ12
import Derived.Test.YtiffbkfgimifbaaDoorQ13
import Derived.Test.YtiffbkfgimifbaaDoorQ6
import Derived.OpenShut
namespace Go.Proofs.YtiffbkfgimifbaaDoor.Print
open Go.RowKit Go.Proofs.YtiffbkfgimifbaaDoorW.PrintWords Go.Proofs.YtiffbkfgimifbaaDoorW.PrintLast Go.Proofs.YtiffbkfgimifbaaDoorW.PrintMore

theorem WhenSpans_pure : posthornlaw12_WhenSpans.Pure := by
  intro n s hn hs
  have hn' := bounds_i64 hn
  refine Ev.rounds ?_
  unfold posthornlaw12_WhenSpans.f
  by_cases c : (s.size : Int) > 300
  · exact Ev.ite_pos c (Ev.bind alive_ev (Ev.now _))
  refine Ev.ite_neg c ?_
  have hl : (bl s).length ≤ 400 := by rw [← bl_nsize]; omega
  obtain ⟨r, h1, h2⟩ := refSpan_ev n hn'.1
  refine Ev.bind_now h1 (Ev.bind h2 (Ev.bind (whenParseSpan_ev s hl) (Ev.bind (refParseSpan_ev s hl) (Ev.bind alive_ev ?_))))
  refine Ev.ite_pos rfl (Ev.ite_pos rfl (Ev.ite_pos rfl (Ev.ite_pos rfl ?_)))
  simp only [beq_self_eq_true]
  exact Ev.now _
end Go.Proofs.YtiffbkfgimifbaaDoor.Print

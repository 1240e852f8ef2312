/- The laws of times, and of the next day. -/
import Derived.Test.YtiffbkfgimifbaaDoorPrint0
import Derived.Test.YtiffbkfgimifbaaDoorPrint7
import Derived.Test.YtiffbkfgimifbaaDoorQ6
namespace Go.Proofs.YtiffbkfgimifbaaDoor.Print
open Go.RowKit Go.Proofs.YtiffbkfgimifbaaDoorW.PrintWords Go.Proofs.YtiffbkfgimifbaaDoorW.PrintLast Go.Proofs.YtiffbkfgimifbaaDoorW.PrintMore
open Cal

theorem WhenTimes_pure : posthornlaw12_WhenTimes.Pure := by
  intro t s _ hs
  refine Ev.rounds ?_
  unfold posthornlaw12_WhenTimes.f
  refine Ev.bind (whenPrint_ev _) (Ev.bind (refPrint_ev _) (Ev.bind (whenParse_ev _ (by rw [← bl_nsize]; omega)) (Ev.bind (refParse_ev _) (Ev.bind alive_ev ?_))))
  refine Ev.ite_pos rfl (Ev.ite_pos rfl (Ev.ite_pos rfl (Ev.ite_pos rfl ?_)))
  simp only [beq_self_eq_true]
  exact Ev.now _

theorem WhenNext_pure : posthornlaw12_WhenNext.Pure := by
  intro days _
  refine Ev.rounds ?_
  have jt : Ev (fun k => posthornlaw12_WhenNext.j0 k days true) true :=
    Ev.step (fun k => by rw [posthornlaw12_WhenNext.j0]) (Ev.ite_pos rfl (Ev.bind alive_ev (Ev.now _)))
  unfold posthornlaw12_WhenNext.f
  by_cases c : days < 0
  · exact Ev.ite_pos c jt
  refine Ev.ite_neg c ?_
  by_cases c2 : days ≥ 2932896
  · rw [decide_eq_true c2]; exact jt
  rw [decide_eq_false c2]
  refine Ev.step (fun k => by rw [posthornlaw12_WhenNext.j0]) (Ev.ite_neg (by decide) ?_)
  rw [w64 (days + 1) (by omega) (by omega)]
  refine Ev.bind (whenCivil_ev _) (Ev.bind (whenCivil_ev _) ?_)
  obtain ⟨y, m, d, hv, he, hc⟩ := civil_ex days (by omega) (by omega)
  have nx := next_ok y m d hv (by omega)
  have hc2 := civilR_of nx.1 (nx.2.trans (show num y m d + 1 = days + 1 by omega))
  rw [hc, hc2]
  refine Ev.ite_pos rfl ?_
  have mb := mon_bd y m
  obtain ⟨v1, v2, v3, v4, v5, v6⟩ := hv
  refine Ev.step (fun k => by rw [posthornlaw12_WhenNext.j1]) (Ev.ite_neg (by simp) ?_)
  rw [w64 (d + 1) (by omega) (by omega)]
  refine Ev.bind (whenDays_ev _ _ _) ?_
  unfold nextD
  by_cases c3 : d < mon y m
  · have hd : (daysR y m (d + 1)).2 = 0 := by unfold daysR; rw [if_pos ⟨v1, v2, v3, v4, by omega, by omega⟩]
    rw [if_pos c3]
    refine Ev.ite_pos hd (Ev.bind alive_ev (Ev.ite_pos rfl (Ev.ite_pos rfl (Ev.ite_pos rfl ?_))))
    simp only [beq_self_eq_true]
    exact Ev.now _
  · have hd : ¬ (daysR y m (d + 1)).2 = 0 := by unfold daysR; rw [if_neg (fun x => by have := x.2.2.2.2.2; omega)]; decide
    rw [if_neg c3]
    refine Ev.ite_neg hd ?_
    by_cases c4 : m < 12
    · rw [if_pos c4, w64 (m + 1) (by omega) (by omega)]
      refine Ev.ite_pos c4 (Ev.bind alive_ev (Ev.ite_pos rfl (Ev.ite_pos rfl (Ev.ite_pos rfl (Ev.ite_pos rfl ?_)))))
      rw [decide_eq_true (show d ≥ 28 by omega)]
      exact Ev.now _
    · rw [if_neg c4, w64 (y + 1) (by omega) (by omega)]
      refine Ev.ite_neg c4 (Ev.bind alive_ev (Ev.ite_pos rfl (Ev.ite_pos rfl (Ev.ite_pos rfl (Ev.ite_pos rfl ?_)))))
      have e31 : d = 31 := by
        have : mon y 12 = 31 := by unfold mon; rw [if_neg (by decide), if_neg (by decide)]
        obtain rfl : m = 12 := by omega
        omega
      rw [e31]
      exact Ev.now _
end Go.Proofs.YtiffbkfgimifbaaDoor.Print

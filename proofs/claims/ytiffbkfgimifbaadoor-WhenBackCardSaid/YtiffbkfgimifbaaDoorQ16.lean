/- The laws that go there and back. -/
import Derived.Test.YtiffbkfgimifbaaDoorPrint0
import Derived.Test.YtiffbkfgimifbaaDoorPrint8
import Derived.Test.YtiffbkfgimifbaaDoorQ15
namespace Go.Proofs.YtiffbkfgimifbaaDoor.Print
open Go.RowKit Go.Proofs.YtiffbkfgimifbaaDoorW.PrintWords Go.Proofs.YtiffbkfgimifbaaDoorW.PrintLast Go.Proofs.YtiffbkfgimifbaaDoorW.PrintMore
open Cal

theorem WhenBack_pure : posthornlaw12_WhenBack.Pure := by
  intro t days n _ _ _
  refine Ev.rounds ?_
  have b1 : Ev (fun k => posthornlaw12_WhenBack.j1 k n) true := by
    refine Ev.step (fun k => by rw [posthornlaw12_WhenBack.j1]) ?_
    by_cases c : n < -1099511627776 ∨ 1099511627776 < n
    · have e : when_Span.f n = some (⟨#[]⟩, 110) := by unfold when_Span.f; rw [if_pos c]
      exact Ev.bind_now e (Ev.ite_neg (by simp) (Ev.bind alive_ev (Ev.now _)))
    · obtain ⟨x, h1, h2, h3⟩ := span_back n (by omega) (by omega)
      have h4 := whenParseSpan_ev x h3
      rw [h2] at h4
      exact Ev.bind_now h1 (Ev.ite_pos rfl (Ev.bind h4 (Ev.ite_pos rfl (Ev.ite_pos rfl (Ev.bind alive_ev (Ev.now _))))))
  have b0 : Ev (fun k => posthornlaw12_WhenBack.j0 k days n) true := by
    refine Ev.step (fun k => by rw [posthornlaw12_WhenBack.j0]) (Ev.bind (whenCivil_ev days) ?_)
    by_cases c : 0 ≤ days ∧ days ≤ 2932896
    · obtain ⟨y, m, d, hv, he, hc⟩ := civil_ex days c.1 c.2
      rw [hc]
      have h4 := whenDays_ev y m d
      unfold daysR at h4
      rw [if_pos hv, he] at h4
      exact Ev.ite_pos rfl (Ev.bind h4 (Ev.ite_pos rfl (Ev.ite_pos rfl b1)))
    · rw [civilR_no (by omega)]
      exact Ev.ite_neg (by simp) b1
  unfold posthornlaw12_WhenBack.f
  refine Ev.bind (whenPrint_ev t) ?_
  by_cases c : 0 ≤ t ∧ t ≤ 253402300799
  · obtain ⟨y, m, d, hv, he, hp⟩ := printR_ok c
    rw [hp]
    have hb := time_back (s := t % 86400) hv (by omega) (by omega)
    have h4 := whenParse_ev ⟨(timeL y m d (t % 86400)).toArray⟩ (by rw [bl_mk, timeL_size]; omega)
    unfold parseR at h4
    rw [bl_mk, if_pos hb.1, hb.2, he, show t / 86400 * 86400 + t % 86400 = t by omega] at h4
    exact Ev.ite_pos rfl (Ev.bind h4 (Ev.ite_pos rfl (Ev.ite_pos rfl (Ev.ite_pos (by rw [bl_size, bl_mk, timeL_size]; rfl) b0))))
  · have hp : printR t = (⟨#[]⟩, 110) := by unfold printR; rw [if_neg c]
    rw [hp]
    exact Ev.ite_neg (by simp) b0

theorem spanR_ok {sg : Int} {l : List UInt8} {n : Int} (h : spanR sg l = (n, 0)) : ∃ t, l = 80 :: t ∧ 0 ≤ bodyR t ∧ bodyR t ≤ 1099511627776 ∧ n = sg * bodyR t := by
  cases l with
  | nil => simp [spanR] at h
  | cons c t =>
    rw [spanR_cons] at h
    by_cases q : c = 80
    · rw [if_pos q] at h
      by_cases q2 : bodyR t < 0 ∨ bodyR t > 1099511627776
      · rw [if_pos q2] at h; simp at h
      · rw [if_neg q2] at h
        simp at h
        exact ⟨t, by rw [q], by omega, by omega, h.symm⟩
    · rw [if_neg q] at h; simp at h
theorem spanR_no {sg : Int} {l : List UInt8} (h : ¬ (spanR sg l).2 = 0) : spanR sg l = (0, 110) := by
  cases l with
  | nil => rfl
  | cons c t =>
    rw [spanR_cons] at h ⊢
    by_cases q : c = 80
    · rw [if_pos q] at h ⊢
      by_cases q2 : bodyR t < 0 ∨ bodyR t > 1099511627776
      · rw [if_pos q2]
      · rw [if_neg q2] at h; exact absurd rfl h
    · rw [if_neg q]
theorem WhenAgain_pure : posthornlaw12_WhenAgain.Pure := by
  intro s hs
  refine Ev.rounds ?_
  unfold posthornlaw12_WhenAgain.f
  by_cases c : (s.size : Int) > 300
  · exact Ev.ite_pos c (Ev.bind alive_ev (Ev.now _))
  have hl : (bl s).length ≤ 300 := by rw [← bl_nsize]; omega
  refine Ev.ite_neg c (Ev.bind (whenParseSpan_ev s (by omega)) ?_)
  by_cases z : (parseSpanR (bl s)).2 = 0
  · obtain ⟨n, hn⟩ : ∃ n, parseSpanR (bl s) = (n, 0) := ⟨(parseSpanR (bl s)).1, Prod.ext rfl z⟩
    rw [hn]
    cases hb : bl s with
    | nil => rw [hb] at hn; simp [parseSpanR] at hn
    | cons x l =>
      rw [hb, parseSpanR_cons] at hn
      obtain ⟨h1, h2, h3⟩ := bl_cons hb
      have nb : -1099511627776 ≤ n ∧ n ≤ 1099511627776 := by
        revert hn
        split
        · intro hn; obtain ⟨t, _, a, b, e⟩ := spanR_ok hn; omega
        · split
          · intro hn; obtain ⟨t, _, a, b, e⟩ := spanR_ok hn; omega
          · intro hn; obtain ⟨t, _, a, b, e⟩ := spanR_ok hn; omega
      obtain ⟨t, g1, g2, g3⟩ := span_back n nb.1 nb.2
      have g4 := whenParseSpan_ev t g3
      rw [g2] at g4
      refine Ev.ite_pos rfl (Ev.bind_now g1 (Ev.bind g4 (Ev.ite_pos rfl (Ev.ite_pos rfl ?_))))
      have bn : (n != n) = false := by simp
      simp only [bn]
      refine Ev.step (fun k => by rw [posthornlaw12_WhenAgain.j0]) (Ev.ite_neg (by decide) (Ev.ite_neg (by rw [bl_toList, hb]; simp) (Ev.ite_pos (by omega) ?_)))
      have jt : Ev (fun k => posthornlaw12_WhenAgain.j1 k s n true) true := Ev.step (fun k => by rw [posthornlaw12_WhenAgain.j1]) (Ev.ite_pos rfl (Ev.bind alive_ev (Ev.now _)))
      have q43 : bt s 0 = 43 ↔ x = 43 := by rw [h1]; exact byte_eq (n := 43) (by omega)
      have q45 : bt s 0 = 45 ↔ x = 45 := by rw [h1]; exact byte_eq (n := 45) (by omega)
      by_cases c43 : x = 43
      · exact Ev.ite_pos (q43.mpr c43) jt
      refine Ev.ite_neg (fun e => c43 (q43.mp e)) ?_
      by_cases c45 : x = 45
      · rw [show (bt s 0 == 45) = true from beq_iff_eq.mpr (q45.mpr c45)]; exact jt
      rw [show (bt s 0 == 45) = false from beq_eq_false_iff_ne.mpr (fun e => c45 (q45.mp e))]
      rw [if_neg c43, if_neg c45] at hn
      obtain ⟨t', e1, e2, e3, e4⟩ := spanR_ok hn
      have hlen : (bl ((⟨#[45]⟩ : ByteArray) ++ s)).length ≤ 400 := by rw [bl_append, List.length_append]; show 1 + (bl s).length ≤ 400; omega
      have g5 := whenParseSpan_ev ((⟨#[45]⟩ : ByteArray) ++ s) hlen
      have e5 : parseSpanR (bl ((⟨#[45]⟩ : ByteArray) ++ s)) = (-n, 0) := by
        rw [bl_append, hb]
        show spanR (-1) (x :: l) = (-n, 0)
        rw [e1, spanR_cons, if_pos rfl, if_neg (by omega), e4]
        simp
      rw [e5] at g5
      refine Ev.step (fun k => by rw [posthornlaw12_WhenAgain.j1]) (Ev.ite_neg (by decide) (Ev.ite_pos (by omega) (Ev.bind g5 (Ev.bind alive_ev (Ev.ite_pos rfl (Ev.ite_pos rfl ?_))))))
      rw [w64 (-n) (by omega) (by omega)]
      refine Ev.ite_pos rfl ?_
      rw [decide_eq_true (show n ≥ 0 by omega)]
      exact Ev.now _
  · have hz : parseSpanR (bl s) = (0, 110) := by
      cases hb : bl s with
      | nil => rfl
      | cons x l =>
        rw [hb, parseSpanR_cons] at z
        rw [parseSpanR_cons]
        revert z
        split
        · exact spanR_no
        · split
          · exact spanR_no
          · exact spanR_no
    rw [hz]
    refine Ev.ite_neg (by decide) (Ev.bind alive_ev (Ev.ite_pos rfl ?_))
    exact Ev.now _
end Go.Proofs.YtiffbkfgimifbaaDoor.Print

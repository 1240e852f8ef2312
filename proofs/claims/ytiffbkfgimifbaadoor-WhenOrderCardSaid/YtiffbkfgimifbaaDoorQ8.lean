/- Times stand in the order of their texts. -/
import Derived.Test.YtiffbkfgimifbaaDoorPrint0
import Derived.Test.YtiffbkfgimifbaaDoorPrint8
import Derived.Test.YtiffbkfgimifbaaDoorQ6
import Derived.Sort.Walk0
namespace Go.Proofs.YtiffbkfgimifbaaDoor.Print
open Go.RowKit Go.Proofs.YtiffbkfgimifbaaDoorW.PrintWords Go.Proofs.YtiffbkfgimifbaaDoorW.PrintLast Go.Proofs.YtiffbkfgimifbaaDoorW.PrintMore
open Cal

theorem bless_append (a : List UInt8) : ∀ (a' b b' : List UInt8), a.length = a'.length → Op.bytesLess (a ++ b) (a' ++ b') = (Op.bytesLess a a' || (decide (a = a') && Op.bytesLess b b')) := by
  induction a with
  | nil =>
    intro a' b b' h
    have : a' = [] := List.eq_nil_of_length_eq_zero h.symm
    subst this
    simp [Op.bytesLess]
  | cons x a ih =>
    intro a' b b' h
    cases a' with
    | nil => simp at h
    | cons y a' =>
      simp only [List.cons_append, Op.bytesLess]
      rw [ih a' b b' (by simpa using h)]
      by_cases e : x = y
      · subst e; simp
      · have e2 : (x == y) = false := beq_eq_false_iff_ne.mpr e
        simp [e, e2]
theorem bless_nil (b : List UInt8) : Op.bytesLess b [] = false := by cases b <;> rfl
theorem dg_lt (a b : Int) : (dg a < dg b) ↔ a % 10 < b % 10 := by
  rw [UInt8.lt_iff_toNat_lt]
  have := dg_toNat a
  have := dg_toNat b
  omega
theorem dg_inj (a b : Int) : dg a = dg b ↔ a % 10 = b % 10 := by
  have h1 := dg_toNat a
  have h2 := dg_toNat b
  constructor
  · intro h; rw [h] at h1; omega
  · intro h; exact UInt8.toNat_inj.mp (by omega)
theorem bless_d2 (a b : Int) (h0 : 0 ≤ a) (h1 : a ≤ 99) (g0 : 0 ≤ b) (g1 : b ≤ 99) : Op.bytesLess (d2 a) (d2 b) = decide (a < b) := by
  unfold d2
  rw [Bool.eq_iff_iff]
  simp only [Op.bytesLess, Bool.or_eq_true, Bool.and_eq_true, decide_eq_true_eq, beq_iff_eq, dg_lt, dg_inj, Bool.and_false, Bool.or_false]
  omega
theorem bless_d4 (a b : Int) (h0 : 0 ≤ a) (h1 : a ≤ 9999) (g0 : 0 ≤ b) (g1 : b ≤ 9999) : Op.bytesLess (d4 a) (d4 b) = decide (a < b) := by
  unfold d4
  rw [Bool.eq_iff_iff]
  simp only [Op.bytesLess, Bool.or_eq_true, Bool.and_eq_true, decide_eq_true_eq, beq_iff_eq, dg_lt, dg_inj, Bool.and_false, Bool.or_false]
  have ea : a = 1000 * (a / 1000 % 10) + 100 * (a / 100 % 10) + 10 * (a / 10 % 10) + a % 10 := by omega
  have eb : b = 1000 * (b / 1000 % 10) + 100 * (b / 100 % 10) + 10 * (b / 10 % 10) + b % 10 := by omega
  have r : ∀ x : Int, 0 ≤ x % 10 ∧ x % 10 < 10 := fun x => by omega
  have a3 := r (a / 1000); have a2 := r (a / 100); have a1 := r (a / 10); have a0 := r a
  have b3 := r (b / 1000); have b2 := r (b / 100); have b1 := r (b / 10); have b0 := r b
  clear r h0 h1 g0 g1
  generalize a / 1000 % 10 = x3 at *; generalize a / 100 % 10 = x2 at *; generalize a / 10 % 10 = x1 at *; generalize a % 10 = x0 at *
  generalize b / 1000 % 10 = y3 at *; generalize b / 100 % 10 = y2 at *; generalize b / 10 % 10 = y1 at *; generalize b % 10 = y0 at *
  subst ea eb
  omega
theorem d2_inj {a b : Int} (h0 : 0 ≤ a) (h1 : a ≤ 99) (g0 : 0 ≤ b) (g1 : b ≤ 99) : d2 a = d2 b ↔ a = b := by
  constructor
  · intro h; rw [← numR_d2 a h0 h1, ← numR_d2 b g0 g1, h]
  · intro h; rw [h]
theorem d4_inj {a b : Int} (h0 : 0 ≤ a) (h1 : a ≤ 9999) (g0 : 0 ≤ b) (g1 : b ≤ 9999) : d4 a = d4 b ↔ a = b := by
  constructor
  · intro h; rw [← numR_d4 a h0 h1, ← numR_d4 b g0 g1, h]
  · intro h; rw [h]
theorem num_lt {y m d y' m' d' : Int} (h : valid y m d) (h' : valid y' m' d') : num y m d < num y' m' d' ↔ y < y' ∨ (y = y' ∧ (m < m' ∨ (m = m' ∧ d < d'))) := by
  have i1 := num_in y m d h
  have i2 := num_in y' m' d' h'
  have lt1 : ∀ {y m d y' m' d' : Int}, valid y m d → valid y' m' d' → (y < y' ∨ (y = y' ∧ (m < m' ∨ (m = m' ∧ d < d')))) → num y m d < num y' m' d' := by
    intro y m d y' m' d' h h' o
    have i1 := num_in y m d h
    have i2 := num_in y' m' d' h'
    rcases o with c | ⟨rfl, c | ⟨rfl, c⟩⟩
    · have := bef_mono (y' - (y + 1)).toNat (y + 1) (by have := h.1; omega)
      have e2 : y + 1 + ((y' - (y + 1)).toNat : Int) = y' := by omega
      rw [e2] at this; omega
    · obtain ⟨h1, h2, h3, h4, h5, h6⟩ := h
      obtain ⟨_, _, g3, g4, g5, g6⟩ := h'
      have a := cum_step y m h3
      have := cum_mono' y (show m.toNat ≤ m'.toNat - 1 by omega)
      unfold num; omega
    · unfold num; omega
  constructor
  · intro hlt
    rcases Int.lt_trichotomy y y' with c | c | c
    · exact .inl c
    · refine .inr ⟨c, ?_⟩
      rcases Int.lt_trichotomy m m' with e | e | e
      · exact .inl e
      · refine .inr ⟨e, ?_⟩
        rcases Int.lt_trichotomy d d' with g | g | g
        · exact g
        · rw [c, e, g] at hlt; omega
        · have := lt1 h' h (.inr ⟨c.symm, .inr ⟨e.symm, g⟩⟩); omega
      · have := lt1 h' h (.inr ⟨c.symm, .inl e⟩); omega
    · have := lt1 h' h (.inl c); omega
  · exact lt1 h h'
theorem bless_time {y m d s y' m' d' s' : Int} (v : valid y m d) (v' : valid y' m' d') (h0 : 0 ≤ s) (h1 : s < 86400) (g0 : 0 ≤ s') (g1 : s' < 86400) :
    Op.bytesLess (timeL y m d s) (timeL y' m' d' s') = decide (num y m d * 86400 + s < num y' m' d' * 86400 + s') := by
  have nl := num_lt v v'
  have ni : num y m d = num y' m' d' → y = y' ∧ m = m' ∧ d = d' := num_inj _ _ _ _ _ _ v v'
  have mb := mon_bd y m
  have mb' := mon_bd y' m'
  obtain ⟨a1, a2, a3, a4, a5, a6⟩ := v
  obtain ⟨b1, b2, b3, b4, b5, b6⟩ := v'
  unfold timeL
  rw [bless_append _ _ _ _ (by simp [d4]), bless_append _ _ _ _ (by simp [d2]), bless_append _ _ _ _ (by simp [d2]), show ∀ (x y : List UInt8), Op.bytesLess (84 :: x) (84 :: y) = Op.bytesLess x y from fun x y => by simp [Op.bytesLess],
    bless_append _ _ _ _ (by simp [d2]), bless_append _ _ _ _ (by simp [d2]), bless_append _ _ _ _ (by simp [d2]),
    bless_d4 _ _ (by omega) (by omega) (by omega) (by omega), bless_d2 _ _ (by omega) (by omega) (by omega) (by omega), bless_d2 _ _ (by omega) (by omega) (by omega) (by omega), bless_d2 _ _ (by omega) (by omega) (by omega) (by omega), bless_d2 _ _ (by omega) (by omega) (by omega) (by omega), bless_d2 _ _ (by omega) (by omega) (by omega) (by omega)]
  rw [Bool.eq_iff_iff]
  simp only [Bool.or_eq_true, Bool.and_eq_true, decide_eq_true_eq]
  rw [d4_inj (by omega) (by omega) (by omega) (by omega), d2_inj (by omega) (by omega) (by omega) (by omega), d2_inj (by omega) (by omega) (by omega) (by omega), d2_inj (by omega) (by omega) (by omega) (by omega), d2_inj (by omega) (by omega) (by omega) (by omega)]
  have e90 : Op.bytesLess ([90] : List UInt8) [90] = false := rfl
  rw [e90]
  rcases Int.lt_trichotomy (num y m d) (num y' m' d') with c | c | c
  · have := nl.mp c; omega
  · obtain ⟨rfl, rfl, rfl⟩ := ni c
    simp
    omega
  · have c1 : ¬ num y m d < num y' m' d' := by omega
    rw [nl] at c1
    have c2 : ¬ (y = y' ∧ m = m' ∧ d = d') := by rintro ⟨rfl, rfl, rfl⟩; omega
    omega

theorem WhenOrder_pure : posthornlaw12_WhenOrder.Pure := by
  intro t u _ _
  refine Ev.rounds ?_
  unfold posthornlaw12_WhenOrder.f
  refine Ev.bind (whenPrint_ev _) (Ev.bind (whenPrint_ev _) ?_)
  have P : ∀ t, (0 ≤ t ∧ t ≤ 253402300799 ∧ (printR t).2 = 0) ∨ (¬ (0 ≤ t ∧ t ≤ 253402300799) ∧ printR t = (⟨#[]⟩, 110)) := by
    intro t
    by_cases c : 0 ≤ t ∧ t ≤ 253402300799
    · exact .inl ⟨c.1, c.2, by unfold printR; rw [if_pos c]⟩
    · exact .inr ⟨c, by unfold printR; rw [if_neg c]⟩
  have jt : (¬ (0 ≤ t ∧ t ≤ 253402300799) ∨ ¬ (0 ≤ u ∧ u ≤ 253402300799)) → ∀ x y, Ev (fun k => posthornlaw12_WhenOrder.j0 k t u x (printR t).2 y (printR u).2 true) true := by
    intro hn x y
    have q : ∀ t, (decide (0 ≤ t ∧ t ≤ 253402300799) != ((printR t).2 == 110)) = true := by
      intro t
      rcases P t with ⟨h1, h2, h3⟩ | ⟨h1, h2⟩
      · rw [h3, decide_eq_true ⟨h1, h2⟩]; rfl
      · rw [h2, decide_eq_false h1]; rfl
    refine Ev.step (fun k => by rw [posthornlaw12_WhenOrder.j0]) (Ev.ite_pos rfl (Ev.bind alive_ev (Ev.ite_pos rfl (Ev.bind_now (whenRight_f t) (Ev.ite_pos (q t) (Ev.bind_now (whenRight_f u) ?_))))))
    rw [q u]
    exact Ev.now _
  by_cases c : 0 ≤ t ∧ t ≤ 253402300799
  · by_cases c2 : 0 ≤ u ∧ u ≤ 253402300799
    · obtain ⟨y, m, d, v, e, hp⟩ := printR_ok c
      obtain ⟨y', m', d', v', e', hp'⟩ := printR_ok c2
      rw [hp, hp']
      refine Ev.ite_pos rfl ?_
      refine Ev.step (fun k => by rw [posthornlaw12_WhenOrder.j0]) (Ev.ite_neg (by simp) (Ev.bind alive_ev (Ev.ite_pos rfl ?_)))
      simp only [bl_toList, bl_mk]
      have bt := bless_time v v' (s := t % 86400) (s' := u % 86400) (by omega) (by omega) (by omega) (by omega)
      rw [e, e', show t / 86400 * 86400 + t % 86400 = t by omega, show u / 86400 * 86400 + u % 86400 = u by omega] at bt
      refine Ev.ite_pos (by rw [bt]; simp) ?_
      have ei : (timeL y m d (t % 86400) == timeL y' m' d' (u % 86400)) = (t == u) := by
        rw [Bool.eq_iff_iff, beq_iff_eq, beq_iff_eq]
        constructor
        · intro h
          have b1 := (time_back (s := t % 86400) v (by omega) (by omega)).2
          have b2 := (time_back (s := u % 86400) v' (by omega) (by omega)).2
          rw [h] at b1
          omega
        · rintro rfl
          obtain ⟨rfl, rfl, rfl⟩ := num_inj _ _ _ _ _ _ v v' (e.trans e'.symm)
          rfl
      rw [ei]
      simp only [beq_self_eq_true]
      exact Ev.now _
    · have h0 : (printR t).2 = 0 := by rcases P t with ⟨_, _, h⟩ | ⟨h, _⟩; exact h; exact absurd c h
      have h1 : ((printR u).2 != 0) = true := by rcases P u with ⟨h, h2, _⟩ | ⟨_, h⟩; exact absurd ⟨h, h2⟩ c2; rw [h]; rfl
      refine Ev.ite_pos h0 ?_
      rw [h1]
      exact jt (.inr c2) _ _
  · have h0 : ¬ (printR t).2 = 0 := by rcases P t with ⟨h, h2, _⟩ | ⟨_, h⟩; exact absurd ⟨h, h2⟩ c; rw [h]; decide
    exact Ev.ite_neg h0 (jt (.inl c) _ _)
end Go.Proofs.YtiffbkfgimifbaaDoor.Print

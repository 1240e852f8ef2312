/- Days: a number's day. -/
import Derived.Test.YtiffbkfgimifbaaDoorPrint0
import Derived.Test.YtiffbkfgimifbaaDoorPrint2
import Derived.Test.YtiffbkfgimifbaaDoorPrint9
import Derived.Test.YtiffbkfgimifbaaDoorQ1
namespace Go.Proofs.YtiffbkfgimifbaaDoor.Print
open Go.RowKit Go.Proofs.YtiffbkfgimifbaaDoorW.PrintWords Go.Proofs.YtiffbkfgimifbaaDoorW.PrintLast Go.Proofs.YtiffbkfgimifbaaDoorW.PrintMore
open Cal

theorem num_bd (y m d : Int) (h : valid y m d) : 0 ≤ num y m d ∧ num y m d ≤ 2932896 := by
  have a := num_in y m d h
  have b := bef_bd y h.1 (by have := h.2.1; omega)
  have c := bef_bd (y + 1) (by have := h.1; omega) (by have := h.2.1; omega)
  omega
open Classical in
/-- A number's day, or what is wrong. -/
noncomputable def civilR (days : Int) : Int × Int × Int × Int :=
  if h : ∃ t : Int × Int × Int, valid t.1 t.2.1 t.2.2 ∧ num t.1 t.2.1 t.2.2 = days then (h.choose.1, h.choose.2.1, h.choose.2.2, 0) else (0, 0, 0, 110)
theorem civilR_of {y m d days : Int} (h : valid y m d) (e : num y m d = days) : civilR days = (y, m, d, 0) := by
  have hx : ∃ t : Int × Int × Int, valid t.1 t.2.1 t.2.2 ∧ num t.1 t.2.1 t.2.2 = days := ⟨(y, m, d), h, e⟩
  unfold civilR
  rw [dif_pos hx]
  obtain ⟨h1, h2⟩ := hx.choose_spec
  obtain ⟨a, b, c⟩ := num_inj _ _ _ _ _ _ h1 h (h2.trans e.symm)
  rw [a, b, c]
theorem civilR_no {days : Int} (h : days < 0 ∨ days > 2932896) : civilR days = (0, 0, 0, 110) := by
  unfold civilR
  rw [dif_neg]
  rintro ⟨t, hv, he⟩
  have := num_bd _ _ _ hv
  omega

theorem civil_fin (days y m rest : Int) (hy : 1970 ≤ y) (hy2 : y ≤ 9999) (hm : 1 ≤ m) (hm2 : m ≤ 12) (hr : rest = days - bef y - cum y (m.toNat - 1)) (h0 : 0 ≤ rest) (h1 : rest < mon y m) : civilR days = (y, m, rest + 1, 0) :=
  civilR_of ⟨hy, hy2, hm, hm2, by omega, by omega⟩ (by unfold num; omega)
theorem civil_on (days y m : Int) (hy : 1970 ≤ y) (hm : 1 ≤ m) (hm2 : m ≤ 12) (h : days < bef (y + 1)) (h1 : mon y m ≤ days - bef y - cum y (m.toNat - 1)) : m + 1 ≤ 12 := by
  rcases Int.lt_or_le m 12 with c | c
  · omega
  · obtain rfl : m = 12 := by omega
    have a := cum_step y 12 (by omega)
    have b := cum_12 y
    have e := bef_succ y hy
    have : (12 : Int).toNat = 12 := rfl
    rw [this] at a h1
    omega

theorem whenCivil_l1 (days y : Int) (hy : 1970 ≤ y) (hy2 : y ≤ 9999) (hd : days < bef (y + 1)) (hd2 : days ≤ 2932896) (n : Nat) : ∀ (m rest : Int), 1 ≤ m → m ≤ 12 → (12 - m).toNat = n → rest = days - bef y - cum y (m.toNat - 1) → 0 ≤ rest →
    Ev (fun k => when_Civil.l1 k y rest m) (civilR days) := by
  induction n with
  | zero =>
    intro m rest h1 h2 h3 h4 h5
    have mb := mon_bd y m
    have bb := bef_bd y hy (by omega)
    have cb := cum_bd y (m.toNat - 1)
    refine Ev.step (fun k => by rw [when_Civil.l1]) (Ev.bind_now (month_f y m (by omega) h1 h2) ?_)
    by_cases c : rest ≥ mon y m
    · have := civil_on days y m hy h1 h2 hd (by omega); omega
    · refine Ev.ite_neg c ?_
      rw [civil_fin days y m rest hy hy2 h1 h2 h4 h5 (by omega), w64 _ (by omega) (by omega)]
      exact Ev.now _
  | succ n ih =>
    intro m rest h1 h2 h3 h4 h5
    have mb := mon_bd y m
    have bb := bef_bd y hy (by omega)
    have cb := cum_bd y (m.toNat - 1)
    refine Ev.step (fun k => by rw [when_Civil.l1]) (Ev.bind_now (month_f y m (by omega) h1 h2) ?_)
    by_cases c : rest ≥ mon y m
    · refine Ev.ite_pos c (Ev.bind_now (month_f y m (by omega) h1 h2) ?_)
      rw [w64 (rest - mon y m) (by omega) (by omega), w64 (m + 1) (by omega) (by omega)]
      have st := cum_step y m h1
      exact ih (m + 1) (rest - mon y m) (by omega) (by omega) (by omega) (by rw [show (m + 1).toNat - 1 = m.toNat by omega]; omega) (by omega)
    · refine Ev.ite_neg c ?_
      rw [civil_fin days y m rest hy hy2 h1 h2 h4 h5 (by omega), w64 _ (by omega) (by omega)]
      exact Ev.now _
theorem whenCivil_j2 (days y : Int) (hy : 1970 ≤ y) (hy2 : y ≤ 9999) (h0 : bef y ≤ days) (hd : days < bef (y + 1)) (hd2 : days ≤ 2932896) :
    Ev (fun k => when_Civil.j2 k days y) (civilR days) := by
  have bb := bef_bd y hy (by omega)
  refine Ev.step (fun k => by rw [when_Civil.j2]) (Ev.bind_now (before_f y hy (by omega)) ?_)
  rw [w64 (days - bef y) (by omega) (by omega)]
  exact whenCivil_l1 days y hy hy2 hd hd2 11 1 _ (by omega) (by omega) rfl (by simp [cum]) (by omega)
theorem bef_10000 : bef (9999 + 1) = 2932897 := by decide
theorem whenCivil_l0 (days : Int) (hd2 : days ≤ 2932896) (n : Nat) : ∀ (y : Int), 1970 ≤ y → y ≤ 9999 → bef y ≤ days → (9999 - y).toNat = n → Ev (fun k => when_Civil.l0 k days y) (civilR days) := by
  induction n with
  | zero =>
    intro y h1 h2 h3 h4
    obtain rfl : y = 9999 := by omega
    refine Ev.step (fun k => by rw [when_Civil.l0]) (Ev.ite_neg (by omega) ?_)
    exact whenCivil_j2 days 9999 h1 h2 h3 (by rw [bef_10000]; omega) hd2
  | succ n ih =>
    intro y h1 h2 h3 h4
    refine Ev.step (fun k => by rw [when_Civil.l0]) (Ev.ite_pos (by omega) ?_)
    rw [w64 (y + 1) (by omega) (by omega)]
    refine Ev.bind_now (before_f (y + 1) (by omega) (by omega)) ?_
    by_cases c : bef (y + 1) ≤ days
    · exact Ev.ite_pos c (ih (y + 1) (by omega) (by omega) c (by omega))
    · exact Ev.ite_neg c (whenCivil_j2 days y h1 h2 h3 (by omega) hd2)
theorem whenCivil_ev (days : Int) : Ev (fun k => when_Civil.f k days) (civilR days) := by
  unfold when_Civil.f
  by_cases c : days < 0
  · rw [civilR_no (.inl c)]
    exact Ev.ite_pos c (Ev.step (fun k => by rw [when_Civil.j0]) (Ev.ite_pos rfl (Ev.now _)))
  refine Ev.ite_neg c ?_
  by_cases c2 : days > 2932896
  · rw [civilR_no (.inr c2), decide_eq_true c2]
    exact Ev.step (fun k => by rw [when_Civil.j0]) (Ev.ite_pos rfl (Ev.now _))
  rw [decide_eq_false c2]
  refine Ev.step (fun k => by rw [when_Civil.j0]) (Ev.ite_neg (by decide) ?_)
  rw [Int.tdiv_eq_ediv_of_nonneg (by omega), w64 (days / 366) (by omega) (by omega), w64 _ (by omega) (by omega)]
  exact whenCivil_l0 days (by omega) _ (1970 + days / 366) (by omega) (by omega) (by unfold bef; omega) rfl

theorem refCivil_l1 (days y : Int) (hy : 1970 ≤ y) (hy2 : y ≤ 9999) (hd : days < bef (y + 1)) (hd2 : days ≤ 2932896) (n : Nat) : ∀ (m rest : Int), 1 ≤ m → m ≤ 12 → (12 - m).toNat = n → rest = days - bef y - cum y (m.toNat - 1) → 0 ≤ rest →
    Ev (fun k => posthornref12_Civil.l1 k rest y m) (civilR days) := by
  induction n with
  | zero =>
    intro m rest h1 h2 h3 h4 h5
    have mb := mon_bd y m
    have bb := bef_bd y hy (by omega)
    have cb := cum_bd y (m.toNat - 1)
    refine Ev.step (fun k => by rw [posthornref12_Civil.l1]) (Ev.bind (refMonth_ev y m (by omega) h1 h2) ?_)
    by_cases c : rest ≥ mon y m
    · have := civil_on days y m hy h1 h2 hd (by omega); omega
    · refine Ev.ite_neg c ?_
      rw [civil_fin days y m rest hy hy2 h1 h2 h4 h5 (by omega), w64 _ (by omega) (by omega)]
      exact Ev.now _
  | succ n ih =>
    intro m rest h1 h2 h3 h4 h5
    have mb := mon_bd y m
    have bb := bef_bd y hy (by omega)
    have cb := cum_bd y (m.toNat - 1)
    refine Ev.step (fun k => by rw [posthornref12_Civil.l1]) (Ev.bind (refMonth_ev y m (by omega) h1 h2) ?_)
    by_cases c : rest ≥ mon y m
    · refine Ev.ite_pos c (Ev.bind (refMonth_ev y m (by omega) h1 h2) ?_)
      rw [w64 (rest - mon y m) (by omega) (by omega), w64 (m + 1) (by omega) (by omega)]
      have st := cum_step y m h1
      exact ih (m + 1) (rest - mon y m) (by omega) (by omega) (by omega) (by rw [show (m + 1).toNat - 1 = m.toNat by omega]; omega) (by omega)
    · refine Ev.ite_neg c ?_
      rw [civil_fin days y m rest hy hy2 h1 h2 h4 h5 (by omega), w64 _ (by omega) (by omega)]
      exact Ev.now _
theorem refCivil_l0 (days : Int) (hd : 0 ≤ days) (hd2 : days ≤ 2932896) (n : Nat) : ∀ (y : Int), 1970 ≤ y → y ≤ 9999 → bef y ≤ days → (9999 - y).toNat = n → Ev (fun k => posthornref12_Civil.l0 k (days - bef y) y 1) (civilR days) := by
  induction n with
  | zero =>
    intro y h1 h2 h3 h4
    obtain rfl : y = 9999 := by omega
    have e := bef_succ 9999 (by omega)
    rw [bef_10000] at e
    refine Ev.step (fun k => by rw [posthornref12_Civil.l0]) (Ev.bind_now (refYear_f 9999 (by omega)) ?_)
    refine Ev.ite_neg (by omega) ?_
    exact refCivil_l1 days 9999 h1 h2 (by rw [bef_10000]; omega) hd2 11 1 _ (by omega) (by omega) rfl (by simp [cum]) (by omega)
  | succ n ih =>
    intro y h1 h2 h3 h4
    have e := bef_succ y h1
    have bb := bef_bd y h1 (by omega)
    have yc := year_cases y
    refine Ev.step (fun k => by rw [posthornref12_Civil.l0]) (Ev.bind_now (refYear_f y (by omega)) ?_)
    by_cases c : days - bef y ≥ year y
    · refine Ev.ite_pos c (Ev.bind_now (refYear_f y (by omega)) ?_)
      rw [w64 (y + 1) (by omega) (by omega), w64 (days - bef y - year y) (by omega) (by omega), show days - bef y - year y = days - bef (y + 1) by omega]
      exact ih (y + 1) (by omega) (by omega) (by omega) (by omega)
    · refine Ev.ite_neg c ?_
      exact refCivil_l1 days y h1 h2 (by omega) hd2 11 1 _ (by omega) (by omega) rfl (by simp [cum]) (by omega)
theorem refCivil_ev (days : Int) : Ev (fun k => posthornref12_Civil.f k days) (civilR days) := by
  unfold posthornref12_Civil.f
  by_cases c : days < 0
  · rw [civilR_no (.inl c)]
    exact Ev.ite_pos c (Ev.step (fun k => by rw [posthornref12_Civil.j0]) (Ev.ite_pos rfl (Ev.now _)))
  refine Ev.ite_neg c ?_
  by_cases c2 : days > 2932896
  · rw [civilR_no (.inr c2), decide_eq_true c2]
    exact Ev.step (fun k => by rw [posthornref12_Civil.j0]) (Ev.ite_pos rfl (Ev.now _))
  rw [decide_eq_false c2]
  refine Ev.step (fun k => by rw [posthornref12_Civil.j0]) (Ev.ite_neg (by decide) ?_)
  have := refCivil_l0 days (by omega) (by omega) _ 1970 (by omega) (by omega) (by rw [show bef 1970 = 0 from by decide]; omega) rfl
  rw [show days - bef 1970 = days by rw [show bef 1970 = 0 from by decide]; omega] at this
  exact this
/-- The day behind a day. -/
def nextD (y m d : Int) : Int × Int × Int := if d < mon y m then (y, m, d + 1) else if m < 12 then (y, m + 1, 1) else (y + 1, 1, 1)
theorem next_ok (y m d : Int) (h : valid y m d) (hn : num y m d < 2932896) : valid (nextD y m d).1 (nextD y m d).2.1 (nextD y m d).2.2 ∧ num (nextD y m d).1 (nextD y m d).2.1 (nextD y m d).2.2 = num y m d + 1 := by
  obtain ⟨h1, h2, h3, h4, h5, h6⟩ := h
  unfold nextD
  by_cases c : d < mon y m
  · rw [if_pos c]; exact ⟨⟨h1, h2, h3, h4, by show 1 ≤ d + 1; omega, by show d + 1 ≤ mon y m; omega⟩, by show bef y + cum y (m.toNat - 1) + (d + 1) - 1 = bef y + cum y (m.toNat - 1) + d - 1 + 1; omega⟩
  rw [if_neg c]
  have st := cum_step y m h3
  by_cases c2 : m < 12
  · have mb := mon_bd y (m + 1)
    rw [if_pos c2]
    exact ⟨⟨h1, h2, by show 1 ≤ m + 1; omega, by show m + 1 ≤ 12; omega, by show (1 : Int) ≤ 1; omega, by show 1 ≤ mon y (m + 1); omega⟩, by show bef y + cum y ((m + 1).toNat - 1) + 1 - 1 = bef y + cum y (m.toNat - 1) + d - 1 + 1; rw [show (m + 1).toNat - 1 = m.toNat by omega]; omega⟩
  · obtain rfl : m = 12 := by omega
    rw [if_neg c2]
    have c12 := cum_12 y
    rw [show (12 : Int).toNat = 12 from rfl] at st
    have e := bef_succ y h1
    have mb := mon_bd (y + 1) 1
    have hy : y ≤ 9998 := by
      rcases Int.lt_or_le y 9999 with c3 | c3
      · omega
      · exfalso
        obtain rfl : y = 9999 := by omega
        rw [bef_10000] at e
        have hn' : bef 9999 + cum 9999 ((12 : Int).toNat - 1) + d - 1 < 2932896 := hn
        rw [show (12 : Int).toNat - 1 = 12 - 1 from rfl] at hn'
        omega
    refine ⟨⟨by show 1970 ≤ y + 1; omega, by show y + 1 ≤ 9999; omega, by show (1 : Int) ≤ 1; omega, by show (1 : Int) ≤ 12; omega, by show (1 : Int) ≤ 1; omega, by show 1 ≤ mon (y + 1) 1; omega⟩, ?_⟩
    show bef (y + 1) + 0 + 1 - 1 = bef y + cum y ((12 : Int).toNat - 1) + d - 1 + 1
    rw [show (12 : Int).toNat - 1 = 12 - 1 from rfl]
    omega
/-- There is a day of each number. -/
theorem civil_ex0 (n : Nat) (h1 : n ≤ 2932896) : ∃ y m d, valid y m d ∧ num y m d = n := by
  induction n with
  | zero => exact ⟨1970, 1, 1, by decide, by decide⟩
  | succ n ih =>
    obtain ⟨y, m, d, hv, he⟩ := ih (by omega)
    have := next_ok y m d hv (by omega)
    exact ⟨_, _, _, this.1, by rw [this.2]; omega⟩
theorem civil_ex (days : Int) (h0 : 0 ≤ days) (h1 : days ≤ 2932896) : ∃ y m d, valid y m d ∧ num y m d = days ∧ civilR days = (y, m, d, 0) := by
  obtain ⟨y, m, d, hv, he⟩ := civil_ex0 days.toNat (by omega)
  have e : num y m d = days := by omega
  exact ⟨y, m, d, hv, e, civilR_of hv e⟩
end Go.Proofs.YtiffbkfgimifbaaDoor.Print

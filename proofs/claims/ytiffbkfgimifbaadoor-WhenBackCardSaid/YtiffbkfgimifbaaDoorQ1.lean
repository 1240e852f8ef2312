/- Days of the calendar: what the program's and the reference's functions of a month, a year and a day come to. -/
import Derived.Test.YtiffbkfgimifbaaDoorPrint0
import Derived.Test.YtiffbkfgimifbaaDoorGMonth
import Derived.Test.YtiffbkfgimifbaaDoorPrint2
import Derived.Test.YtiffbkfgimifbaaDoorPrint9
namespace Go.Proofs.YtiffbkfgimifbaaDoor.Print
open Go.RowKit Go.Proofs.YtiffbkfgimifbaaDoorW.PrintWords Go.Proofs.YtiffbkfgimifbaaDoorW.PrintLast Go.Proofs.YtiffbkfgimifbaaDoorW.PrintMore

theorem Ev.ite_pos {α : Type} {c : Prop} [Decidable c] {g f : Nat → Option α} {r : α} (hc : c) (h : Ev g r) : Ev (fun k => if c then g k else f k) r := Ev.congr (fun _ => if_pos hc) h
theorem Ev.ite_neg {α : Type} {c : Prop} [Decidable c] {g f : Nat → Option α} {r : α} (hc : ¬ c) (h : Ev f r) : Ev (fun k => if c then g k else f k) r := Ev.congr (fun _ => if_neg hc) h
theorem Ev.bind_now {α β : Type} {x : Option α} {f : Nat → α → Option β} {a : α} {r : β} (h : x = some a) (k : Ev (fun n => f n a) r) : Ev (fun n => x.bind (f n)) r := Ev.congr (fun n => by rw [h]; rfl) k

namespace Cal
def leapB (y : Int) : Bool := (y % 4 == 0 && y % 100 != 0) || y % 400 == 0
def mon (y m : Int) : Int := if m = 2 then (if leapB y = true then 29 else 28) else if m = 4 ∨ m = 6 ∨ m = 9 ∨ m = 11 then 30 else 31
def year (y : Int) : Int := if leapB y = true then 366 else 365
/-- How many days lie ahead of a year. -/
def bef (y : Int) : Int := 365 * (y - 1970) + (y - 1) / 4 - (y - 1) / 100 + (y - 1) / 400 - 477
/-- How many days of a year lie ahead of a month (after n months). -/
def cum (y : Int) : Nat → Int
  | 0 => 0
  | n + 1 => cum y n + mon y (n + 1)
def valid (y m d : Int) : Prop := 1970 ≤ y ∧ y ≤ 9999 ∧ 1 ≤ m ∧ m ≤ 12 ∧ 1 ≤ d ∧ d ≤ mon y m
instance (y m d : Int) : Decidable (valid y m d) := by unfold valid; infer_instance
def num (y m d : Int) : Int := bef y + cum y (m.toNat - 1) + d - 1

theorem leapB_iff (y : Int) : leapB y = true ↔ (y % 4 = 0 ∧ ¬ y % 100 = 0) ∨ y % 400 = 0 := by simp [leapB]
theorem year_cases (y : Int) : year y = 365 ∨ year y = 366 := by unfold year; split <;> simp
theorem mon_bd (y m : Int) : 28 ≤ mon y m ∧ mon y m ≤ 31 := by unfold mon; (repeat' split) <;> omega
theorem bef_succ (y : Int) (h : 1970 ≤ y) : bef (y + 1) = bef y + year y := by
  unfold bef year
  by_cases c : leapB y = true
  · rw [if_pos c]; rw [leapB_iff] at c; omega
  · rw [if_neg c]; rw [leapB_iff] at c; omega
theorem bef_bd (y : Int) (h : 1970 ≤ y) (h2 : y ≤ 10000) : 0 ≤ bef y ∧ bef y ≤ 2932897 ∧ 365 * (y - 1970) ≤ bef y := by unfold bef; omega
theorem cum_12 (y : Int) : cum y 12 = year y := by
  simp only [cum, mon, year]
  by_cases c : leapB y = true <;> simp [c]
theorem cum_bd (y : Int) (n : Nat) : 28 * n ≤ cum y n ∧ cum y n ≤ 31 * n := by
  induction n with
  | zero => simp [cum]
  | succ n ih => have := mon_bd y (n + 1); simp only [cum]; omega
theorem cum_mono (y : Int) (n k : Nat) : cum y n ≤ cum y (n + k) := by
  induction k with
  | zero => exact Int.le_refl _
  | succ k ih => have := mon_bd y (n + k + 1 : Nat); have e : cum y (n + (k + 1)) = cum y (n + k) + mon y ((n + k : Nat) + 1) := rfl; rw [e]; have := mon_bd y ((n + k : Nat) + 1); omega
theorem cum_mono' (y : Int) {a b : Nat} (h : a ≤ b) : cum y a ≤ cum y b := by
  obtain ⟨k, rfl⟩ := Nat.le.dest h; exact cum_mono y a k
theorem bef_mono (k : Nat) : ∀ y, 1970 ≤ y → bef y ≤ bef (y + k) := by
  induction k with
  | zero => intro y _; simp
  | succ k ih =>
    intro y h
    have h1 := ih y h
    have h2 := bef_succ (y + k) (by omega)
    rcases year_cases (y + k) with e | e <;> rw [e] at h2 <;> (have e2 : (y + ((k + 1 : Nat) : Int)) = y + k + 1 := by omega) <;> rw [e2] <;> omega
theorem cum_step (y m : Int) (h : 1 ≤ m) : cum y (m.toNat - 1) + mon y m = cum y m.toNat := by
  obtain ⟨n, rfl⟩ : ∃ n : Nat, m = n + 1 := ⟨m.toNat - 1, by omega⟩
  have e : ((n : Int) + 1).toNat = n + 1 := by omega
  rw [e]; rfl
/-- A day of a year lies within it. -/
theorem num_in (y m d : Int) (h : valid y m d) : bef y ≤ num y m d ∧ num y m d < bef (y + 1) := by
  obtain ⟨h1, h2, h3, h4, h5, h6⟩ := h
  have a := cum_step y m h3
  have b := cum_mono' y (show m.toNat ≤ 12 by omega)
  have c := cum_bd y (m.toNat - 1)
  rw [cum_12] at b
  rw [bef_succ y h1]
  unfold num
  omega
theorem num_inj (y m d y' m' d' : Int) (h : valid y m d) (h' : valid y' m' d') (e : num y m d = num y' m' d') : y = y' ∧ m = m' ∧ d = d' := by
  have i1 := num_in y m d h
  have i2 := num_in y' m' d' h'
  have hy : y = y' := by
    rcases Int.lt_trichotomy y y' with c | c | c
    · have := bef_mono (y' - (y + 1)).toNat (y + 1) (by have := h.1; omega)
      have e2 : y + 1 + ((y' - (y + 1)).toNat : Int) = y' := by omega
      rw [e2] at this; omega
    · exact c
    · have := bef_mono (y - (y' + 1)).toNat (y' + 1) (by have := h'.1; omega)
      have e2 : y' + 1 + ((y - (y' + 1)).toNat : Int) = y := by omega
      rw [e2] at this; omega
  subst hy
  obtain ⟨h1, h2, h3, h4, h5, h6⟩ := h
  obtain ⟨_, _, g3, g4, g5, g6⟩ := h'
  have a := cum_step y m h3
  have a' := cum_step y m' g3
  unfold num at e
  have hm : m = m' := by
    rcases Int.lt_trichotomy m m' with c | c | c
    · have := cum_mono' y (show m.toNat ≤ m'.toNat - 1 by omega); omega
    · exact c
    · have := cum_mono' y (show m'.toNat ≤ m.toNat - 1 by omega); omega
  subst hm
  exact ⟨rfl, rfl, by omega⟩
end Cal
open Cal

theorem w64 (x : Int) (h0 : -9223372036854775808 ≤ x) (h1 : x ≤ 9223372036854775807) : wrap64 x = x := by unfold wrap64; omega

theorem leap_f (y : Int) (h : 0 ≤ y) : when_leap.f y = some (leapB y) := by
  unfold when_leap.f leapB
  rw [Int.tmod_eq_emod_of_nonneg h, Int.tmod_eq_emod_of_nonneg h, Int.tmod_eq_emod_of_nonneg h]
  by_cases c : y % 4 = 0
  · rw [if_pos c]
    by_cases c2 : y % 100 = 0
    · rw [if_pos c2]; simp [c, c2]
    · rw [if_neg c2]; simp [c, c2]
  · rw [if_neg c]; simp [c]
theorem month_f (y m : Int) (h : 0 ≤ y) (h1 : 1 ≤ m) (h2 : m ≤ 12) : when_month.f y m = some (mon y m) := by
  unfold when_month.f mon
  rw [if_pos (by omega)]
  by_cases c : m = 2
  · rw [if_pos c, if_pos c, leap_f y h]; rfl
  · rw [if_neg c, if_neg c]
    congr 1
    have hc : m = 1 ∨ m = 3 ∨ m = 4 ∨ m = 5 ∨ m = 6 ∨ m = 7 ∨ m = 8 ∨ m = 9 ∨ m = 10 ∨ m = 11 ∨ m = 12 := by omega
    rcases hc with rfl | rfl | rfl | rfl | rfl | rfl | rfl | rfl | rfl | rfl | rfl <;> decide
theorem before_f (y : Int) (h : 1970 ≤ y) (h2 : y ≤ 10000) : when_before.f y = some (bef y) := by
  unfold when_before.f bef
  have e1 : wrap64 (y - 1) = y - 1 := w64 _ (by omega) (by omega)
  rw [e1, Int.tdiv_eq_ediv_of_nonneg (by omega), Int.tdiv_eq_ediv_of_nonneg (by omega), Int.tdiv_eq_ediv_of_nonneg (by omega)]
  unfold wrap64
  congr 1
  omega
theorem refYear_f (y : Int) (h : 0 ≤ y) : posthornref12_Year.f y = some (year y) := by
  unfold posthornref12_Year.f year
  rw [Int.tmod_eq_emod_of_nonneg h, Int.tmod_eq_emod_of_nonneg h, Int.tmod_eq_emod_of_nonneg h]
  by_cases c : y % 400 = 0
  · rw [if_pos c, if_pos (by rw [leapB_iff]; omega)]
  · rw [if_neg c]
    by_cases c1 : y % 4 = 0
    · rw [if_pos c1]
      by_cases c2 : y % 100 = 0
      · rw [if_pos c2, if_neg (by rw [leapB_iff]; omega)]
      · rw [if_neg c2, if_pos (by rw [leapB_iff]; omega)]
    · rw [if_neg c1, if_neg (by rw [leapB_iff]; omega)]
theorem refMonth_ev (y m : Int) (h : 0 ≤ y) (h1 : 1 ≤ m) (h2 : m ≤ 12) : Ev (fun k => posthornref12_Month.f k y m) (mon y m) := by
  have hj : ∀ b, b = decide (m = 4 ∨ m = 6 ∨ m = 9 ∨ m = 11) → Ev (fun k => posthornref12_Month.j0 k y m b) (mon y m) := by
    intro b hb
    refine Ev.step (fun k => by rw [posthornref12_Month.j0]) ?_
    by_cases c : m = 4 ∨ m = 6 ∨ m = 9 ∨ m = 11
    · have hb' : b = true := by simpa [c] using hb
      refine Ev.ite_pos hb' ?_
      have : mon y m = 30 := by unfold mon; rw [if_neg (by omega), if_pos c]
      rw [this]; exact Ev.now _
    · have hb' : ¬ b = true := by simpa [c] using hb
      refine Ev.ite_neg hb' ?_
      by_cases c2 : m = 2
      · refine Ev.ite_pos c2 (Ev.bind_now (refYear_f y h) ?_)
        have : wrap64 (year y - 337) = mon y m := by
          rw [w64 _ (by rcases year_cases y with e | e <;> omega) (by rcases year_cases y with e | e <;> omega)]
          unfold mon year; rw [if_pos c2]; split <;> omega
        rw [this]; exact Ev.now _
      · refine Ev.ite_neg c2 ?_
        have : mon y m = 31 := by unfold mon; rw [if_neg c2, if_neg c]
        rw [this]; exact Ev.now _
  unfold posthornref12_Month.f
  by_cases c4 : m = 4
  · exact Ev.ite_pos c4 (hj _ (by subst c4; decide))
  refine Ev.ite_neg c4 ?_
  by_cases c6 : m = 6
  · exact Ev.ite_pos c6 (hj _ (by subst c6; decide))
  refine Ev.ite_neg c6 ?_
  by_cases c9 : m = 9
  · exact Ev.ite_pos c9 (hj _ (by subst c9; decide))
  refine Ev.ite_neg c9 (hj _ ?_)
  by_cases c11 : m = 11
  · subst c11; decide
  · simp [c4, c6, c9, c11]

/-- A day's number, or what is wrong. -/
def daysR (y m d : Int) : Int × Int := if valid y m d then (num y m d, 0) else (0, 110)

theorem whenDays_l (y : Int) (hy : 1970 ≤ y) (hy2 : y ≤ 9999) (m : Int) (hm : 1 ≤ m) (hm2 : m ≤ 12) (d : Nat) : ∀ (i n : Int), 0 ≤ i → i ≤ m → (m - i).toNat = d → -1000 ≤ n → n ≤ 9000000 + 31 * i →
    Ev (fun k => when_Days.l0 k y n m i) (n + cum y (m.toNat - 1) - cum y (i.toNat - 1), 0) := by
  induction d with
  | zero =>
    intro i n h0 h1 hd _ _
    obtain rfl : i = m := by omega
    refine Ev.step (fun k => by rw [when_Days.l0]) (Ev.ite_neg (by omega) ?_)
    rw [show n + cum y (i.toNat - 1) - cum y (i.toNat - 1) = n by omega]; exact Ev.now _
  | succ d ih =>
    intro i n h0 h1 hd n0 n1
    refine Ev.step (fun k => by rw [when_Days.l0]) (Ev.ite_pos (by omega) ?_)
    have e : wrap64 (i + 1) = i + 1 := w64 _ (by omega) (by omega)
    by_cases c : i > 0
    · have mb := mon_bd y i
      have st := cum_step y i (by omega)
      refine Ev.ite_pos c (Ev.bind_now (month_f y i (by omega) (by omega) (by omega)) ?_)
      have e2 : wrap64 (n + mon y i) = n + mon y i := w64 _ (by omega) (by omega)
      simp only [e2, e]
      have := ih (i + 1) (n + mon y i) (by omega) (by omega) (by omega) (by omega) (by omega)
      have e3 : (i + 1).toNat - 1 = i.toNat := by omega
      rw [e3] at this
      rw [show n + cum y (m.toNat - 1) - cum y (i.toNat - 1) = n + mon y i + cum y (m.toNat - 1) - cum y i.toNat by omega]
      exact this
    · obtain rfl : i = 0 := by omega
      refine Ev.ite_neg c ?_
      rw [e]
      have := ih (0 + 1) n (by omega) (by omega) (by omega) n0 (by omega)
      simpa using this

theorem whenDays_j_no (y m d : Int) : Ev (fun k => when_Days.j0 k y m d true) (0, 110) :=
  Ev.step (fun k => by rw [when_Days.j0]) (Ev.ite_pos rfl (Ev.now _))
theorem whenDays_ev (y m d : Int) : Ev (fun k => when_Days.f k y m d) (daysR y m d) := by
  unfold daysR when_Days.f
  by_cases c1 : y < 1970
  · rw [if_neg (by unfold valid; omega)]; exact Ev.ite_pos c1 (whenDays_j_no _ _ _)
  refine Ev.ite_neg c1 ?_
  by_cases c2 : y > 9999
  · rw [if_neg (by unfold valid; omega)]; exact Ev.ite_pos c2 (whenDays_j_no _ _ _)
  refine Ev.ite_neg c2 ?_
  by_cases c3 : m < 1
  · rw [if_neg (by unfold valid; omega)]; exact Ev.ite_pos c3 (whenDays_j_no _ _ _)
  refine Ev.ite_neg c3 ?_
  by_cases c4 : m > 12
  · rw [if_neg (by unfold valid; omega)]; exact Ev.ite_pos c4 (whenDays_j_no _ _ _)
  refine Ev.ite_neg c4 ?_
  by_cases c5 : d < 1
  · rw [if_neg (by unfold valid; omega)]; exact Ev.ite_pos c5 (whenDays_j_no _ _ _)
  refine Ev.ite_neg c5 (Ev.bind_now (month_f y m (by omega) (by omega) (by omega)) ?_)
  by_cases c6 : d > mon y m
  · rw [if_neg (by unfold valid; omega), decide_eq_true c6]; exact whenDays_j_no _ _ _
  · have mb := mon_bd y m
    have bb := bef_bd y (by omega) (by omega)
    rw [if_pos (by unfold valid; omega), decide_eq_false c6]
    refine Ev.step (fun k => by rw [when_Days.j0]) (Ev.ite_neg (by decide) (Ev.bind_now (before_f y (by omega) (by omega)) ?_))
    rw [w64 (bef y + d) (by omega) (by omega), w64 _ (by omega) (by omega)]
    have := whenDays_l y (by omega) (by omega) m (by omega) (by omega) m.toNat 0 (bef y + d - 1) (by omega) (by omega) (by omega) (by omega) (by omega)
    have e : bef y + d - 1 + cum y (m.toNat - 1) - cum y ((0 : Int).toNat - 1) = num y m d := by unfold num; simp [cum]; omega
    rw [e] at this
    exact this

theorem refDays_l1 (y : Int) (hy : 1970 ≤ y) (hy2 : y ≤ 9999) (m : Int) (hm2 : m ≤ 12) (dd : Int) (d0 : 1 ≤ dd) (d1 : dd ≤ 31) (d : Nat) : ∀ (i n : Int), 1 ≤ i → i ≤ m → (m - i).toNat = d → 0 ≤ n → n ≤ 9000000 + 31 * i →
    Ev (fun k => posthornref12_Days.l1 k y m dd n i) (n + cum y (m.toNat - 1) - cum y (i.toNat - 1) + dd - 1, 0) := by
  induction d with
  | zero =>
    intro i n h0 h1 hd _ _
    obtain rfl : i = m := by omega
    refine Ev.step (fun k => by rw [posthornref12_Days.l1]) (Ev.ite_neg (by omega) ?_)
    rw [w64 (n + dd) (by omega) (by omega), w64 _ (by omega) (by omega), show n + cum y (i.toNat - 1) - cum y (i.toNat - 1) + dd - 1 = n + dd - 1 by omega]; exact Ev.now _
  | succ d ih =>
    intro i n h0 h1 hd n0 n1
    refine Ev.step (fun k => by rw [posthornref12_Days.l1]) (Ev.ite_pos (by omega) ?_)
    have mb := mon_bd y i
    have st := cum_step y i (by omega)
    refine Ev.bind (refMonth_ev y i (by omega) (by omega) (by omega)) ?_
    simp only [w64 (i + 1) (by omega) (by omega), w64 (n + mon y i) (by omega) (by omega)]
    have := ih (i + 1) (n + mon y i) (by omega) (by omega) (by omega) (by omega) (by omega)
    rw [show (i + 1).toNat - 1 = i.toNat by omega] at this
    rw [show n + cum y (m.toNat - 1) - cum y (i.toNat - 1) + dd - 1 = n + mon y i + cum y (m.toNat - 1) - cum y i.toNat + dd - 1 by omega]
    exact this
theorem refDays_l0 (y : Int) (hy : 1970 ≤ y) (hy2 : y ≤ 9999) (m : Int) (hm : 1 ≤ m) (hm2 : m ≤ 12) (dd : Int) (d0 : 1 ≤ dd) (d1 : dd ≤ 31) (d : Nat) : ∀ (i : Int), 1970 ≤ i → i ≤ y → (y - i).toNat = d →
    Ev (fun k => posthornref12_Days.l0 k y m dd (bef i) i) (num y m dd, 0) := by
  induction d with
  | zero =>
    intro i h0 h1 hd
    obtain rfl : i = y := by omega
    have bb := bef_bd i h0 (by omega)
    refine Ev.step (fun k => by rw [posthornref12_Days.l0]) (Ev.ite_neg (by omega) ?_)
    have := refDays_l1 i hy hy2 m hm2 dd d0 d1 (m - 1).toNat 1 (bef i) (by omega) (by omega) rfl (by omega) (by omega)
    have e : bef i + cum i (m.toNat - 1) - cum i ((1 : Int).toNat - 1) + dd - 1 = num i m dd := by unfold num; simp [cum]
    rw [e] at this
    exact this
  | succ d ih =>
    intro i h0 h1 hd
    have bb := bef_bd i h0 (by omega)
    have bs := bef_succ i h0
    refine Ev.step (fun k => by rw [posthornref12_Days.l0]) (Ev.ite_pos (by omega) (Ev.bind_now (refYear_f i (by omega)) ?_))
    rw [w64 (i + 1) (by omega) (by omega), w64 (bef i + year i) (by rcases year_cases i with e | e <;> omega) (by rcases year_cases i with e | e <;> omega), ← bs]
    exact ih (i + 1) (by omega) (by omega) (by omega)
theorem refDays_j_no (y m d : Int) : Ev (fun k => posthornref12_Days.j0 k y m d true) (0, 110) :=
  Ev.step (fun k => by rw [posthornref12_Days.j0]) (Ev.ite_pos rfl (Ev.now _))
theorem refDays_ev (y m d : Int) : Ev (fun k => posthornref12_Days.f k y m d) (daysR y m d) := by
  unfold daysR posthornref12_Days.f
  by_cases c1 : y < 1970
  · rw [if_neg (by unfold valid; omega)]; exact Ev.ite_pos c1 (refDays_j_no _ _ _)
  refine Ev.ite_neg c1 ?_
  by_cases c2 : y > 9999
  · rw [if_neg (by unfold valid; omega)]; exact Ev.ite_pos c2 (refDays_j_no _ _ _)
  refine Ev.ite_neg c2 ?_
  by_cases c3 : m < 1
  · rw [if_neg (by unfold valid; omega)]; exact Ev.ite_pos c3 (refDays_j_no _ _ _)
  refine Ev.ite_neg c3 ?_
  by_cases c4 : m > 12
  · rw [if_neg (by unfold valid; omega)]; exact Ev.ite_pos c4 (refDays_j_no _ _ _)
  refine Ev.ite_neg c4 ?_
  by_cases c5 : d < 1
  · rw [if_neg (by unfold valid; omega)]; exact Ev.ite_pos c5 (refDays_j_no _ _ _)
  refine Ev.ite_neg c5 (Ev.bind (refMonth_ev y m (by omega) (by omega) (by omega)) ?_)
  by_cases c6 : d > mon y m
  · rw [if_neg (by unfold valid; omega), decide_eq_true c6]; exact refDays_j_no _ _ _
  · have mb := mon_bd y m
    rw [if_pos (by unfold valid; omega), decide_eq_false c6]
    refine Ev.step (fun k => by rw [posthornref12_Days.j0]) (Ev.ite_neg (by decide) ?_)
    have := refDays_l0 y (by omega) (by omega) m (by omega) (by omega) d (by omega) (by omega) (y - 1970).toNat 1970 (by omega) (by omega) rfl
    simpa [show bef 1970 = 0 from by decide] using this
end Go.Proofs.YtiffbkfgimifbaaDoor.Print

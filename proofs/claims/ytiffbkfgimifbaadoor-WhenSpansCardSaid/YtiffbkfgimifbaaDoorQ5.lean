/- Times are read. -/
import Derived.Test.YtiffbkfgimifbaaDoorPrint0
import Derived.Test.YtiffbkfgimifbaaDoorPrint10
import Derived.Test.YtiffbkfgimifbaaDoorPrint4
import Derived.Test.YtiffbkfgimifbaaDoorQ4
namespace Go.Proofs.YtiffbkfgimifbaaDoor.Print
open Go.RowKit Go.Proofs.YtiffbkfgimifbaaDoorW.PrintWords Go.Proofs.YtiffbkfgimifbaaDoorW.PrintLast Go.Proofs.YtiffbkfgimifbaaDoorW.PrintMore
open Cal

theorem dg_toNat (n : Int) : ((dg n).toNat : Int) = 48 + n % 10 := by
  unfold dg
  rw [UInt8.toNat_ofNat_of_lt' (by simp [UInt8.size]; omega)]
  omega
theorem dg_isD (n : Int) : isD (dg n) = true := by rw [isD_iff]; have := dg_toNat n; omega
theorem dg_eq {n : Int} {c : UInt8} (h : 48 + n % 10 = (c.toNat : Int)) : dg n = c := by
  have := dg_toNat n
  exact UInt8.toNat_inj.mp (by omega)
theorem numR_d2 (n : Int) (h0 : 0 ≤ n) (h1 : n ≤ 99) : numR (d2 n) = n := by
  unfold numR d2
  rw [if_neg (by simp [dg_isD])]
  simp only [dv, List.foldl_cons, List.foldl_nil, dg_toNat]
  omega
theorem numR_d4 (n : Int) (h0 : 0 ≤ n) (h1 : n ≤ 9999) : numR (d4 n) = n := by
  unfold numR d4
  rw [if_neg (by simp [dg_isD])]
  simp only [dv, List.foldl_cons, List.foldl_nil, dg_toNat]
  omega
theorem numR_nonneg {l : List UInt8} (h : 0 ≤ numR l) : l.all isD = true ∧ numR l = dv 0 l := by
  unfold numR at h ⊢
  by_cases c : l = [] ∨ 10 < l.length ∨ l.all isD = false
  · rw [if_pos c] at h; omega
  · rw [if_neg c]
    refine ⟨?_, rfl⟩
    rcases hb : l.all isD with _ | _
    · exact absurd (.inr (.inr hb)) c
    · rfl
theorem d2_numR (a b : UInt8) (h : 0 ≤ numR [a, b]) : d2 (numR [a, b]) = [a, b] := by
  obtain ⟨ha, e⟩ := numR_nonneg h
  rw [e]
  simp only [List.all_cons, List.all_nil, Bool.and_true, Bool.and_eq_true, isD_iff] at ha
  simp only [dv, List.foldl_cons, List.foldl_nil]
  unfold d2
  rw [dg_eq (c := a) (by omega), dg_eq (c := b) (by omega)]
theorem d4_numR (a b c d : UInt8) (h : 0 ≤ numR [a, b, c, d]) : d4 (numR [a, b, c, d]) = [a, b, c, d] := by
  obtain ⟨ha, e⟩ := numR_nonneg h
  rw [e]
  simp only [List.all_cons, List.all_nil, Bool.and_true, Bool.and_eq_true, isD_iff] at ha
  simp only [dv, List.foldl_cons, List.foldl_nil]
  unfold d4
  rw [dg_eq (c := a) (by omega), dg_eq (c := b) (by omega), dg_eq (c := c) (by omega), dg_eq (c := d) (by omega)]
theorem numR_bd (l : List UInt8) : -1 ≤ numR l ∧ numR l ≤ 9999999999 := by
  unfold numR
  by_cases c : l = [] ∨ 10 < l.length ∨ l.all isD = false
  · rw [if_pos c]; omega
  · rw [if_neg c]
    have hb : l.all isD = true := by
      rcases hb : l.all isD with _ | _
      · exact absurd (.inr (.inr hb)) c
      · rfl
    have := dv_nonneg l hb
    have p := pow10_le (a := l.length) (Nat.le_of_not_lt fun x => c (.inr (.inl x)))
    omega

/-- The numbers of a text of sixteen bytes, and whether they are a time's. -/
def fY (l : List UInt8) : Int := numR (l.take 4)
def fM (l : List UInt8) : Int := numR ((l.drop 4).take 2)
def fD (l : List UInt8) : Int := numR ((l.drop 6).take 2)
def fH (l : List UInt8) : Int := numR ((l.drop 9).take 2)
def fI (l : List UInt8) : Int := numR ((l.drop 11).take 2)
def fS (l : List UInt8) : Int := numR ((l.drop 13).take 2)
def isTime (l : List UInt8) : Prop := l.length = 16 ∧ l[8]? = some 84 ∧ l[15]? = some 90 ∧ valid (fY l) (fM l) (fD l) ∧ (0 ≤ fH l ∧ fH l ≤ 23) ∧ (0 ≤ fI l ∧ fI l ≤ 59) ∧ (0 ≤ fS l ∧ fS l ≤ 59)
instance (l : List UInt8) : Decidable (isTime l) := by unfold isTime; infer_instance
def timeV (l : List UInt8) : Int := num (fY l) (fM l) (fD l) * 86400 + fH l * 3600 + fI l * 60 + fS l
/-- A text is read as a time, or is none. -/
def parseR (l : List UInt8) : Int × Int := if isTime l then (timeV l, 0) else (0, 110)

theorem bt_get {s : ByteArray} {i : Nat} {c : Int} (h : i < (bl s).length) : bt s i = c ↔ ((bl s)[i].toNat : Int) = c := by rw [bt_lt h]
theorem get_some {l : List UInt8} {i : Nat} (h : i < l.length) (c : UInt8) : l[i]? = some c ↔ (l[i].toNat : Int) = c.toNat := by
  rw [List.getElem?_eq_getElem h, Option.some.injEq]
  constructor
  · intro e; rw [e]
  · intro e; exact UInt8.toNat_inj.mp (by omega)

theorem whenParse_j_no (s : ByteArray) : Ev (fun k => when_Parse.j0 k s true) (0, 110) := Ev.step (fun k => by rw [when_Parse.j0]) (Ev.ite_pos rfl (Ev.now _))
theorem num_small {y m d : Int} (h : valid y m d) : 0 ≤ num y m d ∧ num y m d ≤ 2932896 := num_bd y m d h
theorem whenParse_ev (s : ByteArray) (hs : (bl s).length ≤ 9223372036854775807) : Ev (fun k => when_Parse.f k s) (parseR (bl s)) := by
  unfold when_Parse.f parseR
  by_cases c : (s.size : Int) = 16
  · have hl : (bl s).length = 16 := by rw [bl_size] at c; omega
    refine Ev.ite_pos c (Ev.ite_pos (by omega) ?_)
    by_cases c8 : bt s 8 = 84
    · refine Ev.ite_pos c8 (Ev.ite_pos (by omega) ?_)
      have g8 : (bl s)[8]? = some 84 := (get_some (by omega) 84).mpr ((bt_get (i := 8) (by omega)).mp c8)
      by_cases c15 : bt s 15 = 90
      · have g15 : (bl s)[15]? = some 90 := (get_some (by omega) 90).mpr ((bt_get (i := 15) (by omega)).mp c15)
        rw [show (bt s 15 != 90) = false by rw [c15]; rfl]
        have num (a b : Nat) : Ev (fun k => when_number.f k (s.extract a b)) (numR (((bl s).drop a).take (b - a))) := by
          have := whenNumber_ev (s.extract a b) (by rw [bl_extract, List.length_take, List.length_drop]; omega)
          rw [bl_extract] at this
          exact this
        refine Ev.step (fun k => by rw [when_Parse.j0]) ?_
        refine Ev.ite_neg (by decide) ?_
        refine Ev.ite_pos (show 9 ≤ 11 by decide) (Ev.ite_pos (show (11 : Int) ≤ (s.size : Int) by omega) (Ev.bind (num 9 11) ?_))
        refine Ev.ite_pos (show 11 ≤ 13 by decide) (Ev.ite_pos (show (13 : Int) ≤ (s.size : Int) by omega) (Ev.bind (num 11 13) ?_))
        refine Ev.ite_pos (show 13 ≤ 15 by decide) (Ev.ite_pos (show (15 : Int) ≤ (s.size : Int) by omega) (Ev.bind (num 13 15) ?_))
        refine Ev.ite_pos (show 0 ≤ 4 by decide) (Ev.ite_pos (show (4 : Int) ≤ (s.size : Int) by omega) (Ev.bind (num 0 4) ?_))
        refine Ev.ite_pos (show 4 ≤ 6 by decide) (Ev.ite_pos (show (6 : Int) ≤ (s.size : Int) by omega) (Ev.bind (num 4 6) ?_))
        refine Ev.ite_pos (show 6 ≤ 8 by decide) (Ev.ite_pos (show (8 : Int) ≤ (s.size : Int) by omega) (Ev.bind (num 6 8) ?_))
        refine Ev.bind (whenDays_ev _ _ _) ?_
        have eY : numR (((bl s).drop 0).take (4 - 0)) = fY (bl s) := rfl
        have eM : numR (((bl s).drop 4).take (6 - 4)) = fM (bl s) := rfl
        have eD : numR (((bl s).drop 6).take (8 - 6)) = fD (bl s) := rfl
        have eH : numR (((bl s).drop 9).take (11 - 9)) = fH (bl s) := rfl
        have eI : numR (((bl s).drop 11).take (13 - 11)) = fI (bl s) := rfl
        have eS : numR (((bl s).drop 13).take (15 - 13)) = fS (bl s) := rfl
        rw [eY, eM, eD, eH, eI, eS]
        have T : isTime (bl s) ↔ valid (fY (bl s)) (fM (bl s)) (fD (bl s)) ∧ (0 ≤ fH (bl s) ∧ fH (bl s) ≤ 23) ∧ (0 ≤ fI (bl s) ∧ fI (bl s) ≤ 59) ∧ (0 ≤ fS (bl s) ∧ fS (bl s) ≤ 59) := by
          unfold isTime
          exact ⟨fun h => h.2.2.2, fun h => ⟨hl, g8, g15, h⟩⟩
        have hv : timeV (bl s) = Cal.num (fY (bl s)) (fM (bl s)) (fD (bl s)) * 86400 + fH (bl s) * 3600 + fI (bl s) * 60 + fS (bl s) := rfl
        generalize fY (bl s) = y at T hv ⊢
        generalize fM (bl s) = m at T hv ⊢
        generalize fD (bl s) = d at T hv ⊢
        generalize fH (bl s) = h at T hv ⊢
        generalize fI (bl s) = i at T hv ⊢
        generalize fS (bl s) = z at T hv ⊢
        unfold daysR
        by_cases v : valid y m d
        · rw [if_pos v]
          have nb := num_small v
          refine Ev.ite_pos (by first | trivial | rfl) ?_
          by_cases h1 : h < 0
          · have hn : ¬ isTime (bl s) := by rw [T]; omega
            rw [if_neg hn]; exact Ev.ite_pos h1 (Ev.now _)
          refine Ev.ite_neg h1 ?_
          by_cases h2 : h > 23
          · have hn : ¬ isTime (bl s) := by rw [T]; omega
            rw [if_neg hn]; exact Ev.ite_pos h2 (Ev.now _)
          refine Ev.ite_neg h2 ?_
          by_cases h3 : i < 0
          · have hn : ¬ isTime (bl s) := by rw [T]; omega
            rw [if_neg hn]; exact Ev.ite_pos h3 (Ev.now _)
          refine Ev.ite_neg h3 ?_
          by_cases h4 : i > 59
          · have hn : ¬ isTime (bl s) := by rw [T]; omega
            rw [if_neg hn]; exact Ev.ite_pos h4 (Ev.now _)
          refine Ev.ite_neg h4 ?_
          by_cases h5 : z < 0
          · have hn : ¬ isTime (bl s) := by rw [T]; omega
            rw [if_neg hn]; exact Ev.ite_pos h5 (Ev.now _)
          refine Ev.ite_neg h5 ?_
          by_cases h6 : z > 59
          · have hn : ¬ isTime (bl s) := by rw [T]; omega
            rw [if_neg hn]; exact Ev.ite_pos h6 (Ev.now _)
          refine Ev.ite_neg h6 ?_
          have hp : isTime (bl s) := T.mpr ⟨v, by omega, by omega, by omega⟩
          rw [if_pos hp, hv]
          simp only []
          rw [w64 (h * 3600) (by omega) (by omega), w64 (i * 60) (by omega) (by omega), w64 (Cal.num y m d * 86400) (by omega) (by omega), w64 (Cal.num y m d * 86400 + h * 3600) (by omega) (by omega), w64 (Cal.num y m d * 86400 + h * 3600 + i * 60) (by omega) (by omega), w64 _ (by omega) (by omega)]
          exact Ev.now _
        · have hn : ¬ isTime (bl s) := fun x => v (T.mp x).1
          rw [if_neg v, if_neg hn]
          exact Ev.ite_neg (by decide) (Ev.now _)
      · have hn : ¬ isTime (bl s) := fun x => c15 ((bt_get (i := 15) (by omega)).mpr ((get_some (by omega) 90).mp x.2.2.1))
        rw [if_neg hn, show (bt s 15 != 90) = true by simpa using c15]
        exact whenParse_j_no s
    · have hn : ¬ isTime (bl s) := fun x => c8 ((bt_get (i := 8) (by omega)).mpr ((get_some (by omega) 84).mp x.2.1))
      rw [if_neg hn]
      exact Ev.ite_neg c8 (whenParse_j_no s)
  · have hn : ¬ isTime (bl s) := fun x => c (by rw [bl_size, x.1]; rfl)
    rw [if_neg hn]
    exact Ev.ite_neg c (whenParse_j_no s)

theorem list16 (l : List UInt8) (h : l.length = 16) : ∃ a b c d e f g i j k m n o p q r, l = [a, b, c, d, e, f, g, i, j, k, m, n, o, p, q, r] := by
  match l, h with
  | [a, b, c, d, e, f, g, i, j, k, m, n, o, p, q, r], _ => exact ⟨a, b, c, d, e, f, g, i, j, k, m, n, o, p, q, r, rfl⟩
/-- What is read as a time is what would be written so. -/
theorem timeL_of {l : List UInt8} (h : isTime l) : timeL (fY l) (fM l) (fD l) (fH l * 3600 + fI l * 60 + fS l) = l := by
  obtain ⟨hl, g8, g15, v, hh, hi, hz⟩ := h
  obtain ⟨a, b, c, d, e, f, g, i, j, k, m, n, o, p, q, r, rfl⟩ := list16 l hl
  unfold timeL
  have e1 : (fH [a, b, c, d, e, f, g, i, j, k, m, n, o, p, q, r] * 3600 + fI [a, b, c, d, e, f, g, i, j, k, m, n, o, p, q, r] * 60 + fS [a, b, c, d, e, f, g, i, j, k, m, n, o, p, q, r]) / 3600 = fH [a, b, c, d, e, f, g, i, j, k, m, n, o, p, q, r] := by omega
  have e2 : (fH [a, b, c, d, e, f, g, i, j, k, m, n, o, p, q, r] * 3600 + fI [a, b, c, d, e, f, g, i, j, k, m, n, o, p, q, r] * 60 + fS [a, b, c, d, e, f, g, i, j, k, m, n, o, p, q, r]) / 60 % 60 = fI [a, b, c, d, e, f, g, i, j, k, m, n, o, p, q, r] := by omega
  have e3 : (fH [a, b, c, d, e, f, g, i, j, k, m, n, o, p, q, r] * 3600 + fI [a, b, c, d, e, f, g, i, j, k, m, n, o, p, q, r] * 60 + fS [a, b, c, d, e, f, g, i, j, k, m, n, o, p, q, r]) % 60 = fS [a, b, c, d, e, f, g, i, j, k, m, n, o, p, q, r] := by omega
  rw [e1, e2, e3]
  obtain ⟨v1, v2, v3, v4, v5, v6⟩ := v
  have y : d4 (fY [a, b, c, d, e, f, g, i, j, k, m, n, o, p, q, r]) = [a, b, c, d] := d4_numR a b c d (by have : 1970 ≤ numR [a, b, c, d] := v1; omega)
  have mm : d2 (fM [a, b, c, d, e, f, g, i, j, k, m, n, o, p, q, r]) = [e, f] := d2_numR e f (by have : 1 ≤ numR [e, f] := v3; omega)
  have dd : d2 (fD [a, b, c, d, e, f, g, i, j, k, m, n, o, p, q, r]) = [g, i] := d2_numR g i (by have : 1 ≤ numR [g, i] := v5; omega)
  have h2 : d2 (fH [a, b, c, d, e, f, g, i, j, k, m, n, o, p, q, r]) = [k, m] := d2_numR k m hh.1
  have i2 : d2 (fI [a, b, c, d, e, f, g, i, j, k, m, n, o, p, q, r]) = [n, o] := d2_numR n o hi.1
  have z2 : d2 (fS [a, b, c, d, e, f, g, i, j, k, m, n, o, p, q, r]) = [p, q] := d2_numR p q hz.1
  rw [y, mm, dd, h2, i2, z2]
  simp at g8 g15
  rw [g8, g15]
  rfl
/-- What is written is read as it was. -/
theorem time_back {y m d s : Int} (v : valid y m d) (h0 : 0 ≤ s) (h1 : s < 86400) : isTime (timeL y m d s) ∧ timeV (timeL y m d s) = num y m d * 86400 + s := by
  have a1 : fY (timeL y m d s) = y := by show numR (d4 y) = y; exact numR_d4 y (by have := v.1; omega) (by have := v.2.1; omega)
  have mb := mon_bd y m
  have a2 : fM (timeL y m d s) = m := by show numR (d2 m) = m; exact numR_d2 m (by have := v.2.2.1; omega) (by have := v.2.2.2.1; omega)
  have a3 : fD (timeL y m d s) = d := by show numR (d2 d) = d; exact numR_d2 d (by have := v.2.2.2.2.1; omega) (by have := v.2.2.2.2.2; omega)
  have a4 : fH (timeL y m d s) = s / 3600 := by show numR (d2 (s / 3600)) = s / 3600; exact numR_d2 _ (by omega) (by omega)
  have a5 : fI (timeL y m d s) = s / 60 % 60 := by show numR (d2 (s / 60 % 60)) = s / 60 % 60; exact numR_d2 _ (by omega) (by omega)
  have a6 : fS (timeL y m d s) = s % 60 := by show numR (d2 (s % 60)) = s % 60; exact numR_d2 _ (by omega) (by omega)
  constructor
  · refine ⟨timeL_size _ _ _ _, rfl, rfl, ?_⟩
    rw [a1, a2, a3, a4, a5, a6]
    exact ⟨v, by omega, by omega, by omega⟩
  · unfold timeV
    rw [a1, a2, a3, a4, a5, a6]
    omega
theorem printR_ok {t : Int} (h : 0 ≤ t ∧ t ≤ 253402300799) : ∃ y m d, valid y m d ∧ num y m d = t / 86400 ∧ printR t = (⟨(timeL y m d (t % 86400)).toArray⟩, 0) := by
  obtain ⟨y, m, d, hv, he, hc⟩ := civil_ex (t / 86400) (by omega) (by omega)
  refine ⟨y, m, d, hv, he, ?_⟩
  unfold printR
  rw [if_pos h, hc]
theorem refParse_ev (s : ByteArray) : Ev (fun k => posthornref12_Parse.f k s) (parseR (bl s)) := by
  unfold posthornref12_Parse.f
  by_cases c : (s.size : Int) = 16
  · have hl : (bl s).length = 16 := by rw [bl_size] at c; omega
    have num (a b : Nat) : Ev (fun k => posthornref12_Value.f k (s.extract a b)) (numR (((bl s).drop a).take (b - a))) := by
      have := refValue_ev (s.extract a b)
      rw [bl_extract] at this
      exact this
    refine Ev.ite_pos c ?_
    refine Ev.ite_pos (show 0 ≤ 4 by decide) (Ev.ite_pos (show (4 : Int) ≤ (s.size : Int) by omega) (Ev.bind (num 0 4) ?_))
    refine Ev.ite_pos (show 4 ≤ 6 by decide) (Ev.ite_pos (show (6 : Int) ≤ (s.size : Int) by omega) (Ev.bind (num 4 6) ?_))
    refine Ev.ite_pos (show 6 ≤ 8 by decide) (Ev.ite_pos (show (8 : Int) ≤ (s.size : Int) by omega) (Ev.bind (num 6 8) ?_))
    refine Ev.bind (refDays_ev _ _ _) ?_
    refine Ev.ite_pos (show 9 ≤ 11 by decide) (Ev.ite_pos (show (11 : Int) ≤ (s.size : Int) by omega) (Ev.bind (num 9 11) ?_))
    refine Ev.ite_pos (show 11 ≤ 13 by decide) (Ev.ite_pos (show (13 : Int) ≤ (s.size : Int) by omega) (Ev.bind (num 11 13) ?_))
    refine Ev.ite_pos (show 13 ≤ 15 by decide) (Ev.ite_pos (show (15 : Int) ≤ (s.size : Int) by omega) (Ev.bind (num 13 15) ?_))
    refine Ev.bind (refPrint_ev _) ?_
    have eY : numR (((bl s).drop 0).take (4 - 0)) = fY (bl s) := rfl
    have eM : numR (((bl s).drop 4).take (6 - 4)) = fM (bl s) := rfl
    have eD : numR (((bl s).drop 6).take (8 - 6)) = fD (bl s) := rfl
    have eH : numR (((bl s).drop 9).take (11 - 9)) = fH (bl s) := rfl
    have eI : numR (((bl s).drop 11).take (13 - 11)) = fI (bl s) := rfl
    have eS : numR (((bl s).drop 13).take (15 - 13)) = fS (bl s) := rfl
    rw [eY, eM, eD, eH, eI, eS]
    have hb := numR_bd ((bl s).drop 9 |>.take 2)
    have ib := numR_bd ((bl s).drop 11 |>.take 2)
    have zb := numR_bd ((bl s).drop 13 |>.take 2)
    have hb' : -1 ≤ fH (bl s) ∧ fH (bl s) ≤ 9999999999 := hb
    have ib' : -1 ≤ fI (bl s) ∧ fI (bl s) ≤ 9999999999 := ib
    have zb' : -1 ≤ fS (bl s) ∧ fS (bl s) ≤ 9999999999 := zb
    unfold daysR
    by_cases v : valid (fY (bl s)) (fM (bl s)) (fD (bl s))
    · rw [if_pos v]
      have nb := num_small v
      simp only []
      rw [w64 (3600 * fH (bl s)) (by omega) (by omega), w64 (60 * fI (bl s)) (by omega) (by omega), w64 (86400 * Cal.num (fY (bl s)) (fM (bl s)) (fD (bl s))) (by omega) (by omega), w64 (86400 * Cal.num (fY (bl s)) (fM (bl s)) (fD (bl s)) + 3600 * fH (bl s)) (by omega) (by omega),
        w64 (86400 * Cal.num (fY (bl s)) (fM (bl s)) (fD (bl s)) + 3600 * fH (bl s) + 60 * fI (bl s)) (by omega) (by omega), w64 _ (by omega) (by omega)]
      have et : 86400 * Cal.num (fY (bl s)) (fM (bl s)) (fD (bl s)) + 3600 * fH (bl s) + 60 * fI (bl s) + fS (bl s) = timeV (bl s) := by unfold timeV; omega
      rw [et]
      refine Ev.ite_pos (by first | trivial | rfl) ?_
      by_cases tr : 0 ≤ timeV (bl s) ∧ timeV (bl s) ≤ 253402300799
      · obtain ⟨y, m, d, v', e', hp⟩ := printR_ok tr
        rw [hp]
        refine Ev.ite_pos (by first | trivial | rfl) ?_
        have hback := time_back (s := timeV (bl s) % 86400) v' (by omega) (by omega)
        by_cases q : timeL y m d (timeV (bl s) % 86400) = bl s
        · refine Ev.ite_pos (by rw [bl_toList, bl_toList, bl_mk]; exact q) ?_
          rw [q] at hback
          unfold parseR
          rw [if_pos hback.1]
          exact Ev.now _
        · refine Ev.ite_neg (by rw [bl_toList, bl_toList, bl_mk]; exact q) ?_
          unfold parseR
          rw [if_neg]
          · exact Ev.now _
          · intro h
            refine q ?_
            have ht := timeL_of h
            obtain ⟨_, _, _, _, h1, h2, h3⟩ := h
            have d1 : timeV (bl s) / 86400 = Cal.num (fY (bl s)) (fM (bl s)) (fD (bl s)) := by unfold timeV; omega
            have d2' : timeV (bl s) % 86400 = fH (bl s) * 3600 + fI (bl s) * 60 + fS (bl s) := by unfold timeV; omega
            obtain ⟨i1, i2, i3⟩ := num_inj _ _ _ _ _ _ v' v (e'.trans d1)
            rw [i1, i2, i3, d2']
            exact ht
      · have hp : printR (timeV (bl s)) = (⟨#[]⟩, 110) := by unfold printR; rw [if_neg tr]
        rw [hp]
        refine Ev.ite_neg (by decide) ?_
        unfold parseR
        rw [if_neg]
        · exact Ev.now _
        · rintro ⟨_, _, _, _, h1, h2, h3⟩
          exact tr (by unfold timeV; omega)
    · rw [if_neg v]
      refine Ev.ite_neg (by decide) ?_
      unfold parseR
      have hn : ¬ isTime (bl s) := fun x => v x.2.2.2.1
      rw [if_neg hn]
      exact Ev.now _
  · unfold parseR
    have hn : ¬ isTime (bl s) := fun x => c (by rw [bl_size, x.1]; rfl)
    rw [if_neg hn]
    exact Ev.ite_neg c (Ev.now _)
end Go.Proofs.YtiffbkfgimifbaaDoor.Print

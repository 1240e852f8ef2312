/- Times are written. -/
import Derived.Test.YtiffbkfgimifbaaDoorPrint0
import Derived.Test.YtiffbkfgimifbaaDoorPrint10
import Derived.Test.YtiffbkfgimifbaaDoorPrint2
import Derived.Test.YtiffbkfgimifbaaDoorPrint9
import Derived.Test.YtiffbkfgimifbaaDoorQ2
import Derived.Test.YtiffbkfgimifbaaDoorQ3
namespace Go.Proofs.YtiffbkfgimifbaaDoor.Print
open Go.RowKit Go.Proofs.YtiffbkfgimifbaaDoorW.PrintWords Go.Proofs.YtiffbkfgimifbaaDoorW.PrintLast Go.Proofs.YtiffbkfgimifbaaDoorW.PrintMore
open Cal

/-- A digit's byte. -/
def dg (n : Int) : UInt8 := UInt8.ofNat (48 + (n % 10).toNat)
def d2 (n : Int) : List UInt8 := [dg (n / 10), dg n]
def d4 (n : Int) : List UInt8 := [dg (n / 1000), dg (n / 100), dg (n / 10), dg n]
theorem dg_mod (n : Int) : dg (n % 10) = dg n := by unfold dg; rw [Int.emod_emod_of_dvd _ (by decide)]

theorem dec_one (u : Nat) (h : u < 10) : Lib.decDigits u = [dg u] := by
  rw [Lib.decDigits, dif_pos h]; unfold dg
  rw [show ((u : Int) % 10).toNat = u by omega]
theorem dec_more (u : Nat) (h : ¬ u < 10) : Lib.decDigits u = Lib.decDigits (u / 10) ++ [dg u] := by
  rw [Lib.decDigits, dif_neg h]; unfold dg
  rw [show ((u : Int) % 10).toNat = u % 10 by omega]
theorem itoa_nat (n : Int) (h : 0 ≤ n) : Lib.itoa n = Lib.decDigits n.toNat := by unfold Lib.itoa; rw [if_neg (by omega)]
theorem dec_nat (n : Int) (h : 0 ≤ n) (h2 : n < 10) : Lib.decDigits n.toNat = [dg n] := by
  rw [dec_one _ (by omega)]; rw [show ((n.toNat : Nat) : Int) = n by omega]
theorem dec_nat2 (n : Int) (h : 10 ≤ n) : Lib.decDigits n.toNat = Lib.decDigits (n / 10).toNat ++ [dg n] := by
  rw [dec_more _ (by omega), show n.toNat / 10 = (n / 10).toNat by omega, show ((n.toNat : Nat) : Int) = n by omega]
theorem dg_zero (n : Int) (h : 0 ≤ n) (h2 : n < 1) : dg n = 48 := by obtain rfl : n = 0 := by omega
                                                                     decide
theorem repeat_one (c : Nat) : Lib.repeatL [48] c = List.replicate c 48 := by
  induction c with
  | zero => rfl
  | succ c ih => rw [Lib.repeatL, ih]; rfl

theorem digits_of (n size : Int) (l : List UInt8) (pad : Nat) (h0 : 0 ≤ n) (h1 : n ≤ 9999) (hl : Lib.decDigits n.toNat = l) (hp : (size : Int) - l.length = pad) (hs : size ≤ 10) (hl2 : l.length ≤ 10) :
    when_digits.f n size = some ⟨(List.replicate pad 48 ++ l).toArray⟩ := by
  unfold when_digits.f strconv_Itoa.f
  rw [if_pos (by omega), itoa_nat n h0, hl]
  simp only [Option.bind_some]
  have e : ((⟨l.toArray⟩ : ByteArray).size : Int) = l.length := by rw [bl_size]
  rw [e, w64 _ (by omega) (by omega), hp]
  unfold strings_Repeat.f
  rw [if_pos ⟨by omega, by rw [show (⟨#[48]⟩ : ByteArray).size = 1 from rfl, Int.toNat_natCast]; omega⟩]
  simp only [Option.bind_some, Int.toNat_natCast]
  rw [repeat_one]
  rw [if_pos (by rw [bl_nsize, bl_nsize, bl_mk, bl_mk, List.length_replicate]; omega)]
  congr 1
theorem digits2 (n : Int) (h0 : 0 ≤ n) (h1 : n ≤ 99) : when_digits.f n 2 = some ⟨(d2 n).toArray⟩ := by
  by_cases c : n < 10
  · rw [digits_of n 2 _ 1 h0 (by omega) (dec_nat n h0 c) (by simp) (by omega) (by simp)]
    unfold d2; rw [dg_zero (n / 10) (by omega) (by omega)]; rfl
  · rw [digits_of n 2 [dg (n / 10), dg n] 0 h0 (by omega) (by rw [dec_nat2 n (by omega), dec_nat (n / 10) (by omega) (by omega)]; rfl) (by simp) (by omega) (by simp)]
    rfl
theorem digits4 (n : Int) (h0 : 0 ≤ n) (h1 : n ≤ 9999) : when_digits.f n 4 = some ⟨(d4 n).toArray⟩ := by
  have e2 : n / 10 / 10 = n / 100 := by omega
  have e3 : n / 100 / 10 = n / 1000 := by omega
  by_cases c : n < 10
  · rw [digits_of n 4 _ 3 h0 (by omega) (dec_nat n h0 c) (by simp) (by omega) (by simp)]
    unfold d4; rw [dg_zero (n / 10) (by omega) (by omega), dg_zero (n / 100) (by omega) (by omega), dg_zero (n / 1000) (by omega) (by omega)]; rfl
  by_cases c2 : n < 100
  · rw [digits_of n 4 [dg (n / 10), dg n] 2 h0 (by omega) (by rw [dec_nat2 n (by omega), dec_nat (n / 10) (by omega) (by omega)]; rfl) (by simp) (by omega) (by simp)]
    unfold d4; rw [dg_zero (n / 100) (by omega) (by omega), dg_zero (n / 1000) (by omega) (by omega)]; rfl
  by_cases c3 : n < 1000
  · rw [digits_of n 4 [dg (n / 100), dg (n / 10), dg n] 1 h0 (by omega) (by rw [dec_nat2 n (by omega), dec_nat2 (n / 10) (by omega), e2, dec_nat (n / 100) (by omega) (by omega)]; rfl) (by simp) (by omega) (by simp)]
    unfold d4; rw [dg_zero (n / 1000) (by omega) (by omega)]; rfl
  · rw [digits_of n 4 [dg (n / 1000), dg (n / 100), dg (n / 10), dg n] 0 h0 (by omega) (by rw [dec_nat2 n (by omega), dec_nat2 (n / 10) (by omega), e2, dec_nat2 (n / 100) (by omega), e3, dec_nat (n / 1000) (by omega) (by omega)]; rfl) (by simp) (by omega) (by simp)]
    rfl

theorem refDig_step (n : Int) (h : 0 ≤ n) (h1 : n ≤ 99999) : ((some (([(wrap64 (48 + (Int.tmod n 10))) % 256] : List Int) : List Int))) = some [((dg n).toNat : Int)] ∧ strOfNums [((dg n).toNat : Int)] = ⟨#[dg n]⟩ := by
  constructor
  · rw [Int.tmod_eq_emod_of_nonneg h, w64 _ (by omega) (by omega)]
    unfold dg
    rw [UInt8.toNat_ofNat_of_lt' (by simp [UInt8.size]; omega)]
    congr 2
    omega
  · unfold strOfNums
    simp
theorem refDig_l (n size : Int) (o : ByteArray) (i : Int) (r : ByteArray) (h : 0 ≤ n) (h1 : n ≤ 99999) (hi : 0 ≤ i) (hs : i < size) (hs2 : size ≤ 10) (ho : (bl o).length ≤ 10)
    (k : Ev (fun k => posthornref12_Digits.l0 k (n / 10) size (⟨(dg n :: bl o).toArray⟩ : ByteArray) (i + 1)) r) : Ev (fun k => posthornref12_Digits.l0 k n size o i) r := by
  refine Ev.step (fun k => by rw [posthornref12_Digits.l0]) (Ev.ite_pos hs ?_)
  obtain ⟨e1, e2⟩ := refDig_step n h h1
  rw [e1]
  refine Ev.bind_now rfl ?_
  rw [e2]
  refine Ev.ite_pos (by have e1 := bl_nsize o; have e2 : (⟨#[dg n]⟩ : ByteArray).size = 1 := rfl; omega) ?_
  rw [Int.tdiv_eq_ediv_of_nonneg h, w64 (n / 10) (by omega) (by omega), w64 (i + 1) (by omega) (by omega)]
  have e : ((⟨#[dg n]⟩ : ByteArray) ++ o) = ⟨(dg n :: bl o).toArray⟩ := bl_ext (by rw [bl_append]; rfl)
  rw [e]
  exact k
theorem refDig_end (n size : Int) (o : ByteArray) : Ev (fun k => posthornref12_Digits.l0 k n size o size) o :=
  Ev.step (fun k => by rw [posthornref12_Digits.l0]) (Ev.ite_neg (by omega) (Ev.now _))
theorem refDigits2 (n : Int) (h0 : 0 ≤ n) (h1 : n ≤ 99) : Ev (fun k => posthornref12_Digits.f k n 2) ⟨(d2 n).toArray⟩ := by
  unfold posthornref12_Digits.f
  refine refDig_l _ _ _ _ _ h0 (by omega) (by omega) (by omega) (by omega) (by simp) ?_
  refine refDig_l _ _ _ _ _ (by omega) (by omega) (by omega) (by omega) (by omega) (by simp) ?_
  exact refDig_end _ 2 _
theorem refDigits4 (n : Int) (h0 : 0 ≤ n) (h1 : n ≤ 9999) : Ev (fun k => posthornref12_Digits.f k n 4) ⟨(d4 n).toArray⟩ := by
  unfold posthornref12_Digits.f
  refine refDig_l _ _ _ _ _ h0 (by omega) (by omega) (by omega) (by omega) (by simp) ?_
  refine refDig_l _ _ _ _ _ (by omega) (by omega) (by omega) (by omega) (by omega) (by simp) ?_
  refine refDig_l _ _ _ _ _ (by omega) (by omega) (by omega) (by omega) (by omega) (by simp) ?_
  refine refDig_l _ _ _ _ _ (by omega) (by omega) (by omega) (by omega) (by omega) (by simp) ?_
  have e : (⟨d4 n |>.toArray⟩ : ByteArray) = ⟨#[dg (n / 10 / 10 / 10), dg (n / 10 / 10), dg (n / 10), dg n]⟩ := by
    unfold d4; rw [show n / 10 / 10 / 10 = n / 1000 by omega, show n / 10 / 10 = n / 100 by omega]
  rw [e]
  exact refDig_end _ 4 _

/-- The text of a time of a day. -/
def timeL (y m d s : Int) : List UInt8 := d4 y ++ (d2 m ++ (d2 d ++ (84 :: (d2 (s / 3600) ++ (d2 (s / 60 % 60) ++ (d2 (s % 60) ++ [90]))))))
/-- A time is written, or it is none. -/
noncomputable def printR (t : Int) : ByteArray × Int :=
  if 0 ≤ t ∧ t ≤ 253402300799 then (⟨(timeL (civilR (t / 86400)).1 (civilR (t / 86400)).2.1 (civilR (t / 86400)).2.2.1 (t % 86400)).toArray⟩, 0) else (⟨#[]⟩, 110)
theorem timeL_size (y m d s : Int) : (timeL y m d s).length = 16 := by simp [timeL, d2, d4]

theorem whenRight_f (t : Int) : when_Right.f t = some (decide (0 ≤ t ∧ t ≤ 253402300799)) := by
  unfold when_Right.f
  by_cases c : t ≥ 0
  · rw [if_pos c]; simp [show 0 ≤ t from c]
  · rw [if_neg c]; simp [show ¬ 0 ≤ t from c]
theorem refTime_f (t : Int) : posthornref12_Time.f t = some (decide (0 ≤ t ∧ t ≤ 253402300799)) := by
  unfold posthornref12_Time.f
  by_cases c : t ≥ 0
  · rw [if_pos c]; simp [show 0 ≤ t from c]; omega
  · rw [if_neg c]; simp [show ¬ 0 ≤ t from c]

theorem whenPrint_ev (t : Int) : Ev (fun k => when_Print.f k t) (printR t) := by
  unfold when_Print.f printR
  refine Ev.bind_now (whenRight_f t) ?_
  by_cases c : 0 ≤ t ∧ t ≤ 253402300799
  · rw [if_pos c]
    refine Ev.ite_pos (by simpa using c) ?_
    rw [Int.tdiv_eq_ediv_of_nonneg c.1, w64 (t / 86400) (by omega) (by omega)]
    refine Ev.bind (whenCivil_ev _) ?_
    obtain ⟨y, m, d, hv, he, hc⟩ := civil_ex (t / 86400) (by omega) (by omega)
    rw [hc]
    obtain ⟨v1, v2, v3, v4, v5, v6⟩ := hv
    have mb := mon_bd y m
    have hr : 0 ≤ t % 86400 ∧ t % 86400 < 86400 := by omega
    simp only [Int.tmod_eq_emod_of_nonneg c.1]
    rw [Int.tdiv_eq_ediv_of_nonneg hr.1, Int.tdiv_eq_ediv_of_nonneg hr.1, w64 (t % 86400 / 3600) (by omega) (by omega), w64 (t % 86400 / 60) (by omega) (by omega), Int.tmod_eq_emod_of_nonneg (by omega)]
    refine Ev.bind_now (digits4 y (by omega) (by omega)) (Ev.bind_now (digits2 m (by omega) (by omega)) (Ev.ite_pos (by simp only [bl_nsize, bl_append, bl_mk]; simp [d2, d4]) ?_))
    refine Ev.bind_now (digits2 d (by omega) (by omega)) (Ev.ite_pos (by simp only [bl_nsize, bl_append, bl_mk]; simp [d2, d4]) (Ev.ite_pos (by simp only [bl_nsize, bl_append, bl_mk]; simp [d2, d4]) ?_))
    refine Ev.bind_now (digits2 _ (by omega) (by omega)) (Ev.ite_pos (by simp only [bl_nsize, bl_append, bl_mk]; simp [d2, d4]) ?_)
    refine Ev.bind_now (digits2 _ (by omega) (by omega)) (Ev.ite_pos (by simp only [bl_nsize, bl_append, bl_mk]; simp [d2, d4]) ?_)
    refine Ev.bind_now (digits2 _ (by omega) (by omega)) (Ev.ite_pos (by simp only [bl_nsize, bl_append, bl_mk]; simp [d2, d4]) (Ev.ite_pos (by simp only [bl_nsize, bl_append, bl_mk]; simp [d2, d4]) ?_))
    have e : ((((((⟨(d4 y).toArray⟩ ++ ⟨(d2 m).toArray⟩) ++ ⟨(d2 d).toArray⟩) ++ (⟨#[84]⟩ : ByteArray)) ++ ⟨(d2 (t % 86400 / 3600)).toArray⟩) ++ ⟨(d2 (t % 86400 / 60 % 60)).toArray⟩) ++ ⟨(d2 (t % 60)).toArray⟩) ++ (⟨#[90]⟩ : ByteArray) = ⟨(timeL y m d (t % 86400)).toArray⟩ := by
      refine bl_ext ?_
      simp only [bl_append, bl_mk]
      unfold timeL
      rw [Int.emod_emod_of_dvd t (by decide : (60 : Int) ∣ 86400)]
      simp
    rw [e]
    exact Ev.now _
  · rw [if_neg c]
    exact Ev.ite_neg (by simpa using c) (Ev.now _)
theorem refPrint_ev (t : Int) : Ev (fun k => posthornref12_Print.f k t) (printR t) := by
  unfold posthornref12_Print.f printR
  refine Ev.bind_now (refTime_f t) ?_
  by_cases c : 0 ≤ t ∧ t ≤ 253402300799
  · rw [if_pos c]
    refine Ev.ite_pos (by simpa using c) ?_
    rw [Int.tdiv_eq_ediv_of_nonneg c.1, w64 (t / 86400) (by omega) (by omega)]
    refine Ev.bind (refCivil_ev _) ?_
    obtain ⟨y, m, d, hv, he, hc⟩ := civil_ex (t / 86400) (by omega) (by omega)
    rw [hc]
    obtain ⟨v1, v2, v3, v4, v5, v6⟩ := hv
    have mb := mon_bd y m
    have hr : 0 ≤ t % 86400 ∧ t % 86400 < 86400 := by omega
    have hr2 : 0 ≤ t % 3600 ∧ t % 3600 < 3600 := by omega
    simp only [Int.tmod_eq_emod_of_nonneg c.1]
    rw [Int.tdiv_eq_ediv_of_nonneg hr.1, Int.tdiv_eq_ediv_of_nonneg hr2.1, w64 (t % 86400 / 3600) (by omega) (by omega), w64 (t % 3600 / 60) (by omega) (by omega)]
    refine Ev.bind (refDigits4 y (by omega) (by omega)) (Ev.bind (refDigits2 m (by omega) (by omega)) (Ev.ite_pos (by simp only [bl_nsize, bl_append, bl_mk]; simp [d2, d4]) ?_))
    refine Ev.bind (refDigits2 d (by omega) (by omega)) (Ev.ite_pos (by simp only [bl_nsize, bl_append, bl_mk]; simp [d2, d4]) (Ev.ite_pos (by simp only [bl_nsize, bl_append, bl_mk]; simp [d2, d4]) ?_))
    refine Ev.bind (refDigits2 _ (by omega) (by omega)) (Ev.ite_pos (by simp only [bl_nsize, bl_append, bl_mk]; simp [d2, d4]) ?_)
    refine Ev.bind (refDigits2 _ (by omega) (by omega)) (Ev.ite_pos (by simp only [bl_nsize, bl_append, bl_mk]; simp [d2, d4]) ?_)
    refine Ev.bind (refDigits2 _ (by omega) (by omega)) (Ev.ite_pos (by simp only [bl_nsize, bl_append, bl_mk]; simp [d2, d4]) (Ev.ite_pos (by simp only [bl_nsize, bl_append, bl_mk]; simp [d2, d4]) ?_))
    have e : ((((((⟨(d4 y).toArray⟩ ++ ⟨(d2 m).toArray⟩) ++ ⟨(d2 d).toArray⟩) ++ (⟨#[84]⟩ : ByteArray)) ++ ⟨(d2 (t % 86400 / 3600)).toArray⟩) ++ ⟨(d2 (t % 3600 / 60)).toArray⟩) ++ ⟨(d2 (t % 60)).toArray⟩) ++ (⟨#[90]⟩ : ByteArray) = ⟨(timeL y m d (t % 86400)).toArray⟩ := by
      refine bl_ext ?_
      simp only [bl_append, bl_mk]
      unfold timeL
      rw [Int.emod_emod_of_dvd t (by decide : (60 : Int) ∣ 86400), show t % 86400 / 60 % 60 = t % 3600 / 60 by omega]
      simp
    rw [e]
    exact Ev.now _
  · rw [if_neg c]
    exact Ev.ite_neg (by simpa using c) (Ev.now _)
end Go.Proofs.YtiffbkfgimifbaaDoor.Print

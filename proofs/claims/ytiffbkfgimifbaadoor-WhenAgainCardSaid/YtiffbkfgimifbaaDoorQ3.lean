/- Numbers in texts: what is read as a number, and how a number is written with so many digits. -/
import Derived.Test.YtiffbkfgimifbaaDoorPrint0
import Derived.Test.YtiffbkfgimifbaaDoorPrint10
import Derived.Test.YtiffbkfgimifbaaDoorPrint2
import Derived.Test.YtiffbkfgimifbaaDoorPrint3
import Derived.Test.YtiffbkfgimifbaaDoorPrint9
import Derived.Test.YtiffbkfgimifbaaDoorQ1
namespace Go.Proofs.YtiffbkfgimifbaaDoor.Print
open Go.RowKit Go.Proofs.YtiffbkfgimifbaaDoorW.PrintWords Go.Proofs.YtiffbkfgimifbaaDoorW.PrintLast Go.Proofs.YtiffbkfgimifbaaDoorW.PrintMore

/-- A text's bytes. -/
abbrev bl (s : ByteArray) : List UInt8 := s.data.toList
theorem bl_ext {a b : ByteArray} (h : bl a = bl b) : a = b := by rw [← Lib.mk_data a, ← Lib.mk_data b]; unfold bl at h; rw [h]
theorem bl_append (a b : ByteArray) : bl (a ++ b) = bl a ++ bl b := by unfold bl; simp [ByteArray.toList_data_append]
theorem bl_mk (l : List UInt8) : bl ⟨l.toArray⟩ = l := rfl
theorem bl_size (s : ByteArray) : (s.size : Int) = (bl s).length := by rw [Lib.size_eq]
theorem bl_nsize (s : ByteArray) : s.size = (bl s).length := Lib.size_eq s
theorem bl_toList (s : ByteArray) : s.toList = bl s := Lib.toList_data s
theorem bl_extract (s : ByteArray) (a b : Nat) : bl (s.extract a b) = ((bl s).drop a).take (b - a) := Lib.extract_data s a b

theorem bt_drop {s : ByteArray} {i : Nat} {c : UInt8} {l : List UInt8} (h : (bl s).drop i = c :: l) : bt s i = c.toNat ∧ i < (bl s).length ∧ (bl s).drop (i + 1) = l := by
  have hi : i < (bl s).length := by
    rcases Nat.lt_or_ge i (bl s).length with h' | h'
    · exact h'
    · rw [List.drop_eq_nil_of_le h'] at h; cases h
  have e : (bl s)[i] = c ∧ (bl s).drop (i + 1) = l := by
    rw [List.drop_eq_getElem_cons hi] at h
    exact ⟨(List.cons.inj h).1, (List.cons.inj h).2⟩
  refine ⟨?_, hi, e.2⟩
  unfold bt
  have hs : ((i : Int).toNat) < s.size := by rw [bl_nsize]; simpa using hi
  rw [dif_pos hs, ← e.1]
  rfl
theorem bt_lt {s : ByteArray} {i : Nat} (h : i < (bl s).length) : bt s i = ((bl s)[i].toNat : Int) := by
  have := bt_drop (List.drop_eq_getElem_cons h)
  exact this.1
theorem drop_nil {s : ByteArray} {i : Nat} (h : (bl s).drop i = []) : (bl s).length ≤ i := by simpa using h

def isD (c : UInt8) : Bool := decide (48 ≤ c.toNat) && decide (c.toNat ≤ 57)
theorem isD_iff (c : UInt8) : isD c = true ↔ 48 ≤ c.toNat ∧ c.toNat ≤ 57 := by simp [isD]
/-- The value of digits. -/
def dv (acc : Int) (l : List UInt8) : Int := l.foldl (fun a c => 10 * a + ((c.toNat : Int) - 48)) acc
/-- What a text says as a number; -1: it is none. -/
def numR (l : List UInt8) : Int := if l = [] ∨ 10 < l.length ∨ l.all isD = false then -1 else dv 0 l

theorem pow10_le {a : Nat} (h : a ≤ 10) : (10 : Int) ^ a ≤ 10000000000 := by
  have : (10 : Nat) ^ a ≤ 10 ^ 10 := Nat.pow_le_pow_right (by decide) h
  have e : ((10 ^ a : Nat) : Int) ≤ ((10 ^ 10 : Nat) : Int) := Int.ofNat_le.mpr this
  simpa using e
theorem dv_bd (l : List UInt8) : ∀ (acc : Int) (a : Nat), l.all isD = true → 0 ≤ acc → acc < 10 ^ a → 0 ≤ dv acc l ∧ dv acc l < 10 ^ (a + l.length) := by
  induction l with
  | nil => intro acc a _ h0 h1; exact ⟨h0, h1⟩
  | cons c l ih =>
    intro acc a h h0 h1
    simp only [List.all_cons, Bool.and_eq_true, isD_iff] at h
    have e := Int.pow_succ 10 a
    have := ih (10 * acc + ((c.toNat : Int) - 48)) (a + 1) (by simpa using h.2) (by omega) (by rw [e]; omega)
    rw [show a + 1 + l.length = a + (c :: l).length by simp; omega] at this
    exact this
theorem dv_nonneg (l : List UInt8) (h : l.all isD = true) : 0 ≤ dv 0 l ∧ dv 0 l < 10 ^ l.length := by
  have := dv_bd l 0 0 h (by omega) (by simp)
  simpa using this

theorem byte_wrap (c : UInt8) (h : 48 ≤ c.toNat) : (((c.toNat : Int)) - 48) % 256 = (c.toNat : Int) - 48 := by
  have := c.toNat_lt
  omega

theorem whenNumber_short (s : ByteArray) (hs : (bl s).length ≤ 10) (hs0 : bl s ≠ []) (l : List UInt8) : ∀ (i : Nat) (acc : Int), (bl s).drop i = l → i ≤ (bl s).length → 0 ≤ acc → acc < 10 ^ i →
    Ev (fun k => when_number.l0 k s acc s.size i) (if l.all isD = true then dv acc l else -1) := by
  induction l with
  | nil =>
    intro i acc h hi h0 h1
    have := drop_nil h
    refine Ev.step (fun k => by rw [when_number.l0]) (Ev.ite_neg (by rw [bl_size]; omega) (Ev.ite_neg (by rw [bl_toList]; exact hs0) (Ev.ite_neg (by rw [bl_size]; omega) ?_)))
    exact Ev.now _
  | cons c l ih =>
    intro i acc h hi h0 h1
    obtain ⟨hb, hlt, hd⟩ := bt_drop h
    have hcl := c.toNat_lt
    refine Ev.step (fun k => by rw [when_number.l0]) (Ev.ite_pos (by rw [bl_size]; omega) (Ev.ite_pos (by omega) (Ev.ite_pos (by rw [bl_size]; omega) ?_)))
    simp only [hb, List.all_cons, Bool.and_eq_true, isD_iff]
    by_cases c1 : (c.toNat : Int) < 48
    · rw [if_neg (by omega)]; exact Ev.ite_pos c1 (Ev.now _)
    refine Ev.ite_neg c1 ?_
    by_cases c2 : (c.toNat : Int) > 57
    · rw [if_neg (by omega)]; exact Ev.ite_pos c2 (Ev.now _)
    refine Ev.ite_neg c2 ?_
    have p := pow10_le (a := i) (by omega)
    have e := Int.pow_succ 10 i
    rw [byte_wrap c (by omega), w64 (10 * acc) (by omega) (by omega), w64 _ (by omega) (by omega), w64 ((i : Int) + 1) (by omega) (by omega)]
    have := ih (i + 1) (10 * acc + ((c.toNat : Int) - 48)) hd (by omega) (by omega) (by rw [e]; omega)
    have e2 : ((i + 1 : Nat) : Int) = (i : Int) + 1 := by omega
    rw [e2] at this
    by_cases c3 : l.all isD = true
    · rw [if_pos c3] at this; rw [if_pos ⟨by omega, c3⟩]; exact this
    · rw [if_neg c3] at this; rw [if_neg (fun x => c3 x.2)]; exact this
theorem whenNumber_long (s : ByteArray) (hs : (bl s).length ≤ 9223372036854775807) (hs0 : bl s = [] ∨ 10 < (bl s).length) (l : List UInt8) : ∀ (i : Nat) (acc : Int), (bl s).drop i = l → i ≤ (bl s).length →
    Ev (fun k => when_number.l0 k s acc s.size i) (-1) := by
  induction l with
  | nil =>
    intro i acc h hi
    have := drop_nil h
    refine Ev.step (fun k => by rw [when_number.l0]) (Ev.ite_neg (by rw [bl_size]; omega) ?_)
    rcases hs0 with e | e
    · exact Ev.ite_pos (by rw [bl_toList]; exact e) (Ev.now _)
    · exact Ev.ite_neg (by rw [bl_toList]; intro x; rw [x] at e; simp at e) (Ev.ite_pos (by rw [bl_size]; omega) (Ev.now _))
  | cons c l ih =>
    intro i acc h hi
    obtain ⟨hb, hlt, hd⟩ := bt_drop h
    refine Ev.step (fun k => by rw [when_number.l0]) (Ev.ite_pos (by rw [bl_size]; omega) (Ev.ite_pos (by omega) (Ev.ite_pos (by rw [bl_size]; omega) ?_)))
    by_cases c1 : bt s i < 48
    · exact Ev.ite_pos c1 (Ev.now _)
    refine Ev.ite_neg c1 ?_
    by_cases c2 : bt s i > 57
    · exact Ev.ite_pos c2 (Ev.now _)
    refine Ev.ite_neg c2 ?_
    rw [w64 ((i : Int) + 1) (by omega) (by omega)]
    have e2 : ((i + 1 : Nat) : Int) = (i : Int) + 1 := by omega
    rw [← e2]
    exact ih (i + 1) _ hd (by omega)
theorem whenNumber_ev (s : ByteArray) (hs : (bl s).length ≤ 9223372036854775807) : Ev (fun k => when_number.f k s) (numR (bl s)) := by
  unfold when_number.f numR
  by_cases c : bl s = [] ∨ 10 < (bl s).length
  · rw [if_pos (by rcases c with e | e; exact .inl e; exact .inr (.inl e))]
    exact whenNumber_long s hs c _ 0 0 rfl (by omega)
  · have c1 : bl s ≠ [] := fun e => c (.inl e)
    have := whenNumber_short s (by omega) c1 _ 0 0 rfl (by omega) (by omega) (by simp)
    rw [List.drop_zero] at this
    by_cases c3 : (bl s).all isD = true
    · rw [if_pos c3] at this; rw [if_neg (by rintro (e | e | e); exact c1 e; omega; rw [c3] at e; cases e)]; exact this
    · rw [if_neg c3] at this; rw [if_pos (.inr (.inr (by simpa using c3)))]; exact this

theorem refValue_l (s : ByteArray) (hs : (bl s).length ≤ 10) (l : List UInt8) : ∀ (i : Nat) (acc : Int), (bl s).drop i = l → i ≤ (bl s).length → 0 ≤ acc → acc < 10 ^ i →
    Ev (fun k => posthornref12_Value.l0 k s acc i) (if l.all isD = true then dv acc l else -1) := by
  induction l with
  | nil =>
    intro i acc h hi h0 h1
    have := drop_nil h
    refine Ev.step (fun k => by rw [posthornref12_Value.l0]) (Ev.ite_neg (by rw [bl_size]; omega) ?_)
    exact Ev.now _
  | cons c l ih =>
    intro i acc h hi h0 h1
    obtain ⟨hb, hlt, hd⟩ := bt_drop h
    have hcl := c.toNat_lt
    refine Ev.step (fun k => by rw [posthornref12_Value.l0]) (Ev.ite_pos (by rw [bl_size]; omega) (Ev.ite_pos (by omega) ?_))
    simp only [hb, List.all_cons, Bool.and_eq_true, isD_iff]
    by_cases c1 : (c.toNat : Int) < 48
    · rw [if_neg (by omega)]; exact Ev.ite_pos c1 (Ev.now _)
    refine Ev.ite_neg c1 ?_
    by_cases c2 : (c.toNat : Int) > 57
    · rw [if_neg (by omega)]; exact Ev.ite_pos c2 (Ev.now _)
    refine Ev.ite_neg c2 ?_
    have p := pow10_le (a := i) (by omega)
    have e := Int.pow_succ 10 i
    rw [w64 (c.toNat : Int) (by omega) (by omega), w64 (10 * acc) (by omega) (by omega), w64 (10 * acc + (c.toNat : Int)) (by omega) (by omega), w64 _ (by omega) (by omega), w64 ((i : Int) + 1) (by omega) (by omega)]
    have := ih (i + 1) (10 * acc + ((c.toNat : Int) - 48)) hd (by omega) (by omega) (by rw [e]; omega)
    have e2 : ((i + 1 : Nat) : Int) = (i : Int) + 1 := by omega
    rw [e2] at this
    rw [show 10 * acc + (c.toNat : Int) - 48 = 10 * acc + ((c.toNat : Int) - 48) by omega]
    by_cases c3 : l.all isD = true
    · rw [if_pos c3] at this; rw [if_pos ⟨by omega, c3⟩]; exact this
    · rw [if_neg c3] at this; rw [if_neg (fun x => c3 x.2)]; exact this
theorem refValue_ev (s : ByteArray) : Ev (fun k => posthornref12_Value.f k s) (numR (bl s)) := by
  have jt : Ev (fun k => posthornref12_Value.j0 k s true) (-1) := Ev.step (fun k => by rw [posthornref12_Value.j0]) (Ev.ite_pos rfl (Ev.now _))
  unfold posthornref12_Value.f numR
  by_cases c : (s.size : Int) = 0
  · have c1 : bl s = [] := by rw [bl_size] at c; exact List.eq_nil_of_length_eq_zero (by omega)
    rw [if_pos (.inl c1)]; exact Ev.ite_pos c jt
  refine Ev.ite_neg c ?_
  by_cases c2 : (s.size : Int) > 10
  · rw [decide_eq_true c2, if_pos (.inr (.inl (by rw [bl_size] at c2; omega)))]; exact jt
  · rw [bl_size] at c c2
    have := refValue_l s (by omega) _ 0 0 rfl (by omega) (by omega) (by simp)
    rw [List.drop_zero] at this
    have e : decide ((s.size : Int) > 10) = false := decide_eq_false (by rw [bl_size]; exact c2)
    rw [e]
    refine Ev.step (fun k => by rw [posthornref12_Value.j0]) (Ev.ite_neg (by decide) ?_)
    have c1 : bl s ≠ [] := fun e => c (by rw [e]; rfl)
    by_cases c3 : (bl s).all isD = true
    · rw [if_pos c3] at this; rw [if_neg (by rintro (e | e | e); exact c1 e; omega; rw [c3] at e; cases e)]; exact this
    · rw [if_neg c3] at this; rw [if_pos (.inr (.inr (by simpa using c3)))]; exact this
end Go.Proofs.YtiffbkfgimifbaaDoor.Print

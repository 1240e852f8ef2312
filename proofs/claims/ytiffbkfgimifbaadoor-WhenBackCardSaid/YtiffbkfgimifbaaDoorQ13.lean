/- Lengths are written as the reference writes them. -/
import Derived.Test.YtiffbkfgimifbaaDoorPrint0
import Derived.Test.YtiffbkfgimifbaaDoorGSpan
import Derived.Test.YtiffbkfgimifbaaDoorPrint12
import Derived.Test.YtiffbkfgimifbaaDoorPrint13
import Derived.Test.YtiffbkfgimifbaaDoorQ4
namespace Go.Proofs.YtiffbkfgimifbaaDoor.Print
open Go.RowKit Go.Proofs.YtiffbkfgimifbaaDoorW.PrintWords Go.Proofs.YtiffbkfgimifbaaDoorW.PrintLast Go.Proofs.YtiffbkfgimifbaaDoorW.PrintMore

theorem dec_byte (n : Int) (h : 0 ≤ n) (h1 : n < 10) : strOfNums ([(wrap64 (48 + n)) % 256] : List Int) = ⟨#[dg n]⟩ := by
  rw [w64 _ (by omega) (by omega)]
  unfold strOfNums dg
  have e : ((48 + n) % 256).toNat = 48 + (n % 10).toNat := by omega
  simp [e]
theorem decimal_ev (m : Nat) : ∀ n : Int, 0 ≤ n → n < m → n ≤ 1099511627776 → Ev (fun k => posthornref12_decimal.f k n) (itoaB n) := by
  induction m with
  | zero => intro n h0 h1; omega
  | succ m ih =>
    intro n h0 h1 h2
    refine Ev.step (fun k => by rw [posthornref12_decimal.f]) ?_
    unfold itoaB
    rw [itoa_nat n h0]
    by_cases c : n < 10
    · rw [dec_nat n h0 c]
      refine Ev.ite_pos c ?_
      rw [dec_byte n h0 c]
      exact Ev.now _
    · rw [dec_nat2 n (by omega)]
      refine Ev.ite_neg c ?_
      rw [Int.tdiv_eq_ediv_of_nonneg h0, w64 (n / 10) (by omega) (by omega), Int.tmod_eq_emod_of_nonneg h0]
      refine Ev.bind (ih (n / 10) (by omega) (by omega) (by omega)) (Ev.bind_now rfl ?_)
      have sz := itoaB_size (n / 10) (by omega) (by omega)
      rw [dec_byte (n % 10) (by omega) (by omega), dg_mod]
      refine Ev.ite_pos (by have : (⟨#[dg n]⟩ : ByteArray).size = 1 := rfl; omega) ?_
      have e : (itoaB (n / 10) ++ ⟨#[dg n]⟩ : ByteArray) = ⟨(Lib.decDigits (n / 10).toNat ++ [dg n]).toArray⟩ := bl_ext (by
        rw [bl_append]; unfold itoaB; rw [itoa_nat (n / 10) (by omega)])
      rw [e]
      exact Ev.now _
theorem put_mid (o t u : ByteArray) : (o ++ t) ++ u = o ++ (t ++ u) := bl_ext (by simp only [bl_append, List.append_assoc])
/-- A number and its unit are written onto a text. -/
theorem dec_put {α : Type} (o : ByteArray) (v : Int) (u : UInt8) (F : Nat → ByteArray → Option α) (r : α) (h0 : 0 < v) (h1 : v ≤ 1099511627776) (ho : o.size ≤ 10000) (h : Ev (fun k => F k (when_Span.put o v ⟨#[u]⟩)) r) :
    Ev (fun k => (posthornref12_decimal.f k v).bind fun t => (if o.size + t.size ≤ 9223372036854775807 then (if (o ++ t).size + 1 ≤ 9223372036854775807 then F k ((o ++ t) ++ (⟨#[u]⟩ : ByteArray)) else none) else none)) r := by
  have sz := itoaB_size v (by omega) h1
  refine Ev.bind (decimal_ev (v.toNat + 1) v (by omega) (by omega) h1) (Ev.ite_pos (by omega) (Ev.ite_pos (by rw [ByteArray.size_append]; omega) ?_))
  rw [put_mid, ← when_Span.put_pos h0]
  exact h
theorem put_mono (o u : ByteArray) (v : Int) (h0 : 0 ≤ v) (h1 : v ≤ 1099511627776) (hu : u.size ≤ 30) (N : Nat) (h : o.size ≤ N) : (when_Span.put o v u).size ≤ N + 60 := by
  have := put_size o u v h0 h1 hu; omega

/-- The last two numbers. -/
theorem refSpan_j6 (o : ByteArray) (r : Int) (h0 : 0 ≤ r) (h1 : r < 86400) (ho : o.size ≤ 1000) :
    Ev (fun k => posthornref12_Span.j5 k r o) (when_Span.put (when_Span.put (if (3600 ≤ r ∧ 0 < r % 60) ∧ r / 60 % 60 = 0 then o ++ ⟨#[48, 77]⟩ else o) (r / 60 % 60) ⟨#[77]⟩) (r % 60) ⟨#[83]⟩, 0) := by
  have em : r % 3600 / 60 = r / 60 % 60 := by omega
  refine Ev.step (fun k => by rw [posthornref12_Span.j5]) ?_
  simp only [Int.tmod_eq_emod_of_nonneg h0]
  -- the seconds
  have sec : ∀ (p : ByteArray), p.size ≤ 2000 → Ev (fun k => (if r % 60 > 0 then ((posthornref12_decimal.f k (r % 60)).bind fun t => (if p.size + t.size ≤ 9223372036854775807 then (if (p ++ t).size + 1 ≤ 9223372036854775807 then (some ((p ++ t) ++ (⟨#[83]⟩ : ByteArray), (0 : Int))) else (none)) else (none))) else (some (p, (0 : Int))))) (when_Span.put p (r % 60) ⟨#[83]⟩, 0) := by
    intro p hp
    by_cases c : r % 60 > 0
    · refine Ev.ite_pos c ?_
      exact dec_put p (r % 60) 83 (fun _ x => some (x, 0)) _ (by omega) (by omega) (by omega) (Ev.now _)
    · rw [when_Span.put_neg (by omega)]
      exact Ev.ite_neg c (Ev.now _)
  -- the minutes are written
  have mins : ∀ (x : ByteArray), (⟨#[48]⟩ : ByteArray).size = 1 → x = o ++ (itoaB (r / 60 % 60) ++ ⟨#[77]⟩) → Ev (fun k => posthornref12_Span.j6 k r o true) (when_Span.put x (r % 60) ⟨#[83]⟩, 0) := by
    intro x _ hx
    have sz := itoaB_size (r / 60 % 60) (by omega) (by omega)
    refine Ev.step (fun k => by rw [posthornref12_Span.j6]) (Ev.ite_pos rfl ?_)
    simp only [Int.tmod_eq_emod_of_nonneg h0]
    rw [Int.tdiv_eq_ediv_of_nonneg (by omega), em, w64 (r / 60 % 60) (by omega) (by omega)]
    refine Ev.bind (decimal_ev ((r / 60 % 60).toNat + 1) _ (by omega) (by omega) (by omega)) (Ev.ite_pos (by omega) (Ev.ite_pos (by rw [ByteArray.size_append]; omega) ?_))
    rw [put_mid, ← hx]
    have hx2 : x.size ≤ 2000 := by rw [hx, ByteArray.size_append, ByteArray.size_append, show (⟨#[77]⟩ : ByteArray).size = 1 from rfl]; omega
    exact sec x hx2
  have none_ : ∀ b, b = false → Ev (fun k => posthornref12_Span.j6 k r o b) (when_Span.put o (r % 60) ⟨#[83]⟩, 0) := by
    intro b hb
    subst hb
    refine Ev.step (fun k => by rw [posthornref12_Span.j6]) (Ev.ite_neg (by decide) ?_)
    simp only [Int.tmod_eq_emod_of_nonneg h0]
    exact sec o (by omega)
  by_cases c1 : r % 3600 ≥ 60
  · refine Ev.ite_pos c1 ?_
    rw [if_neg (show ¬ ((3600 ≤ r ∧ 0 < r % 60) ∧ r / 60 % 60 = 0) by omega), when_Span.put_pos (o := o) (show 0 < r / 60 % 60 by omega)]
    exact mins _ rfl rfl
  refine Ev.ite_neg c1 ?_
  have m0 : r / 60 % 60 = 0 := by omega
  by_cases c2 : r ≥ 3600
  · refine Ev.ite_pos c2 ?_
    by_cases c3 : r % 60 > 0
    · rw [if_pos (show (3600 ≤ r ∧ 0 < r % 60) ∧ r / 60 % 60 = 0 by omega), when_Span.put_neg (v := r / 60 % 60) (by omega), decide_eq_true c3]
      refine mins _ rfl ?_
      rw [m0]
      have : itoaB 0 = ⟨#[48]⟩ := by unfold itoaB; rw [itoa_nat 0 (by omega), dec_nat 0 (by omega) (by omega)]; rfl
      rw [this]
      rfl
    · rw [if_neg (show ¬ ((3600 ≤ r ∧ 0 < r % 60) ∧ r / 60 % 60 = 0) by omega), when_Span.put_neg (v := r / 60 % 60) (by omega), decide_eq_false c3]
      exact none_ _ rfl
  · refine Ev.ite_neg c2 ?_
    rw [if_neg (show ¬ ((3600 ≤ r ∧ 0 < r % 60) ∧ r / 60 % 60 = 0) by omega), when_Span.put_neg (v := r / 60 % 60) (by omega)]
    exact none_ _ rfl
theorem refSpan_j4 (o : ByteArray) (r : Int) (h0 : 0 ≤ r) (h1 : r < 86400) (ho : o.size ≤ 900) :
    Ev (fun k => posthornref12_Span.j4 k r o) (when_Span.put (when_Span.put (if (3600 ≤ r ∧ 0 < r % 60) ∧ r / 60 % 60 = 0 then when_Span.put o (r / 3600) ⟨#[72]⟩ ++ ⟨#[48, 77]⟩ else when_Span.put o (r / 3600) ⟨#[72]⟩) (r / 60 % 60) ⟨#[77]⟩) (r % 60) ⟨#[83]⟩, 0) := by
  refine Ev.step (fun k => by rw [posthornref12_Span.j4]) ?_
  have pm := put_mono o ⟨#[72]⟩ (r / 3600) (by omega) (by omega) (by decide) 900 ho
  have e := refSpan_j6 (when_Span.put o (r / 3600) ⟨#[72]⟩) r h0 h1 (by omega)
  by_cases c : r ≥ 3600
  · refine Ev.ite_pos c ?_
    rw [Int.tdiv_eq_ediv_of_nonneg h0, w64 (r / 3600) (by omega) (by omega)]
    exact dec_put o (r / 3600) 72 (fun k x => posthornref12_Span.j5 k r x) _ (by omega) (by omega) (by omega) e
  · rw [when_Span.put_neg (v := r / 3600) (by omega)] at e ⊢
    exact Ev.ite_neg c e
theorem refSpan_j3 (o : ByteArray) (n : Int) (h0 : 0 < n) (h1 : n ≤ 1099511627776) (ho : o.size ≤ 800) : Ev (fun k => posthornref12_Span.j3 k n o) (when_Span.hms o n (n % 86400), 0) := by
  refine Ev.step (fun k => by rw [posthornref12_Span.j3]) (Ev.ite_neg (by omega) ?_)
  rw [Int.tmod_eq_emod_of_nonneg (by omega)]
  unfold when_Span.hms
  have e60 : n % 60 = n % 86400 % 60 := by omega
  rw [e60]
  by_cases c : n % 86400 > 0
  · rw [if_pos (show 0 < n % 86400 from c)]
    refine Ev.ite_pos c (Ev.ite_pos (by omega) ?_)
    exact refSpan_j4 _ (n % 86400) (by omega) (by omega) (by rw [ByteArray.size_append, show (⟨#[84]⟩ : ByteArray).size = 1 from rfl]; omega)
  · rw [if_neg (show ¬ 0 < n % 86400 from c)]
    refine Ev.ite_neg c ?_
    exact refSpan_j4 _ (n % 86400) (by omega) (by omega) (by omega)
theorem refSpan_j1 (o : ByteArray) (n : Int) (h0 : 0 ≤ n) (h1 : n ≤ 1099511627776) (ho : o.size ≤ 10) (hz : n = 0 → o = ⟨#[80]⟩) : Ev (fun k => posthornref12_Span.j1 k n o) (when_Span.body o n, 0) := by
  refine Ev.step (fun k => by rw [posthornref12_Span.j1]) ?_
  rw [Int.tmod_eq_emod_of_nonneg h0]
  unfold when_Span.body
  have rest : ∀ b, b = false → ¬ (0 < n ∧ n % 604800 = 0) → Ev (fun k => posthornref12_Span.j2 k n o b) ((if n = 0 then when_Span.hms (when_Span.put o (n / 86400) ⟨#[68]⟩) n (n % 86400) ++ ⟨#[84, 48, 83]⟩ else when_Span.hms (when_Span.put o (n / 86400) ⟨#[68]⟩) n (n % 86400)), 0) := by
    intro b hb hn
    subst hb
    refine Ev.step (fun k => by rw [posthornref12_Span.j2]) (Ev.ite_neg (by decide) ?_)
    have pm := put_mono o ⟨#[68]⟩ (n / 86400) (by omega) (by omega) (by decide) 10 ho
    by_cases z : n = 0
    · subst z
      rw [if_pos rfl, hz rfl]
      refine Ev.ite_neg (by omega) (Ev.step (fun k => by rw [posthornref12_Span.j3]) (Ev.ite_pos rfl ?_))
      have e : when_Span.hms (when_Span.put ⟨#[80]⟩ (0 / 86400) ⟨#[68]⟩) 0 (0 % 86400) ++ ⟨#[84, 48, 83]⟩ = (⟨#[80, 84, 48, 83]⟩ : ByteArray) := by
        unfold when_Span.hms
        rw [if_neg (by decide), if_neg (by decide), when_Span.put_neg (by decide), when_Span.put_neg (by decide), when_Span.put_neg (by decide), when_Span.put_neg (by decide)]
        rfl
      rw [e]
      exact Ev.now _
    · rw [if_neg z]
      have e := refSpan_j3 (when_Span.put o (n / 86400) ⟨#[68]⟩) n (by omega) h1 (by omega)
      by_cases c : n ≥ 86400
      · refine Ev.ite_pos c ?_
        rw [Int.tdiv_eq_ediv_of_nonneg h0, w64 (n / 86400) (by omega) (by omega)]
        exact dec_put o (n / 86400) 68 (fun k x => posthornref12_Span.j3 k n x) _ (by omega) (by omega) (by omega) e
      · rw [when_Span.put_neg (v := n / 86400) (by omega)] at e ⊢
        exact Ev.ite_neg c e
  by_cases c : n > 0
  · refine Ev.ite_pos c ?_
    by_cases c2 : n % 604800 = 0
    · rw [if_pos (show 0 < n ∧ n % 604800 = 0 from ⟨c, c2⟩), show (n % 604800 == 0) = true from beq_iff_eq.mpr c2]
      refine Ev.step (fun k => by rw [posthornref12_Span.j2]) (Ev.ite_pos rfl ?_)
      rw [Int.tdiv_eq_ediv_of_nonneg h0, w64 (n / 604800) (by omega) (by omega)]
      exact dec_put o (n / 604800) 87 (fun _ x => some (x, 0)) _ (by omega) (by omega) (by omega) (Ev.now _)
    · rw [if_neg (show ¬ (0 < n ∧ n % 604800 = 0) from fun x => c2 x.2), show (n % 604800 == 0) = false from beq_eq_false_iff_ne.mpr c2]
      exact rest _ rfl (fun x => c2 x.2)
  · rw [if_neg (show ¬ (0 < n ∧ n % 604800 = 0) from fun x => c x.1)]
    exact Ev.ite_neg c (rest _ rfl (fun x => c x.1))
theorem refSpan_ev (n : Int) (hn : -9223372036854775808 ≤ n) : ∃ r, when_Span.f n = some r ∧ Ev (fun k => posthornref12_Span.f k n) r := by
  unfold when_Span.f posthornref12_Span.f
  have jt : Ev (fun k => posthornref12_Span.j0 k n true) (⟨#[]⟩, 110) := Ev.step (fun k => by rw [posthornref12_Span.j0]) (Ev.ite_pos rfl (Ev.now _))
  by_cases c : n < -1099511627776
  · rw [if_pos (.inl c)]
    exact ⟨_, rfl, Ev.ite_pos c jt⟩
  by_cases c2 : n > 1099511627776
  · rw [if_pos (.inr c2)]
    refine ⟨_, rfl, Ev.ite_neg c ?_⟩
    rw [decide_eq_true c2]; exact jt
  rw [if_neg (fun x => x.elim c c2)]
  by_cases c3 : n < 0
  · rw [if_pos c3]
    refine ⟨_, rfl, Ev.ite_neg c ?_⟩
    rw [decide_eq_false c2]
    refine Ev.step (fun k => by rw [posthornref12_Span.j0]) (Ev.ite_neg (by decide) (Ev.ite_pos c3 ?_))
    rw [w64 (-n) (by omega) (by omega)]
    exact refSpan_j1 _ (-n) (by omega) (by omega) (by decide) (fun h => by omega)
  · rw [if_neg c3]
    refine ⟨_, rfl, Ev.ite_neg c ?_⟩
    rw [decide_eq_false c2]
    refine Ev.step (fun k => by rw [posthornref12_Span.j0]) (Ev.ite_neg (by decide) (Ev.ite_neg c3 ?_))
    exact refSpan_j1 _ n (by omega) (by omega) (by decide) (fun _ => rfl)
end Go.Proofs.YtiffbkfgimifbaaDoor.Print

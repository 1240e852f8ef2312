/- Lengths: the reference's reading, piece by piece. -/
import Derived.Test.YtiffbkfgimifbaaDoorPrint0
import Derived.Test.YtiffbkfgimifbaaDoorPrint14
import Derived.Test.YtiffbkfgimifbaaDoorPrint15
import Derived.Test.YtiffbkfgimifbaaDoorPrint16
import Derived.Test.YtiffbkfgimifbaaDoorQ3
namespace Go.Proofs.YtiffbkfgimifbaaDoor.Print
open Go.RowKit Go.Proofs.YtiffbkfgimifbaaDoorW.PrintWords Go.Proofs.YtiffbkfgimifbaaDoorW.PrintLast Go.Proofs.YtiffbkfgimifbaaDoorW.PrintMore

/-- The first byte that is no digit: the digits ahead of it, it, and what is behind it. -/
def hd (ds : List UInt8) : List UInt8 → Option (List UInt8 × UInt8 × List UInt8)
  | [] => none
  | c :: l => if isD c = true then hd (ds ++ [c]) l else some (ds, c, l)
/-- A text's pieces, behind some digits. -/
def pc (ds : List UInt8) : List UInt8 → Option (List S64)
  | [] => if ds = [] then some [] else none
  | c :: l => if isD c = true then pc (ds ++ [c]) l else if c = 84 ∧ ds = [] then (pc [] l).map (fun x => (⟨0, 84⟩ : S64) :: x) else if numR ds < 0 ∨ c = 84 then none else (pc [] l).map (fun x => (⟨numR ds, (c.toNat : Int)⟩ : S64) :: x)
def ordR (u : Int) : Int := if u = 68 then 0 else if u = 84 then 1 else if u = 72 then 2 else if u = 77 then 3 else if u = 83 then 4 else -1
def worR (u : Int) : Int := if u = 68 then 86400 else if u = 72 then 3600 else if u = 77 then 60 else if u = 83 then 1 else 0
/-- May a piece of order b stand behind one of order a (-1: at the front)? -/
def bad (a b : Int) : Prop := b < 0 ∨ (a = -1 ∧ b > 1) ∨ (a = 0 ∧ b ≠ 1) ∨ (a = 1 ∧ b < 2) ∨ (a ≥ 2 ∧ b ≠ a + 1)
instance (a b : Int) : Decidable (bad a b) := by unfold bad; infer_instance
def run (was acc : Int) : List S64 → Int
  | [] => if was = -1 ∨ was = 1 then -1 else acc
  | x :: l => if bad was (ordR x.f1) then -1 else run (ordR x.f1) (acc + x.f0 * worR x.f1) l
def sumR (l : List S64) : Int := match l with
  | [x] => if x.f1 = 87 then 604800 * x.f0 else run (-1) 0 [x]
  | l => run (-1) 0 l

theorem order_f (u : Int) : posthornref12_order.f u = some (ordR u) := by unfold posthornref12_order.f ordR; (repeat' split) <;> rfl
theorem worth_f (u : Int) : posthornref12_worth.f u = some (worR u) := by unfold posthornref12_worth.f worR; (repeat' split) <;> rfl
theorem ordR_bd (u : Int) : -1 ≤ ordR u ∧ ordR u ≤ 4 := by unfold ordR; (repeat' split) <;> omega
theorem worR_bd (u : Int) : 0 ≤ worR u ∧ worR u ≤ 86400 := by unfold worR; (repeat' split) <;> omega

/-- The pieces that may come. -/
def okP (l : List S64) : Prop := ∀ x ∈ l, 0 ≤ x.f0 ∧ x.f0 ≤ 9999999999

theorem mul_bd {a b : Int} (h0 : 0 ≤ a) (h1 : a ≤ 9999999999) (g0 : 0 ≤ b) (g1 : b ≤ 86400) : 0 ≤ a * b ∧ a * b ≤ 863999999913600 := by
  refine ⟨Int.mul_nonneg h0 g0, ?_⟩
  have : a * b ≤ 9999999999 * 86400 := Int.mul_le_mul h1 g1 g0 (by omega)
  omega

theorem rd_drop {l : List S64} {i : Nat} {x : S64} {t : List S64} (h : l.drop i = x :: t) : rd_T64 l i = x ∧ i < l.length ∧ l.drop (i + 1) = t := by
  have hi : i < l.length := by
    rcases Nat.lt_or_ge i l.length with h' | h'
    · exact h'
    · rw [List.drop_eq_nil_of_le h'] at h; cases h
  have e := List.drop_eq_getElem_cons hi
  rw [h] at e
  refine ⟨?_, hi, (List.cons.inj e).2.symm⟩
  unfold rd_T64
  rw [Int.toNat_natCast, List.getD_eq_getElem?_getD, List.getElem?_eq_getElem hi]
  exact (List.cons.inj e).1.symm

theorem sum_l (l : List S64) (hok : okP l) (hlen : l.length ≤ 1000000) (t : List S64) : ∀ (i : Nat) (acc was : Int), l.drop i = t → i ≤ l.length → (was = if i = 0 then -1 else ordR (rd_T64 l ((i : Int) - 1)).f1) → (i ≠ 0 → 0 ≤ was) → 0 ≤ acc → acc ≤ (was + 1) * 863999999913600 →
    Ev (fun k => posthornref12_sum.l0 k l acc i) (run was acc t) := by
  induction t with
  | nil =>
    intro i acc was h hi hw hw0 h0 h1
    have hl : l.length ≤ i := by simpa using h
    refine Ev.step (fun k => by rw [posthornref12_sum.l0]) ?_
    refine Ev.ite_neg (by omega) ?_
    have r1 : (was = -1 ∨ was = 1) → run was acc [] = -1 := fun z => by unfold run; rw [if_pos z]
    have r2 : ¬ (was = -1 ∨ was = 1) → run was acc [] = acc := fun z => by unfold run; rw [if_neg z]
    by_cases c : (l.length : Int) = 0
    · have : i = 0 := by omega
      rw [r1 (.inl (by rw [hw, if_pos this]))]
      exact Ev.ite_pos c (Ev.now _)
    · have hi0 : i ≠ 0 := by omega
      rw [if_neg hi0] at hw
      have e : wrap64 ((l.length : Int) - 1) = (i : Int) - 1 := by rw [w64 _ (by omega) (by omega)]; omega
      simp only [e]
      refine Ev.ite_neg c ?_
      refine Ev.ite_pos (by omega) (Ev.ite_pos (by omega) ?_)
      have hwn : was ≠ -1 := by have := hw0 hi0; omega
      by_cases c2 : (rd_T64 l ((i : Int) - 1)).f1 = 84
      · rw [r1 (.inr (by rw [hw, c2]; rfl))]
        exact Ev.ite_pos c2 (Ev.now _)
      · rw [r2]
        · exact Ev.ite_neg c2 (Ev.now _)
        · rintro (q | q)
          · exact hwn q
          · rw [hw] at q
            unfold ordR at q
            rw [if_neg] at q
            · rw [if_neg c2] at q; revert q; (repeat' split) <;> omega
            · intro e; rw [if_pos e] at q; omega
  | cons x t ih =>
    intro i acc was h hi hw hw0 h0 h1
    obtain ⟨hx, hlt, hd⟩ := rd_drop h
    have hxo : 0 ≤ x.f0 ∧ x.f0 ≤ 9999999999 := hok x (List.mem_of_mem_drop (by rw [h]; exact List.mem_cons_self))
    have ob := ordR_bd x.f1
    have wb := worR_bd x.f1
    have mb := mul_bd hxo.1 hxo.2 wb.1 wb.2
    refine Ev.step (fun k => by rw [posthornref12_sum.l0]) ?_
    refine Ev.ite_pos (by omega) (Ev.ite_pos (by omega) (Ev.bind_now (order_f _) ?_))
    rw [hx]
    have wl : was ≤ 4 := by rw [hw]; split; omega; exact (ordR_bd _).2
    have wl1 : -1 ≤ was := by rw [hw]; split; omega; exact (ordR_bd _).1
    -- the next round
    have nxt : ¬ bad was (ordR x.f1) → Ev (fun k => posthornref12_sum.l0 k l (wrap64 (acc + wrap64 (x.f0 * worR x.f1))) (wrap64 ((i : Int) + 1))) (run (ordR x.f1) (acc + x.f0 * worR x.f1) t) := by
      intro nb
      have hbo : was + 1 ≤ ordR x.f1 := by unfold bad at nb; omega
      have hm : (was + 1) * 863999999913600 ≤ 5 * 863999999913600 := Int.mul_le_mul_of_nonneg_right (by omega) (by omega)
      have hm2 : (was + 1 + 1) * 863999999913600 ≤ (ordR x.f1 + 1) * 863999999913600 := Int.mul_le_mul_of_nonneg_right (by omega) (by omega)
      rw [w64 (x.f0 * worR x.f1) (by omega) (by omega), w64 (acc + x.f0 * worR x.f1) (by omega) (by omega), w64 ((i : Int) + 1) (by omega) (by omega)]
      have := ih (i + 1) (acc + x.f0 * worR x.f1) (ordR x.f1) hd (by omega) (by
        rw [if_neg (by omega), show (((i + 1 : Nat) : Int) - 1) = (i : Int) by omega, hx]) (fun _ => by unfold bad at nb; omega) (by omega) (by rw [Int.add_mul] at hm2 ⊢; omega)
      have e2 : ((i + 1 : Nat) : Int) = (i : Int) + 1 := by omega
      rw [e2] at this
      exact this
    have stop : bad was (ordR x.f1) → run was acc (x :: t) = -1 := fun b => by unfold run; rw [if_pos b]
    have go : ¬ bad was (ordR x.f1) → run was acc (x :: t) = run (ordR x.f1) (acc + x.f0 * worR x.f1) t := fun b => by rw [run, if_neg b]
    by_cases c1 : ordR x.f1 < 0
    · rw [stop (.inl c1)]; exact Ev.ite_pos c1 (Ev.now _)
    refine Ev.ite_neg c1 ?_
    by_cases ci : i = 0
    · subst ci
      rw [if_pos rfl] at hw
      refine Ev.ite_pos rfl (Ev.step (fun k => by rw [posthornref12_sum.j2]) ?_)
      by_cases c2 : ordR x.f1 > 1
      · rw [stop (.inr (.inl ⟨hw, c2⟩)), decide_eq_true c2]; exact Ev.ite_pos rfl (Ev.now _)
      · have nb : ¬ bad was (ordR x.f1) := by unfold bad; omega
        rw [go nb, decide_eq_false c2]
        refine Ev.ite_neg (by decide) (Ev.ite_neg (by omega) (Ev.ite_pos (by omega) (Ev.ite_pos (by omega) (Ev.bind_now (worth_f _) ?_))))
        rw [hx]
        exact nxt nb
    · rw [if_neg ci] at hw
      have hw1 := hw0 ci
      refine Ev.ite_neg (by omega) (Ev.step (fun k => by rw [posthornref12_sum.j2]) ?_)
      have e : wrap64 ((i : Int) - 1) = (i : Int) - 1 := w64 _ (by omega) (by omega)
      simp only [e]
      refine Ev.ite_neg (by decide) (Ev.ite_pos (by omega) (Ev.ite_pos (by omega) (Ev.ite_pos (by omega) (Ev.bind_now (order_f _) ?_))))
      rw [← hw, hx]
      rw [w64 (was + 1) (by omega) (by omega)]
      have fin : ¬ bad was (ordR x.f1) → Ev (fun k => (if 0 ≤ (i : Int) then (if (i : Int) < (l.length : Int) then ((posthornref12_worth.f x.f1).bind fun t => (posthornref12_sum.l0 k l (wrap64 (acc + (wrap64 (x.f0 * t)))) (wrap64 ((i : Int) + 1)))) else none) else none)) (run was acc (x :: t)) := by
        intro nb
        rw [go nb]
        exact Ev.ite_pos (by omega) (Ev.ite_pos (by omega) (Ev.bind_now (worth_f _) (nxt nb)))
      by_cases w0 : was = 0
      · refine Ev.ite_pos w0 ?_
        by_cases c : ordR x.f1 = 1
        · exact Ev.ite_pos c (Ev.ite_neg (by omega) (Ev.ite_neg (by omega) (fin (by unfold bad; omega))))
        · rw [stop (by unfold bad; omega)]; exact Ev.ite_neg c (Ev.now _)
      refine Ev.ite_neg w0 ?_
      by_cases w1 : was = 1
      · refine Ev.ite_pos w1 ?_
        by_cases c : ordR x.f1 < 2
        · rw [stop (by unfold bad; omega)]; exact Ev.ite_pos c (Ev.now _)
        · exact Ev.ite_neg c (Ev.ite_neg (by omega) (fin (by unfold bad; omega)))
      refine Ev.ite_neg w1 (Ev.ite_pos (by omega) ?_)
      by_cases c : ordR x.f1 = was + 1
      · exact Ev.ite_pos c (fin (by unfold bad; omega))
      · rw [stop (by unfold bad; omega)]; exact Ev.ite_neg c (Ev.now _)

theorem sum_ev (l : List S64) (hok : okP l) (hlen : l.length ≤ 1000000) : Ev (fun k => posthornref12_sum.f k l) (sumR l) := by
  have j0f : Ev (fun k => posthornref12_sum.j0 k l false) (run (-1) 0 l) := by
    refine Ev.step (fun k => by rw [posthornref12_sum.j0]) (Ev.ite_neg (by decide) ?_)
    have := sum_l l hok hlen l 0 0 (-1) rfl (by omega) rfl (fun h => absurd rfl h) (by omega) (by omega)
    exact this
  unfold posthornref12_sum.f
  by_cases c : (l.length : Int) = 1
  · obtain ⟨x, rfl⟩ : ∃ x, l = [x] := List.length_eq_one_iff.mp (by omega)
    refine Ev.ite_pos c (Ev.ite_pos (by omega) ?_)
    have hx : rd_T64 [x] 0 = x := rfl
    have xo := hok x (by simp)
    rw [hx]
    by_cases c2 : x.f1 = 87
    · have e : sumR [x] = 604800 * x.f0 := by unfold sumR; simp only [c2, if_true]
      rw [e, show (x.f1 == 87) = true by simpa using c2]
      refine Ev.step (fun k => by rw [posthornref12_sum.j0]) (Ev.ite_pos rfl (Ev.ite_pos (by simp) ?_))
      rw [hx, w64 _ (by omega) (by omega)]
      exact Ev.now _
    · have e : sumR [x] = run (-1) 0 [x] := by unfold sumR; simp only [c2, if_false]
      rw [e, show (x.f1 == 87) = false by simpa using c2]
      exact j0f
  · refine Ev.ite_neg c ?_
    have e : sumR l = run (-1) 0 l := by
      match l, c with
      | [], _ => rfl
      | [x], c => exact absurd rfl c
      | _ :: _ :: _, _ => rfl
    rw [e]
    exact j0f

theorem take_snoc0 {s : List UInt8} {fr i : Nat} {c : UInt8} {l : List UInt8} (h : s.drop i = c :: l) (hf : fr ≤ i) : (s.drop fr).take (i + 1 - fr) = (s.drop fr).take (i - fr) ++ [c] := by
  have hi : i < s.length := by
    rcases Nat.lt_or_ge i s.length with h' | h'
    · exact h'
    · rw [List.drop_eq_nil_of_le h'] at h; cases h
  have e : s[i] = c := by rw [List.drop_eq_getElem_cons hi] at h; exact (List.cons.inj h).1
  have hl : i - fr < (s.drop fr).length := by rw [List.length_drop]; omega
  rw [show i + 1 - fr = (i - fr) + 1 by omega, List.take_succ_eq_append_getElem hl]
  congr 1
  rw [List.getElem_drop]
  congr 1
  rw [← e]
  congr 1
  omega
theorem okP_snoc {l : List S64} {x : S64} (h : okP l) (h0 : 0 ≤ x.f0) (h1 : x.f0 ≤ 9999999999) : okP (l ++ [x]) := by
  intro y hy
  rcases List.mem_append.mp hy with q | q
  · exact h y q
  · rw [List.mem_singleton.mp q]; exact ⟨h0, h1⟩
theorem numR_top (l : List UInt8) : numR l ≤ 9999999999 := by
  unfold numR
  by_cases c : l = [] ∨ 10 < l.length ∨ l.all isD = false
  · rw [if_pos c]; omega
  · rw [if_neg c]
    have hb : l.all isD = true := by
      rcases hb : l.all isD with _ | _
      · exact absurd (.inr (.inr hb)) c
      · rfl
    have := dv_nonneg l hb
    have p := pow10_le (a := l.length) (Nat.le_of_not_lt fun x => c (.inr (.inl x)))
    omega
/-- What the reference's pieces of a text are: the digits so far stand from 'fr' to i. -/
theorem pieces_l (s : ByteArray) (hs : (bl s).length ≤ 400) (l : List UInt8) : ∀ (i fr : Nat) (out : List S64) (ds : List UInt8), (bl s).drop i = l → i ≤ (bl s).length → fr ≤ i → ((bl s).drop fr).take (i - fr) = ds → out.length ≤ fr → okP out →
    ∃ r : List S64 × Bool, Ev (fun k => posthornref12_Pieces.l0 k s out fr i) r ∧ okP r.1 ∧ r.1.length ≤ (bl s).length ∧ (match pc ds l with | some x => r = (out ++ x, true) | none => r.2 = false) := by
  induction l with
  | nil =>
    intro i fr out ds h hi hf hd ho hok
    have hl := drop_nil h
    refine ⟨(out, ((fr : Int) == (s.size : Int))), Ev.step (fun k => by rw [posthornref12_Pieces.l0]) ?_, hok, by show out.length ≤ _; omega, ?_⟩
    · refine Ev.ite_neg (by rw [bl_size]; omega) ?_
      exact Ev.now _
    · unfold pc
      have hlen : ds.length = i - fr := by rw [← hd, List.length_take, List.length_drop]; omega
      by_cases c : ds = []
      · rw [if_pos c]
        have : i - fr = 0 := by rw [← hlen, c]; rfl
        have e : ((fr : Int) == (s.size : Int)) = true := beq_iff_eq.mpr (by rw [bl_size]; omega)
        simp only [e, List.append_nil]
      · rw [if_neg c]
        have : ds.length ≠ 0 := fun x => c (List.eq_nil_of_length_eq_zero x)
        exact beq_eq_false_iff_ne.mpr (by rw [bl_size]; omega)
  | cons c l ih =>
    intro i fr out ds h hi hf hd ho hok
    obtain ⟨hb, hlt, hdr⟩ := bt_drop h
    have hcl := c.toNat_lt
    have e1 : wrap64 ((i : Int) + 1) = ((i + 1 : Nat) : Int) := by rw [w64 _ (by omega) (by omega)]; omega
    have hsz : (i : Int) < (s.size : Int) := by rw [bl_size]; omega
    by_cases cd : isD c = true
    · have cd' := (isD_iff c).mp cd
      obtain ⟨r, h1, h2, h3, h4⟩ := ih (i + 1) fr out (ds ++ [c]) hdr (by omega) (by omega) (by rw [take_snoc0 h hf, hd]) ho hok
      refine ⟨r, ?_, h2, h3, by unfold pc; rw [if_pos cd]; exact h4⟩
      refine Ev.step (fun k => by rw [posthornref12_Pieces.l0]) (Ev.ite_pos hsz (Ev.ite_pos (by omega) (Ev.ite_pos (by omega) ?_)))
      rw [decide_eq_true (show bt s i ≤ 57 by omega)]
      refine Ev.step (fun k => by rw [posthornref12_Pieces.j1]) (Ev.ite_pos rfl ?_)
      rw [e1]
      exact h1
    · have cd' : ¬ (48 ≤ c.toNat ∧ c.toNat ≤ 57) := fun x => cd ((isD_iff c).mpr x)
      -- the two ways to the byte that is no digit
      have enter : ∀ r, Ev (fun k => posthornref12_Pieces.j1 k s out fr i false) r → Ev (fun k => posthornref12_Pieces.l0 k s out fr i) r := by
        intro r hr
        refine Ev.step (fun k => by rw [posthornref12_Pieces.l0]) (Ev.ite_pos hsz (Ev.ite_pos (by omega) ?_))
        by_cases c1 : bt s i ≥ 48
        · refine Ev.ite_pos c1 ?_
          rw [decide_eq_false (show ¬ bt s i ≤ 57 by omega)]
          exact hr
        · exact Ev.ite_neg c1 hr
      have e84 : (bt s i = 84) ↔ c = 84 := by
        rw [hb]
        constructor
        · intro x; exact UInt8.toNat_inj.mp (by have : (84 : UInt8).toNat = 84 := rfl; omega)
        · intro x; rw [x]; rfl
      have hlen : ds.length = i - fr := by rw [← hd, List.length_take, List.length_drop]; omega
      have append : ∀ (x : S64) (hx0 : 0 ≤ x.f0) (hx1 : x.f0 ≤ 9999999999), ∃ r : List S64 × Bool, Ev (fun k => posthornref12_Pieces.l0 k s (out ++ [x]) (wrap64 ((i : Int) + 1)) (wrap64 ((i : Int) + 1))) r ∧ okP r.1 ∧ r.1.length ≤ (bl s).length ∧ (match (pc [] l).map (fun y => x :: y) with | some x => r = (out ++ x, true) | none => r.2 = false) := by
        intro x hx0 hx1
        obtain ⟨r, h1, h2, h3, h4⟩ := ih (i + 1) (i + 1) (out ++ [x]) [] hdr (by omega) (Nat.le_refl _) (by simp) (by simp; omega) (okP_snoc hok hx0 hx1)
        rw [e1]
        refine ⟨r, h1, h2, h3, ?_⟩
        cases hp : pc [] l with
        | none => rw [hp] at h4; exact h4
        | some y => rw [hp] at h4; simpa using h4
      by_cases c84 : c = 84 ∧ ds = []
      · obtain ⟨r, h1, h2, h3, h4⟩ := append ⟨0, 84⟩ (by decide) (by decide)
        refine ⟨r, enter r ?_, h2, h3, by unfold pc; rw [if_neg cd, if_pos c84]; exact h4⟩
        have hfi : fr = i := by have := c84.2; rw [this] at hlen; simp at hlen; omega
        refine Ev.step (fun k => by rw [posthornref12_Pieces.j1]) (Ev.ite_neg (by decide) (Ev.ite_pos (by omega) (Ev.ite_pos hsz (Ev.ite_pos (e84.mpr c84.1) ?_))))
        rw [decide_eq_false (show ¬ (i : Int) > (fr : Int) by omega), e84.mpr c84.1]
        refine Ev.step (fun k => by rw [posthornref12_Pieces.j2]) (Ev.ite_neg (by decide) (Ev.ite_pos (by omega) ?_))
        exact h1
      · -- a number is asked
        have num : ∀ r, (if numR ds < 0 then (some (([] : List S64), false) : Option (List S64 × Bool)) = some r else if c = 84 then (some (([] : List S64), false) : Option (List S64 × Bool)) = some r else Ev (fun k => posthornref12_Pieces.l0 k s (out ++ [(⟨numR ds, (c.toNat : Int)⟩ : S64)]) (wrap64 ((i : Int) + 1)) (wrap64 ((i : Int) + 1))) r) →
            Ev (fun k => posthornref12_Pieces.j1 k s out fr i false) r := by
          intro r hr
          have j2 : Ev (fun k => posthornref12_Pieces.j2 k s out fr i true 0 (c.toNat : Int)) r := by
            refine Ev.step (fun k => by rw [posthornref12_Pieces.j2]) (Ev.ite_pos rfl (Ev.ite_pos (by omega) (Ev.ite_pos (by omega) (Ev.ite_pos (by omega) ?_))))
            have hv := refValue_ev (s.extract ((fr : Int)).toNat ((i : Int)).toNat)
            rw [bl_extract, Int.toNat_natCast, Int.toNat_natCast, hd] at hv
            refine Ev.bind hv ?_
            by_cases c1 : numR ds < 0
            · rw [if_pos c1] at hr
              refine Ev.ite_pos c1 ?_
              rw [← Option.some.inj hr]
              exact Ev.now _
            · rw [if_neg c1] at hr
              refine Ev.ite_neg c1 (Ev.ite_pos (by omega) (Ev.ite_pos hsz ?_))
              by_cases c2 : c = 84
              · rw [if_pos c2] at hr
                refine Ev.ite_pos (e84.mpr c2) ?_
                rw [← Option.some.inj hr]
                exact Ev.now _
              · rw [if_neg c2] at hr
                exact Ev.ite_neg (fun x => c2 (e84.mp x)) (Ev.ite_pos (by omega) hr)
          refine Ev.step (fun k => by rw [posthornref12_Pieces.j1]) (Ev.ite_neg (by decide) (Ev.ite_pos (by omega) (Ev.ite_pos hsz ?_)))
          rw [hb]
          by_cases c2 : c = 84
          · have hne : ds ≠ [] := fun x => c84 ⟨c2, x⟩
            have : ds.length ≠ 0 := fun x => hne (List.eq_nil_of_length_eq_zero x)
            refine Ev.ite_pos (by rw [c2]; rfl) ?_
            rw [decide_eq_true (show (i : Int) > (fr : Int) by omega)]
            exact j2
          · exact Ev.ite_neg (fun x => c2 (e84.mp (hb.trans x))) j2
        by_cases c1 : numR ds < 0 ∨ c = 84
        · refine ⟨([], false), enter _ (num _ ?_), (fun x hx => by cases hx), by simp, by unfold pc; rw [if_neg cd, if_neg c84, if_pos c1]⟩
          by_cases c3 : numR ds < 0
          · rw [if_pos c3]
          · rw [if_neg c3, if_pos (c1.resolve_left c3)]
        · have c3 : ¬ numR ds < 0 := fun x => c1 (.inl x)
          have c4 : ¬ c = 84 := fun x => c1 (.inr x)
          obtain ⟨r, h1, h2, h3, h4⟩ := append ⟨numR ds, (c.toNat : Int)⟩ (by show 0 ≤ numR ds; omega) (numR_top ds)
          refine ⟨r, enter r (num r (by rw [if_neg c3, if_neg c4]; exact h1)), h2, h3, by unfold pc; rw [if_neg cd, if_neg c84, if_neg c1]; exact h4⟩
/-- What is said behind the P, by the document; -1: nothing. -/
def bodyR (l : List UInt8) : Int := match pc [] l with | some x => sumR x | none => -1
theorem pieces_ev (s : ByteArray) (hs : (bl s).length ≤ 400) : ∃ r : List S64 × Bool, Ev (fun k => posthornref12_Pieces.f k s) r ∧ okP r.1 ∧ r.1.length ≤ 400 ∧ (match pc [] (bl s) with | some x => r = (x, true) | none => r.2 = false) := by
  obtain ⟨r, h1, h2, h3, h4⟩ := pieces_l s hs _ 0 0 [] [] rfl (by omega) (by omega) (by simp) (by simp) (fun x hx => by cases hx)
  refine ⟨r, h1, h2, by omega, ?_⟩
  rw [List.drop_zero] at h4
  cases hp : pc [] (bl s) with
  | none => rw [hp] at h4; exact h4
  | some y => rw [hp] at h4; simpa using h4

/-- What is read as a length, or what is wrong. -/
def spanR (sign : Int) : List UInt8 → Int × Int
  | [] => (0, 110)
  | c :: l => if c = 80 then (if bodyR l < 0 ∨ bodyR l > 1099511627776 then (0, 110) else (sign * bodyR l, 0)) else (0, 110)
def parseSpanR : List UInt8 → Int × Int
  | [] => (0, 110)
  | c :: l => if c = 43 then spanR 1 l else if c = 45 then spanR (-1) l else spanR 1 (c :: l)

theorem spanR_cons (sg : Int) (c : UInt8) (l : List UInt8) : spanR sg (c :: l) = if c = 80 then (if bodyR l < 0 ∨ bodyR l > 1099511627776 then (0, 110) else (sg * bodyR l, 0)) else (0, 110) := rfl
theorem parseSpanR_cons (c : UInt8) (l : List UInt8) : parseSpanR (c :: l) = if c = 43 then spanR 1 l else if c = 45 then spanR (-1) l else spanR 1 (c :: l) := rfl
theorem bl_cons {s : ByteArray} {c : UInt8} {l : List UInt8} (h : bl s = c :: l) : bt s 0 = c.toNat ∧ bl (s.extract 1 s.size) = l ∧ (s.size : Int) = l.length + 1 := by
  refine ⟨?_, ?_, by rw [bl_size, h]; simp⟩
  · have := (bt_drop (s := s) (i := 0) (c := c) (l := l) (by rw [List.drop_zero]; exact h)).1
    exact this
  · rw [bl_extract, h, bl_nsize, h]
    simp
theorem byte_eq {c : UInt8} {n : Nat} (h : n < 256) : ((c.toNat : Int) = (n : Int)) ↔ c = UInt8.ofNat n := by
  constructor
  · intro x; exact UInt8.toNat_inj.mp (by rw [UInt8.toNat_ofNat_of_lt' (by simpa [UInt8.size] using h)]; omega)
  · intro x; rw [x, UInt8.toNat_ofNat_of_lt' (by simpa [UInt8.size] using h)]
theorem sumR_bd {l : List S64} (h : okP l) : sumR l ≤ 100000000000000000 := by
  have rb : ∀ (l : List S64), okP l → ∀ was acc : Int, -1 ≤ was → was ≤ 4 → acc ≤ (was + 1) * 863999999913600 → run was acc l ≤ 10000000000000000 := by
    intro l
    induction l with
    | nil =>
      intro _ was acc w0 w1 ha
      have : (was + 1) * 863999999913600 ≤ 5 * 863999999913600 := Int.mul_le_mul_of_nonneg_right (by omega) (by omega)
      unfold run; split <;> omega
    | cons x l ih =>
      intro h was acc w0 w1 ha
      have xo := h x (by simp)
      have ob := ordR_bd x.f1
      have wb := worR_bd x.f1
      have mb := mul_bd xo.1 xo.2 wb.1 wb.2
      rw [run]
      by_cases c : bad was (ordR x.f1)
      · rw [if_pos c]; omega
      · rw [if_neg c]
        have hbo : was + 1 ≤ ordR x.f1 := by unfold bad at c; omega
        have hm2 : (was + 1 + 1) * 863999999913600 ≤ (ordR x.f1 + 1) * 863999999913600 := Int.mul_le_mul_of_nonneg_right (by omega) (by omega)
        exact ih (fun y hy => h y (by simp [hy])) _ _ ob.1 ob.2 (by rw [Int.add_mul] at hm2 ⊢; omega)
  unfold sumR
  split
  · rename_i x
    have xo := h x (by simp)
    split
    · omega
    · have := rb [x] h (-1) 0 (by omega) (by omega) (by omega); omega
  · have := rb _ h (-1) 0 (by omega) (by omega) (by omega); omega

theorem refPS_j1 (s : ByteArray) (hs : (bl s).length ≤ 400) (sg : Int) (hsg : sg = 1 ∨ sg = -1) : Ev (fun k => posthornref12_ParseSpan.j1 k s sg) (spanR sg (bl s)) := by
  have jt : Ev (fun k => posthornref12_ParseSpan.j2 k s sg true) (0, 110) := Ev.step (fun k => by rw [posthornref12_ParseSpan.j2]) (Ev.ite_pos rfl (Ev.now _))
  refine Ev.step (fun k => by rw [posthornref12_ParseSpan.j1]) ?_
  cases hb : bl s with
  | nil =>
    exact Ev.ite_pos (by rw [bl_size, hb]; rfl) jt
  | cons c l =>
    obtain ⟨h1, h2, h3⟩ := bl_cons hb
    refine Ev.ite_neg (by omega) (Ev.ite_pos (by omega) ?_)
    rw [spanR_cons]
    by_cases c80 : c = 80
    · rw [if_pos c80, show (bt s 0 != 80) = false by rw [h1, c80]; rfl]
      refine Ev.step (fun k => by rw [posthornref12_ParseSpan.j2]) (Ev.ite_neg (by decide) (Ev.ite_pos (by omega) ?_))
      obtain ⟨r, p1, p2, p3, p4⟩ := pieces_ev (s.extract 1 s.size) (by rw [h2]; rw [hb] at hs; simp at hs; omega)
      refine Ev.bind p1 (Ev.bind (sum_ev r.1 p2 (by omega)) ?_)
      rw [h2] at p4
      have sb := sumR_bd p2
      unfold bodyR
      cases hp : pc [] l with
      | none =>
        rw [hp] at p4
        have p4' : r.2 = false := p4
        refine Ev.ite_neg (by rw [p4']; decide) ?_
        rw [if_pos (.inl (by decide))]
        exact Ev.now _
      | some x =>
        rw [hp] at p4
        have p4' : r = (x, true) := p4
        rw [p4'] at sb ⊢
        refine Ev.ite_pos rfl ?_
        simp only []
        by_cases c1 : sumR x < 0
        · rw [if_pos (show sumR x < 0 ∨ sumR x > 1099511627776 from .inl c1)]; exact Ev.ite_pos c1 (Ev.now _)
        refine Ev.ite_neg c1 ?_
        by_cases c2 : sumR x > 1099511627776
        · rw [if_pos (show sumR x < 0 ∨ sumR x > 1099511627776 from .inr c2)]; exact Ev.ite_pos c2 (Ev.now _)
        refine Ev.ite_neg c2 ?_
        rw [if_neg (show ¬ (sumR x < 0 ∨ sumR x > 1099511627776) from fun q => q.elim c1 c2)]
        rw [w64 (sg * sumR x) (by rcases hsg with rfl | rfl <;> omega) (by rcases hsg with rfl | rfl <;> omega)]
        exact Ev.now _
    · rw [if_neg c80, show (bt s 0 != 80) = true by
        rw [h1]; exact bne_iff_ne.mpr (fun e => c80 ((byte_eq (n := 80) (by omega)).mp e))]
      exact jt
theorem refParseSpan_ev (s : ByteArray) (hs : (bl s).length ≤ 400) : Ev (fun k => posthornref12_ParseSpan.f k s) (parseSpanR (bl s)) := by
  unfold posthornref12_ParseSpan.f
  cases hb : bl s with
  | nil =>
    refine Ev.ite_neg (by rw [bl_size, hb]; simp) (Ev.step (fun k => by rw [posthornref12_ParseSpan.j0]) (Ev.ite_neg (by decide) ?_))
    have := refPS_j1 s hs 1 (.inl rfl)
    rw [hb] at this
    exact this
  | cons c l =>
    obtain ⟨h1, h2, h3⟩ := bl_cons hb
    have hl : (bl (s.extract 1 s.size)).length ≤ 400 := by rw [h2]; rw [hb] at hs; simp at hs; omega
    refine Ev.ite_pos (by omega) (Ev.ite_pos (by omega) ?_)
    rw [parseSpanR_cons]
    have q43 : bt s 0 = 43 ↔ c = 43 := by rw [h1]; exact byte_eq (n := 43) (by omega)
    have q45 : bt s 0 = 45 ↔ c = 45 := by rw [h1]; exact byte_eq (n := 45) (by omega)
    by_cases c43 : c = 43
    · rw [if_pos c43]
      refine Ev.ite_pos (q43.mpr c43) (Ev.step (fun k => by rw [posthornref12_ParseSpan.j0]) (Ev.ite_pos rfl (Ev.ite_pos (by omega) (Ev.ite_neg (by rw [q45, c43]; decide) (Ev.ite_pos (by omega) ?_)))))
      have := refPS_j1 _ hl 1 (.inl rfl)
      rw [h2] at this
      exact this
    · rw [if_neg c43]
      refine Ev.ite_neg (fun e => c43 (q43.mp e)) ?_
      by_cases c45 : c = 45
      · rw [if_pos c45, show (bt s 0 == 45) = true from beq_iff_eq.mpr (q45.mpr c45)]
        refine Ev.step (fun k => by rw [posthornref12_ParseSpan.j0]) (Ev.ite_pos rfl (Ev.ite_pos (by omega) (Ev.ite_pos (q45.mpr c45) (Ev.ite_pos (by omega) ?_))))
        have := refPS_j1 _ hl (-1) (.inr rfl)
        rw [h2] at this
        exact this
      · rw [if_neg c45, show (bt s 0 == 45) = false from beq_eq_false_iff_ne.mpr (fun e => c45 (q45.mp e))]
        refine Ev.step (fun k => by rw [posthornref12_ParseSpan.j0]) (Ev.ite_neg (by decide) ?_)
        have := refPS_j1 s hs 1 (.inl rfl)
        rw [hb] at this
        exact this
end Go.Proofs.YtiffbkfgimifbaaDoor.Print

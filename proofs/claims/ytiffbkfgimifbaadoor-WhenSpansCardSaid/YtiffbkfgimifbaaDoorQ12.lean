/- Lengths: the program reads what the reference reads. -/
import Derived.Test.YtiffbkfgimifbaaDoorPrint0
import Derived.Test.YtiffbkfgimifbaaDoorPrint6
import Derived.Test.YtiffbkfgimifbaaDoorQ11
namespace Go.Proofs.YtiffbkfgimifbaaDoor.Print
open Go.RowKit Go.Proofs.YtiffbkfgimifbaaDoorW.PrintWords Go.Proofs.YtiffbkfgimifbaaDoorW.PrintLast Go.Proofs.YtiffbkfgimifbaaDoorW.PrintMore

theorem pc_ok (l : List UInt8) : ∀ ds x, pc ds l = some x → okP x := by
  induction l with
  | nil =>
    intro ds x h
    unfold pc at h
    by_cases c : ds = []
    · rw [if_pos c] at h; rw [← Option.some.inj h]; intro y hy; cases hy
    · rw [if_neg c] at h; cases h
  | cons c l ih =>
    intro ds x h
    unfold pc at h
    by_cases c1 : isD c = true
    · rw [if_pos c1] at h; exact ih _ _ h
    rw [if_neg c1] at h
    by_cases c2 : c = 84 ∧ ds = []
    · rw [if_pos c2] at h
      obtain ⟨y, hy, rfl⟩ := Option.map_eq_some_iff.mp h
      intro z hz
      rcases List.mem_cons.mp hz with rfl | q
      · exact ⟨by decide, by decide⟩
      · exact ih _ _ hy z q
    rw [if_neg c2] at h
    by_cases c3 : numR ds < 0 ∨ c = 84
    · rw [if_pos c3] at h; cases h
    rw [if_neg c3] at h
    obtain ⟨y, hy, rfl⟩ := Option.map_eq_some_iff.mp h
    intro z hz
    rcases List.mem_cons.mp hz with rfl | q
    · exact ⟨by show 0 ≤ numR ds; have : ¬ numR ds < 0 := fun q => c3 (.inl q); omega, numR_top ds⟩
    · exact ih _ _ hy z q
theorem run_shift (b : Int) (hb : 0 ≤ b) (l : List S64) : okP l → ∀ was a : Int, 0 ≤ a → run was (b + a) l = if run was a l < 0 then -1 else b + run was a l := by
  induction l with
  | nil =>
    intro _ was a ha
    unfold run
    by_cases c : was = -1 ∨ was = 1
    · rw [if_pos c, if_pos c]; rfl
    · rw [if_neg c, if_neg c, if_neg (show ¬ a < 0 by omega)]
  | cons x l ih =>
    intro h was a ha
    have xo := h x (by simp)
    have wb := worR_bd x.f1
    have mb := mul_bd xo.1 xo.2 wb.1 wb.2
    have e1 : run was (b + a) (x :: l) = if bad was (ordR x.f1) then -1 else run (ordR x.f1) (b + a + x.f0 * worR x.f1) l := rfl
    have e2 : run was a (x :: l) = if bad was (ordR x.f1) then -1 else run (ordR x.f1) (a + x.f0 * worR x.f1) l := rfl
    rw [e1, e2]
    by_cases c : bad was (ordR x.f1)
    · rw [if_pos c, if_pos c]; rfl
    · rw [if_neg c, if_neg c, Int.add_assoc]
      exact ih (fun y hy => h y (by simp [hy])) _ _ (by omega)
theorem rn_shift (b : Int) (hb : 0 ≤ b) (l : List UInt8) (was a : Int) (ha : 0 ≤ a) : rn was (b + a) l = if rn was a l < 0 then -1 else b + rn was a l := by
  unfold rn
  cases h : pc [] l with
  | none => rfl
  | some x => exact run_shift b hb x (pc_ok _ _ _ h) was a ha

theorem hd_T (t : List UInt8) : hd [] (84 :: t) = some ([], 84, t) := rfl
theorem pc_empty {r : List UInt8} (h : pc [] r = some []) : r = [] := by
  rw [pc_hd] at h
  cases e : hd [] r with
  | none =>
    rw [e] at h
    by_cases c : [] ++ r = []
    · exact c
    · simp only [c, if_false] at h; cases h
  | some t =>
    obtain ⟨d, c, r'⟩ := t
    rw [e] at h
    revert h
    simp only []
    split
    · intro h; obtain ⟨y, _, h⟩ := Option.map_eq_some_iff.mp h; cases h
    · split
      · intro h; cases h
      · intro h; obtain ⟨y, _, h⟩ := Option.map_eq_some_iff.mp h; cases h
theorem sumR_cons {x : S64} {y : List S64} (h : x.f1 ≠ 87 ∨ y ≠ []) : sumR (x :: y) = run (-1) 0 (x :: y) := by
  cases y with
  | nil =>
    have h1 : x.f1 ≠ 87 := h.elim id (fun q => absurd rfl q)
    unfold sumR; simp only [h1, if_false]
  | cons z y => rfl
theorem bodyR_T (t : List UInt8) : bodyR (84 :: t) = rn 1 0 t := by
  unfold bodyR rn
  rw [pc_hd, hd_T]
  simp only [and_self, if_true]
  cases pc [] t with
  | none => rfl
  | some y =>
    show sumR (⟨0, 84⟩ :: y) = _
    rw [sumR_cons (.inl (by decide)), run, if_neg (by decide)]
    rfl
theorem pc_of {l d r : List UInt8} {c : UInt8} (h : hd [] l = some (d, c, r)) (h1 : ¬ numR d < 0) (h2 : c ≠ 84) : pc [] l = (pc [] r).map (fun x => (⟨numR d, (c.toNat : Int)⟩ : S64) :: x) := by
  have h3 : ¬ (c = 84 ∧ d = []) := fun x => h2 x.1
  have h4 : ¬ (numR d < 0 ∨ c = 84) := fun x => x.elim h1 h2
  rw [pc_hd, h]
  simp only [h3, h4, if_false]
theorem bodyR_W {l r : List UInt8} {n : Int} (h : hv l 87 = some (n, r)) : bodyR l = if r = [] then 604800 * n else -1 := by
  obtain ⟨d, h1, h2, h3, _⟩ := hv_some h
  unfold bodyR
  rw [pc_of h1 (by omega) (by decide)]
  cases e : pc [] r with
  | none =>
    have : r ≠ [] := by rintro rfl; cases e
    rw [if_neg this]; rfl
  | some y =>
    show sumR (⟨numR d, 87⟩ :: y) = _
    by_cases c : r = []
    · rw [if_pos c]
      subst c
      have : y = [] := (Option.some.inj e).symm
      rw [this]
      show (if (87 : Int) = 87 then 604800 * numR d else run (-1) 0 [⟨numR d, 87⟩]) = 604800 * n
      rw [if_pos rfl, h2]
    · rw [if_neg c]
      have : y ≠ [] := by rintro rfl; exact c (pc_empty e)
      rw [sumR_cons (.inr this), run, if_pos (show bad (-1) (ordR 87) by decide)]
theorem bodyR_D {l r : List UInt8} {n : Int} (h : hv l 68 = some (n, r)) : bodyR l = rn 0 (n * 86400) r := by
  obtain ⟨d, h1, h2, h3, _⟩ := hv_some h
  unfold bodyR rn
  rw [pc_of h1 (by omega) (by decide)]
  cases e : pc [] r with
  | none => rfl
  | some y =>
    show sumR (⟨numR d, 68⟩ :: y) = _
    rw [sumR_cons (.inl (show (68 : Int) ≠ 87 by decide)), run, if_neg (show ¬ bad (-1) (ordR 68) by decide)]
    show run 0 (0 + numR d * 86400) y = _
    rw [h2, Int.zero_add]
theorem rn_0 (acc : Int) (r : List UInt8) : rn 0 acc r = match r with | [] => acc | c :: t => if c = 84 then rn 1 acc t else -1 := by
  cases r with
  | nil => rfl
  | cons c t =>
    simp only []
    by_cases q : c = 84
    · subst q
      rw [if_pos rfl, rn_T (hd_T t), if_neg (by decide)]
    · rw [if_neg q]
      cases e : hd [] (c :: t) with
      | none => rw [rn_none e, if_neg (by simp)]
      | some z =>
        obtain ⟨d, c', r'⟩ := z
        by_cases q1 : c' = 84 ∧ d = []
        · obtain ⟨rfl, rfl⟩ := q1
          have := (hd_spec _ _ _ _ _ e rfl).2.1
          simp at this
          exact absurd this.1 q
        · by_cases q2 : numR d < 0 ∨ c' = 84
          · exact rn_fail e q1 q2
          · have q3 : ¬ numR d < 0 := fun x => q2 (.inl x)
            have q4 : c' ≠ 84 := fun x => q2 (.inr x)
            rw [rn_num e q3 q4, if_pos]
            have := mt (ord_of c').2.1.mp q4
            have ob := ordR_bd (c'.toNat : Int)
            unfold bad; omega
theorem bodyR_no {l : List UInt8} (h1 : hv l 87 = none) (h2 : hv l 68 = none) (h3 : ∀ t, l ≠ 84 :: t) : bodyR l = -1 := by
  unfold bodyR
  cases e : hd [] l with
  | none =>
    rw [pc_hd, e]
    by_cases c : [] ++ l = []
    · simp only [c, if_true]; rfl
    · simp only [c, if_false]
  | some z =>
    obtain ⟨d, c', r'⟩ := z
    by_cases q1 : c' = 84 ∧ d = []
    · obtain ⟨rfl, rfl⟩ := q1
      exact absurd (hd_spec _ _ _ _ _ e rfl).2.1 (h3 r')
    · by_cases q2 : numR d < 0 ∨ c' = 84
      · rw [pc_hd, e]; simp only [q1, q2, if_true, if_false]
      · have q3 : ¬ numR d < 0 := fun x => q2 (.inl x)
        have q4 : c' ≠ 84 := fun x => q2 (.inr x)
        rw [pc_of e q3 q4]
        cases pc [] r' with
        | none => rfl
        | some y =>
          show sumR (⟨numR d, (c'.toNat : Int)⟩ :: y) = -1
          have n87 : c' ≠ 87 := by rintro rfl; exact q3 (hv_none h1 e)
          have n68 : c' ≠ 68 := by rintro rfl; exact q3 (hv_none h2 e)
          rw [sumR_cons (.inl (fun x => n87 ((byte_eq (n := 87) (by omega)).mp x))), run, if_pos]
          have o := ord_of c'
          have := mt o.1.mp n68; have := mt o.2.1.mp q4
          have ob := ordR_bd (c'.toNat : Int)
          show bad (-1) (ordR (c'.toNat : Int))
          unfold bad; omega

theorem hasPrefix_f (s : ByteArray) (c : UInt8) : strings_HasPrefix.f s ⟨#[c]⟩ = some (match bl s with | [] => false | x :: _ => x == c) := by
  unfold strings_HasPrefix.f stringslite_HasPrefix.f
  have e1 : ((⟨#[c]⟩ : ByteArray).size : Int) = 1 := rfl
  rw [e1]
  cases h : bl s with
  | nil => rw [if_neg (by rw [bl_size, h]; simp)]; rfl
  | cons x l =>
    obtain ⟨h1, h2, h3⟩ := bl_cons h
    rw [if_pos (by omega), if_pos (by omega), if_pos (by omega)]
    simp only [Option.bind_some, bl_toList, bl_extract, h]
    show some ([x] == [c]) = some (x == c)
    simp
theorem cutPrefix_f (s : ByteArray) (c : UInt8) : ∃ r b, strings_CutPrefix.f s ⟨#[c]⟩ = some (r, b) ∧ (b = true → bl s = c :: bl r) ∧ (b = false → r = s ∧ ∀ t, bl s ≠ c :: t) := by
  unfold strings_CutPrefix.f stringslite_CutPrefix.f
  have hp := hasPrefix_f s c
  unfold strings_HasPrefix.f at hp
  have hp' : stringslite_HasPrefix.f s ⟨#[c]⟩ = some (match bl s with | [] => false | x :: _ => x == c) := by
    obtain ⟨t, h1, h2⟩ := Option.bind_eq_some_iff.mp hp
    rw [h1, ← h2]
  rw [hp']
  have e1 : ((⟨#[c]⟩ : ByteArray).size : Int) = 1 := rfl
  cases h : bl s with
  | nil => exact ⟨s, false, rfl, (fun q => by cases q), fun _ => ⟨rfl, fun t q => by cases q⟩⟩
  | cons x l =>
    obtain ⟨h1, h2, h3⟩ := bl_cons h
    by_cases q : x = c
    · subst q
      refine ⟨s.extract 1 s.size, true, ?_, fun _ => by rw [h2], fun z => by cases z⟩
      simp only [Option.bind_some, beq_self_eq_true, if_true, e1]
      rw [if_pos (by omega), if_pos (by omega)]
      rfl
    · refine ⟨s, false, ?_, (fun z => by cases z), fun _ => ⟨rfl, fun t z => q (List.cons.inj z).1⟩⟩
      have : (x == c) = false := beq_eq_false_iff_ne.mpr q
      simp only [Option.bind_some, this]
      rfl

/-- The end of each way: what is said is small enough, or not. -/
theorem span_end {sg v M : Int} (hsg : sg = 1 ∨ sg = -1) (hv : v = M) (h0 : 0 ≤ M) : (if v > 1099511627776 then (some (0, 110) : Option (Int × Int)) else some (wrap64 (sg * v), 0)) = some (if M < 0 ∨ M > 1099511627776 then (0, 110) else (sg * M, 0)) := by
  subst hv
  by_cases c : v > 1099511627776
  · rw [if_pos c, if_pos (.inr c)]
  · rw [if_neg c, if_neg (fun q => q.elim (fun z => by omega) c), w64 _ (by rcases hsg with rfl | rfl <;> omega) (by rcases hsg with rfl | rfl <;> omega)]
theorem whenPS_j2 (s : ByteArray) (hs : (bl s).length ≤ 400) (sg : Int) (hsg : sg = 1 ∨ sg = -1) : Ev (fun k => when_ParseSpan.j2 k s sg) (spanR sg (bl s)) := by
  refine Ev.step (fun k => by rw [when_ParseSpan.j2]) ?_
  obtain ⟨b, ok, hc, hy, hn⟩ := cutPrefix_f s 80
  refine Ev.bind_now hc ?_
  cases ok with
  | false =>
    refine Ev.ite_neg (by simp) ?_
    have e : spanR sg (bl s) = (0, 110) := by
      have := (hn rfl).2
      cases h : bl s with
      | nil => rfl
      | cons x l => rw [spanR_cons, if_neg (by rintro rfl; exact this l h)]
    rw [e]; exact Ev.now _
  | true =>
    have hb := hy rfl
    have hbl : (bl b).length ≤ 399 := by rw [hb] at hs; simp only [List.length_cons] at hs; omega
    rw [hb, spanR_cons, if_pos rfl]
    refine Ev.ite_pos rfl ?_
    rcases whenPiece_ev b 87 rfl (by omega) with ⟨n, r, hh, n0, n1, hr, hp⟩ | ⟨h87, hp⟩
    · refine Ev.bind hp (Ev.ite_pos (by show n ≥ 0; omega) ?_)
      rw [bodyR_W hh]
      by_cases c : bl r = []
      · rw [if_pos c]
        refine Ev.ite_pos (by rw [bl_toList]; exact c) ?_
        simp only []
        rw [w64 (n * 604800) (by omega) (by omega)]
        have := span_end (sg := sg) (v := n * 604800) (M := 604800 * n) hsg (by omega) (by omega)
        exact Ev.congr (fun _ => this) (Ev.now _)
      · rw [if_neg c]
        exact Ev.ite_neg (by rw [bl_toList]; exact c) (Ev.now _)
    · refine Ev.bind hp (Ev.ite_neg (by show ¬ (-1 : Int) ≥ 0; omega) ?_)
      -- the time behind a T
      have clk : ∀ (t : ByteArray) (d : Int), (bl t).length ≤ 400 → 0 ≤ d → d ≤ 900000000000000 → Ev (fun k => (when_clock.f k t).bind fun bt245 => (if bt245.2 = true then (if (wrap64 (d + bt245.1)) > 1099511627776 then (some (0, 110) : Option (Int × Int)) else (some (wrap64 (sg * (wrap64 (d + bt245.1))), 0))) else (some (0, 110)))) (if rn 1 d (bl t) < 0 ∨ rn 1 d (bl t) > 1099511627776 then (0, 110) else (sg * rn 1 d (bl t), 0)) := by
        intro t d ht d0 d1
        obtain ⟨v, ok, h1, h2, h3⟩ := clock_ev t ht
        refine Ev.bind h1 ?_
        have sh := rn_shift d d0 (bl t) 1 0 (by omega)
        rw [Int.add_zero] at sh
        cases ok with
        | false =>
          refine Ev.ite_neg (by simp) ?_
          have e : (if (-1 : Int) < 0 then (-1 : Int) else d + -1) = -1 := if_pos (by decide)
          rw [sh, h3 rfl, e, if_pos (show (-1 : Int) < 0 ∨ (-1 : Int) > 1099511627776 from .inl (by decide))]
          exact Ev.now _
        | true =>
          obtain ⟨e1, e2⟩ := h2 rfl
          refine Ev.ite_pos rfl ?_
          rw [sh, if_neg (show ¬ rn 1 0 (bl t) < 0 by omega)]
          have vb : v ≤ 100000000000000000 := by
            rw [e1]
            unfold rn at e2 ⊢
            cases hpc : pc [] (bl t) with
            | none => simp
            | some x =>
              have := sumR_bd (l := ⟨0, 84⟩ :: x) (fun y hy => by
                rcases List.mem_cons.mp hy with rfl | q
                · exact ⟨by decide, by decide⟩
                · exact pc_ok _ _ _ hpc y q)
              rw [sumR_cons (.inl (by decide)), run, if_neg (by decide)] at this
              exact this
          simp only []
          rw [w64 (d + v) (by omega) (by omega)]
          have := span_end (sg := sg) (v := d + v) (M := d + rn 1 0 (bl t)) hsg (by rw [e1]) (by omega)
          exact Ev.congr (fun _ => this) (Ev.now _)
      rcases whenPiece_ev b 68 rfl (by omega) with ⟨n, r, hh, n0, n1, hr, hp2⟩ | ⟨h68, hp2⟩
      · refine Ev.bind hp2 ?_
        rw [bodyR_D hh, rn_0]
        obtain ⟨t, ok, hc2, hy2, hn2⟩ := cutPrefix_f r 84
        refine Ev.bind_now hc2 ?_
        have em : wrap64 (mx n 0 * 86400) = n * 86400 := by rw [show mx n 0 = n by unfold mx; omega, w64 _ (by omega) (by omega)]
        cases ok with
        | true =>
          refine Ev.ite_pos rfl ?_
          have e := hy2 rfl
          rw [e]
          simp only [if_true, em]
          exact clk t (n * 86400) (by rw [e] at hr; simp only [List.length_cons] at hr; omega) (by omega) (by omega)
        | false =>
          have hnt := (hn2 rfl).2
          refine Ev.ite_neg (by simp) (Ev.ite_pos (by show n ≥ 0; omega) ?_)
          simp only [em]
          cases hbr : bl r with
          | nil =>
            refine Ev.ite_pos (by rw [bl_toList]; exact hbr) ?_
            have := span_end (sg := sg) (v := n * 86400) (M := n * 86400) hsg rfl (by omega)
            exact Ev.congr (fun _ => this) (Ev.now _)
          | cons c t' =>
            simp only []
            rw [if_neg (show ¬ c = 84 by rintro rfl; exact hnt t' hbr)]
            exact Ev.ite_neg (by rw [bl_toList, hbr]; simp) (Ev.now _)
      · refine Ev.bind hp2 ?_
        obtain ⟨t, ok, hc2, hy2, hn2⟩ := cutPrefix_f b 84
        refine Ev.bind_now hc2 ?_
        have em : wrap64 (mx (-1) 0 * 86400) = 0 := by rw [show mx (-1) 0 = 0 by unfold mx; omega, Int.zero_mul]; exact w64 0 (by omega) (by omega)
        cases ok with
        | true =>
          refine Ev.ite_pos rfl ?_
          have e := hy2 rfl
          rw [e, bodyR_T]
          simp only [em]
          exact clk t 0 (by rw [e] at hbl; simp only [List.length_cons] at hbl; omega) (by omega) (by omega)
        | false =>
          have hnt := (hn2 rfl).2
          rw [bodyR_no h87 h68 hnt]
          refine Ev.ite_neg (by simp) (Ev.ite_neg (by show ¬ (-1 : Int) ≥ 0; omega) ?_)
          rw [if_pos (show (-1 : Int) < 0 ∨ (-1 : Int) > 1099511627776 from .inl (by decide))]
          exact Ev.now _
theorem whenParseSpan_ev (s : ByteArray) (hs : (bl s).length ≤ 400) : Ev (fun k => when_ParseSpan.f k s) (parseSpanR (bl s)) := by
  unfold when_ParseSpan.f
  refine Ev.bind_now (hasPrefix_f s 45) ?_
  cases h : bl s with
  | nil =>
    have e := whenPS_j2 s hs 1 (.inl rfl)
    rw [h] at e
    refine Ev.ite_neg (by decide) (Ev.step (fun k => by rw [when_ParseSpan.j0]) (Ev.bind_now (hasPrefix_f s 45) ?_))
    rw [h]
    refine Ev.ite_neg (by decide) (Ev.bind_now (hasPrefix_f s 43) ?_)
    rw [h]
    exact Ev.step (fun k => by rw [when_ParseSpan.j1]) (Ev.ite_neg (by decide) e)
  | cons c l =>
    obtain ⟨h1, h2, h3⟩ := bl_cons h
    have hl : (bl (s.extract 1 s.size)).length ≤ 400 := by rw [h2]; rw [h] at hs; simp at hs; omega
    rw [parseSpanR_cons]
    simp only []
    by_cases c45 : c = 45
    · subst c45
      rw [if_neg (show ¬ ((45 : UInt8) = 43) by decide), if_pos rfl]
      have e := whenPS_j2 _ hl (-1) (.inr rfl)
      rw [h2] at e
      refine Ev.ite_pos (by simp) (Ev.step (fun k => by rw [when_ParseSpan.j0]) (Ev.bind_now (hasPrefix_f s 45) ?_))
      rw [h]
      refine Ev.ite_pos (by simp) (Ev.step (fun k => by rw [when_ParseSpan.j1]) (Ev.ite_pos rfl (Ev.ite_pos (by omega) e)))
    · refine Ev.ite_neg (by simpa using c45) (Ev.step (fun k => by rw [when_ParseSpan.j0]) (Ev.bind_now (hasPrefix_f s 45) ?_))
      rw [h]
      refine Ev.ite_neg (by simpa using c45) (Ev.bind_now (hasPrefix_f s 43) ?_)
      rw [h]
      by_cases c43 : c = 43
      · subst c43
        have e := whenPS_j2 _ hl 1 (.inl rfl)
        rw [h2] at e
        rw [if_pos rfl]
        exact Ev.step (fun k => by rw [when_ParseSpan.j1]) (Ev.ite_pos (by simp) (Ev.ite_pos (by omega) e))
      · rw [if_neg c43, if_neg c45]
        have e := whenPS_j2 s hs 1 (.inl rfl)
        rw [h] at e
        exact Ev.step (fun k => by rw [when_ParseSpan.j1]) (Ev.ite_neg (by simpa using c43) e)
end Go.Proofs.YtiffbkfgimifbaaDoor.Print

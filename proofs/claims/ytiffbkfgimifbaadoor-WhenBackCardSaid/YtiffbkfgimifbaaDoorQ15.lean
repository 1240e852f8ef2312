/- What is written as a length is read as it was. -/
import Derived.Test.YtiffbkfgimifbaaDoorPrint0
import Derived.Test.YtiffbkfgimifbaaDoorQ12
import Derived.Test.YtiffbkfgimifbaaDoorQ13
import Derived.Test.YtiffbkfgimifbaaDoorQ6
namespace Go.Proofs.YtiffbkfgimifbaaDoor.Print
open Go.RowKit Go.Proofs.YtiffbkfgimifbaaDoorW.PrintWords Go.Proofs.YtiffbkfgimifbaaDoorW.PrintLast Go.Proofs.YtiffbkfgimifbaaDoorW.PrintMore

/-- A number's digits. -/
def il (v : Int) : List UInt8 := bl (itoaB v)
theorem il_one (v : Int) (h0 : 0 ≤ v) (h1 : v < 10) : il v = [dg v] := by unfold il itoaB; rw [itoa_nat v h0, dec_nat v h0 h1]
theorem il_more (v : Int) (h : 10 ≤ v) : il v = il (v / 10) ++ [dg v] := by
  unfold il itoaB; rw [itoa_nat v (by omega), itoa_nat (v / 10) (by omega), dec_nat2 v h]
theorem dv_snoc (a : Int) (l : List UInt8) (c : UInt8) : dv a (l ++ [c]) = 10 * dv a l + ((c.toNat : Int) - 48) := by unfold dv; rw [List.foldl_append]; rfl
theorem il_spec (k : Nat) : ∀ v : Int, 0 ≤ v → v < 10 ^ (k + 1) → (il v).all isD = true ∧ dv 0 (il v) = v ∧ (il v).length ≤ k + 1 ∧ il v ≠ [] := by
  induction k with
  | zero =>
    intro v h0 h1
    rw [il_one v h0 (by simpa using h1)]
    refine ⟨by simp [dg_isD], ?_, by simp, by simp⟩
    have := dg_toNat v
    have h1' : v < 10 := by simpa using h1
    simp only [dv, List.foldl_cons, List.foldl_nil]
    omega
  | succ k ih =>
    intro v h0 h1
    by_cases c : v < 10
    · rw [il_one v h0 c]
      refine ⟨by simp [dg_isD], ?_, by simp, by simp⟩
      have := dg_toNat v
      simp only [dv, List.foldl_cons, List.foldl_nil]
      omega
    · have e := Int.pow_succ 10 (k + 1)
      obtain ⟨a, b, d, f⟩ := ih (v / 10) (by omega) (by omega)
      rw [il_more v (by omega)]
      refine ⟨by simp [a, dg_isD], ?_, by simp; omega, by simp⟩
      rw [dv_snoc, b, dg_toNat]
      omega
theorem numR_il (v : Int) (h0 : 0 ≤ v) (h1 : v ≤ 9999999999) : numR (il v) = v ∧ (il v).all isD = true := by
  obtain ⟨a, b, c, d⟩ := il_spec 9 v h0 (by omega)
  refine ⟨?_, a⟩
  unfold numR
  rw [if_neg (by rintro (q | q | q); exact d q; omega; rw [a] at q; cases q), b]
theorem hv_il (v : Int) (u : UInt8) (t : List UInt8) (h0 : 0 ≤ v) (h1 : v ≤ 9999999999) (hu : isD u = false) : hv (il v ++ u :: t) u = some (v, t) := by
  obtain ⟨a, b⟩ := numR_il v h0 h1
  unfold hv
  rw [hd_of _ u t hu [] b]
  simp only [List.nil_append, a]
  rw [if_pos ⟨trivial, by omega⟩]
theorem hv_other (v : Int) (u c : UInt8) (t : List UInt8) (h0 : 0 ≤ v) (h1 : v ≤ 9999999999) (hc : isD c = false) (h : c ≠ u) : hv (il v ++ c :: t) u = none := by
  obtain ⟨a, b⟩ := numR_il v h0 h1
  unfold hv
  rw [hd_of _ c t hc [] b]
  simp only [List.nil_append]
  rw [if_neg (fun x => h x.1)]
theorem bl_put (o u : ByteArray) (v : Int) : bl (when_Span.put o v u) = bl o ++ (if 0 < v then il v ++ bl u else []) := by
  by_cases c : 0 < v
  · rw [when_Span.put_pos c, if_pos c, bl_append, bl_append]; rfl
  · rw [when_Span.put_neg c, if_neg c]; simp

/-- What is behind the T. -/
def Ls (s : Int) : List UInt8 := if 0 < s then il s ++ [83] else []
theorem rn_s (acc s : Int) (h0 : 0 ≤ s) (h1 : s < 60) : rn 3 acc (Ls s) = acc + s := by
  unfold Ls
  by_cases c : 0 < s
  · rw [if_pos c, rn_take (hv_il s 83 [] h0 (by omega) rfl) (by decide) (by decide)]
    show rn 4 (acc + s * 1) [] = _
    rw [rn_4, if_pos rfl]; omega
  · rw [if_neg c, rn_none rfl, if_pos rfl, if_neg (by decide)]; omega
def Lm (h m s : Int) : List UInt8 := if (0 < h ∧ 0 < s) ∧ m = 0 then il 0 ++ [77] else if 0 < m then il m ++ [77] else []
theorem rn_m (was acc h m s : Int) (hw : was = 1 ∨ was = 2) (hh : was = 2 ↔ 0 < h) (h0 : 0 ≤ m) (h1 : m < 60) (s0 : 0 ≤ s) (s1 : s < 60) (hp : 0 < h ∨ 0 < m ∨ 0 < s) : rn was acc (Lm h m s ++ Ls s) = acc + m * 60 + s := by
  have hb : ¬ bad was (ordR ((77 : UInt8).toNat : Int)) := by show ¬ bad was 3; unfold bad; omega
  unfold Lm
  by_cases c : (0 < h ∧ 0 < s) ∧ m = 0
  · rw [if_pos c, List.append_assoc]
    show rn was acc (il 0 ++ 77 :: Ls s) = _
    rw [rn_take (hv_il 0 77 _ (by omega) (by omega) rfl) (by decide) hb]
    show rn 3 (acc + 0 * 60) (Ls s) = _
    rw [rn_s _ _ s0 s1]; omega
  · rw [if_neg c]
    by_cases c2 : 0 < m
    · rw [if_pos c2, List.append_assoc]
      show rn was acc (il m ++ 77 :: Ls s) = _
      rw [rn_take (hv_il m 77 _ h0 (by omega) rfl) (by decide) hb]
      show rn 3 (acc + m * 60) (Ls s) = _
      rw [rn_s _ _ s0 s1]
    · rw [if_neg c2, List.nil_append]
      have hm : m = 0 := by omega
      unfold Ls
      by_cases c3 : 0 < s
      · have w1 : was = 1 := by
          rcases hw with w | w
          · exact w
          · exact absurd ⟨⟨hh.mp w, c3⟩, hm⟩ c
        subst w1
        rw [if_pos c3, rn_take (hv_il s 83 [] s0 (by omega) rfl) (by decide) (by decide)]
        show rn 4 (acc + s * 1) [] = _
        rw [rn_4, if_pos rfl]; omega
      · have hh2 : was = 2 := by
          rw [hh]; omega
        rw [if_neg c3, rn_none rfl, if_pos rfl, hh2, if_neg (by decide)]; omega
def Lh (h : Int) : List UInt8 := if 0 < h then il h ++ [72] else []
theorem rn_h (acc h m s : Int) (hh0 : 0 ≤ h) (hh1 : h < 24) (h0 : 0 ≤ m) (h1 : m < 60) (s0 : 0 ≤ s) (s1 : s < 60) (hp : 0 < h ∨ 0 < m ∨ 0 < s) : rn 1 acc (Lh h ++ (Lm h m s ++ Ls s)) = acc + h * 3600 + m * 60 + s := by
  unfold Lh
  by_cases c : 0 < h
  · rw [if_pos c, List.append_assoc]
    show rn 1 acc (il h ++ 72 :: (Lm h m s ++ Ls s)) = _
    rw [rn_take (hv_il h 72 _ hh0 (by omega) rfl) (by decide) (by decide)]
    show rn 2 (acc + h * 3600) (Lm h m s ++ Ls s) = _
    rw [rn_m 2 _ h m s (.inr rfl) (by simp [c]) h0 h1 s0 s1 hp]
  · rw [if_neg c, List.nil_append, rn_m 1 _ h m s (.inl rfl) (by simp [c]) h0 h1 s0 s1 hp]; omega

theorem bl_hms (o : ByteArray) (n r : Int) (hr : r = n % 86400) (h0 : 0 ≤ n) : bl (when_Span.hms o n r) = bl o ++ (if 0 < r then 84 :: (Lh (r / 3600) ++ (Lm (r / 3600) (r / 60 % 60) (n % 60) ++ Ls (n % 60))) else []) := by
  have e48 : ([48, 77] : List UInt8) = il 0 ++ [77] := by rw [il_one 0 (by omega) (by omega)]; rfl
  unfold when_Span.hms
  rw [bl_put, bl_put]
  have e1 : ∀ (x : ByteArray), bl (if (3600 ≤ r ∧ 0 < n % 60) ∧ r / 60 % 60 = 0 then x ++ ⟨#[48, 77]⟩ else x) ++ (if 0 < r / 60 % 60 then il (r / 60 % 60) ++ bl ⟨#[77]⟩ else []) = bl x ++ Lm (r / 3600) (r / 60 % 60) (n % 60) := by
    intro x
    unfold Lm
    by_cases c : (3600 ≤ r ∧ 0 < n % 60) ∧ r / 60 % 60 = 0
    · rw [if_pos c, if_neg (show ¬ 0 < r / 60 % 60 by omega), if_pos (show (0 < r / 3600 ∧ 0 < n % 60) ∧ r / 60 % 60 = 0 by omega), bl_append, List.append_nil, ← e48]
    · rw [if_neg c, if_neg (show ¬ ((0 < r / 3600 ∧ 0 < n % 60) ∧ r / 60 % 60 = 0) by omega)]
  rw [e1, bl_put]
  have e2 : (if 0 < n % 60 then il (n % 60) ++ bl ⟨#[83]⟩ else []) = Ls (n % 60) := rfl
  have e3 : (if 0 < r / 3600 then il (r / 3600) ++ bl ⟨#[72]⟩ else []) = Lh (r / 3600) := rfl
  rw [e2, e3]
  by_cases c : 0 < r
  · rw [if_pos c, if_pos c, bl_append]
    show bl o ++ [84] ++ _ ++ _ ++ _ = _
    simp
  · rw [if_neg c, if_neg c]
    have r0 : r = 0 := by omega
    subst r0
    have n0 : n % 60 = 0 := by omega
    rw [n0]
    simp [Lh, Lm, Ls]

/-- The text behind the P says the number. -/
theorem body_back (o : ByteArray) (n : Int) (h0 : 0 ≤ n) (h1 : n ≤ 1099511627776) : ∃ t, bl (when_Span.body o n) = bl o ++ t ∧ bodyR t = n := by
  unfold when_Span.body
  by_cases c : 0 < n ∧ n % 604800 = 0
  · rw [if_pos c, bl_put, if_pos (show 0 < n / 604800 by omega)]
    refine ⟨_, rfl, ?_⟩
    show bodyR (il (n / 604800) ++ [87]) = n
    rw [bodyR_W (hv_il (n / 604800) 87 [] (by omega) (by omega) rfl), if_pos rfl]
    omega
  rw [if_neg c]
  by_cases z : n = 0
  · subst z
    rw [if_pos rfl, bl_append, bl_hms _ _ _ rfl (by omega), bl_put]
    refine ⟨[84, 48, 83], by simp, ?_⟩
    show bodyR (84 :: [48, 83]) = 0
    rw [bodyR_T]
    have := rn_take (was := 1) (acc := 0) (hv_il 0 83 [] (by omega) (by omega) rfl) (by decide) (by decide)
    rw [il_one 0 (by omega) (by omega)] at this
    have e : ([dg 0] ++ [83] : List UInt8) = [48, 83] := rfl
    rw [e] at this
    rw [this]
    show rn 4 (0 + 0 * 1) [] = 0
    rw [rn_4, if_pos rfl]; rfl
  rw [if_neg z, bl_hms _ _ _ rfl h0, bl_put]
  have hm : n % 60 = n % 86400 % 60 := by omega
  have key : 0 < n % 86400 → ∀ acc, rn 1 acc (Lh (n % 86400 / 3600) ++ (Lm (n % 86400 / 3600) (n % 86400 / 60 % 60) (n % 60) ++ Ls (n % 60))) = acc + n % 86400 := by
    intro hr acc
    rw [rn_h acc _ _ _ (by omega) (by omega) (by omega) (by omega) (by omega) (by omega) (by omega)]
    omega
  by_cases d : 0 < n / 86400
  · rw [if_pos d]
    refine ⟨_, List.append_assoc _ _ _, ?_⟩
    rw [List.append_assoc]
    show bodyR (il (n / 86400) ++ 68 :: _) = n
    rw [bodyR_D (hv_il (n / 86400) 68 _ (by omega) (by omega) rfl), rn_0]
    by_cases r : 0 < n % 86400
    · rw [if_pos r]
      show (if (84 : UInt8) = 84 then rn 1 (n / 86400 * 86400) _ else -1) = n
      rw [if_pos rfl, key r]; omega
    · rw [if_neg r]
      show n / 86400 * 86400 = n
      omega
  · rw [if_neg d, List.append_nil]
    have r : 0 < n % 86400 := by omega
    refine ⟨_, rfl, ?_⟩
    rw [if_pos r, bodyR_T, key r]
    omega
theorem span_back (n : Int) (h0 : -1099511627776 ≤ n) (h1 : n ≤ 1099511627776) : ∃ t, when_Span.f n = some (t, 0) ∧ parseSpanR (bl t) = (n, 0) ∧ (bl t).length ≤ 400 := by
  have szb : ∀ o : ByteArray, o.size ≤ 10 → ∀ m : Int, 0 ≤ m → m ≤ 1099511627776 → (bl (when_Span.body o m)).length ≤ 400 := by
    intro o ho m m0 m1
    have p1 := put_mono o ⟨#[68]⟩ (m / 86400) (by omega) (by omega) (by decide) 10 ho
    have p0 := put_mono o ⟨#[87]⟩ (m / 604800) (by omega) (by omega) (by decide) 10 ho
    have hz : (when_Span.hms (when_Span.put o (m / 86400) ⟨#[68]⟩) m (m % 86400)).size ≤ 390 := by
      unfold when_Span.hms
      have q1 : (if 0 < m % 86400 then when_Span.put o (m / 86400) ⟨#[68]⟩ ++ ⟨#[84]⟩ else when_Span.put o (m / 86400) ⟨#[68]⟩).size ≤ 80 := by
        split
        · rw [ByteArray.size_append, show (⟨#[84]⟩ : ByteArray).size = 1 from rfl]; omega
        · omega
      have q2 := put_mono _ ⟨#[72]⟩ (m % 86400 / 3600) (by omega) (by omega) (by decide) 80 q1
      refine put_mono _ _ _ (by omega) (by omega) (by decide) 330 (put_mono _ _ _ (by omega) (by omega) (by decide) 270 ?_)
      split
      · rw [ByteArray.size_append, show (⟨#[48, 77]⟩ : ByteArray).size = 2 from rfl]; omega
      · omega
    rw [← bl_nsize]
    unfold when_Span.body
    split
    · omega
    · split
      · rw [ByteArray.size_append, show (⟨#[84, 48, 83]⟩ : ByteArray).size = 3 from rfl]; omega
      · omega
  unfold when_Span.f
  rw [if_neg (by omega)]
  by_cases c : n < 0
  · rw [if_pos c]
    obtain ⟨t, e1, e2⟩ := body_back ⟨#[45, 80]⟩ (-n) (by omega) (by omega)
    refine ⟨_, rfl, ?_, szb _ (by decide) _ (by omega) (by omega)⟩
    rw [e1]
    show spanR (-1) (80 :: t) = (n, 0)
    rw [spanR_cons, if_pos rfl, e2, if_neg (by omega)]
    simp
  · rw [if_neg c]
    obtain ⟨t, e1, e2⟩ := body_back ⟨#[80]⟩ n (by omega) (by omega)
    refine ⟨_, rfl, ?_, szb _ (by decide) _ (by omega) (by omega)⟩
    rw [e1]
    show spanR 1 (80 :: t) = (n, 0)
    rw [spanR_cons, if_pos rfl, e2, if_neg (by omega)]
    simp
end Go.Proofs.YtiffbkfgimifbaaDoor.Print

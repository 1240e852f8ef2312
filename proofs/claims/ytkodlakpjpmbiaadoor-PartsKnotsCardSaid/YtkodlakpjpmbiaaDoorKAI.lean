/- Walks: the reference's lines. -/
import Derived.Test.YtkodlakpjpmbiaaDoorKAH
import Derived.Test.YtkodlakpjpmbiaaDoorKAG

set_option linter.all false

namespace Go.Proofs.Tryd
open Go Go.SL
set_option linter.unusedVariables false
set_option linter.unusedSimpArgs false

def pairAt (r : Bs) (j : Nat) : Prop := r[j]? = some 13 ∧ r[j + 1]? = some 10
theorem occ_pair (r : Bs) (j : Nat) : Lib.occAt r [13, 10] j = true ↔ pairAt r j := by
  unfold Lib.occAt pairAt
  have h1 : r[j]? = (r.drop j)[0]? := by simp
  have h2 : r[j + 1]? = (r.drop j)[1]? := by simp
  rw [h1, h2]
  cases r.drop j with
  | nil => simp
  | cons a s =>
    cases s with
    | nil => simp [List.isPrefixOf]
    | cons b s =>
      simp only [List.isPrefixOf, Bool.and_true, Bool.and_eq_true, beq_iff_eq, List.getElem?_cons_zero, List.getElem?_cons_succ, Option.some.injEq]
      constructor <;> rintro ⟨rfl, rfl⟩ <;> exact ⟨rfl, rfl⟩
theorem cr_first {r : Bs} {j : Nat} (h : pairAt r j) (hn : ∀ i, i < j → ¬ pairAt r i) : crIdx r = j := by
  have hj : j < r.length := by
    rcases Nat.lt_or_ge j r.length with h' | h'
    · exact h'
    · rw [pairAt, List.getElem?_eq_none h'] at h; cases h.1
  refine Lib.index_first (by omega) ((occ_pair r j).2 h) fun i hi => ?_
  have := hn i hi
  rw [← occ_pair] at this
  simpa using this
theorem cr_none {r : Bs} (hn : ∀ i, ¬ pairAt r i) : crIdx r = -1 := by
  refine Lib.index_none fun i hi => ?_
  have := hn i
  rw [← occ_pair] at this
  simpa using this
theorem pair_drop (l : Bs) (p j : Nat) : pairAt (l.drop p) j ↔ pairAt l (p + j) := by
  simp [pairAt, List.getElem?_drop, Nat.add_assoc]

/-- A line: where it begins, its bytes, whether it is ended. -/
structure Ln where
  a : Nat
  s : Bs
  w : Bool
def Ln.c (x : Ln) : List CV := [.v (.int .i64 x.a), byt x.s, .v (.bool x.w)]
theorem lnCh (l : List Ln) : Chunks (l.map Ln.c) 3 := by
  intro c hc; obtain ⟨p, _, rfl⟩ := List.mem_map.1 hc; rfl
/-- Lines, without their pairs. -/
def lnS (a : Nat) (r : Bs) : List Ln :=
  if h : r = [] then [] else if crIdx r < 0 then [⟨a, r, false⟩] else ⟨a, r.take (crIdx r).toNat, true⟩ :: lnS (a + lineN r) (r.drop (lineN r))
termination_by r.length
decreasing_by
  have := lineN_pos h
  have := List.length_pos_iff.2 h
  simp; omega
theorem lnS_nil (a : Nat) : lnS a [] = [] := by rw [lnS]; simp
theorem lnS_last {a : Nat} {r : Bs} (h : r ≠ []) (hc : crIdx r < 0) : lnS a r = [⟨a, r, false⟩] := by rw [lnS]; simp [h, hc]
theorem lnS_whole {a : Nat} {r : Bs} (hc : 0 ≤ crIdx r) : lnS a r = ⟨a, r.take (crIdx r).toNat, true⟩ :: lnS (a + lineN r) (r.drop (lineN r)) := by
  have h : r ≠ [] := by rintro rfl; have := crIdx_room [] hc; simp at this; omega
  rw [lnS]; simp [h, show ¬ crIdx r < 0 by omega]
theorem ln_clB (l : List Ln) : (l.map Ln.c).flatten.all clB = true := by
  induction l with
  | nil => rfl
  | cons p l ih => simp only [List.map_cons, List.flatten_cons, List.all_append, ih]; rfl
theorem ln_snoc (l : List Ln) (p : Ln) : ((l ++ [p]).map Ln.c).flatten = (l.map Ln.c).flatten ++ p.c := by simp
theorem cut_byt {l : Bs} {o h : Nat} (ho : o ≤ h) (hh : h ≤ l.length) : cutC (byt l) o h = byt ((l.take h).drop o) := by
  have hlen : ((l.take h).drop o).length = h - o := by simp; omega
  simp only [cutC, byt, Nat.mul_one, u8s_drop, u8s_take, List.drop_take]
  rw [List.drop_take] at hlen
  rw [hlen]
variable [LayerC]
end Go.Proofs.Tryd

/- Walks: the reference's begins, and its cut. -/
namespace Go.Proofs.Tryd
open Go Go.SL
set_option linter.unusedVariables false
set_option linter.unusedSimpArgs false
variable [LayerC]

theorem lnS_len (a : Nat) (l : Bs) : (lnS a l).length ≤ l.length := by
  have key : ∀ n (l : Bs) a, l.length ≤ n → (lnS a l).length ≤ l.length := by
    intro n
    induction n with
    | zero =>
      intro l a hn
      obtain rfl := List.eq_nil_of_length_eq_zero (by omega : l.length = 0)
      rw [lnS_nil]; simp
    | succ n ih =>
      intro l a hn
      by_cases h : l = []
      · subst h; rw [lnS_nil]; simp
      · have hp := lineN_pos h
        have hle := lineN_le l
        by_cases hc : crIdx l < 0
        · rw [lnS_last h hc]; have := List.length_pos_iff.2 h; simp; omega
        · rw [lnS_whole (by omega)]
          have := ih (l.drop (lineN l)) (a + lineN l) (by simp; omega)
          simp at this ⊢; omega
  exact key _ l a (Nat.le_refl _)
def begR (l t : Bs) : Prop := ∃ x ∈ lnS 0 l, t <+: x.s
instance (l t : Bs) : Decidable (begR l t) := by unfold begR; infer_instance
/-- An element of the lines. -/
theorem ln_at {P : Program} {q : CV} {ls : List Ln} (hq : Cls q (ls.map Ln.c).flatten ls.length 3) (H : Hp) : RS H q (ls.map Ln.c) 3 := by
  refine Cls.rs ?_ (lnCh ls) H
  rw [List.length_map]; exact hq

end Go.Proofs.Tryd

/- Walks: the reference's cut. -/
namespace Go.Proofs.Tryd
open Go Go.SL
set_option linter.unusedVariables false
set_option linter.unusedSimpArgs false

theorem lnS_room (a : Nat) (l : Bs) : ∀ x ∈ lnS a l, a ≤ x.a ∧ x.a + x.s.length + (if x.w = true then 2 else 0) ≤ a + l.length := by
  have key : ∀ n (l : Bs) a, l.length ≤ n → ∀ x ∈ lnS a l, a ≤ x.a ∧ x.a + x.s.length + (if x.w = true then 2 else 0) ≤ a + l.length := by
    intro n
    induction n with
    | zero =>
      intro l a hn x hx
      obtain rfl := List.eq_nil_of_length_eq_zero (by omega : l.length = 0)
      rw [lnS_nil] at hx; cases hx
    | succ n ih =>
      intro l a hn x hx
      by_cases h : l = []
      · subst h; rw [lnS_nil] at hx; cases hx
      · have hp := lineN_pos h
        have hle := lineN_le l
        by_cases hc : crIdx l < 0
        · rw [lnS_last h hc] at hx
          simp at hx; subst hx
          exact ⟨Nat.le_refl _, by simp⟩
        · rw [lnS_whole (by omega)] at hx
          have hroom := crIdx_room l (by omega)
          rcases List.mem_cons.1 hx with rfl | hx
          · refine ⟨Nat.le_refl _, ?_⟩
            simp; omega
          · have := ih (l.drop (lineN l)) (a + lineN l) (by simp; omega) x hx
            simp at this
            exact ⟨by omega, by omega⟩
  exact key _ l a (Nat.le_refl _)

/-- A knot's content is cut: the texts between the borders' lines; none: there is no last one. -/
def outN (l : Bs) (x : Ln) (fr : Option Nat) (out : List Bs) : List Bs :=
  match fr with
  | some f => out ++ [(l.take (max (x.a - 2) f)).drop f]
  | none => out
def nextN (x : Ln) : Nat := x.a + x.s.length + (if x.w = true then 2 else 0)
def cutG (l b : Bs) : List Ln → Option Nat → List Bs → Option (List Bs)
  | [], _, _ => none
  | x :: xs, fr, out =>
    if edgeC x.s b = 0 then cutG l b xs fr out else
    if edgeC x.s b = 2 then some (outN l x fr out) else cutG l b xs (some (nextN x)) (outN l x fr out)
theorem acc_lenS {P : Program} {t e e' : TypeId} {H H' : Hp} {x : CV} {cs : List CV} {n sz : Nat} (h : Acc H H' x cs n sz e) (ht : P.underlying t = some (.slice e')) : dLenS P t x H' = some (.v (.int .i64 n)) := by
  rcases h with ⟨rfl, _, rfl, rfl⟩ | ⟨_, ver, rfl, rfl⟩
  · exact dLenS_nil ht 0 0 _
  · rw [dLenS_sl ht, at_own0, at_zero]; simp
def fromV : Option Nat → CV
  | none => .v (.int .i64 (-1))
  | some f => .v (.int .i64 (f : Nat))
def bytS (l : List Bs) : List CV := l.map byt
theorem bytS_clB (l : List Bs) : (bytS l).all clB = true := by
  induction l with
  | nil => rfl
  | cons a l ih => simp only [bytS, List.map_cons, List.all_cons] at ih ⊢; rw [ih]; simp
@[simp] theorem bytS_len (l : List Bs) : (bytS l).length = l.length := by simp [bytS]
theorem bytS_snoc (l : List Bs) (a : Bs) : bytS (l ++ [a]) = bytS l ++ [byt a] := by simp [bytS]
theorem mkY1 (s : Bs) (H : Hp) : dBuildSlice prog 22 1 [(0, byt s)] H false = some (.im [byt s] 1 1, H) := by
  simp [dBuildSlice, underlying22, fillC, zerosC, isU8, underlying25]
/-- What cutting answers. -/
def cutR (o : Option (List Bs)) (y : CV) : Prop :=
  match o with
  | some out => ∃ q, Cls q (bytS out) out.length 1 ∧ y = .tup [q, .v (.bool (decide (0 < out.length)))]
  | none => y = .tup [nilC, .v (.bool false)]
variable [LayerC]
end Go.Proofs.Tryd

/- Walks: a parameter. -/
namespace Go.Proofs.Tryd
open Go Go.SL
set_option linter.unusedVariables false
set_option linter.unusedSimpArgs false

/-- A parameter that is read, and what is behind it. -/
def parR (r : Bs) : Option (Par × Bs) :=
  match tokR r with
  | c :: r2 => if c = 61 then (valR r2).2.map fun v => (⟨low (tokF r), v⟩, (valR r2).1) else none
  | [] => none
theorem valR_len (r : Bs) : (valR r).1.length ≤ r.length := by
  have qlen : ∀ n (r : Bs) o q, r.length ≤ n → qS r = some (o, q) → q.length ≤ r.length ∧ o.length ≤ r.length := by
    intro n
    induction n with
    | zero => intro r o q hn h; cases r with
      | nil => cases h
      | cons a r => simp at hn
    | succ n ih =>
      intro r o q hn h
      cases r with
      | nil => cases h
      | cons c r =>
        simp only [List.length_cons] at hn ⊢
        by_cases h1 : c = 34
        · subst h1; rw [qS_q] at h; cases h; exact ⟨by omega, by simp⟩
        by_cases h2 : c = 92
        · subst h2
          cases r with
          | nil => rw [qS_b0] at h; cases h
          | cons d r =>
            rw [qS_b] at h
            obtain ⟨⟨o', q'⟩, h3, h4⟩ := Option.map_eq_some_iff.1 h
            simp only [Prod.mk.injEq] at h4
            obtain ⟨rfl, rfl⟩ := h4
            simp only [List.length_cons] at hn ⊢
            have := ih r o' q' (by omega) h3
            exact ⟨by omega, by simp; omega⟩
        · rw [qS_c _ h1 h2] at h
          obtain ⟨⟨o', q'⟩, h3, h4⟩ := Option.map_eq_some_iff.1 h
          simp only [Prod.mk.injEq] at h4
          obtain ⟨rfl, rfl⟩ := h4
          have := ih r o' q' (by omega) h3
          exact ⟨by omega, by simp; omega⟩
  unfold valR
  split
  · split
    · rename_i q h
      have := qlen _ _ q.1 q.2 (Nat.le_refl _) h
      simp at this ⊢; omega
    · simp
  · exact (tokR_sfx r).length_le
theorem valR_val (r v : Bs) (h : (valR r).2 = some v) : v.length ≤ r.length := by
  have qlen : ∀ n (r : Bs) o q, r.length ≤ n → qS r = some (o, q) → o.length ≤ r.length := by
    intro n
    induction n with
    | zero => intro r o q hn h; cases r with
      | nil => cases h
      | cons a r => simp at hn
    | succ n ih =>
      intro r o q hn h
      cases r with
      | nil => cases h
      | cons c r =>
        simp only [List.length_cons] at hn ⊢
        by_cases h1 : c = 34
        · subst h1; rw [qS_q] at h; cases h; simp
        by_cases h2 : c = 92
        · subst h2
          cases r with
          | nil => rw [qS_b0] at h; cases h
          | cons d r =>
            rw [qS_b] at h
            obtain ⟨⟨o', q'⟩, h3, h4⟩ := Option.map_eq_some_iff.1 h
            simp only [Prod.mk.injEq] at h4
            obtain ⟨rfl, rfl⟩ := h4
            simp only [List.length_cons] at hn ⊢
            have := ih r o' q' (by omega) h3
            simp; omega
        · rw [qS_c _ h1 h2] at h
          obtain ⟨⟨o', q'⟩, h3, h4⟩ := Option.map_eq_some_iff.1 h
          simp only [Prod.mk.injEq] at h4
          obtain ⟨rfl, rfl⟩ := h4
          have := ih r o' q' (by omega) h3
          simp; omega
  unfold valR at h
  split at h
  · split at h
    · rename_i q h2
      cases h
      have := qlen _ _ q.1 q.2 (Nat.le_refl _) h2
      simp at this; omega
    · cases h
  · split at h <;> cases h
    exact (List.takeWhile_sublist _).length_le
theorem parR_len {r : Bs} {p : Par} {q : Bs} (h : parR r = some (p, q)) : q.length < r.length ∧ p.n.length ≤ r.length ∧ p.v.length ≤ r.length := by
  unfold parR at h
  split at h
  · rename_i c r2 h1
    split at h
    · obtain ⟨v, h2, h3⟩ := Option.map_eq_some_iff.1 h
      cases h3
      have h4 := valR_len r2
      have h5 := valR_val r2 v h2
      have h6 := (tokR_sfx r).length_le
      have h7 : (tokF r).length ≤ r.length := (List.takeWhile_sublist _).length_le
      rw [h1] at h6
      simp at h6 ⊢
      omega
    · cases h
  · cases h

variable [LayerC]
theorem w50 (m : Nat) (r : Bs) (H : Hp) (hs : r.length ≤ 4294967280) :
    WC prog cs0 m (.f 47) [str r] H fun y H2 => H2 = H ∧ match parR r with
      | some (p, q) => y = .tup [.agg p.c, str q, .v (.bool true)]
      | none => ∃ (p : Par) (q : Bs), y = .tup [.agg p.c, str q, .v (.bool false)] ∧ q.length ≤ r.length := by
  rw [WC_drop rfl func47 rfl rfl]
  have hf : (tokF r).length ≤ 4294967280 := Nat.le_trans (List.takeWhile_sublist _).length_le hs
  have hr := (tokR_sfx r).length_le
  have cl := fun m H' => (w49 m (tokF r) H' hf).wc
  have ct := fun m H' => (w46 m r H' hs).wc
  simp -implicitDefEqProofs [f47, aQ, dAlloc, ct, dExtract, (w48 _ _ _ _).wc]
  cases hq : tokR r with
  | nil =>
    simp -implicitDefEqProofs [parR, hq, behind, b95_0, store_at iT95, cells_agg, load_aggp underlying95 rfl iT95]
    exact ⟨⟨[], []⟩, [], ⟨rfl, rfl⟩, by simp⟩
  | cons c r2 =>
    rw [hq] at hr
    simp only [List.length_cons] at hr
    by_cases h61 : c = 61
    · subst h61
      have hr2 : r2.length ≤ 4294967280 := by omega
      have c2 := fun m H' => (w46 m r2 H' hr2).wc
      have cq := fun m H' => (w83 m r2 H' hr2).wc
      have hk : (tokF r2).length ≤ 4294967280 := Nat.le_trans (List.takeWhile_sublist _).length_le hr2
      have ck := fun m H' => (w84 m (tokF r2) H' hk).wc
      cases r2 with
      | nil =>
        have e0 : tokF [] = [] := rfl
        have e1 : tokR [] = [] := rfl
        have e2 : ¬ isTok [] := by simp [isTok]
        rw [e0] at ck
        simp only [e2, decide_false] at ck
        simp -implicitDefEqProofs [behind, cl, b95_1, store_at iT95, cells_agg, (w82 _ _ _ _).wc, cq, c2, ck, dExtract, store_at iT9, faddr_ptr, underlying95, load_aggp underlying95 rfl iT95, load_one underlying9 rfl iT9, parR, hq, valR, e0, e1, e2]
        exact ⟨⟨_, _⟩, [], ⟨rfl, rfl⟩, by simp⟩
      | cons d r3 =>
        by_cases h34 : d = 34
        · subst h34
          have cq' : ∀ m H' K, WC prog cs0 m (.f 67) [str (34 :: r3)] H' K ↔ K (quoV (qS r3)) H' := cq
          cases hz : qS r3 with
          | none =>
            simp -implicitDefEqProofs [behind, cl, b95_1, store_at iT95, cells_agg, (w82 _ _ _ _).wc, cq', hz, quoV, dExtract, store_at iT9, faddr_ptr, underlying95, load_aggp underlying95 rfl iT95, load_one underlying9 rfl iT9, parR, hq, valR]
            exact ⟨⟨_, _⟩, [], ⟨rfl, rfl⟩, by simp⟩
          | some z =>
            obtain ⟨o, q⟩ := z
            simp -implicitDefEqProofs [behind, cl, b95_1, store_at iT95, cells_agg, (w82 _ _ _ _).wc, cq', hz, quoV, dExtract, store_at iT9, faddr_ptr, underlying95, load_aggp underlying95 rfl iT95, load_one underlying9 rfl iT9, parR, hq, valR, Par.c]
        · have h34' : ¬ 34 = d := Ne.symm h34
          have htl := (tokR_sfx (d :: r3)).length_le
          by_cases hk2 : isTok (tokF (d :: r3))
          · simp -implicitDefEqProofs [behind, cl, b95_1, store_at iT95, cells_agg, (w82 _ _ _ _).wc, c2, ck, dExtract, store_at iT9, faddr_ptr, underlying95, load_aggp underlying95 rfl iT95, load_one underlying9 rfl iT9, parR, hq, valR, h34, h34', hk2, Par.c]
          · simp -implicitDefEqProofs [behind, cl, b95_1, store_at iT95, cells_agg, (w82 _ _ _ _).wc, c2, ck, dExtract, store_at iT9, faddr_ptr, underlying95, load_aggp underlying95 rfl iT95, load_one underlying9 rfl iT9, parR, hq, valR, h34, h34', hk2]
            exact ⟨⟨_, _⟩, _, ⟨rfl, rfl⟩, by simp at htl hr; omega⟩
    · have h61' : ¬ 61 = c := Ne.symm h61
      simp -implicitDefEqProofs [parR, hq, behind, h61, h61', b95_0, store_at iT95, cells_agg, load_aggp underlying95 rfl iT95]
      have h1 := (tokR_sfx r).length_le
      rw [hq] at h1
      exact ⟨⟨[], []⟩, [], ⟨rfl, rfl⟩, by simp⟩
end Go.Proofs.Tryd

/- Walks: a kind is read. -/
namespace Go.Proofs.Tryd
open Go Go.SL
set_option linter.unusedVariables false
set_option linter.unusedSimpArgs false

/-- Parameters that are read. -/
def parsS (r : Bs) : Option (List Par) :=
  match trimL r with
  | [] => some []
  | c :: r1 => if c = 59 then (match trimL r1 with
    | [] => some []
    | d :: r2 => match parR (d :: r2) with
      | some (p, q) => if h : q.length < r.length then (parsS q).map (p :: ·) else none
      | none => none) else none
termination_by r.length
theorem parsS_nil {r : Bs} (h : trimL r = []) : parsS r = some [] := by rw [parsS, h]
theorem parsS_no {r r1 : Bs} {c : UInt8} (h : trimL r = c :: r1) (hc : c ≠ 59) : parsS r = none := by rw [parsS, h]; simp [hc]
theorem parsS_end {r r1 : Bs} (h : trimL r = 59 :: r1) (h2 : trimL r1 = []) : parsS r = some [] := by rw [parsS, h]; simp [h2]
theorem parsS_par {r r1 : Bs} (h : trimL r = 59 :: r1) (h2 : trimL r1 ≠ []) : parsS r = match parR (trimL r1) with
    | some (p, q) => (parsS q).map (p :: ·)
    | none => none := by
  rw [parsS, h]
  simp only [if_true]
  cases h3 : trimL r1 with
  | nil => exact absurd h3 h2
  | cons d r2 =>
    simp only []
    cases h4 : parR (d :: r2) with
    | none => rfl
    | some z =>
      obtain ⟨p, q⟩ := z
      have h5 := parR_len h4
      have h6 := (trimL_sfx r1).length_le
      have h7 := (trimL_sfx r).length_le
      rw [h3] at h6
      rw [h] at h7
      simp only [List.length_cons] at h5 h6 h7
      simp only []
      rw [dif_pos (by omega)]

/-- A kind that is read. -/
def readK (s : Bs) : Option Kd :=
  match tokR (trimL s) with
  | c :: r1 => if c = 47 then (parsS (tokR r1)).bind fun ps => if kOK (low (tokF (trimL s))) (low (tokF r1)) ps then some ⟨low (tokF (trimL s)), low (tokF r1), ps⟩ else none else none
  | [] => none
/-- A kind's value. -/
def KV (x : CV) (k : Kd) : Prop := ∃ q, x = .agg [str k.t, str k.s, q] ∧ Cls q (k.ps.map Par.c).flatten k.ps.length 2
/-- What reading a kind answers. -/
def rdK (o : Option Kd) (y : CV) : Prop :=
  match o with
  | some k => ∃ x, KV x k ∧ y = .tup [x, .v (.int .i64 0)]
  | none => ∃ x, KV x ⟨[], [], []⟩ ∧ y = .tup [x, .v (.int .i64 70)]
theorem par_clB (ps : List Par) : (ps.map Par.c).flatten.all clB = true := by
  induction ps with
  | nil => rfl
  | cons p ps ih => simp only [List.map_cons, List.flatten_cons, List.all_append, ih]; rfl
theorem par_snoc (ps : List Par) (p : Par) : ((ps ++ [p]).map Par.c).flatten = (ps.map Par.c).flatten ++ p.c := by simp
variable [LayerC]
theorem par_len (ps : List Par) : (ps.map Par.c).flatten.length = ps.length * 2 := by
  have := (parCh ps).len
  simpa using this

theorem w28 (m : Nat) (s : Bs) (H : Hp) (hs : s.length ≤ 4294967280) : WC prog cs0 m (.f 29) [str s] H fun y H2 => H2 = H ∧ rdK (readK s) y := by
  rw [WC_drop rfl func29 rfl rfl]
  have h1 := (trimL_sfx s).length_le
  have h2 := (tokR_sfx (trimL s)).length_le
  have h3 : (tokF (trimL s)).length ≤ (trimL s).length := (List.takeWhile_sublist _).length_le
  have c1 := fun m H' => (w47 m s H' hs).wc
  have c2 := fun m H' => (w46 m (trimL s) H' (by omega)).wc
  have c3 := fun m H' => (w49 m (tokF (trimL s)) H' (by omega)).wc
  generalize hr0 : behind (tokR (trimL s)) [47] = r0
  have h4 : r0.length ≤ s.length := by
    subst hr0; unfold behind; split
    · rw [List.length_drop]; omega
    · omega
  have h5 := (tokR_sfx r0).length_le
  have h6 : (tokF r0).length ≤ r0.length := (List.takeWhile_sublist _).length_le
  have c4 := fun m H' => (w46 m r0 H' (by omega)).wc
  have c5 := fun m H' => (w49 m (tokF r0) H' (by omega)).wc
  have c48 := fun m a b H' => (w48 m a b H').wc
  simp -implicitDefEqProofs [f29, aQ, dAlloc, c1, c2, c48, hr0, c4, c3, c5, dExtract, faddr_ptr, underlying56, store_at iT9]
  generalize hT : low (tokF (trimL s)) = T
  generalize hS : low (tokF r0) = S
  obtain ⟨Z, hZ⟩ : ∃ Z, Z = if [47] <+: tokR (trimL s) then parsS (tokR r0) else none := ⟨_, rfl⟩
  obtain ⟨R, hR⟩ : ∃ R : Fr → Hp → Prop, ∀ fr H', R fr H' ↔ ∃ ok ps q L, fr 2 = .ptr H.length 0 0 ∧ fr 4 = .ptr (H.length + 1) 0 0 ∧ fr 7 = .v (.bool ok) ∧ H' = H ++ CO.cells 0 [str [], str [], nilC] 56 :: CO.cells 0 [str T, str S, q] 56 :: L ∧ Grow (H.length + 2) H' q (ps.map Par.c).flatten ps.length 2 95 ∧ ps.length ≤ s.length ∧ (ok = true → ∀ p ∈ ps, p.n.length ≤ s.length ∧ p.v.length ≤ s.length) ∧ (ok = true → Z = some ps) ∧ (ok = false → Z = none) := ⟨_, fun _ _ => Iff.rfl⟩
  obtain ⟨I, hI⟩ : ∃ I : Nat → Fr → Hp → Prop, ∀ j fr H', I j fr H' ↔ ∃ r' ok ps q L, j = (if ok = true then r'.length + 1 else 0) ∧ fr 2 = .ptr H.length 0 0 ∧ fr 4 = .ptr (H.length + 1) 0 0 ∧ fr 6 = str r' ∧ fr 7 = .v (.bool ok) ∧ H' = H ++ CO.cells 0 [str [], str [], nilC] 56 :: CO.cells 0 [str T, str S, q] 56 :: L ∧ Grow (H.length + 2) H' q (ps.map Par.c).flatten ps.length 2 95 ∧ ps.length + r'.length ≤ s.length ∧ (ok = true → ∀ p ∈ ps, p.n.length ≤ s.length ∧ p.v.length ≤ s.length) ∧ (ok = true → Z = (parsS r').map (ps ++ ·)) ∧ (ok = false → Z = none) := ⟨_, fun _ _ _ => Iff.rfl⟩
  refine W_mono (W_rounds (Q := fun e fr H' => e = .exit 0 ∧ R fr H') I ?_ _ _ _ ((hI _ _ _).2
    ⟨tokR r0, decide ([47] <+: tokR (trimL s)), [], nilC, [], rfl, by simp, by simp, by simp, by simp, by simp, Grow.nil _ _ _ _, by simp; omega, by simp, by intro h; simp only [decide_eq_true_eq] at h; rw [hZ, if_pos h]; cases parsS (tokR r0) <;> simp, by intro h; simp only [decide_eq_false_iff_not] at h; rw [hZ, if_neg h]⟩)) ?_
  · rintro j fr H' hi
    obtain ⟨r', ok, ps, q, L, rfl, a2, a4, a6, a7, rfl, hg, hn, hp, hok, hno⟩ := (hI _ _ _).1 hi
    cases ok with
    | false =>
      simp -implicitDefEqProofs [a7]
      exact (hR _ _).2 ⟨false, ps, q, L, by simp [a2], by simp [a4], by simp [a7], rfl, hg, by omega, by simp, by simp, by simpa using hno⟩
    | true =>
      have hok := hok rfl
      have t1 := (trimL_sfx r').length_le
      have d1 := fun m H' => (w47 m r' H' (by omega)).wc
      cases hr1 : trimL r' with
      | nil =>
        simp -implicitDefEqProofs [a6, a7, d1, hr1]
        exact (hR _ _).2 ⟨true, ps, q, L, by simp [a2], by simp [a4], by simp [a7], rfl, hg, by omega, hp, by intro _; rw [hok, parsS_nil hr1]; simp, by simp⟩
      | cons c r1 =>
        rw [hr1] at t1
        simp only [List.length_cons] at t1
        by_cases h59 : c = 59
        case neg =>
          have h59' : ¬ 59 = c := Ne.symm h59
          have d2 := fun m H' => (w47 m (c :: r1) H' (by simp; omega)).wc
          simp -implicitDefEqProofs [a6, a7, d1, hr1, c48, behind, dExtract, h59, h59', d2]
          exact (hR _ _).2 ⟨false, ps, q, L, by simp [a2], by simp [a4], by simp, rfl, hg, by omega, by simp, by simp, by intro _; rw [hok, parsS_no hr1 h59]; rfl⟩
        subst h59
        have d2 := fun m H' => (w47 m r1 H' (by omega)).wc
        have t2 := (trimL_sfx r1).length_le
        by_cases hr2 : trimL r1 = []
        · simp -implicitDefEqProofs [a6, a7, d1, hr1, c48, behind, dExtract, d2, hr2]
          exact (hR _ _).2 ⟨true, ps, q, L, by simp [a2], by simp [a4], by simp, rfl, hg, by omega, hp, by intro _; rw [hok, parsS_end hr1 hr2]; simp, by simp⟩
        · simp -implicitDefEqProofs [a6, a7, d1, hr1, c48, behind, dExtract, d2, hr2, aQ, dAlloc, a2, a4]
          refine WC_mono (w50 _ (trimL r1) _ (by omega)) ?_
          rintro y H2 ⟨rfl, hy⟩
          obtain ⟨p, q', okb, rfl, hpl, hpb⟩ : ∃ (p : Par) (q' : Bs) (okb : Bool), y = .tup [.agg [str p.n, str p.v], str q', .v (.bool okb)] ∧ (okb = true → p.n.length ≤ s.length ∧ p.v.length ≤ s.length ∧ q'.length < r'.length) ∧ ((okb = true ∧ parR (trimL r1) = some (p, q')) ∨ (okb = false ∧ parR (trimL r1) = none ∧ q'.length ≤ (trimL r1).length)) := by
            cases hq : parR (trimL r1) with
            | some z =>
              obtain ⟨p, q'⟩ := z
              rw [hq] at hy
              have := parR_len hq
              exact ⟨p, q', true, hy, fun _ => by omega, .inl ⟨rfl, rfl⟩⟩
            | none => rw [hq] at hy; obtain ⟨p, q', h1, h2⟩ := hy; exact ⟨p, q', false, h1, by simp, .inr ⟨rfl, rfl, h2⟩⟩
          have hg2 := hg.app [CO.cells 0 [str p.n, str p.v] 95]
          obtain ⟨x2, H3, e1, e2, e3, e4, e5⟩ := Grow.append (P := prog) (tx := 54) (y := .im [str p.n, str p.v] 1 2) underlying54 iT95 zT95 (by simp) sT95 (by omega) (by simp) hg2 (src_clo (n := 1) underlying54 (.inl rfl) rfl _) rfl (by simp; omega) (by omega)
          have hap : ∀ y, apQ H.length q y = true := hg.ap (by omega)
          have mk := fun H => mkA1 (P := prog) (t := 54) (e := 95) (cs := [str p.n, str p.v]) underlying54 (by rw [underlying95]; rfl) iT95 zT95 (by simp) sT95 (by omega) (by omega) rfl rfl rfl H
          simp at e1
          simp -implicitDefEqProofs [a2, a4, store_at iT95, cells_agg, dExtract, faddr_ptr, underlying56, load_one underlying54 rfl iT54, load_aggp underlying95 rfl iT95, mk, hap, e1]
          obtain ⟨L3, rfl⟩ : ∃ L3, H3 = H ++ CO.cells 0 [str [], str [], nilC] 56 :: CO.cells 0 [str T, str S, q] 56 :: L3 := by
            refine ⟨H3.drop (H.length + 2), ?_⟩
            have := split_at e3
            rw [this]
            simp [List.take_length_add_append]
          have hg3 : Grow (H.length + 2) (H ++ CO.cells 0 [str [], str [], nilC] 56 :: CO.cells 0 [str T, str S, x2] 56 :: L3) x2 ((ps ++ [p]).map Par.c).flatten (ps ++ [p]).length 2 95 := by
            have := Grow.pre (A := H ++ [CO.cells 0 [str [], str [], nilC] 56, CO.cells 0 [str T, str S, q] 56]) (A' := H ++ [CO.cells 0 [str [], str [], nilC] 56, CO.cells 0 [str T, str S, x2] 56]) (L := L3) (by simpa using e2) (by simp) (by simp)
            rw [par_snoc]
            simpa [Par.c] using this
          have hcx : cvCells x2 = some [x2] := by rcases e2 with ⟨_, _, rfl⟩ | ⟨_, _, _, _, rfl, _⟩ <;> rfl
          have hst : ∀ y, stQ H.length (.ptr (H.length + 1) 0 2) y = true := fun y => by simp [stQ]
          have u2 : unlit x2 = x2 := e2.unl
          simp -implicitDefEqProofs [store_at iT54, hcx, hst, u2]
          refine ⟨if okb = true then q'.length + 1 else 0, ?_, (hI _ _ _).2 ⟨q', okb, ps ++ [p], x2, L3, rfl, by simp [a2], by simp [a4], by simp, by simp, rfl, hg3, ?_, ?_, ?_, ?_⟩⟩
          · split
            · rename_i h; have := hpl h; omega
            · omega
          · rcases hpb with ⟨h1, _⟩ | ⟨_, _, h3⟩
            · have := hpl h1; simp; omega
            · simp; omega
          · intro h p' hp'
            rcases List.mem_append.1 hp' with h1 | h1
            · exact hp rfl _ h1
            · simp at h1; subst h1; exact ⟨(hpl h).1, (hpl h).2.1⟩
          · intro h
            rcases hpb with ⟨_, h2⟩ | ⟨h1, _⟩
            · rw [hok, parsS_par hr1 hr2, h2]
              simp only []
              cases parsS q' <;> simp
            · rw [h] at h1; cases h1
          · intro h
            rcases hpb with ⟨h1, _⟩ | ⟨_, h2, _⟩
            · rw [h] at h1; cases h1
            · rw [hok, parsS_par hr1 hr2, h2]; rfl
  · rintro e fr H' ⟨rfl, hr⟩
    obtain ⟨ok, ps, q, L, a2, a4, a7, rfl, hg, hn, hp, hok, hno⟩ := (hR _ _).1 hr
    have hrk : readK s = Z.bind fun ps => if kOK T S ps then some ⟨T, S, ps⟩ else none := by
      unfold readK
      rw [hT]
      cases hq : tokR (trimL s) with
      | nil => rw [hq] at hZ; simp [hZ]
      | cons c r1 =>
        rw [hq] at hZ hr0
        by_cases h47 : c = 47
        · subst h47
          have : r1 = r0 := by rw [← hr0]; simp [behind]
          subst this
          simp [hZ, hS]
        · have h47' : ¬ 47 = c := Ne.symm h47
          simp [hZ, h47, h47']
    have hu := hg.unl
    have hrs : RS (H ++ CO.cells 0 [str [], str [], nilC] 56 :: CO.cells 0 [str T, str S, q] 56 :: L) q (ps.map Par.c) 2 := by
      refine Grow.rs (m := H.length + 2) (e := 95) ?_ (parCh ps)
      simpa using hg
    have hkv : KV (.agg [str [], str [], nilC]) ⟨[], [], []⟩ := ⟨nilC, rfl, .inr ⟨rfl, rfl, rfl⟩⟩
    cases ok with
    | false =>
      have hZ2 := hno rfl
      simp -implicitDefEqProofs [a2, a4, a7, b56_0, store_at iT56, cells_agg, load_aggp underlying56 rfl iT56]
      rw [hrk, hZ2]
      exact ⟨_, hkv, rfl⟩
    | true =>
      have hZ2 := hok rfl
      have hps := hp rfl
      have hT1 : T.length ≤ 4294967280 := by rw [← hT]; simp; omega
      have hS1 : S.length ≤ 4294967280 := by rw [← hS]; simp; omega
      have c51 := fun m => (w51 m T S ps q _ hrs (by omega) hT1 hS1 (fun p hp => ⟨by have := (hps p hp).1; omega, by have := (hps p hp).2; omega⟩)).wc
      by_cases hk : kOK T S ps
      · have hg' : Grow (H.length + 2) (H ++ CO.cells 0 [str T, str S, q] 56 :: CO.cells 0 [str T, str S, q] 56 :: L) q (ps.map Par.c).flatten ps.length 2 95 := by
          have := Grow.pre (A := H ++ [CO.cells 0 [str [], str [], nilC] 56, CO.cells 0 [str T, str S, q] 56]) (A' := H ++ [CO.cells 0 [str T, str S, q] 56, CO.cells 0 [str T, str S, q] 56]) (L := L) (by simpa using hg) (by simp) (by simp)
          simpa using this
        obtain ⟨y, f1, f2, f3, f4⟩ := hg'.frzV (k := H.length) (by omega) (par_clB ps)
        have hone := hrs.one
        simp -implicitDefEqProofs [a2, a4, a7, cells_agg, store_at iT56, load_aggp underlying56 rfl iT56, c51, hk, hu, hone, f3]
        rw [hrk, hZ2]
        simp only [Option.bind_some, if_pos hk]
        exact ⟨_, ⟨y, rfl, f4⟩, rfl⟩
      · simp -implicitDefEqProofs [a2, a4, a7, b56_0, store_at iT56, cells_agg, load_aggp underlying56 rfl iT56, c51, hk]
        rw [hrk, hZ2]
        simp only [Option.bind_some, if_neg hk]
        exact ⟨_, hkv, rfl⟩
end Go.Proofs.Tryd

/- Walks: a kind is read, by the reference. -/
namespace Go.Proofs.Tryd
open Go Go.SL
set_option linter.unusedVariables false
set_option linter.unusedSimpArgs false
theorem trimL_trim (r : Bs) : trimL (trimL r) = trimL r := by
  unfold trimL
  cases h : r.dropWhile blankC with
  | nil => rfl
  | cons c r' =>
    have := List.head_dropWhile_not blankC (l := r) (by rw [h]; simp)
    simp only [h, List.head_cons] at this
    rw [List.dropWhile_cons, this]; simp
theorem qS_sfx : ∀ n (r : Bs) o q, r.length ≤ n → qS r = some (o, q) → q <:+ r := by
  intro n
  induction n with
  | zero => intro r o q hn h; cases r with
    | nil => cases h
    | cons a r => simp at hn
  | succ n ih =>
    intro r o q hn h
    cases r with
    | nil => cases h
    | cons c r =>
      simp only [List.length_cons] at hn
      by_cases h1 : c = 34
      · subst h1; rw [qS_q] at h; cases h; exact List.suffix_cons _ _
      by_cases h2 : c = 92
      · subst h2
        cases r with
        | nil => rw [qS_b0] at h; cases h
        | cons d r =>
          rw [qS_b] at h
          obtain ⟨⟨o', q'⟩, h3, h4⟩ := Option.map_eq_some_iff.1 h
          simp only [Prod.mk.injEq] at h4
          obtain ⟨rfl, rfl⟩ := h4
          simp only [List.length_cons] at hn
          exact ((ih r o' q' (by omega) h3).trans (List.suffix_cons _ _)).trans (List.suffix_cons _ _)
      · rw [qS_c _ h1 h2] at h
        obtain ⟨⟨o', q'⟩, h3, h4⟩ := Option.map_eq_some_iff.1 h
        simp only [Prod.mk.injEq] at h4
        obtain ⟨rfl, rfl⟩ := h4
        exact (ih r o' q' (by omega) h3).trans (List.suffix_cons _ _)
theorem valR_sfx (r : Bs) : (valR r).1 <:+ r := by
  unfold valR
  split
  · rename_i hh
    cases r with
    | nil => simp at hh
    | cons c r =>
      simp only [List.tail_cons]
      split
      · rename_i q h; exact (qS_sfx _ _ q.1 q.2 (Nat.le_refl _) h).trans (List.suffix_cons _ _)
      · exact List.nil_suffix
  · exact tokR_sfx r
variable [LayerC]
end Go.Proofs.Tryd

/- Walks: fields of a name; fields that are the same. -/
namespace Go.Proofs.Tryd
open Go Go.SL
set_option linter.unusedVariables false
set_option linter.unusedSimpArgs false

/-- A field. -/
structure Fld where
  n : Bs
  v : Bs
deriving DecidableEq
def Fld.c (f : Fld) : List CV := [str f.n, str f.v]
theorem fldCh (l : List Fld) : Chunks (l.map Fld.c) 2 := by
  intro c hc; obtain ⟨p, _, rfl⟩ := List.mem_map.1 hc; rfl
/-- The values of a name. -/
def fall (l : List Fld) (n : Bs) : List Bs := (l.filter fun f => low f.n == low n).map Fld.v
theorem fall_snoc (l : List Fld) (f : Fld) (n : Bs) : fall (l ++ [f]) n = fall l n ++ (if low f.n = low n then [f.v] else []) := by
  unfold fall
  rw [List.filter_append, List.map_append]
  by_cases h : low f.n = low n
  · simp [h]
  · simp [h]
theorem fall_len (l : List Fld) (n : Bs) : (fall l n).length ≤ l.length := by
  unfold fall; rw [List.length_map]; exact List.length_filter_le _ _
def fgetV (l : List Fld) (n : Bs) : CV := .tup [str ((fall l n).headD []), .v (.int .i64 ((fall l n).length : Nat))]
theorem mkS1 (a : Bs) (H : Hp) : dBuildSlice prog 80 1 [(0, str a)] H false = some (.im [str a] 1 1, H) := by
  simp [dBuildSlice, underlying80, fillC, zerosC, isU8, clB, underlying9]

variable [LayerC]
theorem w27 (m : Nat) (x : CV) (l : List Fld) (n : Bs) (H : Hp) (hx : RS H x (l.map Fld.c) 2) (hl : l.length ≤ 4294967280) (hn : n.length ≤ 4294967280) (hf : ∀ f ∈ l, f.n.length ≤ 4294967280) : Ret prog cs0 m 28 [x, str n] H (fgetV l n) H := by
  unfold Ret
  rw [WC_drop rfl func28 rfl rfl]
  have ux := hx.unl
  have hln : ∀ L, dLenS prog 24 x (H ++ L) = some (.v (.int .i64 l.length)) := fun L => by rw [(hx.app L).len underlying24, List.length_map]
  have hln0 := hln []
  rw [List.append_nil] at hln0
  simp -implicitDefEqProofs [f28, ux, hln0]
  obtain ⟨I, hI⟩ : ∃ I : Nat → Fr → Hp → Prop, ∀ i fr H', I i fr H' ↔ ((∃ L, H' = H ++ L) ∧ fr 1 = str n ∧ fr 10 = x ∧ fr 11 = .v (.int .i64 l.length) ∧ fr 12 = .v (.int .i64 i) ∧ fr 6 = str ((fall (l.take i) n).headD []) ∧ fr 7 = .v (.int .i64 ((fall (l.take i) n).length : Nat))) := ⟨_, fun _ _ _ => Iff.rfl⟩
  refine W_up l.length I ?_ 0 _ _ (by omega) ((hI _ _ _).2 ⟨⟨[], by simp⟩, by simp, by simp, by simp, by simp, by simp [fall], by simp [fall]⟩)
  intro i fr H' hi hinv
  obtain ⟨⟨L, rfl⟩, a1, a10, a11, a12, a6, a7⟩ := (hI _ _ _).1 hinv
  by_cases hlt : i < l.length
  · have hw := up64 hlt (by omega)
    have hlt2 : i < (l.map Fld.c).length := by simpa using hlt
    have hla : dLoad prog 31 (adrC x i) (H ++ L) = some (.agg [str l[i].n, str l[i].v]) := by rw [(hx.app L).loadAgg underlying31 rfl iT31 sT31 hlt2]; simp [Fld.c]
    have had : dIndexAddr prog 24 x (.v (.int .i64 i)) (H ++ L) = some (adrC x i) := by rw [(hx.app L).addr underlying24 iT31 sT31]; simp [hlt]
    have hfn := hf _ (List.getElem_mem hlt)
    have hfl := fall_len (l.take i) n
    have hfl2 : (fall (l.take i) n).length ≤ i := by rw [List.length_take] at hfl; omega
    obtain ⟨q, hq⟩ : ∃ q, q = (fall (l.take i) n).length := ⟨_, rfl⟩
    rw [← hq] at a7 hfl2
    obtain ⟨k, hk, hw2⟩ := upJ (i := q) (n := l.length) (by omega) (by omega)
    have hsn := fall_snoc (l.take i) l[i] n
    rw [← take_snoc hlt] at hsn
    have c45 := fun m H' => (w45 m l[i].n n H' hfn hn).wc
    by_cases hc : low l[i].n = low n
    · rw [if_pos hc] at hsn
      have hlen : (fall (l.take (i + 1)) n).length = k := by rw [hsn, List.length_append, ← hq, hk]; rfl
      by_cases q0 : q = 0
      · have h0 : fall (l.take i) n = [] := List.eq_nil_of_length_eq_zero (by omega)
        rw [h0, List.nil_append] at hsn
        simp -implicitDefEqProofs [a1, a10, a11, a12, a6, a7, hlt, hw, had, hla, aQ, dAlloc, store_at iT31, cells_agg, faddr_ptr, underlying31, load_one underlying9 rfl iT9, c45, hc, q0]
        exact (hI _ _ _).2 ⟨⟨_, rfl⟩, by simp [a1], by simp [a10], by simp [a11], by simp, by simp [hsn], by rw [hlen, hk, q0]; rfl⟩
      · have hh : (fall (l.take (i + 1)) n).headD [] = (fall (l.take i) n).headD [] := by
          rw [hsn]
          cases h5 : fall (l.take i) n with
          | nil => rw [h5] at hq; simp at hq; omega
          | cons y ys => rfl
        simp -implicitDefEqProofs [a1, a10, a11, a12, a6, a7, hlt, hw, had, hla, aQ, dAlloc, store_at iT31, cells_agg, faddr_ptr, underlying31, load_one underlying9 rfl iT9, c45, hc, q0, hw2]
        exact (hI _ _ _).2 ⟨⟨_, rfl⟩, by simp [a1], by simp [a10], by simp [a11], by simp, by rw [hh]; simp [a6], by rw [hlen]; simp⟩
    · rw [if_neg hc, List.append_nil] at hsn
      simp -implicitDefEqProofs [a1, a10, a11, a12, a6, a7, hlt, hw, had, hla, aQ, dAlloc, store_at iT31, cells_agg, faddr_ptr, underlying31, load_one underlying9 rfl iT9, c45, hc]
      exact (hI _ _ _).2 ⟨⟨_, rfl⟩, by simp [a1], by simp [a10], by simp [a11], by simp, by simp [a6, hsn], by rw [hsn, ← hq]; simp [a7]⟩
  · obtain rfl : i = l.length := by omega
    rw [List.take_length] at a6 a7
    simp -implicitDefEqProofs [a6, a7, a11, a12, fgetV]
end Go.Proofs.Tryd

/- Walks: fields, by the reference. -/
namespace Go.Proofs.Tryd
open Go Go.SL
set_option linter.unusedVariables false
set_option linter.unusedSimpArgs false
variable [LayerC]

theorem w21 (m : Nat) (x y : CV) (ps qs : List Fld) (H : Hp) (hx : RS H x (ps.map Fld.c) 2) (hy : RS H y (qs.map Fld.c) 2) (hb : ps.length ≤ 4294967280) : Ret prog cs0 m 15 [x, y] H (.v (.bool (decide (ps = qs)))) H := by
  unfold Ret
  rw [WC_drop rfl func15 rfl rfl]
  have ux := hx.unl
  have uy := hy.unl
  have lx := hx.len (P := prog) underlying24
  have ly := hy.len (P := prog) underlying24
  rw [List.length_map] at lx ly
  by_cases hl : ps.length = qs.length
  · simp -implicitDefEqProofs [f15, ux, uy, lx, ly, hl]
    refine W_up ps.length (fun i fr H' => H' = H ∧ fr 0 = x ∧ fr 1 = y ∧ fr 5 = .v (.int .i64 i) ∧ ps.take i = qs.take i) ?_ 0 _ _ (by omega) (by simp)
    rintro i fr H' hi ⟨rfl, a0, a1, a5, hk⟩
    by_cases hlt : i < ps.length
    · have hw := up64 hlt (by omega)
      have h1 : i < (ps.map Fld.c).length := by simpa using hlt
      have h2 : i < (qs.map Fld.c).length := by simpa [← hl] using hlt
      have hq : i < qs.length := by omega
      have l1 := hx.loadAgg (P := prog) underlying31 rfl iT31 sT31 h1
      have l2 := hy.loadAgg (P := prog) underlying31 rfl iT31 sT31 h2
      simp [Fld.c] at l1 l2
      simp -implicitDefEqProofs [a0, a1, a5, hlt, hw, lx, ux, uy]
      rw [W_draw _ _ _ _ _ _ followsT (by rfl)]
      simp -implicitDefEqProofs [a0, a1, a5, hlt, hw, ux, uy, hx.addr underlying24 iT31 sT31, hy.addr underlying24 iT31 sT31, hq, l1, l2, neq67]
      split
      · rename_i h
        rintro rfl
        simp at h
      · rename_i h
        rw [take_snoc hlt, take_snoc hq, hk]
        have e : ps[i] = qs[i] := by
          cases h3 : ps[i]; cases h4 : qs[i]
          simp [h3, h4] at h; simp [h]
        rw [e]
    · obtain rfl : i = ps.length := by omega
      rw [List.take_length, hl, List.take_length] at hk
      simp -implicitDefEqProofs [a0, a1, a5, lx, ux, hk]
  · have hne : ¬ ps = qs := fun h => hl (by rw [h])
    simp -implicitDefEqProofs [f15, ux, uy, lx, ly, hl, hne]
end Go.Proofs.Tryd

/- Walks: where lines are folded. -/
namespace Go.Proofs.Tryd
open Go Go.SL
set_option linter.unusedVariables false
set_option linter.unusedSimpArgs false

/-- Of the places from f on and below n: where a line is folded. -/
def PLn (s : Bs) (f n : Nat) : Option Nat → Prop
  | none => ∀ j, f ≤ j → j < n → s[j]? ≠ some 32
  | some k => f ≤ k ∧ k < n ∧ s[k]? = some 32 ∧ ((k ≤ 76 ∧ ∀ j, k < j → j < n → j ≤ 76 → s[j]? ≠ some 32) ∨ (76 < k ∧ ∀ j, f ≤ j → j < k → s[j]? ≠ some 32))
def PL (s : Bs) (f : Nat) (r : Option Nat) : Prop := PLn s f s.length r
theorem PL_uniq {s : Bs} {f : Nat} {a b : Option Nat} (ha : PL s f a) (hb : PL s f b) : a = b := by
  unfold PL PLn at *
  cases a with
  | none =>
    cases b with
    | none => rfl
    | some k => exact absurd hb.2.2.1 (ha k hb.1 hb.2.1)
  | some k =>
    cases b with
    | none => exact absurd ha.2.2.1 (hb k ha.1 ha.2.1)
    | some j =>
      obtain ⟨a1, a2, a3, a4⟩ := ha
      obtain ⟨b1, b2, b3, b4⟩ := hb
      congr 1
      rcases Nat.lt_trichotomy k j with h | h | h
      · rcases a4 with ⟨a5, a6⟩ | ⟨a5, a6⟩
        · rcases b4 with ⟨b5, b6⟩ | ⟨b5, b6⟩
          · exact absurd b3 (a6 j h b2 b5)
          · exact absurd a3 (b6 k a1 h)
        · rcases b4 with ⟨b5, b6⟩ | ⟨b5, b6⟩
          · omega
          · exact absurd a3 (b6 k a1 h)
      · exact h
      · rcases b4 with ⟨b5, b6⟩ | ⟨b5, b6⟩
        · rcases a4 with ⟨a5, a6⟩ | ⟨a5, a6⟩
          · exact absurd a3 (b6 k h a2 a5)
          · exact absurd b3 (a6 j b1 h)
        · rcases a4 with ⟨a5, a6⟩ | ⟨a5, a6⟩
          · omega
          · exact absurd b3 (a6 j b1 h)
theorem ex_least (p : Nat → Prop) (h : ∃ j, p j) : ∃ j, p j ∧ ∀ i, i < j → ¬ p i := by
  obtain ⟨j, hj⟩ := h
  induction j using Nat.strongRecOn with
  | _ j ih =>
    by_cases h : ∃ i, i < j ∧ p i
    · obtain ⟨i, h1, h2⟩ := h; exact ih i h1 h2
    · exact ⟨j, hj, fun i hi hp => h ⟨i, hi, hp⟩⟩
theorem ex_most (p : Nat → Prop) (b : Nat) (h : ∃ j, j ≤ b ∧ p j) : ∃ j, j ≤ b ∧ p j ∧ ∀ i, j < i → i ≤ b → ¬ p i := by
  induction b with
  | zero =>
    obtain ⟨j, h1, h2⟩ := h
    exact ⟨j, h1, h2, fun i h3 h4 => by omega⟩
  | succ b ih =>
    by_cases h1 : p (b + 1)
    · exact ⟨b + 1, Nat.le_refl _, h1, fun i h3 h4 => by omega⟩
    · obtain ⟨j, h2, h3⟩ := h
      obtain ⟨j', h4, h5, h6⟩ := ih ⟨j, by
        rcases Nat.lt_or_ge j (b + 1) with h | h
        · omega
        · have : j = b + 1 := by omega
          exact absurd (this ▸ h3) h1, h3⟩
      exact ⟨j', by omega, h5, fun i h7 h8 => by
        rcases Nat.lt_or_ge i (b + 1) with h | h
        · exact h6 i h7 (by omega)
        · have : i = b + 1 := by omega
          exact this ▸ h1⟩
theorem PL_ex (s : Bs) (f : Nat) : ∃ r, PL s f r := by
  by_cases h1 : ∃ j, j ≤ 76 ∧ (f ≤ j ∧ j < s.length ∧ s[j]? = some 32)
  · obtain ⟨k, h2, ⟨h3, h4, h5⟩, h6⟩ := ex_most _ 76 h1
    exact ⟨some k, h3, h4, h5, .inl ⟨h2, fun j h7 h8 h9 h10 => h6 j h7 h9 ⟨by omega, h8, h10⟩⟩⟩
  · by_cases h2 : ∃ j, f ≤ j ∧ j < s.length ∧ s[j]? = some 32
    · obtain ⟨k, ⟨h3, h4, h5⟩, h6⟩ := ex_least _ h2
      refine ⟨some k, h3, h4, h5, .inr ⟨?_, fun j h7 h8 h9 => h6 j h8 ⟨h7, by omega, h9⟩⟩⟩
      refine Nat.lt_of_not_le fun h => h1 ⟨k, h, h3, h4, h5⟩
    · exact ⟨none, fun j h3 h4 h5 => h2 ⟨j, h3, h4, h5⟩⟩
def plV : Option Nat → CV
  | none => .v (.int .i64 (-1))
  | some k => .v (.int .i64 (k : Nat))
@[simp] theorem unlit_plV (r : Option Nat) : unlit (plV r) = plV r := by cases r <;> rfl
@[simp] theorem frz_plV (H : Hp) (m : Nat) (r : Option Nat) : frz H m (plV r) = some (plV r) := by cases r <;> rfl
variable [LayerC]
end Go.Proofs.Tryd

/- Walks: lines are folded. -/
namespace Go.Proofs.Tryd
open Go Go.SL
set_option linter.unusedVariables false
set_option linter.unusedSimpArgs false

/-- A line, folded. -/
inductive FoldR : Bs → Nat → List Bs → Prop
  | stop {s : Bs} {f : Nat} (h : s.length ≤ 76 ∨ PL s f none) : FoldR s f [s]
  | step {s : Bs} {f k : Nat} {out : List Bs} (h : 76 < s.length) (hp : PL s f (some k)) (ho : FoldR (s.drop k) 1 out) : FoldR s f (s.take k :: out)
theorem idb_first (l : Bs) (c : UInt8) : (Lib.indexByte l c = -1 ∧ ∀ j : Nat, l[j]? ≠ some c) ∨ ∃ q : Nat, Lib.indexByte l c = q ∧ q < l.length ∧ l[q]? = some c ∧ ∀ j, j < q → l[j]? ≠ some c := by
  induction l with
  | nil => left; simp [Lib.indexByte]
  | cons b l ih =>
    unfold Lib.indexByte
    by_cases e : b = c
    · right; exact ⟨0, by simp [e], by simp, by simp [e], fun j hj => by omega⟩
    · have h2 : (b == c) = false := by simp [e]
      rcases ih with ⟨h, h3⟩ | ⟨q, h, h3, h4, h5⟩
      · left
        refine ⟨by rw [h2, h]; rfl, fun j => ?_⟩
        cases j with
        | zero => simpa using e
        | succ j => simpa using h3 j
      · right
        refine ⟨q + 1, ?_, by simpa using h3, by simpa using h4, fun j hj => ?_⟩
        · rw [h2, h]
          have : ((q : Int) == -1) = false := by rw [beq_eq_false_iff_ne]; omega
          simp [this]
        · cases j with
          | zero => simpa using e
          | succ j => simpa using h5 j (by omega)
variable [LayerC]
theorem w74 (m : Nat) (s : Bs) (f : Nat) (H : Hp) (hs : s.length ≤ 100000) (hf : f ≤ 100000) (hf0 : 1 ≤ f) (hfs : 76 < s.length → f ≤ s.length) :
    ∃ y out, Cls y (strS out) out.length 1 ∧ FoldR s f out ∧ out.length ≤ s.length + 1 ∧ Ret prog cs0 m 36 [str s, .v (.int .i64 (f : Nat))] H y H := by
  suffices hsuf : WC prog cs0 m (.f 36) [str s, .v (.int .i64 (f : Nat))] H fun y H' => H' = H ∧ ∃ out, Cls y (strS out) out.length 1 ∧ FoldR s f out ∧ out.length ≤ s.length + 1 by
    obtain ⟨k, ⟨y, H'⟩, h1, h2, out, h3, h4, h5⟩ := hsuf
    simp only at h2 h3
    subst h2
    exact ⟨y, out, h3, h4, h5, k, _, h1, rfl, rfl⟩
  rw [WC_drop rfl func36 rfl rfl]
  simp -implicitDefEqProofs [f36]
  obtain ⟨I, hI⟩ : ∃ I : Nat → Fr → Hp → Prop, ∀ j fr H', I j fr H' ↔ ∃ a g out, j = a.length ∧ fr 0 = str a ∧ fr 1 = .v (.int .i64 (g : Nat)) ∧ Acc H H' (fr 5) (strS out) out.length 1 9 ∧ out.length + a.length ≤ s.length ∧ 1 ≤ g ∧ g ≤ 100000 ∧ (76 < a.length → g ≤ a.length) ∧ (∀ r, FoldR a g r → FoldR s f (out ++ r)) := ⟨_, fun _ _ _ => Iff.rfl⟩
  refine W_rounds I ?_ _ _ _ ((hI _ _ _).2 ⟨s, f, [], rfl, by simp, by simp, by simp; exact Acc.nil H 1 9, by simp, hf0, hf, hfs, fun r h => h⟩)
  intro j fr H' hi
  obtain ⟨a, g, out, rfl, a0, a1, ha, hol, hg1, hg2, hga, hfo⟩ := (hI _ _ _).1 hi
  have u5 := ha.unl
  have hap : ∀ y, apQ H.length (fr 5) y = true := ha.ap (Nat.le_refl _)
  have hlen : ∀ a : Bs, ∀ H, dLenS prog 9 (str a) H = some (.v (.int .i64 (a.length : Nat))) := fun a H => len_str underlying9 a H
  have hmk : ∀ (a : Bs) (H : Hp), dBuildSlice prog 80 1 [(0, str a)] H false = some (.im [str a] 1 1, H) := fun a H => by
    simp [dBuildSlice, underlying80, fillC, zerosC, isU8, underlying9]
  have hmk := hmk
  obtain ⟨x2, H2, e1, e2⟩ := Acc.append (P := prog) (t := 80) (tx := 80) (y := .im [str a] 1 1) underlying80 iT9 zT9 (by simp) sT9 (by omega) ha (src_clo (n := 1) underlying80 (.inl rfl) rfl _) rfl (by simp; omega) (by omega)
  obtain ⟨y, f1, f2⟩ := e2.frzV (Nat.le_refl _) (by rw [← strS_snoc]; exact strS_clB _)
  rw [← strS_snoc] at f2
  have u2 := e2.unl
  have ht2 := e2.take
  by_cases h76 : 76 < a.length
  case neg =>
    simp -implicitDefEqProofs [a0, a1, hlen, h76, u5, hmk, hap, e1, u2, f1, ht2]
    exact ⟨out ++ [a], by simpa using f2, hfo _ (.stop (.inl (by omega))), by simp; omega⟩
  have hga' := hga h76
  obtain ⟨r, hr, h98⟩ := w98 H.length (a.take 77) 32 H' (by simp; omega)
  have c98 := h98.wc
  simp at c98
  have hsl := fun H => slice_str (P := prog) (t := 9) underlying9 a none (some (.v (.int .i64 77))) H
  have h77 : 77 ≤ a.length := by omega
  simp [h77] at hsl
  have hkey : ∀ k : Nat, k < a.length → PL a g (some k) → ∃ x2 H2, dAppend prog 80 80 (fr 5) (.im [str (a.take k)] 1 1) H' = some (x2, H2) ∧ unlit x2 = x2 ∧ ∀ fr', fr' 0 = str (a.drop k) → fr' 1 = .v (.int .i64 1) → fr' 5 = x2 → ∃ j', j' < a.length ∧ I j' fr' H2 := by
    intro k hk hp
    obtain ⟨x2, H2, e1, e2⟩ := Acc.append (P := prog) (t := 80) (tx := 80) (y := .im [str (a.take k)] 1 1) underlying80 iT9 zT9 (by simp) sT9 (by omega) ha (src_clo (n := 1) underlying80 (.inl rfl) rfl _) rfl (by simp; omega) (by omega)
    refine ⟨x2, H2, e1, e2.unl, fun fr' b0 b1 b5 => ⟨(a.drop k).length, ?_, (hI _ _ _).2 ⟨a.drop k, 1, out ++ [a.take k], rfl, b0, b1, ?_, ?_, Nat.le_refl _, by omega, ?_, ?_⟩⟩⟩
    · have := hp.1; simp; omega
    · rw [b5, strS_snoc, List.length_append]; simpa using e2
    · have := hp.1; simp; omega
    · intro h; omega
    · intro r hr; rw [List.append_assoc]; exact hfo _ (.step h76 hp hr)
  have hu := fun k : Nat => slice_str (P := prog) (t := 9) underlying9 a none (some (.v (.int .i64 (k : Nat))))
  have hd := fun k : Nat => slice_str (P := prog) (t := 9) underlying9 a (some (.v (.int .i64 (k : Nat)))) none
  rcases Classical.em (∃ k : Nat, r = k ∧ g ≤ k) with ⟨k, rfl, hgk⟩ | hno
  · have hp : k < a.length ∧ PL a g (some k) := by
      rcases hr with ⟨h, _⟩ | ⟨k', h, h2, h3⟩
      · omega
      · obtain rfl : k = k' := by omega
        have hk : k < 77 := by
          rcases Nat.lt_or_ge k 77 with h' | h'
          · exact h'
          · rw [List.getElem?_eq_none (by simp; omega)] at h2; cases h2
        rw [List.getElem?_take_of_lt hk] at h2
        refine ⟨by omega, hgk, by omega, h2, .inl ⟨by omega, fun j h4 h5 h6 hc => h3 ?_⟩⟩
        have : (a.take 77)[j]? = some 32 := by rw [List.getElem?_take_of_lt (by omega)]; exact hc
        refine List.mem_of_getElem? (i := j - (k + 1)) ?_
        rw [List.getElem?_drop, show k + 1 + (j - (k + 1)) = j by omega]; exact this
    obtain ⟨x2, H2, e1, u2, hfin⟩ := hkey k hp.1 hp.2
    have hng : ¬ ((k : Int) < (g : Int)) := by omega
    have hka : k ≤ a.length := by omega
    have hu := hu k; have hd := hd k
    simp [hka] at hu hd
    simp -implicitDefEqProofs [a0, a1, hlen, h76, u5, hmk, hap, hsl, c98, hng, hu, hd, e1, u2]
    refine hfin _ ?_ ?_ ?_ <;> simp
  · have hrg : r < (g : Int) := by
      rcases Int.lt_or_le r g with h | h
      · exact h
      · exact absurd ⟨r.toNat, by omega, by omega⟩ hno
    obtain ⟨M, hM⟩ : ∃ M, M = max g 77 := ⟨_, rfl⟩
    have hMa : M ≤ a.length := by omega
    have hmx : dMax mx [.v (.int .i64 (g : Nat)), .v (.int .i64 77)] = some (.v (.int .i64 (M : Nat))) := by
      simp [dMax, mx]; split <;> omega
    have hdM := hd M
    simp [hMa] at hdM
    have c80 := fun m H => (w80 m (a.drop M) 32 H).wc
    simp at c80
    have hbet : ∀ j : Nat, g ≤ j → j < M → a[j]? ≠ some 32 := by
      intro j h1 h2 hc
      have h77' : M = 77 := by omega
      have hj : (a.take 77)[j]? = some 32 := by rw [List.getElem?_take_of_lt (by omega)]; exact hc
      rcases hr with ⟨h, h3⟩ | ⟨k', h, h3, h4⟩
      · exact h3 (List.mem_of_getElem? hj)
      · refine h4 (List.mem_of_getElem? (i := j - (k' + 1)) ?_)
        rw [List.getElem?_drop, show k' + 1 + (j - (k' + 1)) = j by omega]; exact hj
    rcases idb_first (a.drop M) 32 with ⟨hq, hq2⟩ | ⟨q, hq, hq1, hq2, hq3⟩
    · have hpl : PL a g none := by
        intro j h1 h2
        rcases Nat.lt_or_ge j M with h3 | h3
        · exact hbet j h1 h3
        · have := hq2 (j - M)
          rwa [List.getElem?_drop, show M + (j - M) = j by omega] at this
      have hw : IntKind.i64.wrap ((-1 : Int) + (M : Int)) = (M : Int) - 1 := by rw [wrap64 (by omega)]; omega
      have hlt : (M : Int) - 1 < (M : Int) := by omega
      simp -implicitDefEqProofs [a0, a1, hlen, h76, u5, hmk, hap, hsl, c98, hrg, hmx, hdM, c80, hq, hw, hlt, e1, u2, f1, ht2]
      exact ⟨out ++ [a], by simpa using f2, hfo _ (.stop (.inr hpl)), by simp; omega⟩
    · rw [List.getElem?_drop] at hq2
      have hqa : M + q < a.length := by simp at hq1; omega
      have hp : PL a g (some (M + q)) := by
        refine ⟨by omega, hqa, hq2, .inr ⟨by omega, fun j h1 h2 => ?_⟩⟩
        rcases Nat.lt_or_ge j M with h3 | h3
        · exact hbet j h1 h3
        · have := hq3 (j - M) (by omega)
          rwa [List.getElem?_drop, show M + (j - M) = j by omega] at this
      obtain ⟨x2, H2, e1, u2, hfin⟩ := hkey _ hqa hp
      obtain ⟨k, hk⟩ : ∃ k, k = M + q := ⟨_, rfl⟩
      rw [← hk] at hqa hp e1 hfin
      have hw : IntKind.i64.wrap ((q : Int) + (M : Int)) = (k : Int) := wrN (by omega) (by omega)
      have hng : ¬ ((k : Int) < (M : Int)) := by omega
      have hka : k ≤ a.length := by omega
      have hu := hu k; have hd := hd k
      simp [hka] at hu hd
      simp -implicitDefEqProofs [a0, a1, hlen, h76, u5, hmk, hap, hsl, c98, hrg, hmx, hdM, c80, hq, hw, hng, hu, hd, e1, u2]
      refine hfin _ ?_ ?_ ?_ <;> simp
end Go.Proofs.Tryd

/- Walks: a header is written. -/
namespace Go.Proofs.Tryd
open Go Go.SL
set_option linter.unusedVariables false
set_option linter.unusedSimpArgs false

theorem FoldR.flat {s : Bs} {f : Nat} {out : List Bs} (h : FoldR s f out) : out.flatten = s := by
  induction h with
  | stop => simp
  | step h hp ho ih => rw [List.flatten_cons, ih, List.take_append_drop]

def lineF (f : Fld) : Bs := f.n ++ [58] ++ (if f.v = [] then [] else 32 :: f.v)
/-- All folded lines of fields. -/
inductive FoldsR : List Fld → List Bs → Prop
  | nil : FoldsR [] []
  | snoc {l : List Fld} {f : Fld} {o os : List Bs} (h : FoldsR l os) (hf : FoldR (lineF f) (f.n.length + 3) o) : FoldsR (l ++ [f]) (os ++ o)
def emit (l : List Bs) : Bs := (l.map (· ++ crlf)).flatten
theorem emit_nil : emit [] = [] := rfl
theorem emit_snoc (l : List Bs) (s : Bs) : emit (l ++ [s]) = emit l ++ s ++ crlf := by simp [emit]
theorem emit_app (l k : List Bs) : emit (l ++ k) = emit l ++ emit k := by simp [emit]
theorem emit_len (l : List Bs) : (emit l).length = l.flatten.length + 2 * l.length := by
  induction l with
  | nil => rfl
  | cons a l ih => simp [emit, crlf] at ih ⊢; omega
/-- What writing a header answers. -/
inductive WrR (l : List Fld) : Option Bs → Nat → Prop
  | long (h : 128 < l.length) : WrR l none 2
  | field (h : l.length ≤ 128) (f : Fld) (hf : f ∈ l) (hb : ¬ (isName f.n ∧ isVal f.v)) : WrR l none 50
  | line (h : l.length ≤ 128) (hb : ∀ f ∈ l, isName f.n ∧ isVal f.v) (os : List Bs) (ho : FoldsR l os) (s : Bs) (hs : s ∈ os) (h9 : 998 < s.length) : WrR l none 40
  | ok (h : l.length ≤ 128) (hb : ∀ f ∈ l, isName f.n ∧ isVal f.v) (os : List Bs) (ho : FoldsR l os) (h9 : ∀ s ∈ os, s.length ≤ 998) : WrR l (some (emit os ++ crlf)) 0
/-- Bytes that grow. -/
def GB (m : Nat) (H : Hp) (x : CV) (l : Bs) : Prop := Grow m H x (u8s l) l.length 1 5
theorem GB.nil (m : Nat) (H : Hp) : GB m H nilC [] := Grow.nil m H 1 5
theorem GB.add {m : Nat} {H : Hp} {x y : CV} {l l' : Bs} {tx : TypeId} (h : GB m H x l) (hm : m ≤ H.length) (hs : dSrc prog H tx 1 y = some (u8s l', l'.length)) (hb : l.length + l'.length ≤ 140737488355328) :
    ∃ x2 H2, dAppend prog 25 tx x y H = some (x2, H2) ∧ unlit x2 = x2 ∧ GB m H2 x2 (l ++ l') ∧ H2.take m = H.take m ∧ m ≤ H2.length := by
  obtain ⟨x2, H2, e1, e2, e3, e4, _⟩ := Grow.append (P := prog) (t := 25) (tx := tx) (y := y) underlying25 iT5 zT5 (by simp) sT5 (by omega) hm h hs (by simp) (by simp; omega) (by omega)
  refine ⟨x2, H2, e1, e2.unl, ?_, e3, by omega⟩
  unfold GB
  rw [u8s_append, List.length_append]; exact e2
theorem GB.addS {m : Nat} {H : Hp} {x : CV} {l l' : Bs} (h : GB m H x l) (hm : m ≤ H.length) (hb : l.length + l'.length ≤ 140737488355328) :
    ∃ x2 H2, dAppend prog 25 9 x (str l') H = some (x2, H2) ∧ unlit x2 = x2 ∧ GB m H2 x2 (l ++ l') ∧ H2.take m = H.take m ∧ m ≤ H2.length := h.add hm (src_str underlying9 l' H) hb
/-- What is answered, as a value in a heap. -/
def wrV (m : Nat) (H : Hp) (o : Option Bs) (x : CV) : Prop :=
  match o with
  | none => x = nilC
  | some b => GB m H x b
@[simp] theorem stQ_ss (m id ver off : Nat) (s t : Bs) : stQ m (.ptr id ver off) (.agg [str s, str t]) = true := by
  unfold stQ; simp only []; rw [show topLe 0 (.agg [str s, str t]) = true from rfl, Bool.or_true]
variable [LayerC]
theorem FoldR_ex (n : Nat) : ∀ (s : Bs) (f : Nat), s.length ≤ n → n ≤ 100000 → 1 ≤ f → f ≤ 100000 → ∃ out, FoldR s f out := by
  induction n with
  | zero => intro s f hn _ _ _; exact ⟨_, .stop (.inl (by omega))⟩
  | succ n ih =>
    intro s f hn hn2 hf hf2
    by_cases h : 76 < s.length
    · obtain ⟨r, hr⟩ := PL_ex s f
      cases r with
      | none => exact ⟨_, .stop (.inr hr)⟩
      | some k =>
        obtain ⟨out, ho⟩ := ih (s.drop k) 1 (by have := hr.1; simp; omega) (by omega) (by omega) (by omega)
        exact ⟨_, .step h hr ho⟩
    · exact ⟨_, .stop (.inl (by omega))⟩
theorem lineF_len {f : Fld} (h : isName f.n ∧ isVal f.v) : (lineF f).length ≤ 4162 ∧ f.n.length ≤ 64 := by
  have gn := h.1.2.1
  have gv := h.2.2.1
  unfold lineF; split <;> simp <;> omega
theorem FoldsR_ext : ∀ (k l : List Fld) (os : List Bs), (∀ f ∈ k, isName f.n ∧ isVal f.v) → FoldsR l os → ∃ os', FoldsR (l ++ k) (os ++ os')
  | [], l, os, _, h => ⟨[], by simpa using h⟩
  | f :: k, l, os, hk, h => by
    have hl := lineF_len (hk f (by simp))
    obtain ⟨out, ho⟩ := FoldR_ex _ (lineF f) (f.n.length + 3) (Nat.le_refl _) (by omega) (by omega) (by omega)
    obtain ⟨os', h'⟩ := FoldsR_ext k (l ++ [f]) (os ++ out) (fun g hg => hk g (by simp [hg])) (.snoc h ho)
    exact ⟨out ++ os', by simpa [List.append_assoc] using h'⟩
theorem w41 (m : Nat) (x : CV) (l : List Fld) (H : Hp) (hx : RS H x (l.map Fld.c) 2) (hl : l.length ≤ 100000) (hf : ∀ f ∈ l, f.v.length ≤ 4294967280) (hm : m ≤ H.length) :
    WC prog cs0 m (.f 23) [x] H fun y H' => ∃ o e z, WrR l o e ∧ y = .tup [z, .v (.int .i64 (e : Nat))] ∧ wrV H.length H' o z ∧ H'.take H.length = H := by
  rw [WC_raw rfl func23 rfl rfl]
  have ux := hx.unl
  have hln : ∀ L, dLenS prog 24 x (H ++ L) = some (.v (.int .i64 l.length)) := fun L => by rw [(hx.app L).len underlying24, List.length_map]
  have hln0 := hln []
  rw [List.append_nil] at hln0
  obtain ⟨K, hK⟩ : ∃ K : CV → Hp → Prop, ∀ y H', K y H' ↔ ∃ o e z, WrR l o e ∧ y = .tup [z, .v (.int .i64 (e : Nat))] ∧ wrV H.length H' o z ∧ H'.take H.length = H := ⟨_, fun _ _ => Iff.rfl⟩
  simp only [← hK]
  by_cases h128 : 128 < l.length
  · simp -implicitDefEqProofs [f23, ux, hln0, h128]
    exact (hK _ _).2 ⟨none, 2, _, .long h128, rfl, rfl, by simp⟩
  simp -implicitDefEqProofs [f23, ux, hln0, h128]
  obtain ⟨I, hI⟩ : ∃ I : Nat → Fr → Hp → Prop, ∀ i fr H', I i fr H' ↔ ((∃ L, H' = H ++ L) ∧ fr 0 = x ∧ fr 15 = x ∧ fr 16 = .v (.int .i64 l.length) ∧ fr 17 = .v (.int .i64 i) ∧ ∀ f ∈ l.take i, isName f.n ∧ isVal f.v) := ⟨_, fun _ _ _ => Iff.rfl⟩
  refine W_mono (W_up (Q := fun e fr H' => (e = .exit 0 ∧ I l.length fr H') ∨ (e = .ret ∧ K (.tup [unlit (fr 2), unlit (fr 3)]) H')) l.length I ?_ 0 _ _ (by omega) ((hI _ _ _).2 ⟨⟨[], by simp⟩, by simp, by simp, by simp, by simp, by simp⟩)) ?_
  · intro i fr H' hi hinv
    obtain ⟨⟨L, rfl⟩, a0, a15, a16, a17, hg⟩ := (hI _ _ _).1 hinv
    by_cases hlt : i < l.length
    case neg =>
      obtain rfl : i = l.length := by omega
      simp -implicitDefEqProofs [a16, a17]
      exact (hI _ _ _).2 ⟨⟨L, rfl⟩, by simp [a0], by simp [a15], by simp [a16], by simp [a17], hg⟩
    have hw := up64 hlt (by omega)
    have hlt2 : i < (l.map Fld.c).length := by simpa using hlt
    have hla : dLoad prog 31 (adrC x i) (H ++ L) = some (.agg [str l[i].n, str l[i].v]) := by rw [(hx.app L).loadAgg underlying31 rfl iT31 sT31 hlt2]; simp [Fld.c]
    have had : dIndexAddr prog 24 x (.v (.int .i64 i)) (H ++ L) = some (adrC x i) := by rw [(hx.app L).addr underlying24 iT31 sT31]; simp [hlt]
    have c72 := fun m H' => (w72 m l[i].n H').wc
    have c73 := fun m H' => (w73 m l[i].v H' (hf _ (List.getElem_mem hlt))).wc
    by_cases hn : isName l[i].n
    case neg =>
      simp -implicitDefEqProofs [a0, a15, a16, a17, hlt, had, hla, aQ, dAlloc, store_at iT31, cells_agg, faddr_ptr, underlying31, load_one underlying9 rfl iT9, c72, hn]
      exact (hK _ _).2 ⟨none, 50, _, .field (by omega) _ (List.getElem_mem hlt) (fun h => hn h.1), rfl, rfl, by simp⟩
    by_cases hv : isVal l[i].v
    case neg =>
      simp -implicitDefEqProofs [a0, a15, a16, a17, hlt, had, hla, aQ, dAlloc, store_at iT31, cells_agg, faddr_ptr, underlying31, load_one underlying9 rfl iT9, c72, hn, c73, hv]
      exact (hK _ _).2 ⟨none, 50, _, .field (by omega) _ (List.getElem_mem hlt) (fun h => hv h.2), rfl, rfl, by simp⟩
    simp -implicitDefEqProofs [a0, a15, a16, a17, hlt, had, hla, aQ, dAlloc, store_at iT31, cells_agg, faddr_ptr, underlying31, load_one underlying9 rfl iT9, c72, hn, c73, hv, hw]
    exact (hI _ _ _).2 ⟨⟨_, rfl⟩, by simp [a0], by simp [a15], by simp [a16], by simp, take_all hg hlt ⟨hn, hv⟩⟩
  · rintro e fr H' (⟨rfl, hi⟩ | ⟨rfl, hr⟩)
    case inr => simpa -implicitDefEqProofs using hr
    obtain ⟨⟨L, rfl⟩, a0, -, -, -, hg⟩ := (hI _ _ _).1 hi
    rw [List.take_length] at hg
    simp -implicitDefEqProofs [a0, ux, hln]
    obtain ⟨J, hJ⟩ : ∃ J : Nat → Fr → Hp → Prop, ∀ i fr H', J i fr H' ↔ (H'.take H.length = H ∧ fr 32 = x ∧ fr 33 = .v (.int .i64 l.length) ∧ fr 34 = .v (.int .i64 i) ∧ ∃ os, FoldsR (l.take i) os ∧ (∀ s ∈ os, s.length ≤ 998) ∧ GB H.length H' (fr 6) (emit os) ∧ (emit os).length ≤ i * 13000) := ⟨_, fun _ _ _ => Iff.rfl⟩
    refine W_mono (W_up (Q := fun e fr H' => (e = .exit 2 ∧ J l.length fr H') ∨ (e = .ret ∧ K (.tup [unlit (fr 2), unlit (fr 3)]) H')) l.length J ?_ 0 _ _ (by omega) ((hJ _ _ _).2 ⟨by simp, by simp, by simp, by simp, [], .nil, by simp, by simp; exact GB.nil _ _, by simp [emit]⟩)) ?_
    · intro i fr H' hi hinv
      obtain ⟨hH, a32, a33, a34, os, ho, hs, hgb, hle⟩ := (hJ _ _ _).1 hinv
      by_cases hlt : i < l.length
      case neg =>
        obtain rfl : i = l.length := by omega
        simp -implicitDefEqProofs [a33, a34]
        exact (hJ _ _ _).2 ⟨hH, by simp [a32], by simp [a33], by simp [a34], os, ho, hs, by simpa using hgb, hle⟩
      obtain ⟨L', rfl⟩ : ∃ L', H' = H ++ L' := ⟨_, split_at hH⟩
      have hw := up64 hlt (by omega)
      have hlt2 : i < (l.map Fld.c).length := by simpa using hlt
      have hla : dLoad prog 31 (adrC x i) (H ++ L') = some (.agg [str l[i].n, str l[i].v]) := by rw [(hx.app L').loadAgg underlying31 rfl iT31 sT31 hlt2]; simp [Fld.c]
      have had : dIndexAddr prog 24 x (.v (.int .i64 i)) (H ++ L') = some (adrC x i) := by rw [(hx.app L').addr underlying24 iT31 sT31]; simp [hlt]
      obtain ⟨g1, g2⟩ := hg _ (List.getElem_mem hlt)
      have gn := g1.2.1
      have gv := g2.2.1
      have u6 : unlit (fr 6) = fr 6 := Grow.unl hgb
      have hln3 : (lineF l[i]).length ≤ 4162 ∧ (76 < (lineF l[i]).length → l[i].n.length + 3 ≤ (lineF l[i]).length) := by
        unfold lineF; split <;> simp <;> omega
      obtain ⟨k, hk⟩ : ∃ k, k = l[i].n.length + 3 := ⟨_, rfl⟩
      obtain ⟨q, out, hq, hfold, hol, w74'⟩ := w74 m (lineF l[i]) k (H ++ (L' ++ [CO.cells 0 [str l[i].n, str l[i].v] 31])) (by omega) (by omega) (by omega) (by rw [hk]; exact hln3.2)
      have c74 := w74'.wc
      have hfl := hfold.flat
      have hq3 : ∀ H, dLenS prog 80 q H = some (.v (.int .i64 out.length)) := fun H => by rw [(hq.strs H).len underlying80, List.length_map]
      have uq := hq.unl
      have hwl : IntKind.i64.wrap ((l[i].n.length : Int) + 3) = (k : Int) := wrN (by omega) (by omega)
      have hlen : ∀ a : Bs, ∀ H, dLenS prog 9 (str a) H = some (.v (.int .i64 (a.length : Nat))) := fun a H => len_str underlying9 a H
      have hla1 : l[i].n.length + 1 ≤ 9223372036854775807 := by omega
      have h58 : str [58] = CV.v (.string ⟨#[58]⟩) := rfl
      obtain ⟨N, hN⟩ : ∃ N : Nat → Fr → Hp → Prop, ∀ j fr H', N j fr H' ↔ (H'.take H.length = H ∧ fr 32 = x ∧ fr 33 = .v (.int .i64 l.length) ∧ fr 34 = .v (.int .i64 i) ∧ fr 54 = q ∧ fr 55 = .v (.int .i64 out.length) ∧ fr 56 = .v (.int .i64 j) ∧ (∀ s ∈ out.take j, s.length ≤ 998) ∧ GB H.length H' (fr 6) (emit (os ++ out.take j))) := ⟨_, fun _ _ _ => Iff.rfl⟩
      have hcase : (decide (l[i].v = []) = true ∧ lineF l[i] = l[i].n ++ [58]) ∨ (decide (l[i].v = []) = false ∧ lineF l[i] = l[i].n ++ 58 :: 32 :: l[i].v) := by
        by_cases hv0 : l[i].v = []
        · exact .inl ⟨by simpa using hv0, by simp [lineF, hv0]⟩
        · exact .inr ⟨by simpa using hv0, by simp [lineF, hv0]⟩
      have hb2 : 1 + l[i].v.length ≤ 9223372036854775807 := by omega
      have hb3 : l[i].n.length + 1 + (1 + l[i].v.length) ≤ 9223372036854775807 := by omega
      have hb4 : l[i].v.length + 1 ≤ 9223372036854775807 := by omega
      have hb5 : l[i].n.length + 1 + (l[i].v.length + 1) ≤ 9223372036854775807 := by omega
      have hg6 : GB H.length (H ++ (L' ++ [CO.cells 0 [str l[i].n, str l[i].v] 31])) (fr 6) (emit os) := by rw [← List.append_assoc]; exact Grow.app _ hgb
      have hfs : FoldsR (l.take (i + 1)) (os ++ out) := by rw [take_snoc hlt]; refine .snoc ho ?_; rw [← hk]; exact hfold
      have hlem : (emit (os ++ out)).length ≤ (i + 1) * 13000 := by
        rw [emit_app, List.length_append, emit_len out, hfl]
        omega
      rcases hcase with ⟨hvt, hl0⟩ | ⟨hvt, hl0⟩
      all_goals simp -implicitDefEqProofs [a32, a33, a34, hlt, had, hla, aQ, dAlloc, store_at iT31, cells_agg, faddr_ptr, underlying31, load_one underlying9 rfl iT9, hlen, hla1, hb2, hb3, hb4, hb5, hwl, c74, hvt, ← hl0, hq3, uq]
      all_goals
        refine W_mono (W_up (Q := fun e fr H' => (e = .exit 4 ∧ N out.length fr H') ∨ (e = .ret ∧ K (.tup [unlit (fr 2), unlit (fr 3)]) H')) out.length N ?_ 0 _ _ (by omega) ((hN _ _ _).2 ⟨by simp, by simp [a32], by simp [a33], by simp [a34], by simp, by simp, by simp, by simp, by simpa [GB] using hg6⟩)) ?_
        · intro j fr' H2 hj hn
          obtain ⟨b0, b32, b33, b34, b54, b55, b56, b9, b6⟩ := (hN _ _ _).1 hn
          have u6' : unlit (fr' 6) = fr' 6 := Grow.unl b6
          by_cases hjl : j < out.length
          case neg =>
            obtain rfl : j = out.length := by omega
            simp -implicitDefEqProofs [b55, b56]
            exact (hN _ _ _).2 ⟨b0, by simp [b32], by simp [b33], by simp [b34], by simp [b54], by simp [b55], by simp [b56], b9, by simpa using b6⟩
          have hj2 : j < (out.map fun s => [str s]).length := by simpa using hjl
          have hal := fun H => (hq.strs H).addr (P := prog) underlying80 iT9 sT9 .i64 j
          have hl1 := fun H => (hq.strs H).load1 (P := prog) underlying9 rfl iT9 hj2
          simp [hjl] at hal hl1
          have hwj := up64 hjl (by omega)
          by_cases h9 : 998 < out[j].length
          · simp -implicitDefEqProofs [b54, b55, b56, uq, hjl, hal, hl1, hlen, h9]
            obtain ⟨os', ho'⟩ := FoldsR_ext (l.drop (i + 1)) (l.take (i + 1)) (os ++ out) (fun f hf => hg f (List.mem_of_mem_drop hf)) hfs
            rw [List.take_append_drop] at ho'
            exact (hK _ _).2 ⟨none, 40, _, .line (by omega) hg _ ho' out[j] (by simp) h9, rfl, rfl, b0⟩
          · have hap : ∀ y, apQ m (fr' 6) y = true := Grow.ap b6 hm
            have hH2 : H.length ≤ H2.length := by have := congrArg List.length b0; simp at this; omega
            have hsz : (emit (os ++ out.take j)).length + 1000 ≤ 100000000000 := by
              have h1 : (emit (out.take j)).length ≤ (emit out).length := by
                conv => rhs; rw [← List.take_append_drop j out, emit_app, List.length_append]
                omega
              rw [emit_app, List.length_append, emit_len out, hfl] at hlem
              rw [emit_app, List.length_append]
              rw [emit_len out, hfl] at h1
              omega
            obtain ⟨x2, H3, e1, u2, e2, e3, e4⟩ := b6.addS (l' := out[j]) hH2 (by omega)
            obtain ⟨x3, H4, f1, u3, f2, f3, f4⟩ := e2.addS (l' := crlf) e4 (by simp [crlf]; omega)
            have hap2 : ∀ y, apQ m x2 y = true := Grow.ap e2 hm
            have hcr : str [13, 10] = str crlf := rfl
            simp -implicitDefEqProofs [b54, b55, b56, uq, hjl, hal, hl1, hlen, h9, u6', hap, e1, u2, hap2, hcr, f1, u3, hwj]
            refine (hN _ _ _).2 ⟨by rw [f3, e3]; exact b0, by simp [b32], by simp [b33], by simp [b34], by simp [b54], by simp [b55], by simp, take_all b9 hjl (by omega), ?_⟩
            rw [take_snoc hjl, ← List.append_assoc, emit_snoc]; simpa using f2
        · rintro e fr' H2 (⟨rfl, hn⟩ | ⟨rfl, hr⟩)
          case inr => simpa -implicitDefEqProofs using hr
          obtain ⟨b0, b32, b33, b34, b54, b55, b56, b9, b6⟩ := (hN _ _ _).1 hn
          rw [List.take_length] at b9 b6
          simp -implicitDefEqProofs [b34, hw]
          refine (hJ _ _ _).2 ⟨b0, by simp [b32], by simp [b33], by simp, os ++ out, hfs, ?_, by simpa using b6, hlem⟩
          intro s hs'
          rcases List.mem_append.1 hs' with h | h
          · exact hs s h
          · exact b9 s h
    · rintro e fr H' (⟨rfl, hi⟩ | ⟨rfl, hr⟩)
      case inr => simpa -implicitDefEqProofs using hr
      obtain ⟨hH, -, -, -, os, ho, hs, hgb, hle⟩ := (hJ _ _ _).1 hi
      rw [List.take_length] at ho
      obtain ⟨x2, H2, e1, u2, e2, e3, e4⟩ := hgb.addS (l' := crlf) (by have := congrArg List.length hH; simp at this; omega) (by simp [crlf]; omega)
      have u6 : unlit (fr 6) = fr 6 := Grow.unl hgb
      have hap : ∀ y, apQ m (fr 6) y = true := Grow.ap hgb hm
      have hcr : str [13, 10] = str crlf := rfl
      simp -implicitDefEqProofs [u6, hcr, e1, u2, hap]
      exact (hK _ _).2 ⟨some (emit os ++ crlf), 0, _, .ok (by omega) hg os ho hs, rfl, e2, by rw [e3]; exact hH⟩
end Go.Proofs.Tryd

/- Walks: the reference writes a header. -/
namespace Go.Proofs.Tryd
open Go Go.SL
set_option linter.unusedVariables false
set_option linter.unusedSimpArgs false

def lng (os : List Bs) : Bool := os.any fun s => decide (998 < s.length)
theorem lng_snoc (os : List Bs) (s : Bs) : lng (os ++ [s]) = (lng os || decide (998 < s.length)) := by simp [lng]
theorem lng_true {os : List Bs} (h : lng os = true) : ∃ s ∈ os, 998 < s.length := by simpa [lng] using h
theorem lng_false {os : List Bs} (h : lng os = false) : ∀ s ∈ os, s.length ≤ 998 := by simpa [lng] using h
def crC : CV := .lit [.v (.int .u8 13), .v (.int .u8 10)] 2 1
theorem mkCr (H : Hp) : dBuildSlice prog 25 2 [(0, .v (.int .u8 13)), (1, .v (.int .u8 10))] H false = some (crC, H) := mkB2 underlying25 underlying5 iT5 zT5 sT5 13 10 H
theorem GB.addCr {m : Nat} {H : Hp} {x : CV} {l : Bs} (h : GB m H x l) (hm : m ≤ H.length) (hb : l.length + 2 ≤ 140737488355328) :
    ∃ x2 H2, dAppend prog 25 25 x crC H = some (x2, H2) ∧ unlit x2 = x2 ∧ GB m H2 x2 (l ++ crlf) ∧ H2.take m = H.take m ∧ m ≤ H2.length :=
  h.add hm (l' := crlf) (src_lit underlying25 rfl H) (by simpa [crlf] using hb)
variable [LayerC]
end Go.Proofs.Tryd

/- Walks: a text's parts; a field is shut. -/
namespace Go.Proofs.Tryd
open Go Go.SL
set_option linter.unusedVariables false
set_option linter.unusedSimpArgs false

/-- The text ahead of a byte. -/
def headT (s : Bs) (c : UInt8) : Bs := s.takeWhile (· != c)
theorem headT_at {s : Bs} {c : UInt8} {i : Nat} (h : ∀ d ∈ s.take i, d ≠ c) (hc : i = s.length ∨ s[i]? = some c) : headT s c = s.take i := by
  unfold headT
  rcases hc with rfl | hc
  · rw [List.take_length] at h ⊢
    have := List.takeWhile_append_of_pos (l₁ := s) (l₂ := []) (p := (· != c)) (fun d hd => by simpa using h d hd)
    simpa using this
  · have hi : i < s.length := (List.getElem?_eq_some_iff.1 hc).1
    have hs : s[i] = c := (List.getElem?_eq_some_iff.1 hc).2
    conv => lhs; rw [← List.take_append_drop i s, List.drop_eq_getElem_cons hi, hs]
    rw [List.takeWhile_append_of_pos (fun d hd => by simpa using h d hd)]
    simp
variable [LayerC]
/-- A field that is open. -/
structure Opn where
  a : Nat
  n : Bs
  x : Bs
def shutG (l : List Fld) : Option Opn → Option (List Fld)
  | none => some l
  | some o => if isVal (trim o.x) ∧ l.length < 128 then some (l ++ [⟨o.n, trim o.x⟩]) else none
def opnC : Option Opn → List CV
  | none => [.v (.int .i64 (-1)), str [], str []]
  | some o => [.v (.int .i64 (o.a : Nat)), str o.n, str o.x]
def fldS (l : List Fld) : List CV := (l.map Fld.c).flatten
theorem fldS_snoc (l : List Fld) (f : Fld) : fldS (l ++ [f]) = fldS l ++ f.c := by simp [fldS]
theorem fldS_clB (l : List Fld) : (fldS l).all clB = true := by
  induction l with
  | nil => rfl
  | cons a l ih => simp only [fldS, List.map_cons, List.flatten_cons, List.all_append] at ih ⊢; rw [ih]; rfl
/-- A list of fields that grows. -/
def GF (m : Nat) (H : Hp) (x : CV) (l : List Fld) : Prop := Grow m H x (fldS l) l.length 2 31
theorem mkF1 (a b : Bs) (H : Hp) : dBuildSlice prog 24 1 [(0, .agg [str a, str b])] H false = some (.im [str a, str b] 1 2, H) :=
  mkA1 (cs := [str a, str b]) underlying24 (by simp [isU8, underlying31]) iT31 zT31 rfl sT31 (by omega) (by omega) rfl (by simp) (by simp) H
theorem GF.add {m : Nat} {H : Hp} {x : CV} {l : List Fld} {f : Fld} (h : GF m H x l) (hm : m ≤ H.length) (hb : l.length ≤ 100000) :
    ∃ x2 H2, dAppend prog 24 24 x (.im [str f.n, str f.v] 1 2) H = some (x2, H2) ∧ unlit x2 = x2 ∧ GF m H2 x2 (l ++ [f]) ∧ H2.take m = H.take m ∧ m ≤ H2.length := by
  obtain ⟨x2, H2, e1, e2, e3, e4, _⟩ := Grow.append (P := prog) (t := 24) (tx := 24) (y := .im [str f.n, str f.v] 1 2) underlying24 iT31 zT31 rfl sT31 (by omega) hm h (src_clo (n := 1) underlying24 (.inl rfl) rfl _) rfl (by simp; omega) (by omega)
  refine ⟨x2, H2, e1, e2.unl, ?_, e3, by omega⟩
  unfold GF
  rw [fldS_snoc, List.length_append]; exact e2
theorem trim_le (s : Bs) : (trim s).length ≤ s.length := by
  have h : ∀ s : Bs, (trimL s).length ≤ s.length := fun s => (trimL_sfx s).length_le
  unfold trim
  have h1 := h s; have h2 := h (trimL s).reverse
  simp at h2 ⊢; omega
theorem opn_one (o : Option Opn) : (opnC o).all oneB = true := by cases o <;> rfl
end Go.Proofs.Tryd

/- Walks: the reference reads a header. -/
namespace Go.Proofs.Tryd
open Go Go.SL
set_option linter.unusedVariables false
set_option linter.unusedSimpArgs false

/-- What reading a header answers. -/
inductive PR
  | ok (l : List Fld) (n : Nat)
  | bad (a c : Nat)
def hdrG (n : Nat) : List Ln → List Fld → Option Opn → PR
  | [], _, _ => .bad n 42
  | x :: xs, l, o =>
    if x.w = false then .bad x.a 42 else
    if 998 < x.s.length then .bad x.a 40 else
    if (x.s.head?.map blankC) = some true then
      match o with
      | none => .bad x.a 50
      | some o => hdrG n xs l (some ⟨o.a, o.n, o.x ++ x.s⟩)
    else
      match shutG l o with
      | none => .bad (match o with | none => 0 | some o => o.a) 50
      | some l' =>
        if x.s = [] then .ok l' (x.a + 2) else
        if (headT x.s 58).length = x.s.length ∨ ¬ isName (headT x.s 58) then .bad x.a 50 else
          hdrG n xs l' (some ⟨x.a, headT x.s 58, x.s.drop ((headT x.s 58).length + 1)⟩)
theorem hdrG_nil (n : Nat) (l : List Fld) (o : Option Opn) : hdrG n [] l o = .bad n 42 := by rw [hdrG.eq_def]
section
variable {n : Nat} {x : Ln} {xs : List Ln} {l : List Fld} {o : Option Opn}
theorem hdrG_short (h : x.w = false) : hdrG n (x :: xs) l o = .bad x.a 42 := by rw [hdrG.eq_def]; simp [h]
theorem hdrG_long (h : x.w = true) (h2 : 998 < x.s.length) : hdrG n (x :: xs) l o = .bad x.a 40 := by rw [hdrG.eq_def]; simp [h, h2]
theorem hdrG_b0 (h : x.w = true) (h2 : ¬ 998 < x.s.length) (h3 : (x.s.head?.map blankC) = some true) : hdrG n (x :: xs) l none = .bad x.a 50 := by rw [hdrG.eq_def]; simp only [h, h2, h3, if_true, if_false]; rfl
theorem hdrG_b1 {o : Opn} (h : x.w = true) (h2 : ¬ 998 < x.s.length) (h3 : (x.s.head?.map blankC) = some true) : hdrG n (x :: xs) l (some o) = hdrG n xs l (some ⟨o.a, o.n, o.x ++ x.s⟩) := by
  conv => lhs; rw [hdrG.eq_def]
  simp only [h, h2, h3, if_true, if_false]; rfl
theorem hdrG_sh {o : Opn} (h : x.w = true) (h2 : ¬ 998 < x.s.length) (h3 : ¬ (x.s.head?.map blankC) = some true) (h4 : shutG l (some o) = none) : hdrG n (x :: xs) l (some o) = .bad o.a 50 := by
  conv => lhs; rw [hdrG.eq_def]
  simp only [h, h2, h3, h4, if_false]; rfl
theorem hdrG_end {l' : List Fld} (h : x.w = true) (h3 : x.s = []) (h4 : shutG l o = some l') : hdrG n (x :: xs) l o = .ok l' (x.a + 2) := by
  conv => lhs; rw [hdrG.eq_def]
  simp [h, h3, h4]
theorem hdrG_bad {l' : List Fld} (h : x.w = true) (h2 : ¬ 998 < x.s.length) (h3 : ¬ (x.s.head?.map blankC) = some true) (h4 : shutG l o = some l') (h5 : x.s ≠ []) (h6 : (headT x.s 58).length = x.s.length ∨ ¬ isName (headT x.s 58)) : hdrG n (x :: xs) l o = .bad x.a 50 := by
  conv => lhs; rw [hdrG.eq_def]
  simp only [h, h2, h3, h4, h5, h6, if_false]; rfl
theorem hdrG_open {l' : List Fld} (h : x.w = true) (h2 : ¬ 998 < x.s.length) (h3 : ¬ (x.s.head?.map blankC) = some true) (h4 : shutG l o = some l') (h5 : x.s ≠ []) (h6 : ¬ ((headT x.s 58).length = x.s.length ∨ ¬ isName (headT x.s 58))) : hdrG n (x :: xs) l o = hdrG n xs l' (some ⟨x.a, headT x.s 58, x.s.drop ((headT x.s 58).length + 1)⟩) := by
  conv => lhs; rw [hdrG.eq_def]
  simp only [h, h2, h3, h4, h5, h6, if_false]; rfl
end
theorem lnS_last_only (a : Nat) (l : Bs) : ∀ (j : Nat) (h : j < (lnS a l).length), (lnS a l)[j].w = false → j + 1 = (lnS a l).length := by
  have key : ∀ n (l : Bs) a, l.length ≤ n → ∀ (j : Nat) (h : j < (lnS a l).length), (lnS a l)[j].w = false → j + 1 = (lnS a l).length := by
    intro n
    induction n with
    | zero =>
      intro l a hn j h
      obtain rfl := List.eq_nil_of_length_eq_zero (by omega : l.length = 0)
      rw [lnS_nil] at h; simp at h
    | succ n ih =>
      intro l a hn j h hw
      by_cases hl : l = []
      · subst hl; rw [lnS_nil] at h; simp at h
      · by_cases hc : crIdx l < 0
        · simp only [lnS_last hl hc, List.length_singleton] at h ⊢; omega
        · have hp := lineN_pos hl
          have e := lnS_whole (a := a) (r := l) (by omega)
          simp only [e] at hw h ⊢
          cases j with
          | zero => simp at hw
          | succ j =>
            simp at h hw
            have := ih (l.drop (lineN l)) (a + lineN l) (by simp; omega) j h hw
            simp; omega
  exact key _ l a (Nat.le_refl _)
def zF : List CV := [.v (.int .i64 0), .v (.int .i64 0)]
def hdrR (r : PR) (y : CV) : Prop :=
  match r with
  | .bad a c => y = .tup [nilC, .v (.int .i64 0), .agg [.v (.int .i64 (a : Nat)), .v (.int .i64 (c : Nat))]]
  | .ok l n => ∃ q, Cls q (fldS l) l.length 2 ∧ y = .tup [q, .v (.int .i64 (n : Nat)), .agg zF]
@[simp] theorem stQ_str (m id ver off : Nat) (s : Bs) : stQ m (.ptr id ver off) (str s) = true := by
  unfold stQ; simp only []; rw [show topLe 0 (str s) = true from rfl, Bool.or_true]
theorem GF.pre2 {H L : Hp} {a b a' b' : CO} {x : CV} {l : List Fld} (h : GF (H.length + 2) (H ++ a :: b :: L) x l) : GF (H.length + 2) (H ++ a' :: b' :: L) x l := by
  have := Grow.pre (A := H ++ [a, b]) (A' := H ++ [a', b']) (L := L) (by simpa [GF] using h) (by simp) (by simp)
  simpa [GF] using this
theorem headT_len (s : Bs) (c : UInt8) : (headT s c).length ≤ s.length := (List.takeWhile_sublist _).length_le
variable [LayerC]
end Go.Proofs.Tryd

/- Walks: lines of a header, yielded. -/
namespace Go.Proofs.Tryd
open Go Go.SL
set_option linter.unusedVariables false
set_option linter.unusedSimpArgs false
variable [LayerC]
theorem w59 (m : Nat) (x : CV) (H : Hp) (hx : oneB x = true) (hu : unlit x = x) (hc : cvCells x = some [x]) : Ret prog cs0 m 38 [x] H (.fn (.func 60) [] [.ptr H.length 0 0]) (H ++ [.cells 0 [x] 25]) := by
  unfold Ret
  rw [WC_raw rfl func38 rfl rfl]
  simp -implicitDefEqProofs [f38, hu, hc]

/-- The lines, yielded one by one; behind the last pair the place, with none. -/
theorem w89 (m id ver bx : Nat) (x : CV) (l : Bs) (J : Nat → Hp → Prop) (D : Hp → Prop) (hl : l.length ≤ 4294967280)
    (hbox : ∀ p H, J p H → cellsAt H bx 0 = some [x] ∧ RB H x l)
    (hround : ∀ p H y, J p H → p ≤ l.length → 0 ≤ crIdx (l.drop p) → RB H y ((l.drop p).take (lineN (l.drop p))) → y ≠ nilC → WC prog cs0 m (.y id ver) [.v (.int .i64 p), y] H fun r H' => (r = .v (.bool true) ∧ J (p + lineN (l.drop p)) H') ∨ (r = .v (.bool false) ∧ D H'))
    (hlast : ∀ p H, J p H → p ≤ l.length → crIdx (l.drop p) < 0 → WC prog cs0 m (.y id ver) [.v (.int .i64 p), nilC] H fun r H' => D H')
    (H : Hp) (h0 : J 0 H) : WC prog cs0 m (.f 60) [.yl id ver, .ptr bx 0 0] H fun _ H' => D H' := by
  rw [WC_raw rfl func60 rfl rfl]
  simp -implicitDefEqProofs [f60]
  obtain ⟨I, hI⟩ : ∃ I : Nat → Fr → Hp → Prop, ∀ j fr H', I j fr H' ↔ ∃ p, j = l.length - p ∧ p ≤ l.length ∧ fr 0 = .yl id ver ∧ fr 1 = .ptr bx 0 0 ∧ fr 3 = .v (.int .i64 (p : Nat)) ∧ J p H' := ⟨_, fun _ _ _ => Iff.rfl⟩
  refine W_rounds I ?_ _ _ _ ((hI _ _ _).2 ⟨0, rfl, by omega, by simp, by simp, by simp, h0⟩)
  intro j fr H' hi
  obtain ⟨p, rfl, hp, a0, a1, a3, hJ⟩ := (hI _ _ _).1 hi
  obtain ⟨hb, hrb⟩ := hbox p H' hJ
  have hu := hrb.unl
  have hcut := hrb.cut hp (Nat.le_refl _)
  rw [List.take_length] at hcut
  have huc := hcut.unl
  have hsl := hrb.slice (P := prog) underlying25 iT5 sT5
  have c90 : ∀ m K, WC prog cs0 m (.f 32) [cutC x p l.length, .im [.v (.int .u8 13), .v (.int .u8 10)] 2 1] H' K ↔ K (.v (.int .i64 (crIdx (l.drop p)))) H' := fun m => (w90 m _ _ H' hcut (by simp; omega)).wc
  by_cases hc : crIdx (l.drop p) < 0
  · have hr := hlast p H' hJ hp hc
    simp -implicitDefEqProofs [a0, a1, a3, load_one underlying25 rfl iT25, hb, hsl, hp, huc, mkB2 underlying25 underlying5 iT5 zT5 sT5, cvt_l2 underlying25 underlying5, c90, hc]
    exact WC_mono hr fun r H'' h => h
  · have hroom := crIdx_room (l.drop p) (by omega)
    rw [List.length_drop] at hroom
    obtain ⟨n, hn⟩ : ∃ n, n = lineN (l.drop p) := ⟨_, rfl⟩
    have hn0 : crIdx (l.drop p) = ((n - 2 : Nat) : Int) := by
      have : n = (crIdx (l.drop p)).toNat + 2 := by rw [hn]; unfold lineN; rw [if_neg hc]
      omega
    have hn2' : 2 ≤ n := by rw [hn]; unfold lineN; rw [if_neg hc]; omega
    obtain ⟨k, hk⟩ : ∃ k, k = p + n := ⟨_, rfl⟩
    have hkl : k ≤ l.length := by omega
    have hline := hrb.cut (o := p) (h := k) (by omega) (by omega)
    have huL := hline.unl
    have hle : (l.take k).drop p = (l.drop p).take n := by rw [List.drop_take, show k - p = n by omega]
    rw [hle] at hline
    have hnn : cutC x p k ≠ nilC := by
      intro h
      rw [h] at hline
      rcases hline with h1 | ⟨h1, _⟩ | ⟨_, _, _, _, h1, _⟩
      · cases h1
      · have := congrArg List.length h1; simp at this; omega
      · cases h1
    have hr := hround p H' _ hJ hp (by omega) (by rw [← hn]; exact hline) hnn
    rw [← hn] at hr
    obtain ⟨q, hq⟩ : ∃ q, q = n - 2 := ⟨_, rfl⟩
    rw [← hq] at hn0
    obtain ⟨w, hw⟩ : ∃ w, w = p + q := ⟨_, rfl⟩
    have hw1 : IntKind.i64.wrap ((p : Int) + (q : Int)) = (w : Int) := wrN (by omega) (by omega)
    have hw2 : IntKind.i64.wrap ((w : Int) + 2) = (k : Int) := wrN (by omega) (by omega)
    have hw3 : IntKind.i64.wrap ((q : Int) + 2) = (n : Int) := wrN (by omega) (by omega)
    have hw4 : IntKind.i64.wrap ((p : Int) + (n : Int)) = (k : Int) := wrN (by omega) (by omega)
    have hpk : p ≤ k := by omega
    simp -implicitDefEqProofs [a0, a1, a3, load_one underlying25 rfl iT25, hb, hsl, hp, huc, mkB2 underlying25 underlying5 iT5 zT5 sT5, cvt_l2 underlying25 underlying5, c90, hn0, hw1, hw2, hw3, hw4, hpk, hkl, huL]
    refine WC_mono hr ?_
    rintro r H'' (⟨rfl, hJ'⟩ | ⟨rfl, hD⟩)
    · simp -implicitDefEqProofs
      exact ⟨l.length - k, by omega, (hI _ _ _).2 ⟨k, rfl, hkl, by simp [a0], by simp [a1], by simp, by rw [hk]; exact hJ'⟩⟩
    · simp -implicitDefEqProofs
      exact hD
end Go.Proofs.Tryd

/- Walks: the field that is read is shut. -/
namespace Go.Proofs.Tryd
open Go Go.SL
set_option linter.unusedVariables false
set_option linter.unusedSimpArgs false

/-- A reader's cells. -/
def rdC (x : CV) (n v : Bs) (a : Nat) (op : Bool) : CO := .cells 0 [x, str n, str v, .v (.int .i64 (a : Nat)), .v (.bool op)] 86
def opO (n v : Bs) (a : Nat) (op : Bool) : Option Opn := if op = true then some ⟨a, n, v⟩ else none
theorem split_get {L : Hp} {n : Nat} {o : CO} (h : L[n]? = some o) : ∃ La Lb, L = La ++ o :: Lb ∧ La.length = n := by
  have hn : n < L.length := (List.getElem?_eq_some_iff.1 h).1
  have ho : L[n] = o := (List.getElem?_eq_some_iff.1 h).2
  exact ⟨L.take n, L.drop (n + 1), by rw [← ho, ← List.drop_eq_getElem_cons hn, List.take_append_drop], by simp; omega⟩
theorem Grow.of_obj {m : Nat} {H H' : Hp} {x : CV} {cs : List CV} {n sz : Nat} {e : TypeId} (h : Grow m H x cs n sz e) (hk : ∀ i v c, m ≤ i → H[i]? = some (.cells v c e) → H'[i]? = H[i]?) : Grow m H' x cs n sz e := by
  rcases h with h | ⟨hl, id, ver, hm, rfl, hc⟩
  · exact .inl h
  · exact .inr ⟨hl, id, ver, hm, rfl, by rw [hk _ _ _ hm hc]; exact hc⟩
theorem GF.swap {A La Lb : Hp} {c c' o : CO} {v : Nat} {cs : List CV} {k : Nat} {x : CV} {l : List Fld} (h : GF k (A ++ c :: (La ++ CO.cells v cs 67 :: Lb)) x l) (hk : A.length < k) : GF k (A ++ c' :: (La ++ o :: Lb)) x l := by
  refine Grow.of_obj h fun i v' c'' hi hg => ?_
  obtain ⟨t, rfl⟩ : ∃ t, i = A.length + (t + 1) := ⟨i - A.length - 1, by omega⟩
  rw [get_own, List.getElem?_cons_succ] at hg
  rw [get_own, get_own, List.getElem?_cons_succ, List.getElem?_cons_succ]
  rcases Nat.lt_trichotomy t La.length with h1 | h1 | h1
  · rw [get_old h1, get_old h1]
  · subst h1; rw [get_own0] at hg; simp at hg
  · obtain ⟨s, rfl⟩ : ∃ s, t = La.length + (s + 1) := ⟨t - La.length - 1, by omega⟩
    rw [get_own, get_own, List.getElem?_cons_succ, List.getElem?_cons_succ]
theorem GF.head {A L M : Hp} {c c' : CO} {k : Nat} {x : CV} {l : List Fld} (h : GF k (A ++ c :: L) x l) (hk : A.length < k) : GF k (A ++ c' :: (L ++ M)) x l := by
  refine Grow.of_obj h fun i v' c'' hi hg => ?_
  obtain ⟨t, rfl⟩ : ∃ t, i = A.length + (t + 1) := ⟨i - A.length - 1, by omega⟩
  rw [get_own, List.getElem?_cons_succ] at hg
  rw [get_own, get_own, List.getElem?_cons_succ, List.getElem?_cons_succ]
  rw [get_old (List.getElem?_eq_some_iff.1 hg).1]
/-- All objects but lists of fields stay as they are. -/
def Kp (L L2 : Hp) : Prop := ∀ (i : Nat) (o : CO), L[i]? = some o → (∀ v c, o ≠ .cells v c 31) → L2[i]? = some o
theorem Kp.refl (L : Hp) : Kp L L := fun _ _ h _ => h
theorem Kp.trans {L L2 L3 : Hp} (h : Kp L L2) (k : Kp L2 L3) : Kp L L3 := fun i o h1 h2 => k i o (h i o h1 h2) h2
theorem Kp.app (L M : Hp) : Kp L (L ++ M) := fun i o h _ => by rw [get_old (List.getElem?_eq_some_iff.1 h).1]; exact h
theorem Kp.pre {Q L L2 : Hp} (h : Kp (Q ++ L) L2) (hq : ∀ o ∈ Q, ∀ v c, o ≠ .cells v c 31) : ∃ L3, L2 = Q ++ L3 ∧ Kp L L3 := by
  have key : ∀ i, i < Q.length → L2[i]? = Q[i]? := fun i hi => by
    have h1 : (Q ++ L)[i]? = some Q[i] := by rw [get_old hi, List.getElem?_eq_getElem hi]
    rw [h i _ h1 (hq _ (List.getElem_mem hi)), List.getElem?_eq_getElem hi]
  have hlen : Q.length ≤ L2.length := by
    rcases Nat.lt_or_ge L2.length Q.length with hl | hl
    · have := key L2.length hl
      rw [List.getElem?_eq_none (Nat.le_refl _), List.getElem?_eq_getElem hl] at this; cases this
    · exact hl
  refine ⟨L2.drop Q.length, ?_, fun i o h1 h2 => ?_⟩
  · apply List.ext_getElem?
    intro i
    rcases Nat.lt_or_ge i Q.length with hi | hi
    · rw [key i hi, get_old hi]
    · rw [List.getElem?_append_right hi, List.getElem?_drop, show Q.length + (i - Q.length) = i by omega]
  · rw [List.getElem?_drop]
    exact h _ _ (by rw [get_own]; exact h1) h2
theorem stQ_top {m id ver off : Nat} {x : CV} (h : topLe 0 x = true) : stQ m (.ptr id ver off) x = true := by
  unfold stQ; simp only []; rw [h, Bool.or_true]
@[simp] theorem stQ_nn (m id ver off : Nat) (a b : Int) (k k' : IntKind) : stQ m (.ptr id ver off) (.agg [.v (.int k a), .v (.int k' b)]) = true := stQ_top rfl
@[simp] theorem stQ_b (m id ver off : Nat) (a : Bool) : stQ m (.ptr id ver off) (.v (.bool a)) = true := stQ_top rfl
variable [LayerC]
theorem w60 (m : Nat) (A L : Hp) (x : CV) (n v : Bs) (a : Nat) (op : Bool) (l : List Fld) (hm : m ≤ A.length) (hg : GF (A.length + 1) (A ++ rdC x n v a op :: L) x l) (hl : l.length ≤ 128) (hv : v.length ≤ 4294967280) :
    WC prog cs0 m (.f 39) [.ptr A.length 0 0] (A ++ rdC x n v a op :: L) fun y H' => ∃ L2 x' v', Kp L L2 ∧ H' = A ++ rdC x' n v' a false :: L2 ∧
      ((∃ l', shutG l (opO n v a op) = some l' ∧ l'.length ≤ 128 ∧ GF (A.length + 1) H' x' l' ∧ y = .agg [.v (.int .i64 0), .v (.int .i64 0)]) ∨ (shutG l (opO n v a op) = none ∧ y = .agg [.v (.int .i64 (a : Nat)), .v (.int .i64 50)])) := by
  rw [WC_raw rfl func39 rfl rfl]
  obtain ⟨K, hK⟩ : ∃ K : CV → Hp → Prop, ∀ y H', K y H' ↔ ∃ L2 x' v', Kp L L2 ∧ H' = A ++ rdC x' n v' a false :: L2 ∧
      ((∃ l', shutG l (opO n v a op) = some l' ∧ l'.length ≤ 128 ∧ GF (A.length + 1) H' x' l' ∧ y = .agg [.v (.int .i64 0), .v (.int .i64 0)]) ∨ (shutG l (opO n v a op) = none ∧ y = .agg [.v (.int .i64 (a : Nat)), .v (.int .i64 50)])) := ⟨_, fun _ _ => Iff.rfl⟩
  simp only [← hK]
  have ux : unlit x = x := Grow.unl hg
  cases op with
  | false =>
    simp -implicitDefEqProofs [f39, aQ, dAlloc, rdC, faddr_ptr, underlying86, load_one underlying4 rfl iT4, b67_0, store_at iT67, cells_agg, load_aggp underlying67 rfl iT67, atP]
    exact (hK _ _).2 ⟨_, x, v, Kp.app L _, rfl, .inl ⟨l, rfl, hl, hg.head (by omega), rfl⟩⟩
  | true =>
    have htl := trim_le v
    have c91 := fun m H => (w91 m v H hv).wc
    have c73 := fun m H => (w73 m (trim v) H (by omega)).wc
    have ho : opO n v a true = some ⟨a, n, v⟩ := rfl
    have hg2 : ∀ c' M, GF (A.length + 1) (A ++ c' :: (L ++ M)) x l := fun c' M => hg.head (by omega)
    have hlen : ∀ c' M, dLenS prog 24 x (A ++ c' :: (L ++ M)) = some (.v (.int .i64 l.length)) := fun c' M => by
      have := (Grow.rs (ch := l.map Fld.c) (by rw [List.length_map]; exact hg2 c' M) (fldCh l)).len underlying24
      rw [List.length_map] at this; exact this
    by_cases hv2 : isVal (trim v)
    case neg =>
      have hsh : shutG l (opO n v a true) = none := by rw [ho]; simp [shutG, hv2]
      simp -implicitDefEqProofs [f39, aQ, dAlloc, rdC, faddr_ptr, underlying86, underlying31, load_one underlying4 rfl iT4, load_one underlying3 rfl iT3, load_one underlying9 rfl iT9, store_at iT9, store_at iT4, b67_2, store_at iT67, cells_agg, load_aggp underlying67 rfl iT67, atP, c91, c73, hv2]
      exact (hK _ _).2 ⟨_, x, trim v, Kp.app L _, rfl, .inr ⟨hsh, rfl⟩⟩
    by_cases hll : l.length < 128
    case neg =>
      have h128 : 128 ≤ l.length := by omega
      have hsh : shutG l (opO n v a true) = none := by rw [ho]; simp [shutG, hll]
      simp -implicitDefEqProofs [f39, aQ, dAlloc, rdC, faddr_ptr, underlying86, underlying31, load_one underlying4 rfl iT4, load_one underlying3 rfl iT3, load_one underlying9 rfl iT9, load_one underlying24 rfl iT24, store_at iT9, store_at iT4, b67_2, store_at iT67, cells_agg, load_aggp underlying67 rfl iT67, atP, c91, c73, hv2, ux, hlen, h128]
      exact (hK _ _).2 ⟨_, x, trim v, Kp.app L _, rfl, .inr ⟨hsh, rfl⟩⟩
    have h128 : ¬ 128 ≤ l.length := by omega
    have hsh : shutG l (opO n v a true) = some (l ++ [⟨n, trim v⟩]) := by rw [ho]; simp [shutG, hv2, hll]
    simp -implicitDefEqProofs [f39, aQ, dAlloc, rdC, faddr_ptr, underlying86, underlying31, load_one underlying4 rfl iT4, load_one underlying3 rfl iT3, load_one underlying9 rfl iT9, load_one underlying24 rfl iT24, store_at iT9, store_at iT4, b67_2, store_at iT67, cells_agg, load_aggp underlying67 rfl iT67, atP, c91, c73, hv2, ux, hlen, h128]
    rw [W_drawJ TJ [(2, 9), (3, 9), (4, 9)] _ _ _ _ _ _ followsT trivial (by rfl) (fun _ _ _ => keep_T) (by
      intro k j i oj oi hm h1 h2
      simp at hm
      rcases hm with ⟨rfl, rfl⟩ | ⟨rfl, rfl⟩ | ⟨rfl, rfl⟩ <;> simp at h1 h2 <;> subst h1 h2
      · exact cmt_grow (by rfl) (mon_nilCheck rfl) (gro_buildSlice rfl) _
      · exact cmt_grow (by rfl) (mon_faddr rfl) (gro_buildSlice rfl) _
      · exact cmt_grow (by rfl) (mon_load rfl) (gro_buildSlice rfl) _)]
    obtain ⟨x2, H2, e1, e2, e3, e4, e5⟩ := Grow.append (P := prog) (t := 24) (tx := 24) (y := .im [str n, str (trim v)] 1 2) underlying24 iT31 zT31 rfl sT31 (by omega) (by simp) (hg2 (CO.cells 0 [x, str n, str (trim v), .v (.int .i64 (a : Nat)), .v (.bool false)] 86) [CO.cells 0 [.v (.int .i64 0), .v (.int .i64 0)] 67]) (src_clo (n := 1) underlying24 (.inl rfl) rfl _) rfl (by simp; omega) (by omega)
    have hap : ∀ y, apQ m x y = true := Grow.ap hg (by omega)
    have u2 := e2.unl
    simp -implicitDefEqProofs [faddr_ptr, underlying86, underlying31, load_one underlying24 rfl iT24, load_aggp underlying31 rfl iT31, ux, atP, mkF1, hap, e1]
    have hxi : ∀ ver off len s, x ≠ .sl A.length ver off len s := by
      rintro ver off len s rfl
      rcases hg with ⟨_, _, h⟩ | ⟨_, id, _, hm, h, _⟩
      · cases h
      · cases h; omega
    have hxb : ∀ ver off len s, x ≠ .sl (A.length + (L.length + 1)) ver off len s := by
      rintro ver off len s rfl
      rcases hg with ⟨_, _, h⟩ | ⟨_, id, _, hm, h, hc⟩
      · cases h
      · cases h
        have := (List.getElem?_eq_some_iff.1 hc).1
        simp at this
    have g1 := e5 _ hxi (by simp)
    have g2 := e5 _ hxb (by simp)
    simp at g1 g2
    have e6 := split_at e3
    have e7 : (A ++ CO.cells 0 [x, str n, str (trim v), .v (.int .i64 (a : Nat)), .v (.bool false)] 86 :: (L ++ [CO.cells 0 [.v (.int .i64 0), .v (.int .i64 0)] 67])).take (A.length + 1) = A ++ [CO.cells 0 [x, str n, str (trim v), .v (.int .i64 (a : Nat)), .v (.bool false)] 86] := by
      rw [List.take_length_add_append]; simp
    rw [e7] at e6
    obtain ⟨M, rfl⟩ : ∃ M, H2 = A ++ CO.cells 0 [x, str n, str (trim v), .v (.int .i64 (a : Nat)), .v (.bool false)] 86 :: M := ⟨H2.drop (A.length + 1), by
        conv => lhs; rw [e6]
        simp⟩
    have hKp : ∀ (i : Nat) (o : CO), L[i]? = some o → (∀ v c, o ≠ .cells v c 31) → M[i]? = some o := by
      intro i o h1 h2
      have hil := (List.getElem?_eq_some_iff.1 h1).1
      have hx3 : ∀ ver off len s, x ≠ .sl (A.length + (i + 1)) ver off len s := by
        rintro ver off len s rfl
        rcases hg with ⟨_, _, h⟩ | ⟨_, id, _, hm, h, hc⟩
        · cases h
        · cases h
          rw [get_own, List.getElem?_cons_succ, h1] at hc
          cases hc
          exact h2 _ _ rfl
      have g3 := e5 _ hx3 (by simp; omega)
      simp only [get_own, List.getElem?_cons_succ, get_old hil] at g3
      rw [g3]; exact h1
    simp at g2
    obtain ⟨La, Lb, rfl, hLa⟩ := split_get g2
    rw [← hLa]
    have hcx : cvCells x2 = some [x2] := by rcases e2 with ⟨_, _, rfl⟩ | ⟨_, _, _, _, rfl, _⟩ <;> rfl
    have hst : stQ m (CV.ptr A.length 0 0) x2 = true := by simp [stQ, hm]
    simp -implicitDefEqProofs [hst, store_at iT24, hcx, b67_0, store_at iT67, cells_agg, load_aggp underlying67 rfl iT67]
    refine (hK _ _).2 ⟨_, x2, trim v, ?_, rfl, .inl ⟨_, hsh, by simp; omega, ?_, rfl⟩⟩
    · intro i o h1 h2
      have hil := (List.getElem?_eq_some_iff.1 h1).1
      have := hKp i o h1 h2
      rw [get_old (by omega)] at this ⊢; exact this
    · have : GF (A.length + 1) (A ++ CO.cells 0 [x, str n, str (trim v), .v (.int .i64 (a : Nat)), .v (.bool false)] 86 :: (La ++ CO.cells 0 [.v (.int .i64 0), .v (.int .i64 0)] 67 :: Lb)) x2 (l ++ [⟨n, trim v⟩]) := by
        unfold GF
        rw [fldS_snoc, List.length_append]; exact e2
      exact this.swap (by omega)
end Go.Proofs.Tryd

/- Walks: a line of a header is taken. -/
namespace Go.Proofs.Tryd
open Go Go.SL
set_option linter.unusedVariables false
set_option linter.unusedSimpArgs false

/-- A line, taken: where it is wrong, or the fields and what is open. -/
def lineG (l : List Fld) (o : Option Opn) (at' : Nat) (s : Bs) : Nat ⊕ (List Fld × Opn) :=
  if (s.head?.map blankC) = some true then
    match o with
    | none => .inl at'
    | some o => .inr (l, ⟨o.a, o.n, o.x ++ s⟩)
  else
    match shutG l o with
    | none => .inl (match o with | none => 0 | some o => o.a)
    | some l' => if (headT s 58).length = s.length ∨ ¬ isName (headT s 58) then .inl at' else .inr (l', ⟨at', headT s 58, s.drop ((headT s 58).length + 1)⟩)
variable [LayerC]
theorem headT_all {s : Bs} {c : UInt8} : (headT s c).length = s.length ↔ c ∉ s := by
  unfold headT
  constructor
  · intro h hc
    have := (idb_at s c hc).2.1
    omega
  · intro h
    have : s.takeWhile (· != c) = s := by
      have := List.takeWhile_append_of_pos (l₁ := s) (l₂ := []) (p := (· != c)) (fun d hd => by simp; rintro rfl; exact h hd)
      simpa using this
    rw [this]
theorem w61 (m : Nat) (A L : Hp) (x : CV) (n v : Bs) (a : Nat) (op : Bool) (l : List Fld) (at' : Nat) (s : Bs) (hm : m ≤ A.length) (hg : GF (A.length + 1) (A ++ rdC x n v a op :: L) x l) (hl : l.length ≤ 128) (hv : v.length ≤ 100000000) (hs : s.length ≤ 100000000) (hs0 : s ≠ []) :
    WC prog cs0 m (.f 40) [.ptr A.length 0 0, .v (.int .i64 (at' : Nat)), str s] (A ++ rdC x n v a op :: L) fun y H' => ∃ L2 x' n' v' a' op', Kp L L2 ∧ H' = A ++ rdC x' n' v' a' op' :: L2 ∧
      ((∃ p, lineG l (opO n v a op) at' s = .inl p ∧ y = .agg [.v (.int .i64 (p : Nat)), .v (.int .i64 50)]) ∨ (∃ l', lineG l (opO n v a op) at' s = .inr (l', ⟨a', n', v'⟩) ∧ op' = true ∧ l'.length ≤ 128 ∧ GF (A.length + 1) H' x' l' ∧ y = .agg [.v (.int .i64 0), .v (.int .i64 0)])) := by
  rw [WC_raw rfl func40 rfl rfl]
  obtain ⟨K, hK⟩ : ∃ K : CV → Hp → Prop, ∀ y H', K y H' ↔ ∃ L2 x' n' v' a' op', Kp L L2 ∧ H' = A ++ rdC x' n' v' a' op' :: L2 ∧
      ((∃ p, lineG l (opO n v a op) at' s = .inl p ∧ y = .agg [.v (.int .i64 (p : Nat)), .v (.int .i64 50)]) ∨ (∃ l', lineG l (opO n v a op) at' s = .inr (l', ⟨a', n', v'⟩) ∧ op' = true ∧ l'.length ≤ 128 ∧ GF (A.length + 1) H' x' l' ∧ y = .agg [.v (.int .i64 0), .v (.int .i64 0)])) := ⟨_, fun _ _ => Iff.rfl⟩
  simp only [← hK]
  obtain ⟨c, t, rfl⟩ : ∃ c t, s = c :: t := by cases s with | nil => exact absurd rfl hs0 | cons c t => exact ⟨c, t, rfl⟩
  have hx0 : dIndex prog 9 (str (c :: t)) (.v (.int .i64 0)) = some (.v (.int .u8 c.toNat)) := by
    have := index_str (P := prog) underlying9 (c :: t) .i64 0
    simpa using this
  have hbl : (((c :: t).head?.map blankC) = some true) ↔ (c.toNat = 32 ∨ c.toNat = 9) := by simp [blankC_iff]
  have hgen : ∀ (X : Prop), X → X := fun _ h => h
  by_cases hb : c.toNat = 32 ∨ c.toNat = 9
  · have hb' := hbl.2 hb
    cases op with
    | false =>
      have hl2 : lineG l (opO n v a false) at' (c :: t) = .inl at' := by unfold lineG; rw [if_pos hb']; rfl
      rcases hb with hb | hb
      all_goals
        simp -implicitDefEqProofs [f40, aQ, dAlloc, hx0, hb, rdC, atP, faddr_ptr, underlying86, load_one underlying4 rfl iT4, b67_2, store_at iT67, cells_agg, load_aggp underlying67 rfl iT67]
        exact (hK _ _).2 ⟨_, x, n, v, a, false, Kp.app L _, rfl, .inl ⟨_, hl2, rfl⟩⟩
    | true =>
      have hl2 : lineG l (opO n v a true) at' (c :: t) = .inr (l, ⟨a, n, v ++ (c :: t)⟩) := by unfold lineG; rw [if_pos hb']; rfl
      have hadd : v.length + (t.length + 1) ≤ 9223372036854775807 := by simp at hs; omega
      rcases hb with hb | hb
      all_goals
        simp -implicitDefEqProofs [f40, aQ, dAlloc, hx0, hb, rdC, atP, faddr_ptr, underlying86, underlying31, load_one underlying4 rfl iT4, load_one underlying9 rfl iT9, hadd, store_at iT9, b67_0, store_at iT67, cells_agg, load_aggp underlying67 rfl iT67]
        exact (hK _ _).2 ⟨_, x, n, v ++ (c :: t), a, true, Kp.app L _, rfl, .inr ⟨l, hl2, rfl, hl, hg.head (by omega), rfl⟩⟩
  · have hb' : ¬ (((c :: t).head?.map blankC) = some true) := fun h => hb (hbl.1 h)
    obtain ⟨hb1, hb2⟩ := not_or.1 hb
    simp -implicitDefEqProofs [f40, aQ, dAlloc, hx0, hb1, hb2, rdC]
    refine WC_mono (w60 m A (L ++ [CO.cells 0 [.v (.int .i64 0), .v (.int .i64 0)] 67]) x n v a op l hm (hg.head (by omega)) hl (by omega)) ?_
    rintro y H2 ⟨L2, x', v', hkp, rfl, hres⟩
    have h6 : L2[L.length]? = some (CO.cells 0 [.v (.int .i64 0), .v (.int .i64 0)] 67) := hkp _ _ (by simp) (by simp)
    obtain ⟨La, Lb, rfl, hLa⟩ := split_get h6
    have hk2 : ∀ o M, Kp L (La ++ o :: M) := fun o M i o' h1 h2 => by
      have hil := (List.getElem?_eq_some_iff.1 h1).1
      have := hkp i o' (by rw [get_old hil]; exact h1) h2
      rw [get_old (by omega)] at this ⊢; exact this
    clear hkp h6
    rw [← hLa]
    rcases hres with ⟨l', hsh, hl', hg', rfl⟩ | ⟨hsh, rfl⟩
    case inr =>
      have hl2 : lineG l (opO n v a op) at' (c :: t) = .inl a := by
        unfold lineG; rw [if_neg hb', hsh]
        cases op with
        | true => rfl
        | false => simp [opO, shutG] at hsh
      simp -implicitDefEqProofs [rdC, store_at iT67, cells_agg, faddr_ptr, underlying67, load_one underlying32 rfl iT32, load_aggp underlying67 rfl iT67]
      exact (hK _ _).2 ⟨_, x', n, v', a, false, hk2 _ _, rfl, .inl ⟨_, hl2, rfl⟩⟩
    have c92 := fun m H => (w92 m (c :: t) 58 H (by omega)).wc
    by_cases hc : 58 ∈ c :: t
    case neg =>
      have hcut : cutAt (c :: t) 58 = (c :: t, [], false) := by unfold cutAt; rw [if_neg hc]
      have hl2 : lineG l (opO n v a op) at' (c :: t) = .inl at' := by
        unfold lineG; rw [if_neg hb', hsh]; simp only []; rw [if_pos (.inl (headT_all.2 hc))]
      simp -implicitDefEqProofs [rdC, store_at iT67, cells_agg, faddr_ptr, underlying67, load_one underlying32 rfl iT32, load_aggp underlying67 rfl iT67, c92, hcut, dExtract, b67_2]
      exact (hK _ _).2 ⟨_, x', n, v', a, false, hk2 _ _, rfl, .inl ⟨_, hl2, rfl⟩⟩
    obtain ⟨hd, hhd⟩ : ∃ hd, hd = headT (c :: t) 58 := ⟨_, rfl⟩
    have hcut : cutAt (c :: t) 58 = (hd, (c :: t).drop (hd.length + 1), true) := by unfold cutAt; rw [if_pos hc, hhd]; rfl
    have c72 := fun m H' => (w72 m hd H').wc
    by_cases hn : isName hd
    case neg =>
      have hl2 : lineG l (opO n v a op) at' (c :: t) = .inl at' := by
        unfold lineG; rw [if_neg hb', hsh]; simp only []; rw [if_pos (.inr (by rw [← hhd]; exact hn))]
      simp -implicitDefEqProofs [rdC, store_at iT67, cells_agg, faddr_ptr, underlying67, load_one underlying32 rfl iT32, load_aggp underlying67 rfl iT67, c92, hcut, dExtract, b67_2, c72, hn]
      exact (hK _ _).2 ⟨_, x', n, v', a, false, hk2 _ _, rfl, .inl ⟨_, hl2, rfl⟩⟩
    have hl2 : lineG l (opO n v a op) at' (c :: t) = .inr (l', ⟨at', hd, (c :: t).drop (hd.length + 1)⟩) := by
      unfold lineG; rw [if_neg hb', hsh]; simp only []; rw [if_neg (by rw [headT_all, ← hhd]; rintro (h | h); exact h hc; exact h hn), ← hhd]
    simp -implicitDefEqProofs [rdC, store_at iT67, cells_agg, faddr_ptr, underlying67, load_one underlying32 rfl iT32, load_aggp underlying67 rfl iT67, c92, hcut, dExtract, b67_2, c72, hn, b31_2, atP, underlying86, store_at iT31, store_at iT3, store_at iT4, b67_0]
    refine (hK _ _).2 ⟨_, x', hd, (c :: t).drop (hd.length + 1), at', true, hk2 _ _, rfl, .inr ⟨l', hl2, rfl, hl', ?_, rfl⟩⟩
    have := GF.head (c' := rdC x' hd ((c :: t).drop (hd.length + 1)) at' true) (M := [CO.cells 0 [.v (.int .i64 0), .v (.int .i64 0)] 67]) hg' (by omega)
    simpa [rdC] using this
end Go.Proofs.Tryd

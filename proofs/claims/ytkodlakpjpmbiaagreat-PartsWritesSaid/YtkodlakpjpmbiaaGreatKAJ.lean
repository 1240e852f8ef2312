/- Walks: the field that is read is shut. -/
import Derived.Test.YtkodlakpjpmbiaaGreatKAI
import Derived.Test.YtkodlakpjpmbiaaGreatKAH
import Derived.Test.YtkodlakpjpmbiaaGreatKAF

set_option linter.all false

namespace Go.Proofs.Tryz
open Go Go.SL
set_option linter.unusedVariables false
set_option linter.unusedSimpArgs false

/-- A reader's cells. -/
def rdC (x : CV) (n v : Bs) (a : Nat) (op : Bool) : CO := .cells 0 [x, str n, str v, .v (.int .i64 (a : Nat)), .v (.bool op)] 99
def opO (n v : Bs) (a : Nat) (op : Bool) : Option Opn := if op = true then some ⟨a, n, v⟩ else none
theorem split_get {L : Hp} {n : Nat} {o : CO} (h : L[n]? = some o) : ∃ La Lb, L = La ++ o :: Lb ∧ La.length = n := by
  have hn : n < L.length := (List.getElem?_eq_some_iff.1 h).1
  have ho : L[n] = o := (List.getElem?_eq_some_iff.1 h).2
  exact ⟨L.take n, L.drop (n + 1), by rw [← ho, ← List.drop_eq_getElem_cons hn, List.take_append_drop], by simp; omega⟩
theorem Grow.of_obj {m : Nat} {H H' : Hp} {x : CV} {cs : List CV} {n sz : Nat} {e : TypeId} (h : Grow m H x cs n sz e) (hk : ∀ i v c, m ≤ i → H[i]? = some (.cells v c e) → H'[i]? = H[i]?) : Grow m H' x cs n sz e := by
  rcases h with h | ⟨hl, id, ver, hm, rfl, hc⟩
  · exact .inl h
  · exact .inr ⟨hl, id, ver, hm, rfl, by rw [hk _ _ _ hm hc]; exact hc⟩
theorem GF.swap {A La Lb : Hp} {c c' o : CO} {v : Nat} {cs : List CV} {k : Nat} {x : CV} {l : List Fld} (h : GF k (A ++ c :: (La ++ CO.cells v cs 71 :: Lb)) x l) (hk : A.length < k) : GF k (A ++ c' :: (La ++ o :: Lb)) x l := by
  refine Grow.of_obj h fun i v' c'' hi hg => ?_
  obtain ⟨t, rfl⟩ : ∃ t, i = A.length + (t + 1) := ⟨i - A.length - 1, by omega⟩
  rw [get_own, List.getElem?_cons_succ] at hg
  rw [get_own, get_own, List.getElem?_cons_succ, List.getElem?_cons_succ]
  rcases Nat.lt_trichotomy t La.length with h1 | h1 | h1
  · rw [get_old h1, get_old h1]
  · subst h1; rw [get_own0] at hg; simp at hg
  · obtain ⟨s, rfl⟩ : ∃ s, t = La.length + (s + 1) := ⟨t - La.length - 1, by omega⟩
    rw [get_own, get_own, List.getElem?_cons_succ, List.getElem?_cons_succ]
theorem GF.head {A L M : Hp} {c c' : CO} {k : Nat} {x : CV} {l : List Fld} (h : GF k (A ++ c :: L) x l) (hk : A.length < k) : GF k (A ++ c' :: (L ++ M)) x l := by
  refine Grow.of_obj h fun i v' c'' hi hg => ?_
  obtain ⟨t, rfl⟩ : ∃ t, i = A.length + (t + 1) := ⟨i - A.length - 1, by omega⟩
  rw [get_own, List.getElem?_cons_succ] at hg
  rw [get_own, get_own, List.getElem?_cons_succ, List.getElem?_cons_succ]
  rw [get_old (List.getElem?_eq_some_iff.1 hg).1]
/-- All objects but lists of fields stay as they are. -/
def Kp (L L2 : Hp) : Prop := ∀ (i : Nat) (o : CO), L[i]? = some o → (∀ v c, o ≠ .cells v c 67) → L2[i]? = some o
theorem Kp.refl (L : Hp) : Kp L L := fun _ _ h _ => h
theorem Kp.trans {L L2 L3 : Hp} (h : Kp L L2) (k : Kp L2 L3) : Kp L L3 := fun i o h1 h2 => k i o (h i o h1 h2) h2
theorem Kp.app (L M : Hp) : Kp L (L ++ M) := fun i o h _ => by rw [get_old (List.getElem?_eq_some_iff.1 h).1]; exact h
theorem Kp.pre {Q L L2 : Hp} (h : Kp (Q ++ L) L2) (hq : ∀ o ∈ Q, ∀ v c, o ≠ .cells v c 67) : ∃ L3, L2 = Q ++ L3 ∧ Kp L L3 := by
  have key : ∀ i, i < Q.length → L2[i]? = Q[i]? := fun i hi => by
    have h1 : (Q ++ L)[i]? = some Q[i] := by rw [get_old hi, List.getElem?_eq_getElem hi]
    rw [h i _ h1 (hq _ (List.getElem_mem hi)), List.getElem?_eq_getElem hi]
  have hlen : Q.length ≤ L2.length := by
    rcases Nat.lt_or_ge L2.length Q.length with hl | hl
    · have := key L2.length hl
      rw [List.getElem?_eq_none (Nat.le_refl _), List.getElem?_eq_getElem hl] at this; cases this
    · exact hl
  refine ⟨L2.drop Q.length, ?_, fun i o h1 h2 => ?_⟩
  · apply List.ext_getElem?
    intro i
    rcases Nat.lt_or_ge i Q.length with hi | hi
    · rw [key i hi, get_old hi]
    · rw [List.getElem?_append_right hi, List.getElem?_drop, show Q.length + (i - Q.length) = i by omega]
  · rw [List.getElem?_drop]
    exact h _ _ (by rw [get_own]; exact h1) h2
theorem stQ_top {m id ver off : Nat} {x : CV} (h : topLe 0 x = true) : stQ m (.ptr id ver off) x = true := by
  unfold stQ; simp only []; rw [h, Bool.or_true]
@[simp] theorem stQ_nn (m id ver off : Nat) (a b : Int) (k k' : IntKind) : stQ m (.ptr id ver off) (.agg [.v (.int k a), .v (.int k' b)]) = true := stQ_top rfl
@[simp] theorem stQ_b (m id ver off : Nat) (a : Bool) : stQ m (.ptr id ver off) (.v (.bool a)) = true := stQ_top rfl
variable [LayerC]
theorem w60 (m : Nat) (A L : Hp) (x : CV) (n v : Bs) (a : Nat) (op : Bool) (l : List Fld) (hm : m ≤ A.length) (hg : GF (A.length + 1) (A ++ rdC x n v a op :: L) x l) (hl : l.length ≤ 128) (hv : v.length ≤ 4294967280) :
    WC prog cs0 m (.f 60) [.ptr A.length 0 0] (A ++ rdC x n v a op :: L) fun y H' => ∃ L2 x' v', Kp L L2 ∧ H' = A ++ rdC x' n v' a false :: L2 ∧
      ((∃ l', shutG l (opO n v a op) = some l' ∧ l'.length ≤ 128 ∧ GF (A.length + 1) H' x' l' ∧ y = .agg [.v (.int .i64 0), .v (.int .i64 0)]) ∨ (shutG l (opO n v a op) = none ∧ y = .agg [.v (.int .i64 (a : Nat)), .v (.int .i64 50)])) := by
  rw [WC_raw rfl func60 rfl rfl]
  obtain ⟨K, hK⟩ : ∃ K : CV → Hp → Prop, ∀ y H', K y H' ↔ ∃ L2 x' v', Kp L L2 ∧ H' = A ++ rdC x' n v' a false :: L2 ∧
      ((∃ l', shutG l (opO n v a op) = some l' ∧ l'.length ≤ 128 ∧ GF (A.length + 1) H' x' l' ∧ y = .agg [.v (.int .i64 0), .v (.int .i64 0)]) ∨ (shutG l (opO n v a op) = none ∧ y = .agg [.v (.int .i64 (a : Nat)), .v (.int .i64 50)])) := ⟨_, fun _ _ => Iff.rfl⟩
  simp only [← hK]
  have ux : unlit x = x := Grow.unl hg
  cases op with
  | false =>
    simp -implicitDefEqProofs [f60, aQ, dAlloc, rdC, faddr_ptr, underlying99, load_one underlying4 rfl iT4, b71_0, store_at iT71, cells_agg, load_aggp underlying71 rfl iT71, atP]
    exact (hK _ _).2 ⟨_, x, v, Kp.app L _, rfl, .inl ⟨l, rfl, hl, hg.head (by omega), rfl⟩⟩
  | true =>
    have htl := trim_le v
    have c91 := fun m H => (w91 m v H hv).wc
    have c73 := fun m H => (w73 m (trim v) H (by omega)).wc
    have ho : opO n v a true = some ⟨a, n, v⟩ := rfl
    have hg2 : ∀ c' M, GF (A.length + 1) (A ++ c' :: (L ++ M)) x l := fun c' M => hg.head (by omega)
    have hlen : ∀ c' M, dLenS prog 25 x (A ++ c' :: (L ++ M)) = some (.v (.int .i64 l.length)) := fun c' M => by
      have := (Grow.rs (ch := l.map Fld.c) (by rw [List.length_map]; exact hg2 c' M) (fldCh l)).len underlying25
      rw [List.length_map] at this; exact this
    by_cases hv2 : isVal (trim v)
    case neg =>
      have hsh : shutG l (opO n v a true) = none := by rw [ho]; simp [shutG, hv2]
      simp -implicitDefEqProofs [f60, aQ, dAlloc, rdC, faddr_ptr, underlying99, underlying67, load_one underlying4 rfl iT4, load_one underlying3 rfl iT3, load_one underlying9 rfl iT9, store_at iT9, store_at iT4, b71_2, store_at iT71, cells_agg, load_aggp underlying71 rfl iT71, atP, c91, c73, hv2]
      exact (hK _ _).2 ⟨_, x, trim v, Kp.app L _, rfl, .inr ⟨hsh, rfl⟩⟩
    by_cases hll : l.length < 128
    case neg =>
      have h128 : 128 ≤ l.length := by omega
      have hsh : shutG l (opO n v a true) = none := by rw [ho]; simp [shutG, hll]
      simp -implicitDefEqProofs [f60, aQ, dAlloc, rdC, faddr_ptr, underlying99, underlying67, load_one underlying4 rfl iT4, load_one underlying3 rfl iT3, load_one underlying9 rfl iT9, load_one underlying25 rfl iT25, store_at iT9, store_at iT4, b71_2, store_at iT71, cells_agg, load_aggp underlying71 rfl iT71, atP, c91, c73, hv2, ux, hlen, h128]
      exact (hK _ _).2 ⟨_, x, trim v, Kp.app L _, rfl, .inr ⟨hsh, rfl⟩⟩
    have h128 : ¬ 128 ≤ l.length := by omega
    have hsh : shutG l (opO n v a true) = some (l ++ [⟨n, trim v⟩]) := by rw [ho]; simp [shutG, hv2, hll]
    simp -implicitDefEqProofs [f60, aQ, dAlloc, rdC, faddr_ptr, underlying99, underlying67, load_one underlying4 rfl iT4, load_one underlying3 rfl iT3, load_one underlying9 rfl iT9, load_one underlying25 rfl iT25, store_at iT9, store_at iT4, b71_2, store_at iT71, cells_agg, load_aggp underlying71 rfl iT71, atP, c91, c73, hv2, ux, hlen, h128]
    rw [W_drawJ TJ [(2, 9), (3, 9), (4, 9)] _ _ _ _ _ _ followsT trivial (by rfl) (fun _ _ _ => keep_T) (by
      intro k j i oj oi hm h1 h2
      simp at hm
      rcases hm with ⟨rfl, rfl⟩ | ⟨rfl, rfl⟩ | ⟨rfl, rfl⟩ <;> simp at h1 h2 <;> subst h1 h2
      · exact cmt_grow (by rfl) (mon_nilCheck rfl) (gro_buildSlice rfl) _
      · exact cmt_grow (by rfl) (mon_faddr rfl) (gro_buildSlice rfl) _
      · exact cmt_grow (by rfl) (mon_load rfl) (gro_buildSlice rfl) _)]
    obtain ⟨x2, H2, e1, e2, e3, e4, e5⟩ := Grow.append (P := prog) (t := 25) (tx := 25) (y := .im [str n, str (trim v)] 1 2) underlying25 iT67 zT67 rfl sT67 (by omega) (by simp) (hg2 (CO.cells 0 [x, str n, str (trim v), .v (.int .i64 (a : Nat)), .v (.bool false)] 99) [CO.cells 0 [.v (.int .i64 0), .v (.int .i64 0)] 71]) (src_clo (n := 1) underlying25 (.inl rfl) rfl _) rfl (by simp; omega) (by omega)
    have hap : ∀ y, apQ m x y = true := Grow.ap hg (by omega)
    have u2 := e2.unl
    simp -implicitDefEqProofs [faddr_ptr, underlying99, underlying67, load_one underlying25 rfl iT25, load_aggp underlying67 rfl iT67, ux, atP, mkF1, hap, e1]
    have hxi : ∀ ver off len s, x ≠ .sl A.length ver off len s := by
      rintro ver off len s rfl
      rcases hg with ⟨_, _, h⟩ | ⟨_, id, _, hm, h, _⟩
      · cases h
      · cases h; omega
    have hxb : ∀ ver off len s, x ≠ .sl (A.length + (L.length + 1)) ver off len s := by
      rintro ver off len s rfl
      rcases hg with ⟨_, _, h⟩ | ⟨_, id, _, hm, h, hc⟩
      · cases h
      · cases h
        have := (List.getElem?_eq_some_iff.1 hc).1
        simp at this
    have g1 := e5 _ hxi (by simp)
    have g2 := e5 _ hxb (by simp)
    simp at g1 g2
    have e6 := split_at e3
    have e7 : (A ++ CO.cells 0 [x, str n, str (trim v), .v (.int .i64 (a : Nat)), .v (.bool false)] 99 :: (L ++ [CO.cells 0 [.v (.int .i64 0), .v (.int .i64 0)] 71])).take (A.length + 1) = A ++ [CO.cells 0 [x, str n, str (trim v), .v (.int .i64 (a : Nat)), .v (.bool false)] 99] := by
      rw [List.take_length_add_append]; simp
    rw [e7] at e6
    obtain ⟨M, rfl⟩ : ∃ M, H2 = A ++ CO.cells 0 [x, str n, str (trim v), .v (.int .i64 (a : Nat)), .v (.bool false)] 99 :: M := ⟨H2.drop (A.length + 1), by
        conv => lhs; rw [e6]
        simp⟩
    have hKp : ∀ (i : Nat) (o : CO), L[i]? = some o → (∀ v c, o ≠ .cells v c 67) → M[i]? = some o := by
      intro i o h1 h2
      have hil := (List.getElem?_eq_some_iff.1 h1).1
      have hx3 : ∀ ver off len s, x ≠ .sl (A.length + (i + 1)) ver off len s := by
        rintro ver off len s rfl
        rcases hg with ⟨_, _, h⟩ | ⟨_, id, _, hm, h, hc⟩
        · cases h
        · cases h
          rw [get_own, List.getElem?_cons_succ, h1] at hc
          cases hc
          exact h2 _ _ rfl
      have g3 := e5 _ hx3 (by simp; omega)
      simp only [get_own, List.getElem?_cons_succ, get_old hil] at g3
      rw [g3]; exact h1
    simp at g2
    obtain ⟨La, Lb, rfl, hLa⟩ := split_get g2
    rw [← hLa]
    have hcx : cvCells x2 = some [x2] := by rcases e2 with ⟨_, _, rfl⟩ | ⟨_, _, _, _, rfl, _⟩ <;> rfl
    have hst : stQ m (CV.ptr A.length 0 0) x2 = true := by simp [stQ, hm]
    simp -implicitDefEqProofs [hst, store_at iT25, hcx, b71_0, store_at iT71, cells_agg, load_aggp underlying71 rfl iT71]
    refine (hK _ _).2 ⟨_, x2, trim v, ?_, rfl, .inl ⟨_, hsh, by simp; omega, ?_, rfl⟩⟩
    · intro i o h1 h2
      have hil := (List.getElem?_eq_some_iff.1 h1).1
      have := hKp i o h1 h2
      rw [get_old (by omega)] at this ⊢; exact this
    · have : GF (A.length + 1) (A ++ CO.cells 0 [x, str n, str (trim v), .v (.int .i64 (a : Nat)), .v (.bool false)] 99 :: (La ++ CO.cells 0 [.v (.int .i64 0), .v (.int .i64 0)] 71 :: Lb)) x2 (l ++ [⟨n, trim v⟩]) := by
        unfold GF
        rw [fldS_snoc, List.length_append]; exact e2
      exact this.swap (by omega)
end Go.Proofs.Tryz

/- Walks: a line of a header is taken. -/
namespace Go.Proofs.Tryz
open Go Go.SL
set_option linter.unusedVariables false
set_option linter.unusedSimpArgs false

/-- A line, taken: where it is wrong, or the fields and what is open. -/
def lineG (l : List Fld) (o : Option Opn) (at' : Nat) (s : Bs) : Nat ⊕ (List Fld × Opn) :=
  if (s.head?.map blankC) = some true then
    match o with
    | none => .inl at'
    | some o => .inr (l, ⟨o.a, o.n, o.x ++ s⟩)
  else
    match shutG l o with
    | none => .inl (match o with | none => 0 | some o => o.a)
    | some l' => if (headT s 58).length = s.length ∨ ¬ isName (headT s 58) then .inl at' else .inr (l', ⟨at', headT s 58, s.drop ((headT s 58).length + 1)⟩)
variable [LayerC]
theorem headT_all {s : Bs} {c : UInt8} : (headT s c).length = s.length ↔ c ∉ s := by
  unfold headT
  constructor
  · intro h hc
    have := (idb_at s c hc).2.1
    omega
  · intro h
    have : s.takeWhile (· != c) = s := by
      have := List.takeWhile_append_of_pos (l₁ := s) (l₂ := []) (p := (· != c)) (fun d hd => by simp; rintro rfl; exact h hd)
      simpa using this
    rw [this]
theorem w61 (m : Nat) (A L : Hp) (x : CV) (n v : Bs) (a : Nat) (op : Bool) (l : List Fld) (at' : Nat) (s : Bs) (hm : m ≤ A.length) (hg : GF (A.length + 1) (A ++ rdC x n v a op :: L) x l) (hl : l.length ≤ 128) (hv : v.length ≤ 100000000) (hs : s.length ≤ 100000000) (hs0 : s ≠ []) :
    WC prog cs0 m (.f 61) [.ptr A.length 0 0, .v (.int .i64 (at' : Nat)), str s] (A ++ rdC x n v a op :: L) fun y H' => ∃ L2 x' n' v' a' op', Kp L L2 ∧ H' = A ++ rdC x' n' v' a' op' :: L2 ∧
      ((∃ p, lineG l (opO n v a op) at' s = .inl p ∧ y = .agg [.v (.int .i64 (p : Nat)), .v (.int .i64 50)]) ∨ (∃ l', lineG l (opO n v a op) at' s = .inr (l', ⟨a', n', v'⟩) ∧ op' = true ∧ l'.length ≤ 128 ∧ GF (A.length + 1) H' x' l' ∧ y = .agg [.v (.int .i64 0), .v (.int .i64 0)])) := by
  rw [WC_raw rfl func61 rfl rfl]
  obtain ⟨K, hK⟩ : ∃ K : CV → Hp → Prop, ∀ y H', K y H' ↔ ∃ L2 x' n' v' a' op', Kp L L2 ∧ H' = A ++ rdC x' n' v' a' op' :: L2 ∧
      ((∃ p, lineG l (opO n v a op) at' s = .inl p ∧ y = .agg [.v (.int .i64 (p : Nat)), .v (.int .i64 50)]) ∨ (∃ l', lineG l (opO n v a op) at' s = .inr (l', ⟨a', n', v'⟩) ∧ op' = true ∧ l'.length ≤ 128 ∧ GF (A.length + 1) H' x' l' ∧ y = .agg [.v (.int .i64 0), .v (.int .i64 0)])) := ⟨_, fun _ _ => Iff.rfl⟩
  simp only [← hK]
  obtain ⟨c, t, rfl⟩ : ∃ c t, s = c :: t := by cases s with | nil => exact absurd rfl hs0 | cons c t => exact ⟨c, t, rfl⟩
  have hx0 : dIndex prog 9 (str (c :: t)) (.v (.int .i64 0)) = some (.v (.int .u8 c.toNat)) := by
    have := index_str (P := prog) underlying9 (c :: t) .i64 0
    simpa using this
  have hbl : (((c :: t).head?.map blankC) = some true) ↔ (c.toNat = 32 ∨ c.toNat = 9) := by simp [blankC_iff]
  have hgen : ∀ (X : Prop), X → X := fun _ h => h
  by_cases hb : c.toNat = 32 ∨ c.toNat = 9
  · have hb' := hbl.2 hb
    cases op with
    | false =>
      have hl2 : lineG l (opO n v a false) at' (c :: t) = .inl at' := by unfold lineG; rw [if_pos hb']; rfl
      rcases hb with hb | hb
      all_goals
        simp -implicitDefEqProofs [f61, aQ, dAlloc, hx0, hb, rdC, atP, faddr_ptr, underlying99, load_one underlying4 rfl iT4, b71_2, store_at iT71, cells_agg, load_aggp underlying71 rfl iT71]
        exact (hK _ _).2 ⟨_, x, n, v, a, false, Kp.app L _, rfl, .inl ⟨_, hl2, rfl⟩⟩
    | true =>
      have hl2 : lineG l (opO n v a true) at' (c :: t) = .inr (l, ⟨a, n, v ++ (c :: t)⟩) := by unfold lineG; rw [if_pos hb']; rfl
      have hadd : v.length + (t.length + 1) ≤ 9223372036854775807 := by simp at hs; omega
      rcases hb with hb | hb
      all_goals
        simp -implicitDefEqProofs [f61, aQ, dAlloc, hx0, hb, rdC, atP, faddr_ptr, underlying99, underlying67, load_one underlying4 rfl iT4, load_one underlying9 rfl iT9, hadd, store_at iT9, b71_0, store_at iT71, cells_agg, load_aggp underlying71 rfl iT71]
        exact (hK _ _).2 ⟨_, x, n, v ++ (c :: t), a, true, Kp.app L _, rfl, .inr ⟨l, hl2, rfl, hl, hg.head (by omega), rfl⟩⟩
  · have hb' : ¬ (((c :: t).head?.map blankC) = some true) := fun h => hb (hbl.1 h)
    obtain ⟨hb1, hb2⟩ := not_or.1 hb
    simp -implicitDefEqProofs [f61, aQ, dAlloc, hx0, hb1, hb2, rdC]
    refine WC_mono (w60 m A (L ++ [CO.cells 0 [.v (.int .i64 0), .v (.int .i64 0)] 71]) x n v a op l hm (hg.head (by omega)) hl (by omega)) ?_
    rintro y H2 ⟨L2, x', v', hkp, rfl, hres⟩
    have h6 : L2[L.length]? = some (CO.cells 0 [.v (.int .i64 0), .v (.int .i64 0)] 71) := hkp _ _ (by simp) (by simp)
    obtain ⟨La, Lb, rfl, hLa⟩ := split_get h6
    have hk2 : ∀ o M, Kp L (La ++ o :: M) := fun o M i o' h1 h2 => by
      have hil := (List.getElem?_eq_some_iff.1 h1).1
      have := hkp i o' (by rw [get_old hil]; exact h1) h2
      rw [get_old (by omega)] at this ⊢; exact this
    clear hkp h6
    rw [← hLa]
    rcases hres with ⟨l', hsh, hl', hg', rfl⟩ | ⟨hsh, rfl⟩
    case inr =>
      have hl2 : lineG l (opO n v a op) at' (c :: t) = .inl a := by
        unfold lineG; rw [if_neg hb', hsh]
        cases op with
        | true => rfl
        | false => simp [opO, shutG] at hsh
      simp -implicitDefEqProofs [rdC, store_at iT71, cells_agg, faddr_ptr, underlying71, load_one underlying29 rfl iT29, load_aggp underlying71 rfl iT71]
      exact (hK _ _).2 ⟨_, x', n, v', a, false, hk2 _ _, rfl, .inl ⟨_, hl2, rfl⟩⟩
    have c92 := fun m H => (w92 m (c :: t) 58 H (by omega)).wc
    by_cases hc : 58 ∈ c :: t
    case neg =>
      have hcut : cutAt (c :: t) 58 = (c :: t, [], false) := by unfold cutAt; rw [if_neg hc]
      have hl2 : lineG l (opO n v a op) at' (c :: t) = .inl at' := by
        unfold lineG; rw [if_neg hb', hsh]; simp only []; rw [if_pos (.inl (headT_all.2 hc))]
      simp -implicitDefEqProofs [rdC, store_at iT71, cells_agg, faddr_ptr, underlying71, load_one underlying29 rfl iT29, load_aggp underlying71 rfl iT71, c92, hcut, dExtract, b71_2]
      exact (hK _ _).2 ⟨_, x', n, v', a, false, hk2 _ _, rfl, .inl ⟨_, hl2, rfl⟩⟩
    obtain ⟨hd, hhd⟩ : ∃ hd, hd = headT (c :: t) 58 := ⟨_, rfl⟩
    have hcut : cutAt (c :: t) 58 = (hd, (c :: t).drop (hd.length + 1), true) := by unfold cutAt; rw [if_pos hc, hhd]; rfl
    have c72 := fun m H' => (w72 m hd H').wc
    by_cases hn : isName hd
    case neg =>
      have hl2 : lineG l (opO n v a op) at' (c :: t) = .inl at' := by
        unfold lineG; rw [if_neg hb', hsh]; simp only []; rw [if_pos (.inr (by rw [← hhd]; exact hn))]
      simp -implicitDefEqProofs [rdC, store_at iT71, cells_agg, faddr_ptr, underlying71, load_one underlying29 rfl iT29, load_aggp underlying71 rfl iT71, c92, hcut, dExtract, b71_2, c72, hn]
      exact (hK _ _).2 ⟨_, x', n, v', a, false, hk2 _ _, rfl, .inl ⟨_, hl2, rfl⟩⟩
    have hl2 : lineG l (opO n v a op) at' (c :: t) = .inr (l', ⟨at', hd, (c :: t).drop (hd.length + 1)⟩) := by
      unfold lineG; rw [if_neg hb', hsh]; simp only []; rw [if_neg (by rw [headT_all, ← hhd]; rintro (h | h); exact h hc; exact h hn), ← hhd]
    simp -implicitDefEqProofs [rdC, store_at iT71, cells_agg, faddr_ptr, underlying71, load_one underlying29 rfl iT29, load_aggp underlying71 rfl iT71, c92, hcut, dExtract, b71_2, c72, hn, b67_2, atP, underlying99, store_at iT67, store_at iT3, store_at iT4, b71_0]
    refine (hK _ _).2 ⟨_, x', hd, (c :: t).drop (hd.length + 1), at', true, hk2 _ _, rfl, .inr ⟨l', hl2, rfl, hl', ?_, rfl⟩⟩
    have := GF.head (c' := rdC x' hd ((c :: t).drop (hd.length + 1)) at' true) (M := [CO.cells 0 [.v (.int .i64 0), .v (.int .i64 0)] 71]) hg' (by omega)
    simpa [rdC] using this
end Go.Proofs.Tryz

/- Walks: the program's Parse of a header. -/
namespace Go.Proofs.Tryz
open Go Go.SL
set_option linter.unusedVariables false
set_option linter.unusedSimpArgs false

theorem cells_mid {X L : Hp} {v fn : Nat} {ts : List CV} {ps : Array Tmp} {a b : Code} {st : LoopState} {pe : Option Code} {id ver : Nat} {cs : List CV} (o : CO) (h : cellsAt (X ++ .loop v fn ts ps a b st pe :: L) id ver = some cs) : cellsAt (X ++ o :: L) id ver = some cs := by
  by_cases e : id = X.length
  · subst e; simp [cellsAt] at h
  · have : (X ++ o :: L)[id]? = (X ++ .loop v fn ts ps a b st pe :: L)[id]? := by
      by_cases hl : id < X.length
      · rw [List.getElem?_append_left hl, List.getElem?_append_left hl]
      · rw [List.getElem?_append_right (by omega), List.getElem?_append_right (by omega)]
        obtain ⟨k, hk⟩ : ∃ k, id - X.length = k + 1 := ⟨id - X.length - 1, by omega⟩
        rw [hk]; rfl
    unfold cellsAt at h ⊢; rw [this]; exact h
theorem hdrG_line {n : Nat} {x : Ln} {xs : List Ln} {l : List Fld} {o : Option Opn} (h : x.w = true) (h2 : ¬ 998 < x.s.length) (h5 : x.s ≠ []) : hdrG n (x :: xs) l o = match lineG l o x.a x.s with
    | .inl p => .bad p 50
    | .inr (l', o') => hdrG n xs l' (some o') := by
  unfold lineG
  by_cases h3 : (x.s.head?.map blankC) = some true
  · rw [if_pos h3]
    cases o with
    | none => exact hdrG_b0 h h2 h3
    | some o => exact hdrG_b1 h h2 h3
  · rw [if_neg h3]
    cases h4 : shutG l o with
    | none =>
      cases o with
      | none => simp [shutG] at h4
      | some o => exact hdrG_sh h h2 h3 h4
    | some l' =>
      simp only []
      by_cases h6 : (headT x.s 58).length = x.s.length ∨ ¬ isName (headT x.s 58)
      · rw [if_pos h6]; exact hdrG_bad h h2 h3 h4 h5 h6
      · rw [if_neg h6]; exact hdrG_open h h2 h3 h4 h5 h6
theorem lineG_len {l l' : List Fld} {o : Option Opn} {o' : Opn} {a : Nat} {s : Bs} (h : lineG l o a s = .inr (l', o')) : o'.x.length ≤ (o.elim 0 fun o => o.x.length) + s.length := by
  unfold lineG at h
  split at h
  · cases o with
    | none => cases h
    | some o => cases h; simp
  · split at h
    · cases h
    · split at h
      · cases h
      · cases h; simp; omega
theorem b99_0 : dBuild prog 99 [] = some (.agg [nilC, str [], str [], .v (.int .i64 0), .v (.bool false)]) := by
  simp [dBuild, underlying99, places, fillC]
theorem cells_ptr (a b c : Nat) : cvCells (.ptr a b c) = some [.ptr a b c] := rfl
theorem GF.mid {X L : Hp} {v fn k : Nat} {ts : List CV} {ps : Array Tmp} {a b : Code} {st : LoopState} {pe : Option Code} {x : CV} {l : List Fld} (o : CO) (h : GF k (X ++ .loop v fn ts ps a b st pe :: L) x l) : GF k (X ++ o :: L) x l := by
  refine Grow.of_obj h fun i v c _ hi => ?_
  by_cases e : i = X.length
  · subst e; simp at hi
  · by_cases hl : i < X.length
    · rw [List.getElem?_append_left hl, List.getElem?_append_left hl]
    · rw [List.getElem?_append_right (by omega), List.getElem?_append_right (by omega)]
      obtain ⟨k, hk⟩ : ∃ k, i - X.length = k + 1 := ⟨i - X.length - 1, by omega⟩
      rw [hk]; rfl
theorem GF.seven {H L : Hp} {a0 a1 a2 a3 a4 a5 a6 b0 b1 b2 b3 b4 b5 b6 : CO} {x : CV} {l : List Fld} (h : GF (H.length + 2) (H ++ a0 :: a1 :: a2 :: a3 :: a4 :: a5 :: a6 :: L) x l) (h2 : ∀ v c, a2 ≠ .cells v c 67) (h3 : ∀ v c, a3 ≠ .cells v c 67) (h4 : ∀ v c, a4 ≠ .cells v c 67) (h5 : ∀ v c, a5 ≠ .cells v c 67) (h6 : ∀ v c, a6 ≠ .cells v c 67) :
    GF (H.length + 2) (H ++ b0 :: b1 :: b2 :: b3 :: b4 :: b5 :: b6 :: L) x l := by
  refine Grow.of_obj h fun i v c hm hi => ?_
  obtain ⟨j, rfl⟩ : ∃ j, i = H.length + j := ⟨i - H.length, by omega⟩
  rw [get_own] at hi ⊢
  rw [get_own]
  rcases j with _ | _ | _ | _ | _ | _ | _ | j
  · omega
  · omega
  · simp at hi; exact absurd hi (h2 _ _)
  · simp at hi; exact absurd hi (h3 _ _)
  · simp at hi; exact absurd hi (h4 _ _)
  · simp at hi; exact absurd hi (h5 _ _)
  · simp at hi; exact absurd hi (h6 _ _)
  · simp
/-- A round, where the record's code is named. -/
theorem WC_round2 {P : Program} {cs : Cfgs} {m id ver n : Nat} {args : List CV} {H : Hp} {K : CV → Hp → Prop} {fn : FuncId} {ts : List CV} {ps : Array Tmp} {a b a' b' : Code} (h0 : H[id]? = some (.loop ver fn ts ps a b .ready none)) (ha : args.length = ps.size) (hn : ts.length = n) (hA : a = a') (hB : b = b') :
    WC P cs m (.y id ver) args H K ↔ W ⟨P, cs, { cs.of fn with inR := true }, m, n⟩ a' (roundFr ts ps args) H fun e fr1 H1 => e = .norm ∧ WX (busyR id ver H1) fun H1' =>
      W ⟨P, cs, { cs.of fn with inR := true }, m, n⟩ b' fr1 H1' fun e2 _ H3 => WX (doneR id ver e2 H3) fun H4 => K (.v (.bool e2.jump.isNone)) H4 := by
  subst hn hA hB; exact WC_round h0 ha
variable [LayerC]
theorem w34 (m : Nat) (x : CV) (b : Bs) (H : Hp) (hx : RB H x b) (hb : b.length ≤ 2000000) : WC prog cs0 m (.f 34) [x] H fun y H2 => H2 = H ∧ hdrR (hdrG b.length (lnS 0 b) [] none) y := by
  rw [WC_drop rfl func34 rfl rfl]
  have ux := hx.unl
  have c59 := fun m L => (w59 m x (H ++ L) hx.one ux hx.cells).wc
  obtain ⟨Z, hZ⟩ : ∃ Z, Z = hdrG b.length (lnS 0 b) [] none := ⟨_, rfl⟩
  rw [← hZ]
  have hle2 : H.length ≤ H.length + 1 + 1 := by omega
  simp -implicitDefEqProofs [f34, aQ, dAlloc, ux, c59, b99_0, store_at iT97, store_at iT3, cells_agg, stQ, topLe, hle2, cells_ptr]
  simp only [Nat.add_assoc, Nat.reduceAdd]
  refine W_range2 89 [.ptr (H.length + 5) 0 0] rfl (by simp) (by rw [func89]; rfl) ?_
  intro ts A B hA hB hn hts
  have hn : ts.length = 57 := hn
  have ts5 : ts[5]? = some (.ptr (H.length + 2) 0 0) := by simpa using hts 5 (show 5 < 57 by decide)
  have ts6 : ts[6]? = some (.ptr (H.length + 3) 0 0) := by simpa using hts 6 (show 6 < 57 by decide)
  have ts7 : ts[7]? = some (.ptr (H.length + 4) 0 0) := by simpa using hts 7 (show 7 < 57 by decide)
  clear hts
  obtain ⟨BX, hBX⟩ : ∃ BX : LoopState → Option Code → Hp → Hp, ∀ st pe L, BX st pe L = CO.cells 0 [x] 22 :: CO.loop 0 34 ts #[14, 15] A B st pe :: L := ⟨_, fun _ _ _ => rfl⟩
  obtain ⟨J, hJ⟩ : ∃ J : Nat → Hp → Prop, ∀ p H', J p H' ↔ ∃ q n v a op l L, H' = H ++ CO.cells 0 zF 71 :: rdC q n v a op :: CO.cells 0 [.ptr (H.length + 1) 0 0] 97 :: CO.cells 0 zF 71 :: CO.cells 0 [.v (.int .i64 0)] 3 :: CO.cells 0 [x] 22 :: CO.loop 0 34 ts #[14, 15] A B .ready none :: L ∧ GF (H.length + 2) H' q l ∧ l.length ≤ 128 ∧ v.length ≤ p ∧ p ≤ b.length ∧ Z = hdrG b.length (lnS p (b.drop p)) l (opO n v a op) := ⟨_, fun _ _ => Iff.rfl⟩
  obtain ⟨D, hD⟩ : ∃ D : Hp → Prop, ∀ H', D H' ↔ ∃ q n v a op f k L, H' = H ++ CO.cells 0 zF 71 :: rdC q n v a op :: CO.cells 0 [.ptr (H.length + 1) 0 0] 97 :: CO.cells 0 f 71 :: CO.cells 0 [.v (.int .i64 (k : Nat))] 3 :: CO.cells 0 [x] 22 :: CO.loop 0 34 ts #[14, 15] A B .done (some (.exit 0)) :: L ∧
      ((∃ p c : Nat, c ≠ 0 ∧ f = [.v (.int .i64 (p : Nat)), .v (.int .i64 (c : Nat))] ∧ Z = .bad p c) ∨ (∃ l, f = zF ∧ GF (H.length + 2) H' q l ∧ Z = .ok l k)) := ⟨_, fun _ => Iff.rfl⟩
  have hid0 : ∀ (c0 c1 c2 c3 c4 c5 : CO), (H ++ [c0, c1, c2, c3, c4, c5]).length = H.length + 6 := fun _ _ _ _ _ _ => by simp
  simp only [hid0, List.append_assoc, List.cons_append, List.nil_append]
  have h0 : J 0 (H ++ CO.cells 0 zF 71 :: rdC nilC [] [] 0 false :: CO.cells 0 [.ptr (H.length + 1) 0 0] 97 :: CO.cells 0 zF 71 :: CO.cells 0 [.v (.int .i64 0)] 3 :: CO.cells 0 [x] 22 :: CO.loop 0 34 ts #[14, 15] A B .ready none :: []) := (hJ _ _).2 ⟨nilC, [], [], 0, false, [], [], rfl, Grow.nil _ _ 2 67, by simp, by simp, by simp, by rw [hZ]; rfl⟩
  refine WC_mono (w89 _ _ _ (H.length + 5) x b J D (by omega) ?_ ?_ ?_ _ h0) ?_
  · intro p H' hj
    obtain ⟨q, n, v, a, op, l, L, rfl, _⟩ := (hJ _ _).1 hj
    exact ⟨by simp [rdC], hx.app _⟩
  · intro p H' y hj hp hc hy hyn
    obtain ⟨q, n, v, a, op, l, L, rfl, hg, hl, hv, _, hz⟩ := (hJ _ _).1 hj
    have hid : (H ++ CO.cells 0 zF 71 :: rdC q n v a op :: CO.cells 0 [.ptr (H.length + 1) 0 0] 97 :: CO.cells 0 zF 71 :: CO.cells 0 [.v (.int .i64 0)] 3 :: CO.cells 0 [x] 22 :: CO.loop 0 34 ts #[14, 15] A B .ready none :: L)[H.length + 6]? = some (.loop 0 34 ts #[14, 15] A B .ready none) := by simp
    rw [WC_round2 hid (by rfl) hn hA hB]
    have r5 : ∀ a b, roundFr ts #[14, 15] [a, b] 5 = .ptr (H.length + 2) 0 0 := fun a b => by simp [roundFr, ts5]
    have r6 : ∀ a b, roundFr ts #[14, 15] [a, b] 6 = .ptr (H.length + 3) 0 0 := fun a b => by simp [roundFr, ts6]
    have r7 : ∀ a b, roundFr ts #[14, 15] [a, b] 7 = .ptr (H.length + 4) 0 0 := fun a b => by simp [roundFr, ts7]
    have r14 : ∀ a b, roundFr ts #[14, 15] [a, b] 14 = a := fun a b => by simp [roundFr, hn]
    have r15 : ∀ a b, roundFr ts #[14, 15] [a, b] 15 = b := fun a b => by simp [roundFr, hn]
    have hroom := crIdx_room (b.drop p) hc
    rw [List.length_drop] at hroom
    obtain ⟨k, hk⟩ : ∃ k, k = (crIdx (b.drop p)).toNat := ⟨_, rfl⟩
    have hN : lineN (b.drop p) = k + 2 := by unfold lineN; rw [if_neg (by omega), hk]
    rw [lnS_whole hc, hN, ← hk, List.drop_drop] at hz
    rw [hN] at hy ⊢
    obtain ⟨s, hs⟩ : ∃ s, s = (b.drop p).take k := ⟨_, rfl⟩
    rw [← hs] at hz
    have hsk : s.length = k := by rw [hs]; simp; omega
    have hs2 : ((b.drop p).take (k + 2)).take k = s := by rw [List.take_take, hs]; congr 1; omega
    have hll : ((b.drop p).take (k + 2)).length = k + 2 := by simp; omega
    generalize (b.drop p).take (k + 2) = line at *
    have hyB : RB (H ++ CO.cells 0 zF 71 :: rdC q n v a op :: CO.cells 0 [.ptr (H.length + 1) 0 0] 97 :: CO.cells 0 zF 71 :: CO.cells 0 [.v (.int .i64 0)] 3 :: CO.cells 0 [x] 22 :: CO.loop 0 34 ts #[14, 15] A B .busy none :: L) y line := by
      refine RB.of_cells hy fun id ver cs h => ?_
      have := cells_mid (X := H ++ [CO.cells 0 zF 71, rdC q n v a op, CO.cells 0 [.ptr (H.length + 1) 0 0] 97, CO.cells 0 zF 71, CO.cells 0 [.v (.int .i64 0)] 3, CO.cells 0 [x] 22]) (L := L) (CO.loop 0 34 ts #[14, 15] A B .busy none) (by simpa using h)
      simpa using this
    have hgB : GF (H.length + 2) (H ++ CO.cells 0 zF 71 :: rdC q n v a op :: CO.cells 0 [.ptr (H.length + 1) 0 0] 97 :: CO.cells 0 zF 71 :: CO.cells 0 [.v (.int .i64 0)] 3 :: CO.cells 0 [x] 22 :: CO.loop 0 34 ts #[14, 15] A B .busy none :: L) q l := GF.seven hg (by simp) (by simp) (by simp) (by simp) (by simp)
    have hyu := hyB.unl
    have hey := hyB.eqnil (P := prog) underlying22 hyn
    have hlen := hyB.len (P := prog) underlying22
    rw [hll] at hlen
    have hlen2 : ((k + 2 : Nat) : Int) = (k : Int) + 2 := by omega
    have hbz : b.length ≤ 2000000 := hb
    by_cases hk0 : k = 0
    · subst hk0
      have hs0 : s = [] := List.eq_nil_of_length_eq_zero hsk
      simp -implicitDefEqProofs [r5, r6, r7, r14, r15, busyR, hyu, hey, hlen, load_one underlying97 rfl iT97]
      have h60 := w60 H.length (H ++ [CO.cells 0 zF 71]) (CO.cells 0 [.ptr (H.length + 1) 0 0] 97 :: CO.cells 0 zF 71 :: CO.cells 0 [.v (.int .i64 0)] 3 :: CO.cells 0 [x] 22 :: CO.loop 0 34 ts #[14, 15] A B .busy none :: L) q n v a op l (by simp) (by simpa using hgB) hl (by omega)
      simp only [List.append_assoc, List.cons_append, List.nil_append, List.length_append, List.length_cons, List.length_nil, Nat.zero_add, Nat.add_assoc, Nat.reduceAdd] at h60
      refine WC_mono h60 ?_
      rintro y' H2 ⟨L2, x', v', hkp, rfl, hres⟩
      obtain ⟨L3, rfl, _⟩ := Kp.pre (Q := [CO.cells 0 [.ptr (H.length + 1) 0 0] 97, CO.cells 0 zF 71, CO.cells 0 [.v (.int .i64 0)] 3, CO.cells 0 [x] 22, CO.loop 0 34 ts #[14, 15] A B .busy none]) hkp (by simp)
      obtain ⟨p2, hp2, hwp⟩ : ∃ p2, p2 = p + 2 ∧ IntKind.i64.wrap ((p : Int) + 2) = (p2 : Int) := ⟨_, rfl, wrN (by omega) (by omega)⟩
      rcases hres with ⟨l', hsh, hl', hg', rfl⟩ | ⟨hsh, rfl⟩
      · rw [hdrG_end rfl hs0 hsh, ← hp2] at hz
        simp -implicitDefEqProofs [store_at iT71, store_at iT3, cells_agg, zF, doneR, Ex.jump, hwp]
        refine (hD _).2 ⟨x', n, v', a, false, _, p2, L3, rfl, .inr ⟨l', rfl, ?_, hz⟩⟩
        exact GF.seven hg' (by simp) (by simp) (by simp) (by simp) (by simp)
      · have ho : ∃ o, opO n v a op = some o ∧ o.a = a := by
          cases op with
          | true => exact ⟨_, rfl, rfl⟩
          | false => simp [opO, shutG] at hsh
        obtain ⟨o, ho, hoa⟩ := ho
        rw [ho] at hz hsh
        rw [hdrG_sh rfl (by rw [hs0]; simp) (by rw [hs0]; simp) hsh, hoa] at hz
        simp -implicitDefEqProofs [store_at iT71, store_at iT3, cells_agg, zF, doneR, Ex.jump, hwp]
        exact (hD _).2 ⟨x', n, v', a, false, _, p2, L3, rfl, .inl ⟨a, 50, by omega, rfl, hz⟩⟩
    obtain ⟨kk, hkk⟩ : ∃ kk, kk = k + 2 := ⟨_, rfl⟩
    have hk2 : ¬ kk = 2 := by omega
    have zl : zF.length = 2 := rfl
    have zd : zF.drop 2 = [] := rfl
    rw [← hkk] at hlen
    have hs0 : s ≠ [] := by rintro rfl; exact hk0 hsk.symm
    by_cases h998 : 998 < k
    · have h9' : 998 < (k : Int) := by omega
      rw [hdrG_long rfl (by simp only []; omega)] at hz
      have hk1000 : 1000 < kk := by omega
      simp -implicitDefEqProofs [r5, r6, r7, r14, r15, busyR, hyu, hey, hlen, hk2, hk1000, b71_2, store_at iT71, cells_agg, faddr_ptr, underlying71, load_one underlying29 rfl iT29, doneR, Ex.jump, zl, zd]
      exact (hD _).2 ⟨q, n, v, a, op, _, 0, L, rfl, .inl ⟨p, 40, by omega, rfl, hz⟩⟩
    have hk1000 : ¬ 1000 < kk := by omega
    have hwk : IntKind.i64.wrap ((kk : Int) - 2) = (k : Int) := wrN (by omega) (by omega)
    have hsl : dSlice prog 22 y none (some (.v (.int .i64 (k : Nat)))) (H ++ CO.cells 0 zF 71 :: rdC q n v a op :: CO.cells 0 [.ptr (H.length + 1) 0 0] 97 :: CO.cells 0 zF 71 :: CO.cells 0 [.v (.int .i64 0)] 3 :: CO.cells 0 [x] 22 :: CO.loop 0 34 ts #[14, 15] A B .busy none :: L) = some (cutC y 0 k) := by
      have := hyB.slice (P := prog) underlying22 iT5 sT5 none (some (.v (.int .i64 (k : Nat))))
      rw [this]
      have h1 : (k : Int) ≤ (line.length : Nat) := by rw [hll]; omega
      simp [h1]
    have hcut := hyB.cut (o := 0) (h := k) (by omega) (by omega)
    rw [List.drop_zero, hs2] at hcut
    have hcv := hcut.str (P := prog) (s := 22) (d := 9) false underlying22 underlying9 underlying5
    have hcu := hcut.unl
    simp -implicitDefEqProofs [r5, r6, r7, r14, r15, busyR, hyu, hey, hlen, hk2, hk1000]
    rw [W_draw _ _ _ _ _ _ followsT (by rfl)]
    simp -implicitDefEqProofs [r5, r6, r7, r14, r15, hyu, hlen, hwk, hsl, hcv, hcu, load_one underlying97 rfl iT97]
    have h61 := w61 H.length (H ++ [CO.cells 0 zF 71]) (CO.cells 0 [.ptr (H.length + 1) 0 0] 97 :: CO.cells 0 zF 71 :: CO.cells 0 [.v (.int .i64 0)] 3 :: CO.cells 0 [x] 22 :: CO.loop 0 34 ts #[14, 15] A B .busy none :: L) q n v a op l p s (by simp) (by simpa using hgB) hl (by omega) (by omega) hs0
    simp only [List.append_assoc, List.cons_append, List.nil_append, List.length_append, List.length_cons, List.length_nil, Nat.zero_add, Nat.add_assoc, Nat.reduceAdd] at h61
    refine WC_mono h61 ?_
    rintro y' H2 ⟨L2, x', n', v', a', op', hkp, rfl, hres⟩
    obtain ⟨L3, rfl, _⟩ := Kp.pre (Q := [CO.cells 0 [.ptr (H.length + 1) 0 0] 97, CO.cells 0 zF 71, CO.cells 0 [.v (.int .i64 0)] 3, CO.cells 0 [x] 22, CO.loop 0 34 ts #[14, 15] A B .busy none]) hkp (by simp)
    rw [hdrG_line rfl (by simp only []; omega) hs0] at hz
    simp only [] at hz
    rcases hres with ⟨p', hln, rfl⟩ | ⟨l', hln, rfl, hl', hg', rfl⟩
    · rw [hln] at hz
      simp -implicitDefEqProofs [store_at iT71, cells_agg, faddr_ptr, underlying71, load_one underlying29 rfl iT29, zF, doneR, Ex.jump]
      exact (hD _).2 ⟨x', n', v', a', op', _, 0, L3, rfl, .inl ⟨p', 50, by omega, rfl, hz⟩⟩
    · have hvl := lineG_len hln
      rw [hln] at hz
      simp only [] at hz
      have hol : ((opO n v a op).elim 0 fun o => o.x.length) ≤ v.length := by cases op <;> simp [opO]
      simp -implicitDefEqProofs [store_at iT71, cells_agg, faddr_ptr, underlying71, load_one underlying29 rfl iT29, zF, doneR, Ex.jump]
      refine (hJ _ _).2 ⟨x', n', v', a', true, l', L3, rfl, ?_, hl', by simp only [] at hvl; omega, by omega, hz⟩
      exact GF.seven hg' (by simp) (by simp) (by simp) (by simp) (by simp)
  · intro p H' hj hp hc
    obtain ⟨q, n, v, a, op, l, L, rfl, hg, hl, hv, _, hz⟩ := (hJ _ _).1 hj
    have hid : (H ++ CO.cells 0 zF 71 :: rdC q n v a op :: CO.cells 0 [.ptr (H.length + 1) 0 0] 97 :: CO.cells 0 zF 71 :: CO.cells 0 [.v (.int .i64 0)] 3 :: CO.cells 0 [x] 22 :: CO.loop 0 34 ts #[14, 15] A B .ready none :: L)[H.length + 6]? = some (.loop 0 34 ts #[14, 15] A B .ready none) := by simp
    rw [WC_round2 hid (by rfl) hn hA hB]
    have r6 : ∀ a b, roundFr ts #[14, 15] [a, b] 6 = .ptr (H.length + 3) 0 0 := fun a b => by simp [roundFr, ts6]
    have r14 : ∀ a b, roundFr ts #[14, 15] [a, b] 14 = a := fun a b => by simp [roundFr, hn]
    have r15 : ∀ a b, roundFr ts #[14, 15] [a, b] 15 = b := fun a b => by simp [roundFr, hn]
    have hzz : Z = .bad p 42 := by
      rw [hz]
      by_cases hr : b.drop p = []
      · rw [hr, lnS_nil, hdrG_nil]
        have := congrArg List.length hr; simp at this
        rw [show p = b.length by omega]
      · rw [lnS_last hr hc, hdrG_short rfl]
    simp -implicitDefEqProofs [r6, r14, r15, busyR, zF, rdC, eqnil_nil underlying22, b71_2, store_at iT71, cells_agg, faddr_ptr, underlying71, load_one underlying29 rfl iT29, doneR, Ex.jump]
    exact (hD _).2 ⟨q, n, v, a, op, _, 0, L, rfl, .inl ⟨p, 42, by omega, rfl, hzz⟩⟩
  · intro r H' hd
    obtain ⟨q, n, v, a, op, f, k, L, rfl, hcase⟩ := (hD _).1 hd
    rcases hcase with ⟨p, c, hc, rfl, hz⟩ | ⟨l, rfl, hg, hz⟩
    · have hc' : ¬ ((c : Int) = 0) := by omega
      simp -implicitDefEqProofs [afterR, jumpEx, zF, rdC, faddr_ptr, underlying71, load_one underlying29 rfl iT29, hc]
      rw [W_draw _ _ _ _ _ _ followsT (by rfl)]
      simp -implicitDefEqProofs [store_at iT71, cells_agg, load_aggp underlying71 rfl iT71, zF]
      rw [hz]; rfl
    · simp -implicitDefEqProofs [afterR, jumpEx, zF, rdC, faddr_ptr, underlying71, load_one underlying29 rfl iT29]
      rw [W_draw _ _ _ _ _ _ followsT (by rfl)]
      have hu := Grow.unl hg
      have hg2 : GF (H.length + 2) (H ++ CO.cells 0 [.v (.int .i64 0), .v (.int .i64 0)] 71 :: CO.cells 0 [q, str n, str v, .v (.int .i64 (a : Nat)), .v (.bool op)] 99 :: CO.cells 0 [.ptr (H.length + 1) 0 0] 97 :: CO.cells 0 [.v (.int .i64 0), .v (.int .i64 0)] 71 :: CO.cells 0 [.v (.int .i64 (k : Nat))] 3 :: CO.cells 0 [x] 22 :: CO.loop 0 34 ts #[14, 15] A B .exhausted (some (.exit 0)) :: L) q l := by
        have := GF.mid (X := H ++ [CO.cells 0 zF 71, rdC q n v a op, CO.cells 0 [.ptr (H.length + 1) 0 0] 97, CO.cells 0 zF 71, CO.cells 0 [.v (.int .i64 (k : Nat))] 3, CO.cells 0 [x] 22]) (L := L) (CO.loop 0 34 ts #[14, 15] A B .exhausted (some (.exit 0))) (by simpa using hg)
        simpa [rdC, zF] using this
      obtain ⟨y, g1, g2, g3, g4⟩ := Grow.frzV hg2 (k := H.length) (by omega) (fldS_clB l)
      simp -implicitDefEqProofs [store_at iT71, cells_agg, load_aggp underlying71 rfl iT71, load_one underlying97 rfl iT97, atP, faddr_ptr, underlying99, load_one underlying25 rfl iT25, load_one underlying3 rfl iT3, hu, g1, g2, g3]
      rw [hz]; exact ⟨y, g4, rfl⟩
end Go.Proofs.Tryz

/- Walks: the program's cut. -/
namespace Go.Proofs.Tryz
open Go Go.SL
set_option linter.unusedVariables false
set_option linter.unusedSimpArgs false

/-- What a border's line adds. -/
def outP (l : Bs) (p : Nat) (fr : Option Nat) (out : List Bs) : List Bs :=
  match fr with
  | some f => out ++ [(l.take (max (p - 2) f)).drop f]
  | none => out
/-- The texts between the borders' lines, as the program finds them. -/
def cutP (l b : Bs) : List Bs → Nat → Option Nat → List Bs → Option (List Bs)
  | [], _, _, _ => none
  | x :: xs, p, fr, out =>
    if edgeP x b = 0 then cutP l b xs (p + x.length) fr out else
    if edgeP x b = 2 then some (outP l p fr out) else cutP l b xs (p + x.length) (some (p + x.length)) (outP l p fr out)
theorem cutP_nil (l b : Bs) (p : Nat) (fr : Option Nat) (out : List Bs) : cutP l b [] p fr out = none := rfl
theorem cutP_cons (l b x : Bs) (xs : List Bs) (p : Nat) (fr : Option Nat) (out : List Bs) : cutP l b (x :: xs) p fr out =
    if edgeP x b = 0 then cutP l b xs (p + x.length) fr out else
    if edgeP x b = 2 then some (outP l p fr out) else cutP l b xs (p + x.length) (some (p + x.length)) (outP l p fr out) := rfl
/-- A slice of slices that grows. -/
def GY (m : Nat) (H : Hp) (x : CV) (ys : List CV) : Prop := Grow m H x ys ys.length 1 22
/-- Values read as these bytes. -/
def RBs (H : Hp) (ys : List CV) (l : List Bs) : Prop := ys.length = l.length ∧ ∀ i (h1 : i < ys.length) (h2 : i < l.length), RB H ys[i] l[i]
theorem RBs.nil (H : Hp) : RBs H [] [] := ⟨rfl, fun i h1 => by simp at h1⟩
theorem RBs.snoc {H : Hp} {ys : List CV} {l : List Bs} {y : CV} {s : Bs} (h : RBs H ys l) (hy : RB H y s) : RBs H (ys ++ [y]) (l ++ [s]) := by
  refine ⟨by simp [h.1], fun i h1 h2 => ?_⟩
  by_cases hi : i < ys.length
  · rw [List.getElem_append_left hi, List.getElem_append_left (by have := h.1; omega)]
    exact h.2 i hi _
  · have e : i = ys.length := by simp at h1; omega
    have e2 : i = l.length := by have := h.1; omega
    subst e
    rw [List.getElem_append_right (by omega), List.getElem_append_right (by omega)]
    simpa using hy
theorem oneCh (ys : List CV) : Chunks (ys.map fun y => [y]) 1 := by
  intro c hc; obtain ⟨p, _, rfl⟩ := List.mem_map.1 hc; rfl
theorem oneFlat (ys : List CV) : (ys.map fun y => [y]).flatten = ys := by
  induction ys with
  | nil => rfl
  | cons a l ih => rw [List.map_cons, List.flatten_cons, ih]; rfl
theorem GY.rs {m : Nat} {H : Hp} {x : CV} {ys : List CV} (h : GY m H x ys) : RS H x (ys.map fun y => [y]) 1 := by
  refine Grow.rs (m := m) (e := 22) ?_ (oneCh ys)
  rw [oneFlat, List.length_map]; exact h
theorem mkY (v : CV) (hc : cvCells v = some [v]) (H : Hp) : ∃ w M, dBuildSlice prog 75 1 [(0, v)] H false = some (w, H ++ M) ∧ dSrc prog (H ++ M) 75 1 w = some ([v], 1) ∧ unlit w = w := by
  cases hb : clB v with
  | true =>
    refine ⟨.im [v] 1 1, [], ?_, ?_, rfl⟩
    · simp [dBuildSlice, underlying75, fillC, zerosC, isU8, underlying22, hc, hb]
    · simp [dSrc, underlying75, atS]
  | false =>
    refine ⟨.sl H.length 0 0 1 1, [.cells 0 [v] 22], ?_, ?_, rfl⟩
    · simp [dBuildSlice, underlying75, fillC, zerosC, isU8, underlying22, hc, hb]
    · simp [dSrc, underlying75, atS]
/-- What cutting answers. -/
def cutQ (H : Hp) (k : Nat) (H' : Hp) (o : Option (List Bs)) (y : CV) : Prop :=
  match o with
  | some out => ∃ q ys, y = .tup [q, .v (.bool (decide (0 < out.length)))] ∧ RBs H ys out ∧ GY k H' q ys
  | none => y = .tup [nilC, .v (.bool false)]
theorem Grow.cells {m : Nat} {H : Hp} {x : CV} {cs : List CV} {n sz : Nat} {e : TypeId} (h : Grow m H x cs n sz e) : cvCells x = some [x] := by
  rcases h with ⟨_, _, rfl⟩ | ⟨_, _, _, _, rfl, _⟩ <;> rfl
theorem Grow.weaken {m k : Nat} {H : Hp} {x : CV} {cs : List CV} {n sz : Nat} {e : TypeId} (hk : k ≤ m) (h : Grow m H x cs n sz e) : Grow k H x cs n sz e := by
  rcases h with h | ⟨h1, id, ver, h2, h3⟩
  · exact .inl h
  · exact .inr ⟨h1, id, ver, by omega, h3⟩
theorem stQ_nil (m id ver off a b : Nat) : stQ m (.ptr id ver off) (.v (.slice none a b)) = true := by unfold stQ; simp only []; rw [show topLe 0 (.v (.slice none a b)) = true from rfl, Bool.or_true]
theorem cells_nil (a b : Nat) : cvCells (.v (.slice none a b)) = some [.v (.slice none a b)] := rfl
theorem Grow.mid {X L : Hp} {v fn k n sz : Nat} {e : TypeId} {cs : List CV} {ts : List CV} {ps : Array Tmp} {a b : Code} {st : LoopState} {pe : Option Code} {x : CV} (o : CO) (h : Grow k (X ++ .loop v fn ts ps a b st pe :: L) x cs n sz e) : Grow k (X ++ o :: L) x cs n sz e := by
  refine Grow.of_obj h fun i v c _ hi => ?_
  by_cases e : i = X.length
  · subst e; simp at hi
  · by_cases hl : i < X.length
    · rw [List.getElem?_append_left hl, List.getElem?_append_left hl]
    · rw [List.getElem?_append_right (by omega), List.getElem?_append_right (by omega)]
      obtain ⟨k, hk⟩ : ∃ k, i - X.length = k + 1 := ⟨i - X.length - 1, by omega⟩
      rw [hk]; rfl
/-- Objects ahead of those that grow have no bearing. -/
theorem GF8 {H L : Hp} {n sz : Nat} {e : TypeId} {cs : List CV} {a0 a1 a2 a3 a4 a5 a6 a7 b0 b1 b2 b3 b4 b5 b6 b7 : CO} {x : CV} (h : Grow (H.length + 8) (H ++ a0 :: a1 :: a2 :: a3 :: a4 :: a5 :: a6 :: a7 :: L) x cs n sz e) : Grow (H.length + 8) (H ++ b0 :: b1 :: b2 :: b3 :: b4 :: b5 :: b6 :: b7 :: L) x cs n sz e := by
  refine Grow.of_obj h fun i v c hm hi => ?_
  obtain ⟨j, rfl⟩ : ∃ j, i = H.length + (j + 8) := ⟨i - H.length - 8, by omega⟩
  rw [get_own, get_own]; rfl
variable [LayerC]
theorem w37 (m : Nat) (x : CV) (l b : Bs) (H H0 : Hp) (hm : m ≤ H.length) (hx0 : RB H0 x l) (hsub : ∀ y s, RB H0 y s → RB H y s) (hl : l.length ≤ 4294967280) (hb : b.length ≤ 4294967200) : WC prog cs0 m (.f 37) [x, str b] H fun y H' => (∃ L, H' = H ++ L) ∧ cutQ H0 H.length H' (cutP l b (linesS l) 0 none []) y := by
  have hx := hsub _ _ hx0
  rw [WC_raw rfl func37 rfl rfl]
  have ux := hx.unl
  have c63 := fun m L => (w63 m x (H ++ L) hx.one ux hx.cells).wc
  obtain ⟨Z, hZ⟩ : ∃ Z, Z = cutP l b (linesS l) 0 none [] := ⟨_, rfl⟩
  rw [← hZ]
  obtain ⟨K, hK⟩ : ∃ K : CV → Hp → Prop, ∀ y H', K y H' ↔ (∃ L, H' = H ++ L) ∧ cutQ H0 H.length H' Z y := ⟨_, fun _ _ => Iff.rfl⟩
  simp only [← hK]
  have hms : ∀ k, m ≤ H.length + k := fun k => by omega
  simp -implicitDefEqProofs [f37, aQ, dAlloc, ux, c63, hx.cells, store_at iT3, load_one underlying22 rfl iT22, Nat.add_assoc]
  refine W_range2 93 [.ptr (H.length + 6) 0 0] rfl (by simp) (by rw [func93]; rfl) ?_
  intro ts A B hA hB hn hts
  have hn : ts.length = 42 := hn
  have ts2 : ts[2]? = some (.ptr H.length 0 0) := by simpa using hts 2 (show 2 < 42 by decide)
  have ts3 : ts[3]? = some (.ptr (H.length + 1) 0 0) := by simpa using hts 3 (show 3 < 42 by decide)
  have ts4 : ts[4]? = some (.ptr (H.length + 2) 0 0) := by simpa using hts 4 (show 4 < 42 by decide)
  have ts5 : ts[5]? = some (.ptr (H.length + 3) 0 0) := by simpa using hts 5 (show 5 < 42 by decide)
  have ts6 : ts[6]? = some (.ptr (H.length + 4) 0 0) := by simpa using hts 6 (show 6 < 42 by decide)
  have ts7 : ts[7]? = some (.ptr (H.length + 5) 0 0) := by simpa using hts 7 (show 7 < 42 by decide)
  clear hts
  obtain ⟨HP, hHP⟩ : ∃ HP : CV → Bool → CV → Option Nat → LoopState → Option Code → Hp → Hp, ∀ r r2 q fo st pe L, HP r r2 q fo st pe L = H ++ CO.cells 0 [x] 22 :: CO.cells 0 [str b] 9 :: CO.cells 0 [r] 75 :: CO.cells 0 [.v (.bool r2)] 4 :: CO.cells 0 [q] 75 :: CO.cells 0 [fromV fo] 3 :: CO.cells 0 [x] 22 :: CO.loop 0 37 ts #[13, 14] A B st pe :: L := ⟨_, fun _ _ _ _ _ _ _ => rfl⟩
  obtain ⟨J, hJ⟩ : ∃ J : Nat → Hp → Prop, ∀ p H', J p H' ↔ ∃ q ys out fo L, H' = HP nilC false q fo .ready none L ∧ GY (H.length + 8) H' q ys ∧ RBs H0 ys out ∧ (∀ f, fo = some f → f ≤ p) ∧ out.length ≤ p ∧ p ≤ l.length ∧ Z = cutP l b (linesS (l.drop p)) p fo out := ⟨_, fun _ _ => Iff.rfl⟩
  obtain ⟨D, hD⟩ : ∃ D : Hp → Prop, ∀ H', D H' ↔ ∃ q ys, ∃ out : List Bs, ∃ fo L, H' = HP q (decide (0 < out.length)) q fo .done (some .ret) L ∧ GY (H.length + 8) H' q ys ∧ RBs H0 ys out ∧ Z = some out := ⟨_, fun _ => Iff.rfl⟩
  have hid0 : ∀ (c0 c1 c2 c3 c4 c5 c6 : CO), (H ++ [c0, c1, c2, c3, c4, c5, c6]).length = H.length + 7 := fun _ _ _ _ _ _ _ => by simp
  simp only [hid0, List.append_assoc, List.cons_append, List.nil_append]
  have h0 : J 0 (HP nilC false nilC none .ready none []) := (hJ _ _).2 ⟨nilC, [], [], none, [], rfl, Grow.nil _ _ 1 22, RBs.nil H0, by simp, by simp, by simp, by simpa using hZ⟩
  rw [hHP] at h0
  refine WC_mono (w93 _ _ _ (H.length + 6) x l J D (by omega) ?_ ?_ _ h0) ?_
  · intro p H' hj
    obtain ⟨q, ys, out, fo, L, rfl, _⟩ := (hJ _ _).1 hj
    rw [hHP]
    exact ⟨by simp, hx.app _⟩
  · intro p H' y hj hp hyc hy
    obtain ⟨q, ys, out, fo, L, rfl, hg, hr, hfo, hol, _, hz⟩ := (hJ _ _).1 hj
    have hid : (HP nilC false q fo .ready none L)[H.length + 7]? = some (.loop 0 37 ts #[13, 14] A B .ready none) := by rw [hHP]; simp
    rw [WC_round2 hid (by rfl) hn hA hB]
    have r2 : ∀ a b, roundFr ts #[13, 14] [a, b] 2 = .ptr H.length 0 0 := fun a b => by simp [roundFr, ts2]
    have r3 : ∀ a b, roundFr ts #[13, 14] [a, b] 3 = .ptr (H.length + 1) 0 0 := fun a b => by simp [roundFr, ts3]
    have r4 : ∀ a b, roundFr ts #[13, 14] [a, b] 4 = .ptr (H.length + 2) 0 0 := fun a b => by simp [roundFr, ts4]
    have r5 : ∀ a b, roundFr ts #[13, 14] [a, b] 5 = .ptr (H.length + 3) 0 0 := fun a b => by simp [roundFr, ts5]
    have r6 : ∀ a b, roundFr ts #[13, 14] [a, b] 6 = .ptr (H.length + 4) 0 0 := fun a b => by simp [roundFr, ts6]
    have r7 : ∀ a b, roundFr ts #[13, 14] [a, b] 7 = .ptr (H.length + 5) 0 0 := fun a b => by simp [roundFr, ts7]
    have r13 : ∀ a b, roundFr ts #[13, 14] [a, b] 13 = a := fun a b => by simp [roundFr, hn]
    have r14 : ∀ a b, roundFr ts #[13, 14] [a, b] 14 = b := fun a b => by simp [roundFr, hn]
    have hne : l.drop p ≠ [] := by intro h; have := congrArg List.length h; simp at this; omega
    have hn1 := lineN_le (l.drop p)
    rw [List.length_drop] at hn1
    have hn0 := lineN_pos hne
    rw [linesS_cons hne, List.drop_drop] at hz
    have hll : ((l.drop p).take (lineN (l.drop p))).length = lineN (l.drop p) := by simp; omega
    obtain ⟨line, hline⟩ : ∃ line, line = (l.drop p).take (lineN (l.drop p)) := ⟨_, rfl⟩
    rw [← hline] at hz hy hll
    have hlineE := hline
    rw [← hll] at hz hn1 hn0 hyc hlineE ⊢
    clear hline hy
    have hyH : RB H y line := by
      have := hx.cut (o := p) (h := p + line.length) (by omega) (by omega)
      rw [← hyc, List.drop_take, show p + line.length - p = line.length by omega, ← hlineE] at this
      exact this
    have hyB : RB (HP nilC false q fo .busy none L) y line := by rw [hHP]; exact hyH.app _
    have hgB : GY (H.length + 8) (HP nilC false q fo .busy none L) q ys := by
      rw [hHP] at hg ⊢
      have := Grow.mid (X := H ++ [CO.cells 0 [x] 22, CO.cells 0 [str b] 9, CO.cells 0 [nilC] 75, CO.cells 0 [.v (.bool false)] 4, CO.cells 0 [q] 75, CO.cells 0 [fromV fo] 3, CO.cells 0 [x] 22]) (L := L) (CO.loop 0 37 ts #[13, 14] A B .busy none) (by simpa [GY] using hg)
      simpa [GY] using this
    have hyu := hyB.unl
    have hlen := hyB.len (P := prog) underlying22
    have c64 := fun m => (w64 m y line b _ hyB (by omega) hb).wc
    rw [hHP] at hlen c64 hgB ⊢
    rw [cutP_cons] at hz
    by_cases h0 : edgeP line b = 0
    · rw [if_pos h0] at hz
      simp -implicitDefEqProofs [r2, r3, r4, r5, r6, r7, r13, r14, busyR, hyu, hlen, load_one underlying9 rfl iT9, c64, h0, doneR, Ex.jump]
      refine (hJ _ _).2 ⟨q, ys, out, fo, L, by rw [hHP], ?_, hr, fun f hf => by have := hfo f hf; omega, by omega, by omega, hz⟩
      exact GF8 hgB
    rw [if_neg h0] at hz
    obtain ⟨out2, ho2⟩ : ∃ out2, out2 = outP l p fo out := ⟨_, rfl⟩
    rw [← ho2] at hz
    obtain ⟨k, hk, hwp⟩ : ∃ k, k = p + line.length ∧ IntKind.i64.wrap ((p : Int) + (line.length : Int)) = (k : Int) := ⟨_, rfl, wrN (by omega) (by omega)⟩
    rw [← hk] at hz ⊢
    have hst : ∀ k x, stQ m (.ptr (H.length + k) 0 0) x = true := fun k x => by simp [stQ, hms]
    cases fo with
    | none =>
      obtain rfl : out2 = out := ho2
      have hgeq : ∀ H, dBin prog .geq 3 (fromV none) (.v (.int .i64 0)) H = some (.v (.bool false)) := fun H => by simp [fromV]
      simp -implicitDefEqProofs [r2, r3, r4, r5, r6, r7, r13, r14, busyR, hyu, hlen, load_one underlying9 rfl iT9, c64, h0, load_one underlying3 rfl iT3, hgeq, store_at iT3, hwp]
      have hcq := Grow.cells hgB
      have hlq := fun b4 b5 b6 b7 => (GY.rs (m := H.length + 8) (GF8 (b0 := CO.cells 0 [x] 22) (b1 := CO.cells 0 [str b] 9) (b2 := CO.cells 0 [nilC] 75) (b3 := CO.cells 0 [.v (.bool false)] 4) (b4 := b4) (b5 := b5) (b6 := b6) (b7 := b7) hgB)).len (P := prog) underlying75
      rw [List.length_map, hr.1] at hlq
      have huq := Grow.unl hgB
      by_cases h2 : edgeP line b = 2
      · rw [if_pos h2] at hz
        simp -implicitDefEqProofs [h2]
        rw [W_drawJ (SlotJ [(4, .ptr (H.length + 2) 0 0), (6, .ptr (H.length + 4) 0 0)]) [(1, 4), (2, 4)] _ _ _ _ _ _ followsT (by simp [SlotJ, r4, r6]) (by rfl) (fun _ => keep_slots (by rfl)) (by
          intro k j i oj oi hm h1 h2
          simp at hm
          rcases hm with ⟨rfl, rfl⟩ | ⟨rfl, rfl⟩ <;> simp at h1 h2 <;> subst h1 h2
          · exact cmt_ls (by rfl) rfl rfl rfl rfl rfl (List.mem_cons_of_mem _ (List.mem_singleton.2 rfl)) List.mem_cons_self (by omega)
          · exact cmt_lens (by rfl) rfl rfl rfl rfl rfl List.mem_cons_self)]
        simp -implicitDefEqProofs [r2, r3, r4, r5, r6, r7, load_one underlying75 rfl iT75, huq, hlq, hst, store_at iT75, store_at iT4, hcq, doneR, Ex.jump]
        exact (hD _).2 ⟨q, ys, out2, some k, L, by rw [hHP]; rfl, GF8 hgB, hr, hz⟩
      · rw [if_neg h2] at hz
        simp -implicitDefEqProofs [h2, doneR, Ex.jump]
        exact (hJ _ _).2 ⟨q, ys, out2, some k, L, by rw [hHP]; rfl, GF8 hgB, hr, fun f hf => by cases hf; omega, by omega, by omega, hz⟩
    | some f =>
      have hgeq : ∀ H, dBin prog .geq 3 (fromV (some f)) (.v (.int .i64 0)) H = some (.v (.bool true)) := fun H => by simp [fromV]
      simp -implicitDefEqProofs [r2, r3, r4, r5, r6, r7, r13, r14, busyR, hyu, hlen, load_one underlying9 rfl iT9, c64, h0, load_one underlying3 rfl iT3, hgeq]
      rw [W_drawJ TJ [(0, 6), (1, 6), (2, 6), (0, 8)] _ _ _ _ _ _ followsT trivial (by rfl) (fun _ _ _ => keep_T) (by
        intro k j i oj oi hm h1 h2
        simp at hm
        rcases hm with ⟨rfl, rfl⟩ | ⟨rfl, rfl⟩ | ⟨rfl, rfl⟩ | ⟨rfl, rfl⟩ <;> simp at h1 h2 <;> subst h1 h2
        · exact (cmt_of (by rfl) (.inr (.inl (pur_max rfl)))).j
        · exact (cmt_of (by rfl) (.inr (.inl (pur_max rfl)))).j
        · exact (cmt_of (by rfl) (.inr (.inl (pur_max rfl)))).j
        · exact cmt_grow (by rfl) (mon_load rfl) (gro_buildSlice rfl) _)]
      have hfp := hfo f rfl
      have hwA : IntKind.i64.wrap ((p : Int) - 2) = (p : Int) - 2 := wrap64 (by omega)
      obtain ⟨g, hg0⟩ : ∃ g, g = max (p - 2) f := ⟨_, rfl⟩
      have hmx : mx ((p : Int) - 2) (f : Nat) = (g : Int) := by unfold mx; split <;> omega
      have hcut := hx0.cut (o := f) (h := g) (by omega) (by omega)
      have hou : out2 = out ++ [(l.take g).drop f] := by rw [ho2, hg0]; rfl
      have hsl := fun L => (hx.app L).slice (P := prog) underlying22 iT5 sT5 (some (.v (.int .i64 (f : Nat)))) (some (.v (.int .i64 (g : Nat))))
      have hfg : f ≤ g := by omega
      have hgl : g ≤ l.length := by omega
      simp [hfg, hgl] at hsl
      simp -implicitDefEqProofs [r2, r3, r4, r5, r6, r7, r13, r14, load_one underlying75 rfl iT75, load_one underlying22 rfl iT22, load_one underlying3 rfl iT3, ux, hwA, fromV]
      obtain ⟨v, hv⟩ : ∃ v, v = cutC x f g := ⟨_, rfl⟩
      rw [← hv] at hcut hsl
      have hr2 : RBs H0 (ys ++ [v]) out2 := by rw [hou]; exact hr.snoc hcut
      have hd : dMax mx [.v (.int .i64 ((p : Int) - 2)), .v (.int .i64 (f : Nat))] = some (.v (.int .i64 (g : Nat))) := by rw [← hmx]; rfl
      obtain ⟨w, M, e1, e2, e3⟩ := mkY v hcut.cells (H ++ CO.cells 0 [x] 22 :: CO.cells 0 [str b] 9 :: CO.cells 0 [nilC] 75 :: CO.cells 0 [.v (.bool false)] 4 :: CO.cells 0 [q] 75 :: CO.cells 0 [fromV (some f)] 3 :: CO.cells 0 [x] 22 :: CO.loop 0 37 ts #[13, 14] A B .busy none :: L)
      obtain ⟨q2, H2, f1, f2, f3, f4, _⟩ := Grow.append (P := prog) (t := 75) (tx := 75) (y := w) underlying75 iT22 zT22 (by simp) sT22 (by omega) (by simp) (hgB.app M) e2 rfl (by have := hr.1; simp; omega) (by have := hr.1; omega)
      obtain ⟨L2, rfl⟩ : ∃ L2, H2 = H ++ CO.cells 0 [x] 22 :: CO.cells 0 [str b] 9 :: CO.cells 0 [nilC] 75 :: CO.cells 0 [.v (.bool false)] 4 :: CO.cells 0 [q] 75 :: CO.cells 0 [fromV (some f)] 3 :: CO.cells 0 [x] 22 :: CO.loop 0 37 ts #[13, 14] A B .busy none :: L2 := by
        refine ⟨H2.drop (H.length + 8), ?_⟩
        have := split_at f3
        rw [List.append_assoc, List.take_length_add_append] at this
        simpa using this
      have hg2 : GY (H.length + 8) (H ++ CO.cells 0 [x] 22 :: CO.cells 0 [str b] 9 :: CO.cells 0 [nilC] 75 :: CO.cells 0 [.v (.bool false)] 4 :: CO.cells 0 [q] 75 :: CO.cells 0 [fromV (some f)] 3 :: CO.cells 0 [x] 22 :: CO.loop 0 37 ts #[13, 14] A B .busy none :: L2) q2 (ys ++ [v]) := by
        unfold GY; rw [List.length_append]; exact f2
      have hap : ∀ y, apQ m q y = true := Grow.ap hgB (by omega)
      have hol2 : out2.length = out.length + 1 := by rw [hou]; simp
      have huq2 := Grow.unl hg2
      have hcq2 := Grow.cells hg2
      have hlen2 : ∀ L' c4 c5, dLenS prog 22 y (H ++ CO.cells 0 [x] 22 :: CO.cells 0 [str b] 9 :: CO.cells 0 [nilC] 75 :: CO.cells 0 [.v (.bool false)] 4 :: c4 :: c5 :: L') = some (.v (.int .i64 (line.length : Nat))) := fun L' c4 c5 => (hyH.app _).len underlying22
      simp only [fromV, List.append_assoc, List.cons_append] at e1 f1 hg2
      simp -implicitDefEqProofs [hd, hsl, e1, hap, f1, hst, store_at iT75, store_at iT3, hcq2, hlen2, hyu, hwp]
      have hcq := Grow.cells hg2
      have hlq := fun b4 b5 b6 b7 => (GY.rs (m := H.length + 8) (GF8 (b0 := CO.cells 0 [x] 22) (b1 := CO.cells 0 [str b] 9) (b2 := CO.cells 0 [nilC] 75) (b3 := CO.cells 0 [.v (.bool false)] 4) (b4 := b4) (b5 := b5) (b6 := b6) (b7 := b7) hg2)).len (P := prog) underlying75
      rw [List.length_map, hr2.1] at hlq
      have huq := Grow.unl hg2
      by_cases h2 : edgeP line b = 2
      · rw [if_pos h2] at hz
        simp -implicitDefEqProofs [h2]
        rw [W_drawJ (SlotJ [(4, .ptr (H.length + 2) 0 0), (6, .ptr (H.length + 4) 0 0)]) [(1, 4), (2, 4)] _ _ _ _ _ _ followsT (by simp [SlotJ, r4, r6]) (by rfl) (fun _ => keep_slots (by rfl)) (by
          intro k j i oj oi hm h1 h2
          simp at hm
          rcases hm with ⟨rfl, rfl⟩ | ⟨rfl, rfl⟩ <;> simp at h1 h2 <;> subst h1 h2
          · exact cmt_ls (by rfl) rfl rfl rfl rfl rfl (List.mem_cons_of_mem _ (List.mem_singleton.2 rfl)) List.mem_cons_self (by omega)
          · exact cmt_lens (by rfl) rfl rfl rfl rfl rfl List.mem_cons_self)]
        simp -implicitDefEqProofs [r2, r3, r4, r5, r6, r7, load_one underlying75 rfl iT75, huq, hlq, hst, store_at iT75, store_at iT4, hcq, doneR, Ex.jump]
        exact (hD _).2 ⟨q2, ys ++ [v], out2, some k, L2, by rw [hHP]; rfl, GF8 hg2, hr2, hz⟩
      · rw [if_neg h2] at hz
        simp -implicitDefEqProofs [h2, doneR, Ex.jump]
        exact (hJ _ _).2 ⟨q2, ys ++ [v], out2, some k, L2, by rw [hHP]; rfl, GF8 hg2, hr2, fun f hf => by cases hf; omega, by omega, by omega, hz⟩
  · intro r H' hd
    rcases hd with hj | hd
    · obtain ⟨q, ys, out, fo, L, rfl, hg, hr, hfo, hol, _, hz⟩ := (hJ _ _).1 hj
      rw [List.drop_length, linesS_nil, cutP_nil] at hz
      rw [hHP]
      simp -implicitDefEqProofs [afterR, jumpEx, store_at iT75, store_at iT4, stQ_nil, cells_nil, load_one underlying75 rfl iT75, load_one underlying4 rfl iT4]
      refine (hK _ _).2 ⟨⟨_, rfl⟩, ?_⟩
      rw [hz]; rfl
    · obtain ⟨q, ys, out, fo, L, rfl, hg, hr, hz⟩ := (hD _).1 hd
      have hu := Grow.unl hg
      have hrs := hg.rs
      rw [hHP] at hrs ⊢
      simp -implicitDefEqProofs [afterR, jumpEx, load_one underlying75 rfl iT75, load_one underlying4 rfl iT4, hu]
      refine (hK _ _).2 ⟨⟨_, rfl⟩, ?_⟩
      rw [hz]; refine ⟨q, ys, rfl, hr, ?_⟩
      rw [hHP] at hg
      have := Grow.mid (X := H ++ [CO.cells 0 [x] 22, CO.cells 0 [str b] 9, CO.cells 0 [q] 75, CO.cells 0 [.v (.bool (decide (0 < out.length)))] 4, CO.cells 0 [q] 75, CO.cells 0 [fromV fo] 3, CO.cells 0 [x] 22]) (L := L) (CO.loop 0 37 ts #[13, 14] A B .exhausted (some .ret)) (by simpa [GY] using hg)
      have := Grow.weaken (k := H.length) (by omega) this
      simpa [GY] using this
end Go.Proofs.Tryz

/- Trees of parts; walks: a part's kind, a kind's border. -/
namespace Go.Proofs.Tryz
open Go Go.SL
set_option linter.unusedVariables false
set_option linter.unusedSimpArgs false

/-- A tree of parts. -/
inductive Prt where
  | mk (fs : List Fld) (b : Bs) (ps : List Prt)
def Prt.fs : Prt → List Fld | .mk f _ _ => f
def Prt.b : Prt → Bs | .mk _ b _ => b
def Prt.ps : Prt → List Prt | .mk _ _ p => p
theorem Prt.ind {C : Prt → Prop} (h : ∀ fs b ps, (∀ p ∈ ps, C p) → C (.mk fs b ps)) (p : Prt) : C p :=
  Prt.rec (motive_1 := C) (motive_2 := fun ps => ∀ p ∈ ps, C p) (fun fs b ps ih => h fs b ps ih) (fun p hp => by cases hp) (fun p ps ih1 ih2 q hq => by
    rcases List.mem_cons.1 hq with rfl | hq
    · exact ih1
    · exact ih2 q hq) p
/-- A tree's value, closed. -/
inductive PV : Prt → List CV → Prop
  | mk {fs : List Fld} {b : Bs} {ps : List Prt} {f x q : CV} {ch : List (List CV)} (hf : Cls f (fs.map Fld.c).flatten fs.length 2) (hb : CB x b) (hl : ch.length = ps.length) (hc : Chunks ch 3) (hq : Cls q ch.flatten ps.length 3)
      (h : ∀ i (h1 : i < ps.length) (h2 : i < ch.length), PV ps[i] ch[i]) : PV (.mk fs b ps) [f, x, q]

def ctName : Bs := [99, 111, 110, 116, 101, 110, 116, 45, 116, 121, 112, 101]
def ctName2 : Bs := [67, 111, 110, 116, 101, 110, 116, 45, 84, 121, 112, 101]
theorem ct_low : low ctName2 = low ctName := by decide
theorem fall_low (l : List Fld) {a b : Bs} (h : low a = low b) : fall l a = fall l b := by unfold fall; rw [h]
def kText : Kd := ⟨[116, 101, 120, 116], [112, 108, 97, 105, 110], []⟩
/-- The kind of a part with these fields, and the error's number. -/
def kindO (fs : List Fld) : Kd × Int :=
  match fall fs ctName with
  | [] => (kText, 0)
  | [v] => match readK v with
    | some k => (k, 0)
    | none => (⟨[], [], []⟩, 70)
  | _ => (⟨[], [], []⟩, 81)
def kdR (fs : List Fld) (y : CV) : Prop := ∃ x, KV x (kindO fs).1 ∧ y = .tup [x, .v (.int .i64 (kindO fs).2)]
theorem rdK_val {o : Option Kd} {y : CV} (h : rdK o y) : ∃ t s q k e, y = .tup [.agg [str t, str s, q], .v (.int .i64 e)] ∧ KV (.agg [str t, str s, q]) k ∧ (k, e) = o.elim ((⟨[], [], []⟩ : Kd), (70 : Int)) (fun k' => (k', 0)) := by
  unfold rdK at h
  cases o with
  | some k => obtain ⟨x, ⟨q, rfl, hq⟩, rfl⟩ := h; exact ⟨_, _, q, k, 0, rfl, ⟨q, rfl, hq⟩, rfl⟩
  | none => obtain ⟨x, ⟨q, rfl, hq⟩, rfl⟩ := h; exact ⟨_, _, q, _, 70, rfl, ⟨q, rfl, hq⟩, rfl⟩

variable [LayerC]
theorem w14 (m : Nat) (f x q : CV) (fs : List Fld) (H : Hp) (hf : RS H f (fs.map Fld.c) 2) (hx : oneB x = true) (hq : oneB q = true) (hl : fs.length ≤ 4294967280) (hs : ∀ g ∈ fs, g.n.length ≤ 4294967280 ∧ g.v.length ≤ 4294967280) :
    WC prog cs0 m (.f 14) [.agg [f, x, q]] H fun y H2 => H2 = H ∧ kdR fs y := by
  rw [WC_drop rfl func14 rfl rfl]
  have hone := hf.one
  have hu := hf.unl
  have c27 := fun m L => (w27 m f fs ctName2 (H ++ L) (hf.app L) hl (by decide) (fun g hg => (hs g hg).1)).wc
  have hct : fall fs ctName2 = fall fs ctName := fall_low fs ct_low
  have hn2 : str [67, 111, 110, 116, 101, 110, 116, 45, 84, 121, 112, 101] = str ctName2 := rfl
  simp -implicitDefEqProofs [f14, aQ, dAlloc, cells_agg, hone, hx, hq, faddr_ptr, underlying28, load_one underlying25 rfl iT25, hu, hn2, c27, fgetV, hct, dExtract]
  cases ha : fall fs ctName with
  | nil =>
    simp -implicitDefEqProofs [b39_2, store_at iT39, cells_agg, load_aggp underlying39 rfl iT39]
    have hk : kindO fs = (kText, 0) := by unfold kindO; rw [ha]
    unfold kdR; rw [hk]
    exact ⟨_, ⟨nilC, rfl, .inr ⟨rfl, rfl, rfl⟩⟩, rfl⟩
  | cons v vs =>
    cases vs with
    | nil =>
      have hv : v.length ≤ 4294967280 := by
        have : v ∈ fall fs ctName := by rw [ha]; simp
        unfold fall at this
        obtain ⟨g, hg, rfl⟩ := List.mem_map.1 this
        exact (hs g (List.mem_filter.1 hg).1).2
      simp -implicitDefEqProofs
      refine WC_mono (w28 _ v _ hv) ?_
      rintro y H2 ⟨rfl, hy⟩
      obtain ⟨t, s, q', k, e, rfl, hkv, he⟩ := rdK_val hy
      obtain ⟨q2, hq2, hcl⟩ := hkv
      have : q' = q2 := by cases hq2; rfl
      subst this
      have hq1 := hcl.one
      obtain ⟨_, _, fz⟩ := hcl.frz (H ++ [CO.cells 0 [f, x, q] 28, CO.cells 0 [str t, str s, q'] 39]) H.length
      simp -implicitDefEqProofs [dExtract, store_at iT39, cells_agg, hq1, load_aggp underlying39 rfl iT39, fz]
      have hk : kindO fs = (k, e) := by
        unfold kindO; rw [ha, he]
        simp only []
        cases readK v <;> rfl
      unfold kdR; rw [hk]
      exact ⟨_, ⟨q', hq2, hcl⟩, rfl⟩
    | cons w vs =>
      have h1 : ¬ ((vs.length + 1 + 1 : Nat) : Int) = 0 := by omega
      simp -implicitDefEqProofs [b39_0, store_at iT39, cells_agg, load_aggp underlying39 rfl iT39]
      have hk : kindO fs = (⟨[], [], []⟩, 81) := by unfold kindO; rw [ha]
      unfold kdR; rw [hk]
      exact ⟨_, ⟨nilC, rfl, .inr ⟨rfl, rfl, rfl⟩⟩, rfl⟩
theorem w15 (hL : LayerC.b = true) (m : Nat) (f x q : CV) (fs : List Fld) (H : Hp) (hf : RS H f (fs.map Fld.c) 2) (hx : oneB x = true) (hq : oneB q = true) (hl : fs.length ≤ 4294967280) (hs : ∀ g ∈ fs, g.n.length ≤ 4294967280 ∧ g.v.length ≤ 4294967280) :
    WC prog cs0 m (.f 15) [.agg [f, x, q]] H fun y H2 => H2 = H ∧ kdR fs y := by
  rw [WC_drop rfl func15 rfl rfl]
  have hone := hf.one
  have hu := hf.unl
  have c29 := fun m L => (w29 m f fs ctName (H ++ L) (hf.app L) hl (by decide) (fun g hg => (hs g hg).1)).wc
  have hn2 : str [99, 111, 110, 116, 101, 110, 116, 45, 116, 121, 112, 101] = str ctName := rfl
  simp -implicitDefEqProofs [f15, aQ, dAlloc, cells_agg, hone, hx, hq, faddr_ptr, underlying28, load_one underlying25 rfl iT25, hu, hn2, c29, fgetV, dExtract]
  cases ha : fall fs ctName with
  | nil =>
    simp -implicitDefEqProofs [b39_2, store_at iT39, cells_agg, load_aggp underlying39 rfl iT39]
    have hk : kindO fs = (kText, 0) := by unfold kindO; rw [ha]
    unfold kdR; rw [hk]
    exact ⟨_, ⟨nilC, rfl, .inr ⟨rfl, rfl, rfl⟩⟩, rfl⟩
  | cons v vs =>
    cases vs with
    | nil =>
      have hv : v.length ≤ 4294967280 := by
        have : v ∈ fall fs ctName := by rw [ha]; simp
        unfold fall at this
        obtain ⟨g, hg, rfl⟩ := List.mem_map.1 this
        exact (hs g (List.mem_filter.1 hg).1).2
      simp -implicitDefEqProofs
      refine WC_mono (w30 hL _ v _ hv) ?_
      rintro y H2 ⟨rfl, hy⟩
      obtain ⟨t, s, q', k, e, rfl, hkv, he⟩ := rdK_val hy
      obtain ⟨q2, hq2, hcl⟩ := hkv
      have : q' = q2 := by cases hq2; rfl
      subst this
      have hq1 := hcl.one
      obtain ⟨_, _, fz⟩ := hcl.frz (H ++ [CO.cells 0 [f, x, q] 28, CO.cells 0 [str t, str s, q'] 39]) H.length
      simp -implicitDefEqProofs [dExtract, store_at iT39, cells_agg, hq1, load_aggp underlying39 rfl iT39, fz]
      have hk : kindO fs = (k, e) := by
        unfold kindO; rw [ha, he]
        simp only []
        cases readK v <;> rfl
      unfold kdR; rw [hk]
      exact ⟨_, ⟨q', hq2, hcl⟩, rfl⟩
    | cons w vs =>
      have h1 : ¬ ((vs.length + 1 + 1 : Nat) : Int) = 0 := by omega
      simp -implicitDefEqProofs [b39_0, store_at iT39, cells_agg, load_aggp underlying39 rfl iT39]
      have hk : kindO fs = (⟨[], [], []⟩, 81) := by unfold kindO; rw [ha]
      unfold kdR; rw [hk]
      exact ⟨_, ⟨nilC, rfl, .inr ⟨rfl, rfl, rfl⟩⟩, rfl⟩

/-- A border's signs. -/
def borC (c : UInt8) : Prop := (48 ≤ c.toNat ∧ c.toNat ≤ 57) ∨ (65 ≤ c.toNat ∧ c.toNat ≤ 90) ∨ (97 ≤ c.toNat ∧ c.toNat ≤ 122) ∨ c.toNat = 46 ∨ c.toNat = 45 ∨ c.toNat = 95
instance (c : UInt8) : Decidable (borC c) := by unfold borC; infer_instance
def boName : Bs := [98, 111, 117, 110, 100, 97, 114, 121]
/-- A kind's border. -/
def bord (ps : List Par) : Bs := if (∀ c ∈ (kget ps boName).getD [], borC c) ∧ ((kget ps boName).getD []).length ≤ 70 then (kget ps boName).getD [] else []
set_option maxHeartbeats 1600000 in
theorem w36 (m : Nat) (t s : Bs) (ps : List Par) (q : CV) (H : Hp) (hq : RS H q (ps.map Par.c) 2) (hb : ps.length ≤ 4294967280) (hv : ∀ p ∈ ps, p.v.length ≤ 4294967280) : Ret prog cs0 m 36 [.agg [str t, str s, q]] H (str (bord ps)) H := by
  unfold Ret
  rw [WC_drop rfl func36 rfl rfl]
  have hu := hq.unl
  have hone := hq.one
  have c62 := fun m L => (w62 m t s ps q boName (H ++ L) (hq.app L) hb).wc
  have hn2 : str [98, 111, 117, 110, 100, 97, 114, 121] = str boName := rfl
  generalize hz : (kget ps boName).getD [] = b
  have hbl : b.length ≤ 4294967280 := by
    subst hz
    unfold kget
    cases hf : ps.find? (fun p => p.n == boName) with
    | none => simp
    | some p => exact hv p (List.mem_of_find?_eq_some hf)
  have hbo : bord ps = if (∀ c ∈ b, borC c) ∧ b.length ≤ 70 then b else [] := by unfold bord; rw [hz]
  rw [hbo]
  simp -implicitDefEqProofs [f36, cells_agg, hone, load_aggp underlying39 rfl iT39, hn2, c62, kgetV, dExtract, hz, len_str underlying9]
  refine W_up b.length (fun i fr H' => H'.take H.length = H ∧ fr 3 = str b ∧ fr 13 = .v (.int .i64 b.length) ∧ fr 14 = .v (.int .i64 i) ∧ ∀ c ∈ b.take i, borC c) ?_ 0 _ _ (by omega) (by simp)
  rintro i fr H' hi ⟨hH, a3, a13, a14, hk⟩
  by_cases hlt : i < b.length
  · have hw := up64 hlt (by omega)
    have hy := take_all hk hlt
    have hno : ¬ borC b[i] → ¬ ((∀ c ∈ b, borC c) ∧ b.length ≤ 70) := fun h q => h (q.1 _ (List.getElem_mem hlt))
    obtain ⟨n, hn⟩ : ∃ n, n = b[i].toNat := ⟨_, rfl⟩
    have hcases : n < 45 ∨ n = 45 ∨ n = 46 ∨ n = 47 ∨ (48 ≤ n ∧ n ≤ 57) ∨ (58 ≤ n ∧ n ≤ 64) ∨ (65 ≤ n ∧ n ≤ 90) ∨ (91 ≤ n ∧ n ≤ 94) ∨ n = 95 ∨ n = 96 ∨ (97 ≤ n ∧ n ≤ 122) ∨ 122 < n := by omega
    rcases hcases with hh | hh | hh | hh | hh | hh | hh | hh | hh | hh | hh | hh <;> (
      first | have f1 : 97 ≤ b[i].toNat := by omega | have f1 : ¬ 97 ≤ b[i].toNat := by omega
      first | have f2 : 65 ≤ b[i].toNat := by omega | have f2 : ¬ 65 ≤ b[i].toNat := by omega
      first | have f3 : 48 ≤ b[i].toNat := by omega | have f3 : ¬ 48 ≤ b[i].toNat := by omega
      first | have f4 : 122 < b[i].toNat := by omega | have f4 : ¬ 122 < b[i].toNat := by omega
      first | have f5 : 90 < b[i].toNat := by omega | have f5 : ¬ 90 < b[i].toNat := by omega
      first | have f6 : 57 < b[i].toNat := by omega | have f6 : ¬ 57 < b[i].toNat := by omega
      first | have f7 : b[i].toNat = 46 := by omega | have f7 : ¬ b[i].toNat = 46 := by omega
      first | have f8 : b[i].toNat = 45 := by omega | have f8 : ¬ b[i].toNat = 45 := by omega
      first | have f9 : b[i].toNat = 95 := by omega | have f9 : ¬ b[i].toNat = 95 := by omega
      first | have g1 : b[i].toNat ≤ 122 := by omega | have g1 : ¬ b[i].toNat ≤ 122 := by omega
      first | have g2 : b[i].toNat ≤ 90 := by omega | have g2 : ¬ b[i].toNat ≤ 90 := by omega
      first | have g3 : b[i].toNat ≤ 57 := by omega | have g3 : ¬ b[i].toNat ≤ 57 := by omega
      first | have hc : borC b[i] := by unfold borC; omega | have hc : ¬ borC b[i] := by unfold borC; omega
      simp -implicitDefEqProofs [a3, a13, a14, hlt, hw, hH, index_str underlying9, f1, f2, f3, f4, f5, f6, f7, f8, f9, g1, g2, g3]
      first
        | exact hy hc
        | rw [if_neg (hno hc)])
  · obtain rfl : i = b.length := by omega
    rw [List.take_length] at hk
    simp -implicitDefEqProofs [a3, a13, a14, len_str underlying9, hH]
    by_cases h70 : b.length ≤ 70
    · have : ¬ 70 < b.length := by omega
      rw [if_neg this, if_pos ⟨hk, h70⟩]
    · have : 70 < b.length := by omega
      rw [if_pos this, if_neg (fun h => h70 h.2)]
set_option maxHeartbeats 1600000 in
theorem w39 (m : Nat) (t s : Bs) (ps : List Par) (q : CV) (H : Hp) (hq : RS H q (ps.map Par.c) 2) (hb : ps.length ≤ 4294967280) (hv : ∀ p ∈ ps, p.v.length ≤ 4294967280) : Ret prog cs0 m 39 [.agg [str t, str s, q]] H (str (bord ps)) H := by
  unfold Ret
  rw [WC_drop rfl func39 rfl rfl]
  have hu := hq.unl
  have hone := hq.one
  have c70 := fun m L => (w70 m t s ps q boName (H ++ L) (hq.app L) hb).wc
  have hn2 : str [98, 111, 117, 110, 100, 97, 114, 121] = str boName := rfl
  generalize hz : (kget ps boName).getD [] = b
  have hbl : b.length ≤ 4294967280 := by
    subst hz
    unfold kget
    cases hf : ps.find? (fun p => p.n == boName) with
    | none => simp
    | some p => exact hv p (List.mem_of_find?_eq_some hf)
  have hbo : bord ps = if (∀ c ∈ b, borC c) ∧ b.length ≤ 70 then b else [] := by unfold bord; rw [hz]
  rw [hbo]
  simp -implicitDefEqProofs [f39, cells_agg, hone, load_aggp underlying39 rfl iT39, hn2, c70, kgetV, dExtract, hz, len_str underlying9]
  refine W_up b.length (fun i fr H' => H'.take H.length = H ∧ fr 3 = str b ∧ fr 5 = .v (.int .i64 i) ∧ ∀ c ∈ b.take i, borC c) ?_ 0 _ _ (by omega) (by simp)
  rintro i fr H' hi ⟨hH, a3, a5, hk⟩
  by_cases hlt : i < b.length
  · have hw := up64 hlt (by omega)
    have hy := take_all hk hlt
    have hno : ¬ borC b[i] → ¬ ((∀ c ∈ b, borC c) ∧ b.length ≤ 70) := fun h q => h (q.1 _ (List.getElem_mem hlt))
    obtain ⟨n, hn⟩ : ∃ n, n = b[i].toNat := ⟨_, rfl⟩
    have hcases : n < 45 ∨ n = 45 ∨ n = 46 ∨ n = 47 ∨ (48 ≤ n ∧ n ≤ 57) ∨ (58 ≤ n ∧ n ≤ 64) ∨ (65 ≤ n ∧ n ≤ 90) ∨ (91 ≤ n ∧ n ≤ 94) ∨ n = 95 ∨ n = 96 ∨ (97 ≤ n ∧ n ≤ 122) ∨ 122 < n := by omega
    rcases hcases with hh | hh | hh | hh | hh | hh | hh | hh | hh | hh | hh | hh <;> (
      first | have f1 : 97 ≤ b[i].toNat := by omega | have f1 : ¬ 97 ≤ b[i].toNat := by omega
      first | have f2 : 65 ≤ b[i].toNat := by omega | have f2 : ¬ 65 ≤ b[i].toNat := by omega
      first | have f3 : 48 ≤ b[i].toNat := by omega | have f3 : ¬ 48 ≤ b[i].toNat := by omega
      first | have f4 : 122 < b[i].toNat := by omega | have f4 : ¬ 122 < b[i].toNat := by omega
      first | have f5 : 90 < b[i].toNat := by omega | have f5 : ¬ 90 < b[i].toNat := by omega
      first | have f6 : 57 < b[i].toNat := by omega | have f6 : ¬ 57 < b[i].toNat := by omega
      first | have f7 : b[i].toNat = 46 := by omega | have f7 : ¬ b[i].toNat = 46 := by omega
      first | have f8 : b[i].toNat = 45 := by omega | have f8 : ¬ b[i].toNat = 45 := by omega
      first | have f9 : b[i].toNat = 95 := by omega | have f9 : ¬ b[i].toNat = 95 := by omega
      first | have g1 : b[i].toNat ≤ 122 := by omega | have g1 : ¬ b[i].toNat ≤ 122 := by omega
      first | have g2 : b[i].toNat ≤ 90 := by omega | have g2 : ¬ b[i].toNat ≤ 90 := by omega
      first | have g3 : b[i].toNat ≤ 57 := by omega | have g3 : ¬ b[i].toNat ≤ 57 := by omega
      first | have hc : borC b[i] := by unfold borC; omega | have hc : ¬ borC b[i] := by unfold borC; omega
      simp -implicitDefEqProofs [a3, a5, hlt, hw, hH, index_str underlying9, len_str underlying9, f1, f2, f3, f4, f5, f6, f7, f8, f9, g1, g2, g3]
      first
        | exact hy hc
        | rw [if_neg (hno hc)])
  · obtain rfl : i = b.length := by omega
    rw [List.take_length] at hk
    simp -implicitDefEqProofs [a3, a5, len_str underlying9, hH]
    by_cases h70 : b.length ≤ 70
    · have : ¬ 70 < b.length := by omega
      rw [if_neg this, if_pos ⟨hk, h70⟩]
    · have : 70 < b.length := by omega
      rw [if_pos this, if_neg (fun h => h70 h.2)]
end Go.Proofs.Tryz

/- Walks: trees are counted. -/
namespace Go.Proofs.Tryz
open Go Go.SL
set_option linter.unusedVariables false
set_option linter.unusedSimpArgs false

mutual
/-- How many parts, as an int counts; how deep. -/
def cntW : Prt → Int
  | .mk _ _ ps => cntL ps 1
def cntL : List Prt → Int → Int
  | [], n => n
  | p :: ps, n => cntL ps (IntKind.i64.wrap (n + cntW p))
end
mutual
def dep : Prt → Nat
  | .mk _ _ ps => depL ps 1
def depL : List Prt → Nat → Nat
  | [], d => d
  | p :: ps, d => depL ps (max d (dep p + 1))
end
theorem depL_ge (ps : List Prt) (d : Nat) : d ≤ depL ps d := by
  induction ps generalizing d with
  | nil => exact Nat.le_refl _
  | cons p ps ih => rw [depL]; exact Nat.le_trans (Nat.le_max_left _ _) (ih _)
theorem depL_mem {ps : List Prt} {p : Prt} (h : p ∈ ps) (d : Nat) : dep p + 1 ≤ depL ps d := by
  induction ps generalizing d with
  | nil => cases h
  | cons q ps ih =>
    rw [depL]
    rcases List.mem_cons.1 h with rfl | h
    · exact Nat.le_trans (Nat.le_max_right _ _) (depL_ge _ _)
    · exact ih h _
/-- The value of a part in a box. -/
theorem PV.inv {p : Prt} {cs : List CV} (h : PV p cs) : ∃ f x q ch, cs = [f, x, q] ∧ Cls f (p.fs.map Fld.c).flatten p.fs.length 2 ∧ CB x p.b ∧ ch.length = p.ps.length ∧ Chunks ch 3 ∧ (∀ H, RS H q ch 3) ∧ Cls q ch.flatten p.ps.length 3 ∧ ∀ i (h1 : i < p.ps.length) (h2 : i < ch.length), PV p.ps[i] ch[i] := by
  cases h with
  | mk hf hb hl hc hq h =>
    refine ⟨_, _, _, _, rfl, hf, hb, hl, hc, fun H => ?_, hq, h⟩
    refine Cls.rs ?_ hc H
    rw [hl]; exact hq
theorem PV.fld {f : CV} {fs : List Fld} (h : Cls f (fs.map Fld.c).flatten fs.length 2) (H : Hp) : RS H f (fs.map Fld.c) 2 := by
  refine Cls.rs ?_ (fldCh fs) H
  rw [List.length_map]; exact h

/-- Nothing in it is too long. -/
inductive Lim : Prt → Prop
  | mk {fs : List Fld} {b : Bs} {ps : List Prt} (hf : fs.length ≤ 1000000) (hn : ∀ f ∈ fs, f.n.length ≤ 1000000 ∧ f.v.length ≤ 1000000) (hb : b.length ≤ 1000000) (hp : ps.length ≤ 1000000) (h : ∀ q ∈ ps, Lim q) : Lim (.mk fs b ps)

variable [LayerC]
theorem w24 (p : Prt) : Lim p → dep p ≤ 1000 → ∀ (m : Nat) (cs : List CV) (H : Hp), PV p cs → Ret prog cs0 m 24 [.agg cs] H (.tup [.v (.int .i64 (cntW p)), .v (.int .i64 (dep p : Nat))]) H := by
  refine Prt.ind (C := fun p => Lim p → dep p ≤ 1000 → ∀ (m : Nat) (cs : List CV) (H : Hp), PV p cs → Ret prog cs0 m 24 [.agg cs] H (.tup [.v (.int .i64 (cntW p)), .v (.int .i64 (dep p : Nat))]) H) ?_ p
  intro fs b ps ih hlim hdep m cs H hpv
  obtain ⟨f, x, q, ch, rfl, hf, hb, hl, hc, hrs, hq, hch⟩ := hpv.inv
  cases hlim with
  | mk l1 l2 l3 l4 l5 =>
  simp only [Prt.ps] at hl hch hq
  unfold Ret
  rw [WC_drop rfl func24 rfl rfl]
  have hlen : ∀ H, dLenS prog 26 q H = some (.v (.int .i64 ps.length)) := fun H => by rw [(hrs H).len underlying26, hl]
  have uq := hq.unl
  have of := hf.one
  have ob := hb.one
  have oq := hq.one
  simp -implicitDefEqProofs [f24, cells_agg, of, ob, oq]
  obtain ⟨I, hI⟩ : ∃ I : Nat → Fr → Hp → Prop, ∀ i fr H', I i fr H' ↔ ∃ n d, H' = H ++ [CO.cells 0 [f, x, q] 28] ∧ fr 1 = .ptr H.length 0 0 ∧ fr 4 = .v (.int .i64 n) ∧ fr 5 = .v (.int .i64 (d : Nat)) ∧ fr 6 = .v (.int .i64 (i : Nat)) ∧ cntW (.mk fs b ps) = cntL (ps.drop i) n ∧ dep (.mk fs b ps) = depL (ps.drop i) d := ⟨_, fun _ _ _ => Iff.rfl⟩
  refine W_up ps.length I ?_ 0 _ _ (by omega) ((hI _ _ _).2 ⟨1, 1, by simp, by simp, by simp, by simp, by simp, by rw [cntW]; simp, by rw [dep]; simp⟩)
  intro i fr H' hi hinv
  obtain ⟨n, d, rfl, a1, a4, a5, a6, hn, hd⟩ := (hI _ _ _).1 hinv
  by_cases hlt : i < ps.length
  · have hw := up64 hlt (by omega)
    have hlt2 : i < ch.length := by omega
    have had := fun H => (hrs H).addr (P := prog) underlying26 iT28 sT28 .i64 i
    have hla := fun H => (hrs H).loadAgg (P := prog) underlying28 rfl iT28 sT28 hlt2
    simp [hlt2] at had
    have hdr := List.drop_eq_getElem_cons hlt
    have hdm := depL_mem (List.getElem_mem hlt) 1
    have hdp : dep ps[i] + 1 ≤ dep (.mk fs b ps) := by rw [dep]; exact hdm
    have c24 := fun m H => (ih ps[i] (List.getElem_mem hlt) (l5 _ (List.getElem_mem hlt)) (by omega) m ch[i] H (hch i hlt hlt2)).wc
    rw [hdr, cntL] at hn
    rw [hdr, depL] at hd
    obtain ⟨e, he, hw1⟩ := upJ (i := dep ps[i]) (n := 2000) (by omega) (by omega)
    simp -implicitDefEqProofs [a1, a4, a5, a6, hlen, hlt, faddr_ptr, underlying28, load_one underlying26 rfl iT26, uq, had, hla, c24, dExtract, hw, hw1]
    by_cases hde : d < e
    · have hm : max d (dep ps[i] + 1) = e := by omega
      rw [hm] at hd
      simp -implicitDefEqProofs [hde, hw1, hw, a6]
      exact (hI _ _ _).2 ⟨_, e, rfl, by simp [a1], by simp, by simp, by simp, hn, hd⟩
    · have hm : max d (dep ps[i] + 1) = d := by omega
      rw [hm] at hd
      simp -implicitDefEqProofs [hde, hw, a6]
      exact (hI _ _ _).2 ⟨_, d, rfl, by simp [a1], by simp, by simp [a5], by simp, hn, hd⟩
  · obtain rfl : i = ps.length := by omega
    rw [List.drop_length, cntL] at hn
    rw [List.drop_length, depL] at hd
    simp -implicitDefEqProofs [a1, a4, a5, a6, hlen, faddr_ptr, underlying28, load_one underlying26 rfl iT26, uq, hn, hd]

theorem w11 (m : Nat) (p : Prt) (n : Int) (cs : List CV) (H : Hp) (hl : Lim p) (hd : dep p ≤ 1000) (hp : PV p cs) : Ret prog cs0 m 11 [.agg cs, .v (.int .i64 n)] H (.v (.bool (decide (cntW p ≤ n)))) H := by
  unfold Ret
  rw [WC_drop rfl func11 rfl rfl]
  have c24 := fun m H => (w24 p hl hd m cs H hp).wc
  obtain ⟨f, x, q, ch, rfl, hf, hb, _, _, _, hq, _⟩ := hp.inv
  have of := hf.one
  have ob := hb.one
  have oq := hq.one
  simp -implicitDefEqProofs [f11, cells_agg, of, ob, oq, load_aggp underlying28 rfl iT28, c24, dExtract]

/-- Are fields too many for a statement, or too long? -/
def grF (l : List Fld) : Prop := 200 < l.length ∨ ∃ i, ∃ h : i < l.length, 200 < l[i].n.length ∨ 5000 < l[i].v.length ∨ (20 < i ∧ 100 < l[i].v.length)
theorem w23 (m : Nat) (x : CV) (l : List Fld) (H : Hp) (hx : RS H x (l.map Fld.c) 2) : ∃ b : Bool, (b = true ↔ grF l) ∧ Ret prog cs0 m 23 [x] H (.v (.bool b)) H := by
  refine ⟨@decide (grF l) (Classical.propDecidable _), by simp, ?_⟩
  unfold Ret
  rw [WC_drop rfl func23 rfl rfl]
  have ux := hx.unl
  have hlen := hx.len (P := prog) underlying25
  rw [List.length_map] at hlen
  by_cases h200 : 200 < l.length
  · have hg : grF l := .inl h200
    simp -implicitDefEqProofs [f23, ux, hlen, h200, hg]
  · simp -implicitDefEqProofs [f23, ux, hlen, h200]
    refine W_up l.length (fun i fr H' => H' = H ∧ fr 0 = x ∧ fr 3 = .v (.int .i64 i) ∧ ∀ j, ∀ h : j < l.length, j < i → ¬ (200 < l[j].n.length ∨ 5000 < l[j].v.length ∨ (20 < j ∧ 100 < l[j].v.length))) ?_ 0 _ _ (by omega) (by simp)
    rintro i fr H' hi ⟨rfl, a0, a3, hk⟩
    by_cases hlt : i < l.length
    · have hw := up64 hlt (by omega)
      have hlt2 : i < (l.map Fld.c).length := by simpa using hlt
      have had := hx.addr (P := prog) underlying25 iT67 sT67 .i64 i
      have hf0 := hx.fieldAddr (P := prog) (f := 0) underlying67 rfl iT9 (by simp) hlt2 (by simp)
      have hf1 := hx.fieldAddr (P := prog) (f := 1) underlying67 rfl iT9 (by simp) hlt2 (by simp)
      have hl0 := hx.loadPart (P := prog) (k := 0) underlying9 rfl iT9 hlt2 (by omega)
      have hl1 := hx.loadPart (P := prog) (k := 1) underlying9 rfl iT9 hlt2 (by omega)
      simp [Fld.c, hlt] at hl0 hl1 had
      simp at hf0 hf1
      by_cases c1 : 200 < l[i].n.length
      · have hg : grF l := .inr ⟨i, hlt, .inl c1⟩
        simp -implicitDefEqProofs [a0, a3, ux, hlen, hlt, had, hf0, hf1, hl0, hl1, len_str underlying9, c1, hg]
      by_cases c2 : 5000 < l[i].v.length
      · have hg : grF l := .inr ⟨i, hlt, .inr (.inl c2)⟩
        simp -implicitDefEqProofs [a0, a3, ux, hlen, hlt, had, hf0, hf1, hl0, hl1, len_str underlying9, c1, c2, hg]
      by_cases c3 : 20 < i
      · by_cases c4 : 100 < l[i].v.length
        · have hg : grF l := .inr ⟨i, hlt, .inr (.inr ⟨c3, c4⟩)⟩
          simp -implicitDefEqProofs [a0, a3, ux, hlen, hlt, had, hf0, hf1, hl0, hl1, len_str underlying9, c1, c2, c3, c4, hg]
        · simp -implicitDefEqProofs [a0, a3, ux, hlen, hlt, had, hf0, hf1, hl0, hl1, len_str underlying9, c1, c2, c3, c4, hw]
          intro j hj hji
          by_cases e : j = i
          · subst e; omega
          · have := hk j hj (by omega); omega
      · simp -implicitDefEqProofs [a0, a3, ux, hlen, hlt, had, hf0, hf1, hl0, hl1, len_str underlying9, c1, c2, c3, hw]
        intro j hj hji
        by_cases e : j = i
        · subst e; omega
        · have := hk j hj (by omega); omega
    · obtain rfl : i = l.length := by omega
      have hg : ¬ grF l := by
        rintro (h | ⟨j, hj, h⟩)
        · exact h200 h
        · exact hk j hj hj h
      simp -implicitDefEqProofs [a0, a3, ux, hlen, hg]
end Go.Proofs.Tryz

/- Walks: trees too great, trees that are the same. -/
namespace Go.Proofs.Tryz
open Go Go.SL
set_option linter.unusedVariables false
set_option linter.unusedSimpArgs false
/-- Is a tree too great for a statement? -/
def grT : Nat → Prt → Prop
  | 0, _ => True
  | n + 1, .mk fs b ps => grF fs ∨ 3000 < b.length ∨ 70 < ps.length ∨ ∃ q ∈ ps, grT n q
variable [LayerC]
theorem w10 (n : Nat) (hn : n ≤ 1000) : ∀ (p : Prt) (m : Nat) (cs : List CV) (H : Hp), PV p cs → ∃ r : Bool, (r = true ↔ grT n p) ∧ Ret prog cs0 m 10 [.agg cs, .v (.int .i64 (n : Nat))] H (.v (.bool r)) H := by
  induction n with
  | zero =>
    intro p m cs H hp
    obtain ⟨f, x, q, ch, rfl, hf, hb, _, _, _, hq, _⟩ := hp.inv
    have of := hf.one
    have ob := hb.one
    have oq := hq.one
    refine ⟨true, by simp [grT], ?_⟩
    unfold Ret
    rw [WC_drop rfl func10 rfl rfl]
    simp -implicitDefEqProofs [f10, cells_agg, of, ob, oq]
  | succ n ih =>
    intro p m cs H hp
    refine ⟨@decide (grT (n + 1) p) (Classical.propDecidable _), by simp, ?_⟩
    obtain ⟨f, x, q, ch, rfl, hf, hb, hl, hc, hrs, hq, hch⟩ := hp.inv
    obtain ⟨fs, b, ps⟩ := p
    simp only [Prt.fs, Prt.b, Prt.ps] at hf hb hl hq hch
    have of := hf.one
    have ob := hb.one
    have oq := hq.one
    have uf := hf.unl
    have ux := hb.unl
    have uq := hq.unl
    obtain ⟨r23, h23, w23'⟩ := w23 H.length f fs (H ++ [CO.cells 0 [f, x, q] 28]) (PV.fld hf _)
    have c23 := w23'.wc
    have hlx := fun H => (hb.rb H).len (P := prog) underlying22
    have hlen : ∀ H, dLenS prog 26 q H = some (.v (.int .i64 ps.length)) := fun H => by rw [(hrs H).len underlying26, hl]
    have hw0 : IntKind.i64.wrap (((n + 1 : Nat) : Int) - 1) = (n : Int) := wrN (by omega) (by omega)
    unfold Ret
    rw [WC_drop rfl func10 rfl rfl]
    have hle : ¬ ((n + 1 : Nat) : Int) ≤ 0 := by omega
    obtain ⟨k, hk⟩ : ∃ k, k = n + 1 := ⟨_, rfl⟩
    rw [← hk] at hw0 hle ⊢
    have hk0 : ¬ k = 0 := by omega
    have hgr : grT k (.mk fs b ps) ↔ (grF fs ∨ 3000 < b.length ∨ 70 < ps.length ∨ ∃ q ∈ ps, grT n q) := by rw [hk, grT]
    by_cases g1 : grF fs
    · have hr : r23 = true := h23.2 g1
      have hg : grT k (.mk fs b ps) := hgr.2 (.inl g1)
      simp -implicitDefEqProofs [f10, cells_agg, of, ob, oq, faddr_ptr, underlying28, load_one underlying25 rfl iT25, uf, c23, hr, hk0, hg]
    have hr : r23 = false := by cases r23; rfl; exact absurd (h23.1 rfl) g1
    by_cases g2 : 3000 < b.length
    · have hg : grT k (.mk fs b ps) := hgr.2 (.inr (.inl g2))
      simp -implicitDefEqProofs [f10, cells_agg, of, ob, oq, faddr_ptr, underlying28, load_one underlying25 rfl iT25, load_one underlying22 rfl iT22, uf, ux, c23, hr, hk0, hlx, g2, hg]
    by_cases g3 : 70 < ps.length
    · have hg : grT k (.mk fs b ps) := hgr.2 (.inr (.inr (.inl g3)))
      simp -implicitDefEqProofs [f10, cells_agg, of, ob, oq, faddr_ptr, underlying28, load_one underlying25 rfl iT25, load_one underlying22 rfl iT22, load_one underlying26 rfl iT26, uf, ux, uq, c23, hr, hk0, hlx, hlen, g2, g3, hg]
    simp -implicitDefEqProofs [f10, cells_agg, of, ob, oq, faddr_ptr, underlying28, load_one underlying25 rfl iT25, load_one underlying22 rfl iT22, load_one underlying26 rfl iT26, uf, ux, uq, c23, hr, hk0, hlx, hlen, g2, g3]
    refine W_up ps.length (fun i fr H' => H' = H ++ [CO.cells 0 [f, x, q] 28] ∧ fr 1 = .v (.int .i64 (k : Nat)) ∧ fr 2 = .ptr H.length 0 0 ∧ fr 5 = .v (.int .i64 (i : Nat)) ∧ ∀ j, ∀ h : j < ps.length, j < i → ¬ grT n ps[j]) ?_ 0 _ _ (by omega) (by simp)
    rintro i fr H' hi ⟨rfl, a1, a2, a5, hkk⟩
    by_cases hlt : i < ps.length
    · have hw := up64 hlt (by omega)
      have hlt2 : i < ch.length := by omega
      have had := fun H => (hrs H).addr (P := prog) underlying26 iT28 sT28 .i64 i
      have hla := fun H => (hrs H).loadAgg (P := prog) underlying28 rfl iT28 sT28 hlt2
      simp [hlt2] at had
      obtain ⟨r10, h10, w10'⟩ := ih (by omega) ps[i] H.length ch[i] (H ++ [CO.cells 0 [f, x, q] 28]) (hch i hlt hlt2)
      have c10 := w10'.wc
      cases r10 with
      | true =>
        have hg : grT k (.mk fs b ps) := hgr.2 (.inr (.inr (.inr ⟨_, List.getElem_mem hlt, h10.1 rfl⟩)))
        simp -implicitDefEqProofs [a1, a2, a5, hlen, hlt, faddr_ptr, underlying28, load_one underlying26 rfl iT26, uq, had, hla, hw0, c10, hg]
      | false =>
        simp -implicitDefEqProofs [a1, a2, a5, hlen, hlt, faddr_ptr, underlying28, load_one underlying26 rfl iT26, uq, had, hla, hw0, c10, hw]
        intro j hj hji
        by_cases e : j = i
        · subst e; intro h; have := h10.2 h; cases this
        · exact hkk j hj (by omega)
    · obtain rfl : i = ps.length := by omega
      have hg : ¬ grT k (.mk fs b ps) := by
        rw [hgr]
        rintro (h | h | h | ⟨q', hq', h⟩)
        · exact g1 h
        · exact g2 h
        · exact g3 h
        · obtain ⟨j, hj, rfl⟩ := List.getElem_of_mem hq'
          exact hkk j hj hj h
      simp -implicitDefEqProofs [a1, a2, a5, hlen, faddr_ptr, underlying28, load_one underlying26 rfl iT26, uq, hg]
end Go.Proofs.Tryz

/- Walks: trees that are the same; a copy. -/
namespace Go.Proofs.Tryz
open Go Go.SL
set_option linter.unusedVariables false
set_option linter.unusedSimpArgs false
/-- Of p it is known when another tree is the same. -/
def SameOK [LayerC] (p : Prt) : Prop := Lim p → ∀ (r : Prt) (m : Nat) (cs ds : List CV) (H : Hp), PV p cs → PV r ds → ∃ b : Bool, (b = true ↔ p = r) ∧ Ret prog cs0 m 9 [.agg cs, .agg ds] H (.v (.bool b)) H
variable [LayerC]
theorem w22 (ps rs : List Prt) (ih : ∀ p ∈ ps, SameOK p) (hlim : ∀ p ∈ ps, Lim p) (hpl : ps.length ≤ 1000000) (m : Nat) (x y : CV) (ch dh : List (List CV)) (H : Hp) (hx : ∀ H, RS H x ch 3) (hy : ∀ H, RS H y dh 3) (hl : ch.length = ps.length) (hl2 : dh.length = rs.length)
    (h1 : ∀ i (h1 : i < ps.length) (h2 : i < ch.length), PV ps[i] ch[i]) (h2 : ∀ i (h1 : i < rs.length) (h2 : i < dh.length), PV rs[i] dh[i]) : ∃ b : Bool, (b = true ↔ ps = rs) ∧ Ret prog cs0 m 22 [x, y] H (.v (.bool b)) H := by
  refine ⟨@decide (ps = rs) (Classical.propDecidable _), by simp, ?_⟩
  unfold Ret
  rw [WC_drop rfl func22 rfl rfl]
  have ux := (hx H).unl
  have uy := (hy H).unl
  have lx := fun H => (hx H).len (P := prog) underlying26
  have ly := fun H => (hy H).len (P := prog) underlying26
  rw [hl] at lx
  rw [hl2] at ly
  by_cases hll : ps.length = rs.length
  · simp -implicitDefEqProofs [f22, ux, uy, lx, ly, hll]
    refine W_up ps.length (fun i fr H' => H' = H ∧ fr 0 = x ∧ fr 1 = y ∧ fr 5 = .v (.int .i64 (i : Nat)) ∧ ps.take i = rs.take i) ?_ 0 _ _ (by omega) (by simp)
    rintro i fr H' hi ⟨rfl, a0, a1, a5, hk⟩
    by_cases hlt : i < ps.length
    · have hw := up64 hlt (by omega)
      have q1 : i < ch.length := by omega
      have q2 : i < dh.length := by omega
      have q3 : i < rs.length := by omega
      have ad1 := fun H => (hx H).addr (P := prog) underlying26 iT28 sT28 .i64 i
      have ad2 := fun H => (hy H).addr (P := prog) underlying26 iT28 sT28 .i64 i
      have la1 := fun H => (hx H).loadAgg (P := prog) underlying28 rfl iT28 sT28 q1
      have la2 := fun H => (hy H).loadAgg (P := prog) underlying28 rfl iT28 sT28 q2
      simp [q1] at ad1
      simp [q2] at ad2
      obtain ⟨b, hb, hw9⟩ := ih _ (List.getElem_mem hlt) (hlim _ (List.getElem_mem hlt)) rs[i] H'.length ch[i] dh[i] H' (h1 i hlt q1) (h2 i q3 q2)
      have c9 := hw9.wc
      simp -implicitDefEqProofs [a0, a1, a5, lx, ux, hlt]
      rw [W_draw _ _ _ _ _ _ followsT (by rfl)]
      cases b with
      | true =>
        simp -implicitDefEqProofs [a0, a1, a5, ux, uy, ad1, ad2, la1, la2, c9, hw]
        rw [take_snoc hlt, take_snoc q3, hk, hb.1 rfl]
      | false =>
        have hne : ¬ ps = rs := by
          rintro rfl
          have := hb.2 rfl
          cases this
        simp -implicitDefEqProofs [a0, a1, a5, ux, uy, ad1, ad2, la1, la2, c9, hne]
    · obtain rfl : i = ps.length := by omega
      rw [List.take_length, hll, List.take_length] at hk
      simp -implicitDefEqProofs [a0, a1, a5, lx, ux, hk]
  · have hne : ¬ ps = rs := fun h => hll (by rw [h])
    simp -implicitDefEqProofs [f22, ux, uy, lx, ly, hll, hne]

theorem w9 (p : Prt) : SameOK p := by
  refine Prt.ind (C := SameOK) ?_ p
  intro fs b ps ih hlim r m cs ds H hp hr
  obtain ⟨f, x, q, ch, rfl, hf, hb, hl, hc, hrs, hq, hch⟩ := hp.inv
  obtain ⟨f2, x2, q2, ch2, rfl, hf2, hb2, hl2, hc2, hrs2, hq2, hch2⟩ := hr.inv
  obtain ⟨gs, d, rs⟩ := r
  simp only [Prt.fs, Prt.b, Prt.ps] at hf hb hl hq hch hf2 hb2 hl2 hq2 hch2
  cases hlim with
  | mk l1 l2 l3 l4 l5 =>
  refine ⟨@decide (Prt.mk fs b ps = Prt.mk gs d rs) (Classical.propDecidable _), by simp, ?_⟩
  unfold Ret
  rw [WC_drop rfl func9 rfl rfl]
  have o1 := hf.one
  have o2 := hb.one
  have o3 := hq.one
  have o4 := hf2.one
  have o5 := hb2.one
  have o6 := hq2.one
  have u1 := hf.unl
  have u2 := hb.unl
  have u3 := hq.unl
  have u4 := hf2.unl
  have u5 := hb2.unl
  have u6 := hq2.unl
  have c21 := fun m H => (w21 m f f2 fs gs H (PV.fld hf _) (PV.fld hf2 _) (by omega)).wc
  have hs1 := fun H => (hb.rb H).str (P := prog) (s := 22) (d := 9) (cs0.of 9).mu underlying22 underlying9 underlying5
  have hs2 := fun H => (hb2.rb H).str (P := prog) (s := 22) (d := 9) (cs0.of 9).mu underlying22 underlying9 underlying5
  rw [mu9] at hs1 hs2
  obtain ⟨bb, hbb, hw22⟩ := w22 ps rs ih l5 l4 H.length q q2 ch ch2 (H ++ [CO.cells 0 [f, x, q] 28, CO.cells 0 [f2, x2, q2] 28]) hrs hrs2 hl hl2 hch hch2
  have c22 := hw22.wc
  by_cases e1 : fs = gs
  · by_cases e2 : b = d
    · cases bb with
      | true =>
        have e3 := hbb.1 rfl
        simp -implicitDefEqProofs [f9, cells_agg, o1, o2, o3, o4, o5, o6, faddr_ptr, underlying28, load_one underlying25 rfl iT25, load_one underlying22 rfl iT22, load_one underlying26 rfl iT26, u1, u2, u3, u4, u5, u6, c21, hs1, hs2, c22, e1, e2, e3]
      | false =>
        have e3 : ¬ ps = rs := fun h => by have := hbb.2 h; cases this
        simp -implicitDefEqProofs [f9, cells_agg, o1, o2, o3, o4, o5, o6, faddr_ptr, underlying28, load_one underlying25 rfl iT25, load_one underlying22 rfl iT22, load_one underlying26 rfl iT26, u1, u2, u3, u4, u5, u6, c21, hs1, hs2, c22, e1, e2, e3]
    · simp -implicitDefEqProofs [f9, cells_agg, o1, o2, o3, o4, o5, o6, faddr_ptr, underlying28, load_one underlying25 rfl iT25, load_one underlying22 rfl iT22, load_one underlying26 rfl iT26, u1, u2, u3, u4, u5, u6, c21, hs1, hs2, e1, e2]
  · simp -implicitDefEqProofs [f9, cells_agg, o1, o2, o3, o4, o5, o6, faddr_ptr, underlying28, load_one underlying25 rfl iT25, load_one underlying22 rfl iT22, load_one underlying26 rfl iT26, u1, u2, u3, u4, u5, u6, c21, hs1, hs2, e1]

/-- A copy: an object of its own. -/
theorem w6 (m : Nat) (x : CV) (l : Bs) (H : Hp) (hx : RB H x l) (hl : l.length ≤ 4294967280) : ∃ y H2, AccB H H2 y l 5 ∧ Ret prog cs0 m 6 [x] H y H2 := by
  have ux := hx.unl
  have h0 : AccB H H nilC [] 5 := Acc.nil H 1 5
  obtain ⟨y, H2, e1, e2⟩ := AccB.append' (P := prog) (t := 22) (tx := 22) (l' := l) underlying22 iT5 zT5 sT5 bT5 h0 (RB.src underlying22 hx) (by simp; omega)
  refine ⟨y, H2, by simpa using e2, ?_⟩
  unfold Ret
  rw [WC_raw rfl func6 rfl rfl]
  have u2 := e2.unl
  simp -implicitDefEqProofs [f6, ux, e1, u2]
end Go.Proofs.Tryz

/- Laws: what a header is written to is one alone; trees of small size; what writing a tree comes to. -/
namespace Go.Proofs.Tryz
open Go Go.SL
set_option linter.unusedVariables false
set_option linter.unusedSimpArgs false

theorem FoldR.det {s : Bs} {f : Nat} {a : List Bs} (h : FoldR s f a) : ∀ {b : List Bs}, FoldR s f b → a = b := by
  induction h with
  | @stop s f h =>
    intro b hb
    cases hb with
    | stop h2 => rfl
    | step h2 hp ho =>
      rcases h with h | h
      · omega
      · exact absurd (PL_uniq h hp) (by simp)
  | @step s f k out h hp ho ih =>
    intro b hb
    cases hb with
    | stop h2 =>
      rcases h2 with h2 | h2
      · omega
      · exact absurd (PL_uniq h2 hp) (by simp)
    | step h2 hp2 ho2 =>
      have := PL_uniq hp hp2
      cases this
      rw [ih ho2]
theorem FoldsR.det {l : List Fld} {a : List Bs} (h : FoldsR l a) : ∀ {b : List Bs}, FoldsR l b → a = b := by
  have key : ∀ {l : List Fld} {b : List Bs}, FoldsR l b → (l = [] ∧ b = []) ∨ ∃ l' f os o, l = l' ++ [f] ∧ b = os ++ o ∧ FoldsR l' os ∧ FoldR (lineF f) (f.n.length + 3) o := by
    intro l b h
    cases h with
    | nil => exact .inl ⟨rfl, rfl⟩
    | snoc h hf => exact .inr ⟨_, _, _, _, rfl, rfl, h, hf⟩
  induction h with
  | nil =>
    intro b hb
    rcases key hb with ⟨_, h⟩ | ⟨l', f, os, o, h, _⟩
    · exact h.symm
    · simp at h
  | @snoc l f o os h hf ih =>
    intro b hb
    rcases key hb with ⟨h, _⟩ | ⟨l', f', os', o', h1, rfl, h2, h3⟩
    · simp at h
    · obtain ⟨rfl, h4⟩ := List.append_inj' h1 rfl
      cases h4
      rw [ih h2, hf.det h3]
theorem WrR.det {l : List Fld} {a b : Option Bs} {e e' : Nat} (h : WrR l a e) (h' : WrR l b e') : a = b ∧ e = e' := by
  cases h with
  | long h =>
    cases h' with
    | long _ => exact ⟨rfl, rfl⟩
    | _ => omega
  | field h f hf hb =>
    cases h' with
    | long _ => omega
    | field => exact ⟨rfl, rfl⟩
    | line _ hb2 => exact absurd (hb2 f hf) hb
    | ok _ hb2 => exact absurd (hb2 f hf) hb
  | line h hb os ho s hs h9 =>
    cases h' with
    | long _ => omega
    | field _ f hf hb2 => exact absurd (hb f hf) hb2
    | line => exact ⟨rfl, rfl⟩
    | ok _ _ os2 ho2 h92 =>
      rw [ho.det ho2] at hs
      have := h92 s hs; omega
  | ok h hb os ho h9 =>
    cases h' with
    | long _ => omega
    | field _ f hf hb2 => exact absurd (hb f hf) hb2
    | line _ _ os2 ho2 s hs h92 =>
      rw [← ho.det ho2] at hs
      have := h9 s hs; omega
    | ok _ _ os2 ho2 => rw [ho.det ho2]; exact ⟨rfl, rfl⟩
open Classical in
/-- A header's text, if it may be written. -/
noncomputable def hdO (l : List Fld) : Option Bs := if h : ∃ b, WrR l (some b) 0 then some h.choose else none
theorem hd_of {l : List Fld} {o : Option Bs} {e : Nat} (h : WrR l o e) : hdO l = o ∧ (e = 0 ↔ o.isSome = true) := by
  have h2 : (e = 0 ↔ o.isSome = true) := by cases h <;> simp
  refine ⟨?_, h2⟩
  unfold hdO
  cases o with
  | some b =>
    have he : e = 0 := h2.2 rfl
    subst he
    have hex : ∃ b, WrR l (some b) 0 := ⟨b, h⟩
    rw [dif_pos hex]
    exact (WrR.det hex.choose_spec h).1
  | none =>
    rw [dif_neg]
    rintro ⟨b, hb⟩
    exact absurd (WrR.det h hb).1 (by simp)
theorem FoldR.len {s : Bs} {f : Nat} {a : List Bs} (h : FoldR s f a) : 1 ≤ f → a.length ≤ s.length + 1 := by
  induction h with
  | stop => intro _; simp
  | @step s f k out h hp ho ih =>
    intro hf
    have := ih (Nat.le_refl 1)
    have h1 := hp.1
    have h2 := hp.2.1
    simp at this ⊢; omega
section
variable [LayerC]
theorem FoldsR.len {l : List Fld} {a : List Bs} (h : FoldsR l a) : (∀ f ∈ l, isName f.n ∧ isVal f.v) → (emit a).length ≤ l.length * 13000 := by
  induction h with
  | nil => intro _; simp [emit]
  | @snoc l f o os h hf ih =>
    intro hb
    have h1 := ih fun g hg => hb g (by simp [hg])
    have h2 := (lineF_len (hb f (by simp))).1
    have h3 := hf.len (by omega)
    have h4 := hf.flat
    rw [emit_app, List.length_append, emit_len o, h4]
    simp only [List.length_append, List.length_singleton]
    omega
theorem hd_len {l : List Fld} {b : Bs} {e : Nat} (h : WrR l (some b) e) : b.length ≤ 2000000 := by
  cases h with
  | ok h hb os ho h9 =>
    have := ho.len hb
    simp [crlf]; omega

end
/-- Trees of small size. -/
inductive Lin : Prt → Prop
  | mk {fs : List Fld} {b : Bs} {ps : List Prt} (hf : fs.length ≤ 1000) (hn : ∀ f ∈ fs, f.n.length ≤ 100000 ∧ f.v.length ≤ 100000) (hb : b.length ≤ 1000000) (hp : ps.length ≤ 100) (h : ∀ q ∈ ps, Lin q) : Lin (.mk fs b ps)
theorem Lin.lim {p : Prt} : Lin p → Lim p := by
  refine Prt.ind (C := fun p => Lin p → Lim p) ?_ p
  intro fs b ps ih h
  cases h with
  | mk h1 h2 h3 h4 h5 => exact .mk (by omega) (fun f hf => ⟨by have := h2 f hf; omega, by have := h2 f hf; omega⟩) (by omega) (by omega) fun q hq => ih q hq (h5 q hq)
def mpart : Bs := [109, 117, 108, 116, 105, 112, 97, 114, 116]
theorem bord_len (ps : List Par) : (bord ps).length ≤ 70 := by
  unfold bord
  split
  · rename_i h; exact h.2
  · simp
noncomputable section
open Classical
mutual
/-- A part's text, as the program writes it, and how many parts were counted. -/
def wrPt : Prt → Nat → Nat → Option Bs × Nat
  | .mk fs b ps, d, c =>
    match hdO fs with
    | none => (none, c + 1)
    | some hd =>
      if (kindO fs).2 ≠ 0 ∨ 8 < d ∨ 64 < c + 1 then (none, c + 1)
      else if (kindO fs).1.t ≠ mpart then (if ps.length = 0 then some (hd ++ b) else none, c + 1)
      else if bord (kindO fs).1.ps = [] ∨ ps.length = 0 ∨ 0 < b.length then (none, c + 1)
      else wrLp ps (bord (kindO fs).1.ps) hd d (c + 1)
def wrLp : List Prt → Bs → Bs → Nat → Nat → Option Bs × Nat
  | [], bo, hd, d, c => (some (hd ++ (dash2 ++ bo ++ dash2 ++ crlf)), c)
  | p :: ps, bo, hd, d, c =>
    match wrPt p (d + 1) c with
    | (none, c2) => (none, c2)
    | (some t, c2) => if begL t (dash2 ++ bo) ∨ 1048576 < hd.length + t.length then (none, c2) else wrLp ps bo (hd ++ (dash2 ++ bo ++ crlf) ++ t ++ crlf) d c2
end
end
end Go.Proofs.Tryz

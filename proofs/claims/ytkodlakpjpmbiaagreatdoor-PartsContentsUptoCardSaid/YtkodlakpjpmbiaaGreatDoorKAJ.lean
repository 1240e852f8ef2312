/- Walks: lines are folded. -/
import Derived.Test.YtkodlakpjpmbiaaGreatDoorKAI
import Derived.Test.YtkodlakpjpmbiaaGreatDoorKAG

set_option linter.all false

namespace Go.Proofs.Tryz
open Go Go.SL
set_option linter.unusedVariables false
set_option linter.unusedSimpArgs false

/-- A line, folded. -/
inductive FoldR : Bs → Nat → List Bs → Prop
  | stop {s : Bs} {f : Nat} (h : s.length ≤ 76 ∨ PL s f none) : FoldR s f [s]
  | step {s : Bs} {f k : Nat} {out : List Bs} (h : 76 < s.length) (hp : PL s f (some k)) (ho : FoldR (s.drop k) 1 out) : FoldR s f (s.take k :: out)
theorem idb_first (l : Bs) (c : UInt8) : (Lib.indexByte l c = -1 ∧ ∀ j : Nat, l[j]? ≠ some c) ∨ ∃ q : Nat, Lib.indexByte l c = q ∧ q < l.length ∧ l[q]? = some c ∧ ∀ j, j < q → l[j]? ≠ some c := by
  induction l with
  | nil => left; simp [Lib.indexByte]
  | cons b l ih =>
    unfold Lib.indexByte
    by_cases e : b = c
    · right; exact ⟨0, by simp [e], by simp, by simp [e], fun j hj => by omega⟩
    · have h2 : (b == c) = false := by simp [e]
      rcases ih with ⟨h, h3⟩ | ⟨q, h, h3, h4, h5⟩
      · left
        refine ⟨by rw [h2, h]; rfl, fun j => ?_⟩
        cases j with
        | zero => simpa using e
        | succ j => simpa using h3 j
      · right
        refine ⟨q + 1, ?_, by simpa using h3, by simpa using h4, fun j hj => ?_⟩
        · rw [h2, h]
          have : ((q : Int) == -1) = false := by rw [beq_eq_false_iff_ne]; omega
          simp [this]
        · cases j with
          | zero => simpa using e
          | succ j => simpa using h5 j (by omega)
variable [LayerC]
theorem w74 (m : Nat) (s : Bs) (f : Nat) (H : Hp) (hs : s.length ≤ 100000) (hf : f ≤ 100000) (hf0 : 1 ≤ f) (hfs : 76 < s.length → f ≤ s.length) :
    ∃ y out, Cls y (strS out) out.length 1 ∧ FoldR s f out ∧ out.length ≤ s.length + 1 ∧ Ret prog cs0 m 85 [str s, .v (.int .i64 (f : Nat))] H y H := by
  suffices hsuf : WC prog cs0 m (.f 85) [str s, .v (.int .i64 (f : Nat))] H fun y H' => H' = H ∧ ∃ out, Cls y (strS out) out.length 1 ∧ FoldR s f out ∧ out.length ≤ s.length + 1 by
    obtain ⟨k, ⟨y, H'⟩, h1, h2, out, h3, h4, h5⟩ := hsuf
    simp only at h2 h3
    subst h2
    exact ⟨y, out, h3, h4, h5, k, _, h1, rfl, rfl⟩
  rw [WC_drop rfl func85 rfl rfl]
  simp -implicitDefEqProofs [f85]
  obtain ⟨I, hI⟩ : ∃ I : Nat → Fr → Hp → Prop, ∀ j fr H', I j fr H' ↔ ∃ a g out, j = a.length ∧ fr 0 = str a ∧ fr 1 = .v (.int .i64 (g : Nat)) ∧ Acc H H' (fr 5) (strS out) out.length 1 9 ∧ out.length + a.length ≤ s.length ∧ 1 ≤ g ∧ g ≤ 100000 ∧ (76 < a.length → g ≤ a.length) ∧ (∀ r, FoldR a g r → FoldR s f (out ++ r)) := ⟨_, fun _ _ _ => Iff.rfl⟩
  refine W_rounds I ?_ _ _ _ ((hI _ _ _).2 ⟨s, f, [], rfl, by simp, by simp, by simp; exact Acc.nil H 1 9, by simp, hf0, hf, hfs, fun r h => h⟩)
  intro j fr H' hi
  obtain ⟨a, g, out, rfl, a0, a1, ha, hol, hg1, hg2, hga, hfo⟩ := (hI _ _ _).1 hi
  have u5 := ha.unl
  have hap : ∀ y, apQ H.length (fr 5) y = true := ha.ap (Nat.le_refl _)
  have hlen : ∀ a : Bs, ∀ H, dLenS prog 9 (str a) H = some (.v (.int .i64 (a.length : Nat))) := fun a H => len_str underlying9 a H
  have hmk : ∀ (a : Bs) (H : Hp), dBuildSlice prog 80 1 [(0, str a)] H false = some (.im [str a] 1 1, H) := fun a H => by
    simp [dBuildSlice, underlying80, fillC, zerosC, isU8, underlying9]
  have hmk := hmk
  obtain ⟨x2, H2, e1, e2⟩ := Acc.append (P := prog) (t := 80) (tx := 80) (y := .im [str a] 1 1) underlying80 iT9 zT9 (by simp) sT9 (by omega) ha (src_clo (n := 1) underlying80 (.inl rfl) rfl _) rfl (by simp; omega) (by omega)
  obtain ⟨y, f1, f2⟩ := e2.frzV (Nat.le_refl _) (by rw [← strS_snoc]; exact strS_clB _)
  rw [← strS_snoc] at f2
  have u2 := e2.unl
  have ht2 := e2.take
  by_cases h76 : 76 < a.length
  case neg =>
    simp -implicitDefEqProofs [a0, a1, hlen, h76, u5, hmk, hap, e1, u2, f1, ht2]
    exact ⟨out ++ [a], by simpa using f2, hfo _ (.stop (.inl (by omega))), by simp; omega⟩
  have hga' := hga h76
  obtain ⟨r, hr, h98⟩ := w98 H.length (a.take 77) 32 H' (by simp; omega)
  have c98 := h98.wc
  simp at c98
  have hsl := fun H => slice_str (P := prog) (t := 9) underlying9 a none (some (.v (.int .i64 77))) H
  have h77 : 77 ≤ a.length := by omega
  simp [h77] at hsl
  have hkey : ∀ k : Nat, k < a.length → PL a g (some k) → ∃ x2 H2, dAppend prog 80 80 (fr 5) (.im [str (a.take k)] 1 1) H' = some (x2, H2) ∧ unlit x2 = x2 ∧ ∀ fr', fr' 0 = str (a.drop k) → fr' 1 = .v (.int .i64 1) → fr' 5 = x2 → ∃ j', j' < a.length ∧ I j' fr' H2 := by
    intro k hk hp
    obtain ⟨x2, H2, e1, e2⟩ := Acc.append (P := prog) (t := 80) (tx := 80) (y := .im [str (a.take k)] 1 1) underlying80 iT9 zT9 (by simp) sT9 (by omega) ha (src_clo (n := 1) underlying80 (.inl rfl) rfl _) rfl (by simp; omega) (by omega)
    refine ⟨x2, H2, e1, e2.unl, fun fr' b0 b1 b5 => ⟨(a.drop k).length, ?_, (hI _ _ _).2 ⟨a.drop k, 1, out ++ [a.take k], rfl, b0, b1, ?_, ?_, Nat.le_refl _, by omega, ?_, ?_⟩⟩⟩
    · have := hp.1; simp; omega
    · rw [b5, strS_snoc, List.length_append]; simpa using e2
    · have := hp.1; simp; omega
    · intro h; omega
    · intro r hr; rw [List.append_assoc]; exact hfo _ (.step h76 hp hr)
  have hu := fun k : Nat => slice_str (P := prog) (t := 9) underlying9 a none (some (.v (.int .i64 (k : Nat))))
  have hd := fun k : Nat => slice_str (P := prog) (t := 9) underlying9 a (some (.v (.int .i64 (k : Nat)))) none
  rcases Classical.em (∃ k : Nat, r = k ∧ g ≤ k) with ⟨k, rfl, hgk⟩ | hno
  · have hp : k < a.length ∧ PL a g (some k) := by
      rcases hr with ⟨h, _⟩ | ⟨k', h, h2, h3⟩
      · omega
      · obtain rfl : k = k' := by omega
        have hk : k < 77 := by
          rcases Nat.lt_or_ge k 77 with h' | h'
          · exact h'
          · rw [List.getElem?_eq_none (by simp; omega)] at h2; cases h2
        rw [List.getElem?_take_of_lt hk] at h2
        refine ⟨by omega, hgk, by omega, h2, .inl ⟨by omega, fun j h4 h5 h6 hc => h3 ?_⟩⟩
        have : (a.take 77)[j]? = some 32 := by rw [List.getElem?_take_of_lt (by omega)]; exact hc
        refine List.mem_of_getElem? (i := j - (k + 1)) ?_
        rw [List.getElem?_drop, show k + 1 + (j - (k + 1)) = j by omega]; exact this
    obtain ⟨x2, H2, e1, u2, hfin⟩ := hkey k hp.1 hp.2
    have hng : ¬ ((k : Int) < (g : Int)) := by omega
    have hka : k ≤ a.length := by omega
    have hu := hu k; have hd := hd k
    simp [hka] at hu hd
    simp -implicitDefEqProofs [a0, a1, hlen, h76, u5, hmk, hap, hsl, c98, hng, hu, hd, e1, u2]
    refine hfin _ ?_ ?_ ?_ <;> simp
  · have hrg : r < (g : Int) := by
      rcases Int.lt_or_le r g with h | h
      · exact h
      · exact absurd ⟨r.toNat, by omega, by omega⟩ hno
    obtain ⟨M, hM⟩ : ∃ M, M = max g 77 := ⟨_, rfl⟩
    have hMa : M ≤ a.length := by omega
    have hmx : dMax mx [.v (.int .i64 (g : Nat)), .v (.int .i64 77)] = some (.v (.int .i64 (M : Nat))) := by
      simp [dMax, mx]; split <;> omega
    have hdM := hd M
    simp [hMa] at hdM
    have c80 := fun m H => (w80 m (a.drop M) 32 H).wc
    simp at c80
    have hbet : ∀ j : Nat, g ≤ j → j < M → a[j]? ≠ some 32 := by
      intro j h1 h2 hc
      have h77' : M = 77 := by omega
      have hj : (a.take 77)[j]? = some 32 := by rw [List.getElem?_take_of_lt (by omega)]; exact hc
      rcases hr with ⟨h, h3⟩ | ⟨k', h, h3, h4⟩
      · exact h3 (List.mem_of_getElem? hj)
      · refine h4 (List.mem_of_getElem? (i := j - (k' + 1)) ?_)
        rw [List.getElem?_drop, show k' + 1 + (j - (k' + 1)) = j by omega]; exact hj
    rcases idb_first (a.drop M) 32 with ⟨hq, hq2⟩ | ⟨q, hq, hq1, hq2, hq3⟩
    · have hpl : PL a g none := by
        intro j h1 h2
        rcases Nat.lt_or_ge j M with h3 | h3
        · exact hbet j h1 h3
        · have := hq2 (j - M)
          rwa [List.getElem?_drop, show M + (j - M) = j by omega] at this
      have hw : IntKind.i64.wrap ((-1 : Int) + (M : Int)) = (M : Int) - 1 := by rw [wrap64 (by omega)]; omega
      have hlt : (M : Int) - 1 < (M : Int) := by omega
      simp -implicitDefEqProofs [a0, a1, hlen, h76, u5, hmk, hap, hsl, c98, hrg, hmx, hdM, c80, hq, hw, hlt, e1, u2, f1, ht2]
      exact ⟨out ++ [a], by simpa using f2, hfo _ (.stop (.inr hpl)), by simp; omega⟩
    · rw [List.getElem?_drop] at hq2
      have hqa : M + q < a.length := by simp at hq1; omega
      have hp : PL a g (some (M + q)) := by
        refine ⟨by omega, hqa, hq2, .inr ⟨by omega, fun j h1 h2 => ?_⟩⟩
        rcases Nat.lt_or_ge j M with h3 | h3
        · exact hbet j h1 h3
        · have := hq3 (j - M) (by omega)
          rwa [List.getElem?_drop, show M + (j - M) = j by omega] at this
      obtain ⟨x2, H2, e1, u2, hfin⟩ := hkey _ hqa hp
      obtain ⟨k, hk⟩ : ∃ k, k = M + q := ⟨_, rfl⟩
      rw [← hk] at hqa hp e1 hfin
      have hw : IntKind.i64.wrap ((q : Int) + (M : Int)) = (k : Int) := wrN (by omega) (by omega)
      have hng : ¬ ((k : Int) < (M : Int)) := by omega
      have hka : k ≤ a.length := by omega
      have hu := hu k; have hd := hd k
      simp [hka] at hu hd
      simp -implicitDefEqProofs [a0, a1, hlen, h76, u5, hmk, hap, hsl, c98, hrg, hmx, hdM, c80, hq, hw, hng, hu, hd, e1, u2]
      refine hfin _ ?_ ?_ ?_ <;> simp
end Go.Proofs.Tryz

/- Walks: a header is written. -/
namespace Go.Proofs.Tryz
open Go Go.SL
set_option linter.unusedVariables false
set_option linter.unusedSimpArgs false

theorem FoldR.flat {s : Bs} {f : Nat} {out : List Bs} (h : FoldR s f out) : out.flatten = s := by
  induction h with
  | stop => simp
  | step h hp ho ih => rw [List.flatten_cons, ih, List.take_append_drop]

def lineF (f : Fld) : Bs := f.n ++ [58] ++ (if f.v = [] then [] else 32 :: f.v)
/-- All folded lines of fields. -/
inductive FoldsR : List Fld → List Bs → Prop
  | nil : FoldsR [] []
  | snoc {l : List Fld} {f : Fld} {o os : List Bs} (h : FoldsR l os) (hf : FoldR (lineF f) (f.n.length + 3) o) : FoldsR (l ++ [f]) (os ++ o)
def emit (l : List Bs) : Bs := (l.map (· ++ crlf)).flatten
theorem emit_nil : emit [] = [] := rfl
theorem emit_snoc (l : List Bs) (s : Bs) : emit (l ++ [s]) = emit l ++ s ++ crlf := by simp [emit]
theorem emit_app (l k : List Bs) : emit (l ++ k) = emit l ++ emit k := by simp [emit]
theorem emit_len (l : List Bs) : (emit l).length = l.flatten.length + 2 * l.length := by
  induction l with
  | nil => rfl
  | cons a l ih => simp [emit, crlf] at ih ⊢; omega
/-- What writing a header answers. -/
inductive WrR (l : List Fld) : Option Bs → Nat → Prop
  | long (h : 128 < l.length) : WrR l none 2
  | field (h : l.length ≤ 128) (f : Fld) (hf : f ∈ l) (hb : ¬ (isName f.n ∧ isVal f.v)) : WrR l none 50
  | line (h : l.length ≤ 128) (hb : ∀ f ∈ l, isName f.n ∧ isVal f.v) (os : List Bs) (ho : FoldsR l os) (s : Bs) (hs : s ∈ os) (h9 : 998 < s.length) : WrR l none 40
  | ok (h : l.length ≤ 128) (hb : ∀ f ∈ l, isName f.n ∧ isVal f.v) (os : List Bs) (ho : FoldsR l os) (h9 : ∀ s ∈ os, s.length ≤ 998) : WrR l (some (emit os ++ crlf)) 0
/-- Bytes that grow. -/
def GB (m : Nat) (H : Hp) (x : CV) (l : Bs) : Prop := Grow m H x (u8s l) l.length 1 5
theorem GB.nil (m : Nat) (H : Hp) : GB m H nilC [] := Grow.nil m H 1 5
theorem GB.add {m : Nat} {H : Hp} {x y : CV} {l l' : Bs} {tx : TypeId} (h : GB m H x l) (hm : m ≤ H.length) (hs : dSrc prog H tx 1 y = some (u8s l', l'.length)) (hb : l.length + l'.length ≤ 140737488355328) :
    ∃ x2 H2, dAppend prog 23 tx x y H = some (x2, H2) ∧ unlit x2 = x2 ∧ GB m H2 x2 (l ++ l') ∧ H2.take m = H.take m ∧ m ≤ H2.length := by
  obtain ⟨x2, H2, e1, e2, e3, e4, _⟩ := Grow.append (P := prog) (t := 23) (tx := tx) (y := y) underlying23 iT5 zT5 (by simp) sT5 (by omega) hm h hs (by simp) (by simp; omega) (by omega)
  refine ⟨x2, H2, e1, e2.unl, ?_, e3, by omega⟩
  unfold GB
  rw [u8s_append, List.length_append]; exact e2
theorem GB.addS {m : Nat} {H : Hp} {x : CV} {l l' : Bs} (h : GB m H x l) (hm : m ≤ H.length) (hb : l.length + l'.length ≤ 140737488355328) :
    ∃ x2 H2, dAppend prog 23 9 x (str l') H = some (x2, H2) ∧ unlit x2 = x2 ∧ GB m H2 x2 (l ++ l') ∧ H2.take m = H.take m ∧ m ≤ H2.length := h.add hm (src_str underlying9 l' H) hb
/-- What is answered, as a value in a heap. -/
def wrV (m : Nat) (H : Hp) (o : Option Bs) (x : CV) : Prop :=
  match o with
  | none => x = nilC
  | some b => GB m H x b
@[simp] theorem stQ_ss (m id ver off : Nat) (s t : Bs) : stQ m (.ptr id ver off) (.agg [str s, str t]) = true := by
  unfold stQ; simp only []; rw [show topLe 0 (.agg [str s, str t]) = true from rfl, Bool.or_true]
variable [LayerC]
theorem FoldR_ex (n : Nat) : ∀ (s : Bs) (f : Nat), s.length ≤ n → n ≤ 100000 → 1 ≤ f → f ≤ 100000 → ∃ out, FoldR s f out := by
  induction n with
  | zero => intro s f hn _ _ _; exact ⟨_, .stop (.inl (by omega))⟩
  | succ n ih =>
    intro s f hn hn2 hf hf2
    by_cases h : 76 < s.length
    · obtain ⟨r, hr⟩ := PL_ex s f
      cases r with
      | none => exact ⟨_, .stop (.inr hr)⟩
      | some k =>
        obtain ⟨out, ho⟩ := ih (s.drop k) 1 (by have := hr.1; simp; omega) (by omega) (by omega) (by omega)
        exact ⟨_, .step h hr ho⟩
    · exact ⟨_, .stop (.inl (by omega))⟩
theorem lineF_len {f : Fld} (h : isName f.n ∧ isVal f.v) : (lineF f).length ≤ 4162 ∧ f.n.length ≤ 64 := by
  have gn := h.1.2.1
  have gv := h.2.2.1
  unfold lineF; split <;> simp <;> omega
theorem FoldsR_ext : ∀ (k l : List Fld) (os : List Bs), (∀ f ∈ k, isName f.n ∧ isVal f.v) → FoldsR l os → ∃ os', FoldsR (l ++ k) (os ++ os')
  | [], l, os, _, h => ⟨[], by simpa using h⟩
  | f :: k, l, os, hk, h => by
    have hl := lineF_len (hk f (by simp))
    obtain ⟨out, ho⟩ := FoldR_ex _ (lineF f) (f.n.length + 3) (Nat.le_refl _) (by omega) (by omega) (by omega)
    obtain ⟨os', h'⟩ := FoldsR_ext k (l ++ [f]) (os ++ out) (fun g hg => hk g (by simp [hg])) (.snoc h ho)
    exact ⟨out ++ os', by simpa [List.append_assoc] using h'⟩
theorem w41 (m : Nat) (x : CV) (l : List Fld) (H : Hp) (hx : RS H x (l.map Fld.c) 2) (hl : l.length ≤ 100000) (hf : ∀ f ∈ l, f.v.length ≤ 4294967280) (hm : m ≤ H.length) :
    WC prog cs0 m (.f 60) [x] H fun y H' => ∃ o e z, WrR l o e ∧ y = .tup [z, .v (.int .i64 (e : Nat))] ∧ wrV H.length H' o z ∧ H'.take H.length = H := by
  rw [WC_raw rfl func60 rfl rfl]
  have ux := hx.unl
  have hln : ∀ L, dLenS prog 22 x (H ++ L) = some (.v (.int .i64 l.length)) := fun L => by rw [(hx.app L).len underlying22, List.length_map]
  have hln0 := hln []
  rw [List.append_nil] at hln0
  obtain ⟨K, hK⟩ : ∃ K : CV → Hp → Prop, ∀ y H', K y H' ↔ ∃ o e z, WrR l o e ∧ y = .tup [z, .v (.int .i64 (e : Nat))] ∧ wrV H.length H' o z ∧ H'.take H.length = H := ⟨_, fun _ _ => Iff.rfl⟩
  simp only [← hK]
  by_cases h128 : 128 < l.length
  · simp -implicitDefEqProofs [f60, ux, hln0, h128]
    exact (hK _ _).2 ⟨none, 2, _, .long h128, rfl, rfl, by simp⟩
  simp -implicitDefEqProofs [f60, ux, hln0, h128]
  obtain ⟨I, hI⟩ : ∃ I : Nat → Fr → Hp → Prop, ∀ i fr H', I i fr H' ↔ ((∃ L, H' = H ++ L) ∧ fr 0 = x ∧ fr 15 = x ∧ fr 16 = .v (.int .i64 l.length) ∧ fr 17 = .v (.int .i64 i) ∧ ∀ f ∈ l.take i, isName f.n ∧ isVal f.v) := ⟨_, fun _ _ _ => Iff.rfl⟩
  refine W_mono (W_up (Q := fun e fr H' => (e = .exit 0 ∧ I l.length fr H') ∨ (e = .ret ∧ K (.tup [unlit (fr 2), unlit (fr 3)]) H')) l.length I ?_ 0 _ _ (by omega) ((hI _ _ _).2 ⟨⟨[], by simp⟩, by simp, by simp, by simp, by simp, by simp⟩)) ?_
  · intro i fr H' hi hinv
    obtain ⟨⟨L, rfl⟩, a0, a15, a16, a17, hg⟩ := (hI _ _ _).1 hinv
    by_cases hlt : i < l.length
    case neg =>
      obtain rfl : i = l.length := by omega
      simp -implicitDefEqProofs [a16, a17]
      exact (hI _ _ _).2 ⟨⟨L, rfl⟩, by simp [a0], by simp [a15], by simp [a16], by simp [a17], hg⟩
    have hw := up64 hlt (by omega)
    have hlt2 : i < (l.map Fld.c).length := by simpa using hlt
    have hla : dLoad prog 62 (adrC x i) (H ++ L) = some (.agg [str l[i].n, str l[i].v]) := by rw [(hx.app L).loadAgg underlying62 rfl iT62 sT62 hlt2]; simp [Fld.c]
    have had : dIndexAddr prog 22 x (.v (.int .i64 i)) (H ++ L) = some (adrC x i) := by rw [(hx.app L).addr underlying22 iT62 sT62]; simp [hlt]
    have c72 := fun m H' => (w72 m l[i].n H').wc
    have c73 := fun m H' => (w73 m l[i].v H' (hf _ (List.getElem_mem hlt))).wc
    by_cases hn : isName l[i].n
    case neg =>
      simp -implicitDefEqProofs [a0, a15, a16, a17, hlt, had, hla, aQ, dAlloc, store_at iT62, cells_agg, faddr_ptr, underlying62, load_one underlying9 rfl iT9, c72, hn]
      exact (hK _ _).2 ⟨none, 50, _, .field (by omega) _ (List.getElem_mem hlt) (fun h => hn h.1), rfl, rfl, by simp⟩
    by_cases hv : isVal l[i].v
    case neg =>
      simp -implicitDefEqProofs [a0, a15, a16, a17, hlt, had, hla, aQ, dAlloc, store_at iT62, cells_agg, faddr_ptr, underlying62, load_one underlying9 rfl iT9, c72, hn, c73, hv]
      exact (hK _ _).2 ⟨none, 50, _, .field (by omega) _ (List.getElem_mem hlt) (fun h => hv h.2), rfl, rfl, by simp⟩
    simp -implicitDefEqProofs [a0, a15, a16, a17, hlt, had, hla, aQ, dAlloc, store_at iT62, cells_agg, faddr_ptr, underlying62, load_one underlying9 rfl iT9, c72, hn, c73, hv, hw]
    exact (hI _ _ _).2 ⟨⟨_, rfl⟩, by simp [a0], by simp [a15], by simp [a16], by simp, take_all hg hlt ⟨hn, hv⟩⟩
  · rintro e fr H' (⟨rfl, hi⟩ | ⟨rfl, hr⟩)
    case inr => simpa -implicitDefEqProofs using hr
    obtain ⟨⟨L, rfl⟩, a0, -, -, -, hg⟩ := (hI _ _ _).1 hi
    rw [List.take_length] at hg
    simp -implicitDefEqProofs [a0, ux, hln]
    obtain ⟨J, hJ⟩ : ∃ J : Nat → Fr → Hp → Prop, ∀ i fr H', J i fr H' ↔ (H'.take H.length = H ∧ fr 32 = x ∧ fr 33 = .v (.int .i64 l.length) ∧ fr 34 = .v (.int .i64 i) ∧ ∃ os, FoldsR (l.take i) os ∧ (∀ s ∈ os, s.length ≤ 998) ∧ GB H.length H' (fr 6) (emit os) ∧ (emit os).length ≤ i * 13000) := ⟨_, fun _ _ _ => Iff.rfl⟩
    refine W_mono (W_up (Q := fun e fr H' => (e = .exit 2 ∧ J l.length fr H') ∨ (e = .ret ∧ K (.tup [unlit (fr 2), unlit (fr 3)]) H')) l.length J ?_ 0 _ _ (by omega) ((hJ _ _ _).2 ⟨by simp, by simp, by simp, by simp, [], .nil, by simp, by simp; exact GB.nil _ _, by simp [emit]⟩)) ?_
    · intro i fr H' hi hinv
      obtain ⟨hH, a32, a33, a34, os, ho, hs, hgb, hle⟩ := (hJ _ _ _).1 hinv
      by_cases hlt : i < l.length
      case neg =>
        obtain rfl : i = l.length := by omega
        simp -implicitDefEqProofs [a33, a34]
        exact (hJ _ _ _).2 ⟨hH, by simp [a32], by simp [a33], by simp [a34], os, ho, hs, by simpa using hgb, hle⟩
      obtain ⟨L', rfl⟩ : ∃ L', H' = H ++ L' := ⟨_, split_at hH⟩
      have hw := up64 hlt (by omega)
      have hlt2 : i < (l.map Fld.c).length := by simpa using hlt
      have hla : dLoad prog 62 (adrC x i) (H ++ L') = some (.agg [str l[i].n, str l[i].v]) := by rw [(hx.app L').loadAgg underlying62 rfl iT62 sT62 hlt2]; simp [Fld.c]
      have had : dIndexAddr prog 22 x (.v (.int .i64 i)) (H ++ L') = some (adrC x i) := by rw [(hx.app L').addr underlying22 iT62 sT62]; simp [hlt]
      obtain ⟨g1, g2⟩ := hg _ (List.getElem_mem hlt)
      have gn := g1.2.1
      have gv := g2.2.1
      have u6 : unlit (fr 6) = fr 6 := Grow.unl hgb
      have hln3 : (lineF l[i]).length ≤ 4162 ∧ (76 < (lineF l[i]).length → l[i].n.length + 3 ≤ (lineF l[i]).length) := by
        unfold lineF; split <;> simp <;> omega
      obtain ⟨k, hk⟩ : ∃ k, k = l[i].n.length + 3 := ⟨_, rfl⟩
      obtain ⟨q, out, hq, hfold, hol, w74'⟩ := w74 m (lineF l[i]) k (H ++ (L' ++ [CO.cells 0 [str l[i].n, str l[i].v] 62])) (by omega) (by omega) (by omega) (by rw [hk]; exact hln3.2)
      have c74 := w74'.wc
      have hfl := hfold.flat
      have hq3 : ∀ H, dLenS prog 80 q H = some (.v (.int .i64 out.length)) := fun H => by rw [(hq.strs H).len underlying80, List.length_map]
      have uq := hq.unl
      have hwl : IntKind.i64.wrap ((l[i].n.length : Int) + 3) = (k : Int) := wrN (by omega) (by omega)
      have hlen : ∀ a : Bs, ∀ H, dLenS prog 9 (str a) H = some (.v (.int .i64 (a.length : Nat))) := fun a H => len_str underlying9 a H
      have hla1 : l[i].n.length + 1 ≤ 9223372036854775807 := by omega
      have h58 : str [58] = CV.v (.string ⟨#[58]⟩) := rfl
      obtain ⟨N, hN⟩ : ∃ N : Nat → Fr → Hp → Prop, ∀ j fr H', N j fr H' ↔ (H'.take H.length = H ∧ fr 32 = x ∧ fr 33 = .v (.int .i64 l.length) ∧ fr 34 = .v (.int .i64 i) ∧ fr 54 = q ∧ fr 55 = .v (.int .i64 out.length) ∧ fr 56 = .v (.int .i64 j) ∧ (∀ s ∈ out.take j, s.length ≤ 998) ∧ GB H.length H' (fr 6) (emit (os ++ out.take j))) := ⟨_, fun _ _ _ => Iff.rfl⟩
      have hcase : (decide (l[i].v = []) = true ∧ lineF l[i] = l[i].n ++ [58]) ∨ (decide (l[i].v = []) = false ∧ lineF l[i] = l[i].n ++ 58 :: 32 :: l[i].v) := by
        by_cases hv0 : l[i].v = []
        · exact .inl ⟨by simpa using hv0, by simp [lineF, hv0]⟩
        · exact .inr ⟨by simpa using hv0, by simp [lineF, hv0]⟩
      have hb2 : 1 + l[i].v.length ≤ 9223372036854775807 := by omega
      have hb3 : l[i].n.length + 1 + (1 + l[i].v.length) ≤ 9223372036854775807 := by omega
      have hb4 : l[i].v.length + 1 ≤ 9223372036854775807 := by omega
      have hb5 : l[i].n.length + 1 + (l[i].v.length + 1) ≤ 9223372036854775807 := by omega
      have hg6 : GB H.length (H ++ (L' ++ [CO.cells 0 [str l[i].n, str l[i].v] 62])) (fr 6) (emit os) := by rw [← List.append_assoc]; exact Grow.app _ hgb
      have hfs : FoldsR (l.take (i + 1)) (os ++ out) := by rw [take_snoc hlt]; refine .snoc ho ?_; rw [← hk]; exact hfold
      have hlem : (emit (os ++ out)).length ≤ (i + 1) * 13000 := by
        rw [emit_app, List.length_append, emit_len out, hfl]
        omega
      rcases hcase with ⟨hvt, hl0⟩ | ⟨hvt, hl0⟩
      all_goals simp -implicitDefEqProofs [a32, a33, a34, hlt, had, hla, aQ, dAlloc, store_at iT62, cells_agg, faddr_ptr, underlying62, load_one underlying9 rfl iT9, hlen, hla1, hb2, hb3, hb4, hb5, hwl, c74, hvt, ← hl0, hq3, uq]
      all_goals
        refine W_mono (W_up (Q := fun e fr H' => (e = .exit 4 ∧ N out.length fr H') ∨ (e = .ret ∧ K (.tup [unlit (fr 2), unlit (fr 3)]) H')) out.length N ?_ 0 _ _ (by omega) ((hN _ _ _).2 ⟨by simp, by simp [a32], by simp [a33], by simp [a34], by simp, by simp, by simp, by simp, by simpa [GB] using hg6⟩)) ?_
        · intro j fr' H2 hj hn
          obtain ⟨b0, b32, b33, b34, b54, b55, b56, b9, b6⟩ := (hN _ _ _).1 hn
          have u6' : unlit (fr' 6) = fr' 6 := Grow.unl b6
          by_cases hjl : j < out.length
          case neg =>
            obtain rfl : j = out.length := by omega
            simp -implicitDefEqProofs [b55, b56]
            exact (hN _ _ _).2 ⟨b0, by simp [b32], by simp [b33], by simp [b34], by simp [b54], by simp [b55], by simp [b56], b9, by simpa using b6⟩
          have hj2 : j < (out.map fun s => [str s]).length := by simpa using hjl
          have hal := fun H => (hq.strs H).addr (P := prog) underlying80 iT9 sT9 .i64 j
          have hl1 := fun H => (hq.strs H).load1 (P := prog) underlying9 rfl iT9 hj2
          simp [hjl] at hal hl1
          have hwj := up64 hjl (by omega)
          by_cases h9 : 998 < out[j].length
          · simp -implicitDefEqProofs [b54, b55, b56, uq, hjl, hal, hl1, hlen, h9]
            obtain ⟨os', ho'⟩ := FoldsR_ext (l.drop (i + 1)) (l.take (i + 1)) (os ++ out) (fun f hf => hg f (List.mem_of_mem_drop hf)) hfs
            rw [List.take_append_drop] at ho'
            exact (hK _ _).2 ⟨none, 40, _, .line (by omega) hg _ ho' out[j] (by simp) h9, rfl, rfl, b0⟩
          · have hap : ∀ y, apQ m (fr' 6) y = true := Grow.ap b6 hm
            have hH2 : H.length ≤ H2.length := by have := congrArg List.length b0; simp at this; omega
            have hsz : (emit (os ++ out.take j)).length + 1000 ≤ 100000000000 := by
              have h1 : (emit (out.take j)).length ≤ (emit out).length := by
                conv => rhs; rw [← List.take_append_drop j out, emit_app, List.length_append]
                omega
              rw [emit_app, List.length_append, emit_len out, hfl] at hlem
              rw [emit_app, List.length_append]
              rw [emit_len out, hfl] at h1
              omega
            obtain ⟨x2, H3, e1, u2, e2, e3, e4⟩ := b6.addS (l' := out[j]) hH2 (by omega)
            obtain ⟨x3, H4, f1, u3, f2, f3, f4⟩ := e2.addS (l' := crlf) e4 (by simp [crlf]; omega)
            have hap2 : ∀ y, apQ m x2 y = true := Grow.ap e2 hm
            have hcr : str [13, 10] = str crlf := rfl
            simp -implicitDefEqProofs [b54, b55, b56, uq, hjl, hal, hl1, hlen, h9, u6', hap, e1, u2, hap2, hcr, f1, u3, hwj]
            refine (hN _ _ _).2 ⟨by rw [f3, e3]; exact b0, by simp [b32], by simp [b33], by simp [b34], by simp [b54], by simp [b55], by simp, take_all b9 hjl (by omega), ?_⟩
            rw [take_snoc hjl, ← List.append_assoc, emit_snoc]; simpa using f2
        · rintro e fr' H2 (⟨rfl, hn⟩ | ⟨rfl, hr⟩)
          case inr => simpa -implicitDefEqProofs using hr
          obtain ⟨b0, b32, b33, b34, b54, b55, b56, b9, b6⟩ := (hN _ _ _).1 hn
          rw [List.take_length] at b9 b6
          simp -implicitDefEqProofs [b34, hw]
          refine (hJ _ _ _).2 ⟨b0, by simp [b32], by simp [b33], by simp, os ++ out, hfs, ?_, by simpa using b6, hlem⟩
          intro s hs'
          rcases List.mem_append.1 hs' with h | h
          · exact hs s h
          · exact b9 s h
    · rintro e fr H' (⟨rfl, hi⟩ | ⟨rfl, hr⟩)
      case inr => simpa -implicitDefEqProofs using hr
      obtain ⟨hH, -, -, -, os, ho, hs, hgb, hle⟩ := (hJ _ _ _).1 hi
      rw [List.take_length] at ho
      obtain ⟨x2, H2, e1, u2, e2, e3, e4⟩ := hgb.addS (l' := crlf) (by have := congrArg List.length hH; simp at this; omega) (by simp [crlf]; omega)
      have u6 : unlit (fr 6) = fr 6 := Grow.unl hgb
      have hap : ∀ y, apQ m (fr 6) y = true := Grow.ap hgb hm
      have hcr : str [13, 10] = str crlf := rfl
      simp -implicitDefEqProofs [u6, hcr, e1, u2, hap]
      exact (hK _ _).2 ⟨some (emit os ++ crlf), 0, _, .ok (by omega) hg os ho hs, rfl, e2, by rw [e3]; exact hH⟩
end Go.Proofs.Tryz

/- Walks: the reference writes a header. -/
namespace Go.Proofs.Tryz
open Go Go.SL
set_option linter.unusedVariables false
set_option linter.unusedSimpArgs false

def lng (os : List Bs) : Bool := os.any fun s => decide (998 < s.length)
theorem lng_snoc (os : List Bs) (s : Bs) : lng (os ++ [s]) = (lng os || decide (998 < s.length)) := by simp [lng]
theorem lng_true {os : List Bs} (h : lng os = true) : ∃ s ∈ os, 998 < s.length := by simpa [lng] using h
theorem lng_false {os : List Bs} (h : lng os = false) : ∀ s ∈ os, s.length ≤ 998 := by simpa [lng] using h
def crC : CV := .lit [.v (.int .u8 13), .v (.int .u8 10)] 2 1
theorem mkCr (H : Hp) : dBuildSlice prog 23 2 [(0, .v (.int .u8 13)), (1, .v (.int .u8 10))] H false = some (crC, H) := mkB2 underlying23 underlying5 iT5 zT5 sT5 13 10 H
theorem GB.addCr {m : Nat} {H : Hp} {x : CV} {l : Bs} (h : GB m H x l) (hm : m ≤ H.length) (hb : l.length + 2 ≤ 140737488355328) :
    ∃ x2 H2, dAppend prog 23 23 x crC H = some (x2, H2) ∧ unlit x2 = x2 ∧ GB m H2 x2 (l ++ crlf) ∧ H2.take m = H.take m ∧ m ≤ H2.length :=
  h.add hm (l' := crlf) (src_lit underlying23 rfl H) (by simpa [crlf] using hb)
variable [LayerC]
end Go.Proofs.Tryz

/- Walks: a text's parts; a field is shut. -/
namespace Go.Proofs.Tryz
open Go Go.SL
set_option linter.unusedVariables false
set_option linter.unusedSimpArgs false

/-- The text ahead of a byte. -/
def headT (s : Bs) (c : UInt8) : Bs := s.takeWhile (· != c)
theorem headT_at {s : Bs} {c : UInt8} {i : Nat} (h : ∀ d ∈ s.take i, d ≠ c) (hc : i = s.length ∨ s[i]? = some c) : headT s c = s.take i := by
  unfold headT
  rcases hc with rfl | hc
  · rw [List.take_length] at h ⊢
    have := List.takeWhile_append_of_pos (l₁ := s) (l₂ := []) (p := (· != c)) (fun d hd => by simpa using h d hd)
    simpa using this
  · have hi : i < s.length := (List.getElem?_eq_some_iff.1 hc).1
    have hs : s[i] = c := (List.getElem?_eq_some_iff.1 hc).2
    conv => lhs; rw [← List.take_append_drop i s, List.drop_eq_getElem_cons hi, hs]
    rw [List.takeWhile_append_of_pos (fun d hd => by simpa using h d hd)]
    simp
variable [LayerC]
/-- A field that is open. -/
structure Opn where
  a : Nat
  n : Bs
  x : Bs
def shutG (l : List Fld) : Option Opn → Option (List Fld)
  | none => some l
  | some o => if isVal (trim o.x) ∧ l.length < 128 then some (l ++ [⟨o.n, trim o.x⟩]) else none
def opnC : Option Opn → List CV
  | none => [.v (.int .i64 (-1)), str [], str []]
  | some o => [.v (.int .i64 (o.a : Nat)), str o.n, str o.x]
def fldS (l : List Fld) : List CV := (l.map Fld.c).flatten
theorem fldS_snoc (l : List Fld) (f : Fld) : fldS (l ++ [f]) = fldS l ++ f.c := by simp [fldS]
theorem fldS_clB (l : List Fld) : (fldS l).all clB = true := by
  induction l with
  | nil => rfl
  | cons a l ih => simp only [fldS, List.map_cons, List.flatten_cons, List.all_append] at ih ⊢; rw [ih]; rfl
/-- A list of fields that grows. -/
def GF (m : Nat) (H : Hp) (x : CV) (l : List Fld) : Prop := Grow m H x (fldS l) l.length 2 62
theorem mkF1 (a b : Bs) (H : Hp) : dBuildSlice prog 22 1 [(0, .agg [str a, str b])] H false = some (.im [str a, str b] 1 2, H) :=
  mkA1 (cs := [str a, str b]) underlying22 (by simp [isU8, underlying62]) iT62 zT62 rfl sT62 (by omega) (by omega) rfl (by simp) (by simp) H
theorem GF.add {m : Nat} {H : Hp} {x : CV} {l : List Fld} {f : Fld} (h : GF m H x l) (hm : m ≤ H.length) (hb : l.length ≤ 100000) :
    ∃ x2 H2, dAppend prog 22 22 x (.im [str f.n, str f.v] 1 2) H = some (x2, H2) ∧ unlit x2 = x2 ∧ GF m H2 x2 (l ++ [f]) ∧ H2.take m = H.take m ∧ m ≤ H2.length := by
  obtain ⟨x2, H2, e1, e2, e3, e4, _⟩ := Grow.append (P := prog) (t := 22) (tx := 22) (y := .im [str f.n, str f.v] 1 2) underlying22 iT62 zT62 rfl sT62 (by omega) hm h (src_clo (n := 1) underlying22 (.inl rfl) rfl _) rfl (by simp; omega) (by omega)
  refine ⟨x2, H2, e1, e2.unl, ?_, e3, by omega⟩
  unfold GF
  rw [fldS_snoc, List.length_append]; exact e2
theorem trim_le (s : Bs) : (trim s).length ≤ s.length := by
  have h : ∀ s : Bs, (trimL s).length ≤ s.length := fun s => (trimL_sfx s).length_le
  unfold trim
  have h1 := h s; have h2 := h (trimL s).reverse
  simp at h2 ⊢; omega
theorem opn_one (o : Option Opn) : (opnC o).all oneB = true := by cases o <;> rfl
end Go.Proofs.Tryz

/- Walks: the reference reads a header. -/
namespace Go.Proofs.Tryz
open Go Go.SL
set_option linter.unusedVariables false
set_option linter.unusedSimpArgs false

/-- What reading a header answers. -/
inductive PR
  | ok (l : List Fld) (n : Nat)
  | bad (a c : Nat)
def hdrG (n : Nat) : List Ln → List Fld → Option Opn → PR
  | [], _, _ => .bad n 42
  | x :: xs, l, o =>
    if x.w = false then .bad x.a 42 else
    if 998 < x.s.length then .bad x.a 40 else
    if (x.s.head?.map blankC) = some true then
      match o with
      | none => .bad x.a 50
      | some o => hdrG n xs l (some ⟨o.a, o.n, o.x ++ x.s⟩)
    else
      match shutG l o with
      | none => .bad (match o with | none => 0 | some o => o.a) 50
      | some l' =>
        if x.s = [] then .ok l' (x.a + 2) else
        if (headT x.s 58).length = x.s.length ∨ ¬ isName (headT x.s 58) then .bad x.a 50 else
          hdrG n xs l' (some ⟨x.a, headT x.s 58, x.s.drop ((headT x.s 58).length + 1)⟩)
theorem hdrG_nil (n : Nat) (l : List Fld) (o : Option Opn) : hdrG n [] l o = .bad n 42 := by rw [hdrG.eq_def]
section
variable {n : Nat} {x : Ln} {xs : List Ln} {l : List Fld} {o : Option Opn}
theorem hdrG_short (h : x.w = false) : hdrG n (x :: xs) l o = .bad x.a 42 := by rw [hdrG.eq_def]; simp [h]
theorem hdrG_long (h : x.w = true) (h2 : 998 < x.s.length) : hdrG n (x :: xs) l o = .bad x.a 40 := by rw [hdrG.eq_def]; simp [h, h2]
theorem hdrG_b0 (h : x.w = true) (h2 : ¬ 998 < x.s.length) (h3 : (x.s.head?.map blankC) = some true) : hdrG n (x :: xs) l none = .bad x.a 50 := by rw [hdrG.eq_def]; simp only [h, h2, h3, if_true, if_false]; rfl
theorem hdrG_b1 {o : Opn} (h : x.w = true) (h2 : ¬ 998 < x.s.length) (h3 : (x.s.head?.map blankC) = some true) : hdrG n (x :: xs) l (some o) = hdrG n xs l (some ⟨o.a, o.n, o.x ++ x.s⟩) := by
  conv => lhs; rw [hdrG.eq_def]
  simp only [h, h2, h3, if_true, if_false]; rfl
theorem hdrG_sh {o : Opn} (h : x.w = true) (h2 : ¬ 998 < x.s.length) (h3 : ¬ (x.s.head?.map blankC) = some true) (h4 : shutG l (some o) = none) : hdrG n (x :: xs) l (some o) = .bad o.a 50 := by
  conv => lhs; rw [hdrG.eq_def]
  simp only [h, h2, h3, h4, if_false]; rfl
theorem hdrG_end {l' : List Fld} (h : x.w = true) (h3 : x.s = []) (h4 : shutG l o = some l') : hdrG n (x :: xs) l o = .ok l' (x.a + 2) := by
  conv => lhs; rw [hdrG.eq_def]
  simp [h, h3, h4]
theorem hdrG_bad {l' : List Fld} (h : x.w = true) (h2 : ¬ 998 < x.s.length) (h3 : ¬ (x.s.head?.map blankC) = some true) (h4 : shutG l o = some l') (h5 : x.s ≠ []) (h6 : (headT x.s 58).length = x.s.length ∨ ¬ isName (headT x.s 58)) : hdrG n (x :: xs) l o = .bad x.a 50 := by
  conv => lhs; rw [hdrG.eq_def]
  simp only [h, h2, h3, h4, h5, h6, if_false]; rfl
theorem hdrG_open {l' : List Fld} (h : x.w = true) (h2 : ¬ 998 < x.s.length) (h3 : ¬ (x.s.head?.map blankC) = some true) (h4 : shutG l o = some l') (h5 : x.s ≠ []) (h6 : ¬ ((headT x.s 58).length = x.s.length ∨ ¬ isName (headT x.s 58))) : hdrG n (x :: xs) l o = hdrG n xs l' (some ⟨x.a, headT x.s 58, x.s.drop ((headT x.s 58).length + 1)⟩) := by
  conv => lhs; rw [hdrG.eq_def]
  simp only [h, h2, h3, h4, h5, h6, if_false]; rfl
end
theorem lnS_last_only (a : Nat) (l : Bs) : ∀ (j : Nat) (h : j < (lnS a l).length), (lnS a l)[j].w = false → j + 1 = (lnS a l).length := by
  have key : ∀ n (l : Bs) a, l.length ≤ n → ∀ (j : Nat) (h : j < (lnS a l).length), (lnS a l)[j].w = false → j + 1 = (lnS a l).length := by
    intro n
    induction n with
    | zero =>
      intro l a hn j h
      obtain rfl := List.eq_nil_of_length_eq_zero (by omega : l.length = 0)
      rw [lnS_nil] at h; simp at h
    | succ n ih =>
      intro l a hn j h hw
      by_cases hl : l = []
      · subst hl; rw [lnS_nil] at h; simp at h
      · by_cases hc : crIdx l < 0
        · simp only [lnS_last hl hc, List.length_singleton] at h ⊢; omega
        · have hp := lineN_pos hl
          have e := lnS_whole (a := a) (r := l) (by omega)
          simp only [e] at hw h ⊢
          cases j with
          | zero => simp at hw
          | succ j =>
            simp at h hw
            have := ih (l.drop (lineN l)) (a + lineN l) (by simp; omega) j h hw
            simp; omega
  exact key _ l a (Nat.le_refl _)
def zF : List CV := [.v (.int .i64 0), .v (.int .i64 0)]
def hdrR (r : PR) (y : CV) : Prop :=
  match r with
  | .bad a c => y = .tup [nilC, .v (.int .i64 0), .agg [.v (.int .i64 (a : Nat)), .v (.int .i64 (c : Nat))]]
  | .ok l n => ∃ q, Cls q (fldS l) l.length 2 ∧ y = .tup [q, .v (.int .i64 (n : Nat)), .agg zF]
@[simp] theorem stQ_str (m id ver off : Nat) (s : Bs) : stQ m (.ptr id ver off) (str s) = true := by
  unfold stQ; simp only []; rw [show topLe 0 (str s) = true from rfl, Bool.or_true]
theorem GF.pre2 {H L : Hp} {a b a' b' : CO} {x : CV} {l : List Fld} (h : GF (H.length + 2) (H ++ a :: b :: L) x l) : GF (H.length + 2) (H ++ a' :: b' :: L) x l := by
  have := Grow.pre (A := H ++ [a, b]) (A' := H ++ [a', b']) (L := L) (by simpa [GF] using h) (by simp) (by simp)
  simpa [GF] using this
theorem headT_len (s : Bs) (c : UInt8) : (headT s c).length ≤ s.length := (List.takeWhile_sublist _).length_le
variable [LayerC]
end Go.Proofs.Tryz

/- Walks: lines of a header, yielded. -/
namespace Go.Proofs.Tryz
open Go Go.SL
set_option linter.unusedVariables false
set_option linter.unusedSimpArgs false
variable [LayerC]
theorem w59 (m : Nat) (x : CV) (H : Hp) (hx : oneB x = true) (hu : unlit x = x) (hc : cvCells x = some [x]) : Ret prog cs0 m 87 [x] H (.fn (.func 110) [] [.ptr H.length 0 0]) (H ++ [.cells 0 [x] 23]) := by
  unfold Ret
  rw [WC_raw rfl func87 rfl rfl]
  simp -implicitDefEqProofs [f87, hu, hc]

/-- The lines, yielded one by one; behind the last pair the place, with none. -/
theorem w89 (m id ver bx : Nat) (x : CV) (l : Bs) (J : Nat → Hp → Prop) (D : Hp → Prop) (hl : l.length ≤ 4294967280)
    (hbox : ∀ p H, J p H → cellsAt H bx 0 = some [x] ∧ RB H x l)
    (hround : ∀ p H y, J p H → p ≤ l.length → 0 ≤ crIdx (l.drop p) → RB H y ((l.drop p).take (lineN (l.drop p))) → y ≠ nilC → WC prog cs0 m (.y id ver) [.v (.int .i64 p), y] H fun r H' => (r = .v (.bool true) ∧ J (p + lineN (l.drop p)) H') ∨ (r = .v (.bool false) ∧ D H'))
    (hlast : ∀ p H, J p H → p ≤ l.length → crIdx (l.drop p) < 0 → WC prog cs0 m (.y id ver) [.v (.int .i64 p), nilC] H fun r H' => D H')
    (H : Hp) (h0 : J 0 H) : WC prog cs0 m (.f 110) [.yl id ver, .ptr bx 0 0] H fun _ H' => D H' := by
  rw [WC_raw rfl func110 rfl rfl]
  simp -implicitDefEqProofs [f110]
  obtain ⟨I, hI⟩ : ∃ I : Nat → Fr → Hp → Prop, ∀ j fr H', I j fr H' ↔ ∃ p, j = l.length - p ∧ p ≤ l.length ∧ fr 0 = .yl id ver ∧ fr 1 = .ptr bx 0 0 ∧ fr 3 = .v (.int .i64 (p : Nat)) ∧ J p H' := ⟨_, fun _ _ _ => Iff.rfl⟩
  refine W_rounds I ?_ _ _ _ ((hI _ _ _).2 ⟨0, rfl, by omega, by simp, by simp, by simp, h0⟩)
  intro j fr H' hi
  obtain ⟨p, rfl, hp, a0, a1, a3, hJ⟩ := (hI _ _ _).1 hi
  obtain ⟨hb, hrb⟩ := hbox p H' hJ
  have hu := hrb.unl
  have hcut := hrb.cut hp (Nat.le_refl _)
  rw [List.take_length] at hcut
  have huc := hcut.unl
  have hsl := hrb.slice (P := prog) underlying23 iT5 sT5
  have c90 : ∀ m K, WC prog cs0 m (.f 81) [cutC x p l.length, .im [.v (.int .u8 13), .v (.int .u8 10)] 2 1] H' K ↔ K (.v (.int .i64 (crIdx (l.drop p)))) H' := fun m => (w90 m _ _ H' hcut (by simp; omega)).wc
  by_cases hc : crIdx (l.drop p) < 0
  · have hr := hlast p H' hJ hp hc
    simp -implicitDefEqProofs [a0, a1, a3, load_one underlying23 rfl iT23, hb, hsl, hp, huc, mkB2 underlying23 underlying5 iT5 zT5 sT5, cvt_l2 underlying23 underlying5, c90, hc]
    exact WC_mono hr fun r H'' h => h
  · have hroom := crIdx_room (l.drop p) (by omega)
    rw [List.length_drop] at hroom
    obtain ⟨n, hn⟩ : ∃ n, n = lineN (l.drop p) := ⟨_, rfl⟩
    have hn0 : crIdx (l.drop p) = ((n - 2 : Nat) : Int) := by
      have : n = (crIdx (l.drop p)).toNat + 2 := by rw [hn]; unfold lineN; rw [if_neg hc]
      omega
    have hn2' : 2 ≤ n := by rw [hn]; unfold lineN; rw [if_neg hc]; omega
    obtain ⟨k, hk⟩ : ∃ k, k = p + n := ⟨_, rfl⟩
    have hkl : k ≤ l.length := by omega
    have hline := hrb.cut (o := p) (h := k) (by omega) (by omega)
    have huL := hline.unl
    have hle : (l.take k).drop p = (l.drop p).take n := by rw [List.drop_take, show k - p = n by omega]
    rw [hle] at hline
    have hnn : cutC x p k ≠ nilC := by
      intro h
      rw [h] at hline
      rcases hline with h1 | ⟨h1, _⟩ | ⟨_, _, _, _, h1, _⟩
      · cases h1
      · have := congrArg List.length h1; simp at this; omega
      · cases h1
    have hr := hround p H' _ hJ hp (by omega) (by rw [← hn]; exact hline) hnn
    rw [← hn] at hr
    obtain ⟨q, hq⟩ : ∃ q, q = n - 2 := ⟨_, rfl⟩
    rw [← hq] at hn0
    obtain ⟨w, hw⟩ : ∃ w, w = p + q := ⟨_, rfl⟩
    have hw1 : IntKind.i64.wrap ((p : Int) + (q : Int)) = (w : Int) := wrN (by omega) (by omega)
    have hw2 : IntKind.i64.wrap ((w : Int) + 2) = (k : Int) := wrN (by omega) (by omega)
    have hw3 : IntKind.i64.wrap ((q : Int) + 2) = (n : Int) := wrN (by omega) (by omega)
    have hw4 : IntKind.i64.wrap ((p : Int) + (n : Int)) = (k : Int) := wrN (by omega) (by omega)
    have hpk : p ≤ k := by omega
    simp -implicitDefEqProofs [a0, a1, a3, load_one underlying23 rfl iT23, hb, hsl, hp, huc, mkB2 underlying23 underlying5 iT5 zT5 sT5, cvt_l2 underlying23 underlying5, c90, hn0, hw1, hw2, hw3, hw4, hpk, hkl, huL]
    refine WC_mono hr ?_
    rintro r H'' (⟨rfl, hJ'⟩ | ⟨rfl, hD⟩)
    · simp -implicitDefEqProofs
      exact ⟨l.length - k, by omega, (hI _ _ _).2 ⟨k, rfl, hkl, by simp [a0], by simp [a1], by simp, by rw [hk]; exact hJ'⟩⟩
    · simp -implicitDefEqProofs
      exact hD
end Go.Proofs.Tryz

/- Walks: the field that is read is shut. -/
namespace Go.Proofs.Tryz
open Go Go.SL
set_option linter.unusedVariables false
set_option linter.unusedSimpArgs false

/-- A reader's cells. -/
def rdC (x : CV) (n v : Bs) (a : Nat) (op : Bool) : CO := .cells 0 [x, str n, str v, .v (.int .i64 (a : Nat)), .v (.bool op)] 127
def opO (n v : Bs) (a : Nat) (op : Bool) : Option Opn := if op = true then some ⟨a, n, v⟩ else none
theorem split_get {L : Hp} {n : Nat} {o : CO} (h : L[n]? = some o) : ∃ La Lb, L = La ++ o :: Lb ∧ La.length = n := by
  have hn : n < L.length := (List.getElem?_eq_some_iff.1 h).1
  have ho : L[n] = o := (List.getElem?_eq_some_iff.1 h).2
  exact ⟨L.take n, L.drop (n + 1), by rw [← ho, ← List.drop_eq_getElem_cons hn, List.take_append_drop], by simp; omega⟩
theorem Grow.of_obj {m : Nat} {H H' : Hp} {x : CV} {cs : List CV} {n sz : Nat} {e : TypeId} (h : Grow m H x cs n sz e) (hk : ∀ i v c, m ≤ i → H[i]? = some (.cells v c e) → H'[i]? = H[i]?) : Grow m H' x cs n sz e := by
  rcases h with h | ⟨hl, id, ver, hm, rfl, hc⟩
  · exact .inl h
  · exact .inr ⟨hl, id, ver, hm, rfl, by rw [hk _ _ _ hm hc]; exact hc⟩
theorem GF.swap {A La Lb : Hp} {c c' o : CO} {v : Nat} {cs : List CV} {k : Nat} {x : CV} {l : List Fld} (h : GF k (A ++ c :: (La ++ CO.cells v cs 48 :: Lb)) x l) (hk : A.length < k) : GF k (A ++ c' :: (La ++ o :: Lb)) x l := by
  refine Grow.of_obj h fun i v' c'' hi hg => ?_
  obtain ⟨t, rfl⟩ : ∃ t, i = A.length + (t + 1) := ⟨i - A.length - 1, by omega⟩
  rw [get_own, List.getElem?_cons_succ] at hg
  rw [get_own, get_own, List.getElem?_cons_succ, List.getElem?_cons_succ]
  rcases Nat.lt_trichotomy t La.length with h1 | h1 | h1
  · rw [get_old h1, get_old h1]
  · subst h1; rw [get_own0] at hg; simp at hg
  · obtain ⟨s, rfl⟩ : ∃ s, t = La.length + (s + 1) := ⟨t - La.length - 1, by omega⟩
    rw [get_own, get_own, List.getElem?_cons_succ, List.getElem?_cons_succ]
theorem GF.head {A L M : Hp} {c c' : CO} {k : Nat} {x : CV} {l : List Fld} (h : GF k (A ++ c :: L) x l) (hk : A.length < k) : GF k (A ++ c' :: (L ++ M)) x l := by
  refine Grow.of_obj h fun i v' c'' hi hg => ?_
  obtain ⟨t, rfl⟩ : ∃ t, i = A.length + (t + 1) := ⟨i - A.length - 1, by omega⟩
  rw [get_own, List.getElem?_cons_succ] at hg
  rw [get_own, get_own, List.getElem?_cons_succ, List.getElem?_cons_succ]
  rw [get_old (List.getElem?_eq_some_iff.1 hg).1]
/-- All objects but lists of fields stay as they are. -/
def Kp (L L2 : Hp) : Prop := ∀ (i : Nat) (o : CO), L[i]? = some o → (∀ v c, o ≠ .cells v c 62) → L2[i]? = some o
theorem Kp.refl (L : Hp) : Kp L L := fun _ _ h _ => h
theorem Kp.trans {L L2 L3 : Hp} (h : Kp L L2) (k : Kp L2 L3) : Kp L L3 := fun i o h1 h2 => k i o (h i o h1 h2) h2
theorem Kp.app (L M : Hp) : Kp L (L ++ M) := fun i o h _ => by rw [get_old (List.getElem?_eq_some_iff.1 h).1]; exact h
theorem Kp.pre {Q L L2 : Hp} (h : Kp (Q ++ L) L2) (hq : ∀ o ∈ Q, ∀ v c, o ≠ .cells v c 62) : ∃ L3, L2 = Q ++ L3 ∧ Kp L L3 := by
  have key : ∀ i, i < Q.length → L2[i]? = Q[i]? := fun i hi => by
    have h1 : (Q ++ L)[i]? = some Q[i] := by rw [get_old hi, List.getElem?_eq_getElem hi]
    rw [h i _ h1 (hq _ (List.getElem_mem hi)), List.getElem?_eq_getElem hi]
  have hlen : Q.length ≤ L2.length := by
    rcases Nat.lt_or_ge L2.length Q.length with hl | hl
    · have := key L2.length hl
      rw [List.getElem?_eq_none (Nat.le_refl _), List.getElem?_eq_getElem hl] at this; cases this
    · exact hl
  refine ⟨L2.drop Q.length, ?_, fun i o h1 h2 => ?_⟩
  · apply List.ext_getElem?
    intro i
    rcases Nat.lt_or_ge i Q.length with hi | hi
    · rw [key i hi, get_old hi]
    · rw [List.getElem?_append_right hi, List.getElem?_drop, show Q.length + (i - Q.length) = i by omega]
  · rw [List.getElem?_drop]
    exact h _ _ (by rw [get_own]; exact h1) h2
theorem stQ_top {m id ver off : Nat} {x : CV} (h : topLe 0 x = true) : stQ m (.ptr id ver off) x = true := by
  unfold stQ; simp only []; rw [h, Bool.or_true]
@[simp] theorem stQ_nn (m id ver off : Nat) (a b : Int) (k k' : IntKind) : stQ m (.ptr id ver off) (.agg [.v (.int k a), .v (.int k' b)]) = true := stQ_top rfl
@[simp] theorem stQ_b (m id ver off : Nat) (a : Bool) : stQ m (.ptr id ver off) (.v (.bool a)) = true := stQ_top rfl
variable [LayerC]
theorem w60 (m : Nat) (A L : Hp) (x : CV) (n v : Bs) (a : Nat) (op : Bool) (l : List Fld) (hm : m ≤ A.length) (hg : GF (A.length + 1) (A ++ rdC x n v a op :: L) x l) (hl : l.length ≤ 128) (hv : v.length ≤ 4294967280) :
    WC prog cs0 m (.f 88) [.ptr A.length 0 0] (A ++ rdC x n v a op :: L) fun y H' => ∃ L2 x' v', Kp L L2 ∧ H' = A ++ rdC x' n v' a false :: L2 ∧
      ((∃ l', shutG l (opO n v a op) = some l' ∧ l'.length ≤ 128 ∧ GF (A.length + 1) H' x' l' ∧ y = .agg [.v (.int .i64 0), .v (.int .i64 0)]) ∨ (shutG l (opO n v a op) = none ∧ y = .agg [.v (.int .i64 (a : Nat)), .v (.int .i64 50)])) := by
  rw [WC_raw rfl func88 rfl rfl]
  obtain ⟨K, hK⟩ : ∃ K : CV → Hp → Prop, ∀ y H', K y H' ↔ ∃ L2 x' v', Kp L L2 ∧ H' = A ++ rdC x' n v' a false :: L2 ∧
      ((∃ l', shutG l (opO n v a op) = some l' ∧ l'.length ≤ 128 ∧ GF (A.length + 1) H' x' l' ∧ y = .agg [.v (.int .i64 0), .v (.int .i64 0)]) ∨ (shutG l (opO n v a op) = none ∧ y = .agg [.v (.int .i64 (a : Nat)), .v (.int .i64 50)])) := ⟨_, fun _ _ => Iff.rfl⟩
  simp only [← hK]
  have ux : unlit x = x := Grow.unl hg
  cases op with
  | false =>
    simp -implicitDefEqProofs [f88, aQ, dAlloc, rdC, faddr_ptr, underlying127, load_one underlying4 rfl iT4, b48_0, store_at iT48, cells_agg, load_aggp underlying48 rfl iT48, atP]
    exact (hK _ _).2 ⟨_, x, v, Kp.app L _, rfl, .inl ⟨l, rfl, hl, hg.head (by omega), rfl⟩⟩
  | true =>
    have htl := trim_le v
    have c91 := fun m H => (w91 m v H hv).wc
    have c73 := fun m H => (w73 m (trim v) H (by omega)).wc
    have ho : opO n v a true = some ⟨a, n, v⟩ := rfl
    have hg2 : ∀ c' M, GF (A.length + 1) (A ++ c' :: (L ++ M)) x l := fun c' M => hg.head (by omega)
    have hlen : ∀ c' M, dLenS prog 22 x (A ++ c' :: (L ++ M)) = some (.v (.int .i64 l.length)) := fun c' M => by
      have := (Grow.rs (ch := l.map Fld.c) (by rw [List.length_map]; exact hg2 c' M) (fldCh l)).len underlying22
      rw [List.length_map] at this; exact this
    by_cases hv2 : isVal (trim v)
    case neg =>
      have hsh : shutG l (opO n v a true) = none := by rw [ho]; simp [shutG, hv2]
      simp -implicitDefEqProofs [f88, aQ, dAlloc, rdC, faddr_ptr, underlying127, underlying62, load_one underlying4 rfl iT4, load_one underlying3 rfl iT3, load_one underlying9 rfl iT9, store_at iT9, store_at iT4, b48_2, store_at iT48, cells_agg, load_aggp underlying48 rfl iT48, atP, c91, c73, hv2]
      exact (hK _ _).2 ⟨_, x, trim v, Kp.app L _, rfl, .inr ⟨hsh, rfl⟩⟩
    by_cases hll : l.length < 128
    case neg =>
      have h128 : 128 ≤ l.length := by omega
      have hsh : shutG l (opO n v a true) = none := by rw [ho]; simp [shutG, hll]
      simp -implicitDefEqProofs [f88, aQ, dAlloc, rdC, faddr_ptr, underlying127, underlying62, load_one underlying4 rfl iT4, load_one underlying3 rfl iT3, load_one underlying9 rfl iT9, load_one underlying22 rfl iT22, store_at iT9, store_at iT4, b48_2, store_at iT48, cells_agg, load_aggp underlying48 rfl iT48, atP, c91, c73, hv2, ux, hlen, h128]
      exact (hK _ _).2 ⟨_, x, trim v, Kp.app L _, rfl, .inr ⟨hsh, rfl⟩⟩
    have h128 : ¬ 128 ≤ l.length := by omega
    have hsh : shutG l (opO n v a true) = some (l ++ [⟨n, trim v⟩]) := by rw [ho]; simp [shutG, hv2, hll]
    simp -implicitDefEqProofs [f88, aQ, dAlloc, rdC, faddr_ptr, underlying127, underlying62, load_one underlying4 rfl iT4, load_one underlying3 rfl iT3, load_one underlying9 rfl iT9, load_one underlying22 rfl iT22, store_at iT9, store_at iT4, b48_2, store_at iT48, cells_agg, load_aggp underlying48 rfl iT48, atP, c91, c73, hv2, ux, hlen, h128]
    rw [W_drawJ TJ [(2, 9), (3, 9), (4, 9)] _ _ _ _ _ _ followsT trivial (by rfl) (fun _ _ _ => keep_T) (by
      intro k j i oj oi hm h1 h2
      simp at hm
      rcases hm with ⟨rfl, rfl⟩ | ⟨rfl, rfl⟩ | ⟨rfl, rfl⟩ <;> simp at h1 h2 <;> subst h1 h2
      · exact cmt_grow (by rfl) (mon_nilCheck rfl) (gro_buildSlice rfl) _
      · exact cmt_grow (by rfl) (mon_faddr rfl) (gro_buildSlice rfl) _
      · exact cmt_grow (by rfl) (mon_load rfl) (gro_buildSlice rfl) _)]
    obtain ⟨x2, H2, e1, e2, e3, e4, e5⟩ := Grow.append (P := prog) (t := 22) (tx := 22) (y := .im [str n, str (trim v)] 1 2) underlying22 iT62 zT62 rfl sT62 (by omega) (by simp) (hg2 (CO.cells 0 [x, str n, str (trim v), .v (.int .i64 (a : Nat)), .v (.bool false)] 127) [CO.cells 0 [.v (.int .i64 0), .v (.int .i64 0)] 48]) (src_clo (n := 1) underlying22 (.inl rfl) rfl _) rfl (by simp; omega) (by omega)
    have hap : ∀ y, apQ m x y = true := Grow.ap hg (by omega)
    have u2 := e2.unl
    simp -implicitDefEqProofs [faddr_ptr, underlying127, underlying62, load_one underlying22 rfl iT22, load_aggp underlying62 rfl iT62, ux, atP, mkF1, hap, e1]
    have hxi : ∀ ver off len s, x ≠ .sl A.length ver off len s := by
      rintro ver off len s rfl
      rcases hg with ⟨_, _, h⟩ | ⟨_, id, _, hm, h, _⟩
      · cases h
      · cases h; omega
    have hxb : ∀ ver off len s, x ≠ .sl (A.length + (L.length + 1)) ver off len s := by
      rintro ver off len s rfl
      rcases hg with ⟨_, _, h⟩ | ⟨_, id, _, hm, h, hc⟩
      · cases h
      · cases h
        have := (List.getElem?_eq_some_iff.1 hc).1
        simp at this
    have g1 := e5 _ hxi (by simp)
    have g2 := e5 _ hxb (by simp)
    simp at g1 g2
    have e6 := split_at e3
    have e7 : (A ++ CO.cells 0 [x, str n, str (trim v), .v (.int .i64 (a : Nat)), .v (.bool false)] 127 :: (L ++ [CO.cells 0 [.v (.int .i64 0), .v (.int .i64 0)] 48])).take (A.length + 1) = A ++ [CO.cells 0 [x, str n, str (trim v), .v (.int .i64 (a : Nat)), .v (.bool false)] 127] := by
      rw [List.take_length_add_append]; simp
    rw [e7] at e6
    obtain ⟨M, rfl⟩ : ∃ M, H2 = A ++ CO.cells 0 [x, str n, str (trim v), .v (.int .i64 (a : Nat)), .v (.bool false)] 127 :: M := ⟨H2.drop (A.length + 1), by
        conv => lhs; rw [e6]
        simp⟩
    have hKp : ∀ (i : Nat) (o : CO), L[i]? = some o → (∀ v c, o ≠ .cells v c 62) → M[i]? = some o := by
      intro i o h1 h2
      have hil := (List.getElem?_eq_some_iff.1 h1).1
      have hx3 : ∀ ver off len s, x ≠ .sl (A.length + (i + 1)) ver off len s := by
        rintro ver off len s rfl
        rcases hg with ⟨_, _, h⟩ | ⟨_, id, _, hm, h, hc⟩
        · cases h
        · cases h
          rw [get_own, List.getElem?_cons_succ, h1] at hc
          cases hc
          exact h2 _ _ rfl
      have g3 := e5 _ hx3 (by simp; omega)
      simp only [get_own, List.getElem?_cons_succ, get_old hil] at g3
      rw [g3]; exact h1
    simp at g2
    obtain ⟨La, Lb, rfl, hLa⟩ := split_get g2
    rw [← hLa]
    have hcx : cvCells x2 = some [x2] := by rcases e2 with ⟨_, _, rfl⟩ | ⟨_, _, _, _, rfl, _⟩ <;> rfl
    have hst : stQ m (CV.ptr A.length 0 0) x2 = true := by simp [stQ, hm]
    simp -implicitDefEqProofs [hst, store_at iT22, hcx, b48_0, store_at iT48, cells_agg, load_aggp underlying48 rfl iT48]
    refine (hK _ _).2 ⟨_, x2, trim v, ?_, rfl, .inl ⟨_, hsh, by simp; omega, ?_, rfl⟩⟩
    · intro i o h1 h2
      have hil := (List.getElem?_eq_some_iff.1 h1).1
      have := hKp i o h1 h2
      rw [get_old (by omega)] at this ⊢; exact this
    · have : GF (A.length + 1) (A ++ CO.cells 0 [x, str n, str (trim v), .v (.int .i64 (a : Nat)), .v (.bool false)] 127 :: (La ++ CO.cells 0 [.v (.int .i64 0), .v (.int .i64 0)] 48 :: Lb)) x2 (l ++ [⟨n, trim v⟩]) := by
        unfold GF
        rw [fldS_snoc, List.length_append]; exact e2
      exact this.swap (by omega)
end Go.Proofs.Tryz

/- Walks: a line of a header is taken. -/
namespace Go.Proofs.Tryz
open Go Go.SL
set_option linter.unusedVariables false
set_option linter.unusedSimpArgs false

/-- A line, taken: where it is wrong, or the fields and what is open. -/
def lineG (l : List Fld) (o : Option Opn) (at' : Nat) (s : Bs) : Nat ⊕ (List Fld × Opn) :=
  if (s.head?.map blankC) = some true then
    match o with
    | none => .inl at'
    | some o => .inr (l, ⟨o.a, o.n, o.x ++ s⟩)
  else
    match shutG l o with
    | none => .inl (match o with | none => 0 | some o => o.a)
    | some l' => if (headT s 58).length = s.length ∨ ¬ isName (headT s 58) then .inl at' else .inr (l', ⟨at', headT s 58, s.drop ((headT s 58).length + 1)⟩)
variable [LayerC]
theorem headT_all {s : Bs} {c : UInt8} : (headT s c).length = s.length ↔ c ∉ s := by
  unfold headT
  constructor
  · intro h hc
    have := (idb_at s c hc).2.1
    omega
  · intro h
    have : s.takeWhile (· != c) = s := by
      have := List.takeWhile_append_of_pos (l₁ := s) (l₂ := []) (p := (· != c)) (fun d hd => by simp; rintro rfl; exact h hd)
      simpa using this
    rw [this]
theorem w61 (m : Nat) (A L : Hp) (x : CV) (n v : Bs) (a : Nat) (op : Bool) (l : List Fld) (at' : Nat) (s : Bs) (hm : m ≤ A.length) (hg : GF (A.length + 1) (A ++ rdC x n v a op :: L) x l) (hl : l.length ≤ 128) (hv : v.length ≤ 100000000) (hs : s.length ≤ 100000000) (hs0 : s ≠ []) :
    WC prog cs0 m (.f 89) [.ptr A.length 0 0, .v (.int .i64 (at' : Nat)), str s] (A ++ rdC x n v a op :: L) fun y H' => ∃ L2 x' n' v' a' op', Kp L L2 ∧ H' = A ++ rdC x' n' v' a' op' :: L2 ∧
      ((∃ p, lineG l (opO n v a op) at' s = .inl p ∧ y = .agg [.v (.int .i64 (p : Nat)), .v (.int .i64 50)]) ∨ (∃ l', lineG l (opO n v a op) at' s = .inr (l', ⟨a', n', v'⟩) ∧ op' = true ∧ l'.length ≤ 128 ∧ GF (A.length + 1) H' x' l' ∧ y = .agg [.v (.int .i64 0), .v (.int .i64 0)])) := by
  rw [WC_raw rfl func89 rfl rfl]
  obtain ⟨K, hK⟩ : ∃ K : CV → Hp → Prop, ∀ y H', K y H' ↔ ∃ L2 x' n' v' a' op', Kp L L2 ∧ H' = A ++ rdC x' n' v' a' op' :: L2 ∧
      ((∃ p, lineG l (opO n v a op) at' s = .inl p ∧ y = .agg [.v (.int .i64 (p : Nat)), .v (.int .i64 50)]) ∨ (∃ l', lineG l (opO n v a op) at' s = .inr (l', ⟨a', n', v'⟩) ∧ op' = true ∧ l'.length ≤ 128 ∧ GF (A.length + 1) H' x' l' ∧ y = .agg [.v (.int .i64 0), .v (.int .i64 0)])) := ⟨_, fun _ _ => Iff.rfl⟩
  simp only [← hK]
  obtain ⟨c, t, rfl⟩ : ∃ c t, s = c :: t := by cases s with | nil => exact absurd rfl hs0 | cons c t => exact ⟨c, t, rfl⟩
  have hx0 : dIndex prog 9 (str (c :: t)) (.v (.int .i64 0)) = some (.v (.int .u8 c.toNat)) := by
    have := index_str (P := prog) underlying9 (c :: t) .i64 0
    simpa using this
  have hbl : (((c :: t).head?.map blankC) = some true) ↔ (c.toNat = 32 ∨ c.toNat = 9) := by simp [blankC_iff]
  have hgen : ∀ (X : Prop), X → X := fun _ h => h
  by_cases hb : c.toNat = 32 ∨ c.toNat = 9
  · have hb' := hbl.2 hb
    cases op with
    | false =>
      have hl2 : lineG l (opO n v a false) at' (c :: t) = .inl at' := by unfold lineG; rw [if_pos hb']; rfl
      rcases hb with hb | hb
      all_goals
        simp -implicitDefEqProofs [f89, aQ, dAlloc, hx0, hb, rdC, atP, faddr_ptr, underlying127, load_one underlying4 rfl iT4, b48_2, store_at iT48, cells_agg, load_aggp underlying48 rfl iT48]
        exact (hK _ _).2 ⟨_, x, n, v, a, false, Kp.app L _, rfl, .inl ⟨_, hl2, rfl⟩⟩
    | true =>
      have hl2 : lineG l (opO n v a true) at' (c :: t) = .inr (l, ⟨a, n, v ++ (c :: t)⟩) := by unfold lineG; rw [if_pos hb']; rfl
      have hadd : v.length + (t.length + 1) ≤ 9223372036854775807 := by simp at hs; omega
      rcases hb with hb | hb
      all_goals
        simp -implicitDefEqProofs [f89, aQ, dAlloc, hx0, hb, rdC, atP, faddr_ptr, underlying127, underlying62, load_one underlying4 rfl iT4, load_one underlying9 rfl iT9, hadd, store_at iT9, b48_0, store_at iT48, cells_agg, load_aggp underlying48 rfl iT48]
        exact (hK _ _).2 ⟨_, x, n, v ++ (c :: t), a, true, Kp.app L _, rfl, .inr ⟨l, hl2, rfl, hl, hg.head (by omega), rfl⟩⟩
  · have hb' : ¬ (((c :: t).head?.map blankC) = some true) := fun h => hb (hbl.1 h)
    obtain ⟨hb1, hb2⟩ := not_or.1 hb
    simp -implicitDefEqProofs [f89, aQ, dAlloc, hx0, hb1, hb2, rdC]
    refine WC_mono (w60 m A (L ++ [CO.cells 0 [.v (.int .i64 0), .v (.int .i64 0)] 48]) x n v a op l hm (hg.head (by omega)) hl (by omega)) ?_
    rintro y H2 ⟨L2, x', v', hkp, rfl, hres⟩
    have h6 : L2[L.length]? = some (CO.cells 0 [.v (.int .i64 0), .v (.int .i64 0)] 48) := hkp _ _ (by simp) (by simp)
    obtain ⟨La, Lb, rfl, hLa⟩ := split_get h6
    have hk2 : ∀ o M, Kp L (La ++ o :: M) := fun o M i o' h1 h2 => by
      have hil := (List.getElem?_eq_some_iff.1 h1).1
      have := hkp i o' (by rw [get_old hil]; exact h1) h2
      rw [get_old (by omega)] at this ⊢; exact this
    clear hkp h6
    rw [← hLa]
    rcases hres with ⟨l', hsh, hl', hg', rfl⟩ | ⟨hsh, rfl⟩
    case inr =>
      have hl2 : lineG l (opO n v a op) at' (c :: t) = .inl a := by
        unfold lineG; rw [if_neg hb', hsh]
        cases op with
        | true => rfl
        | false => simp [opO, shutG] at hsh
      simp -implicitDefEqProofs [rdC, store_at iT48, cells_agg, faddr_ptr, underlying48, load_one underlying30 rfl iT30, load_aggp underlying48 rfl iT48]
      exact (hK _ _).2 ⟨_, x', n, v', a, false, hk2 _ _, rfl, .inl ⟨_, hl2, rfl⟩⟩
    have c92 := fun m H => (w92 m (c :: t) 58 H (by omega)).wc
    by_cases hc : 58 ∈ c :: t
    case neg =>
      have hcut : cutAt (c :: t) 58 = (c :: t, [], false) := by unfold cutAt; rw [if_neg hc]
      have hl2 : lineG l (opO n v a op) at' (c :: t) = .inl at' := by
        unfold lineG; rw [if_neg hb', hsh]; simp only []; rw [if_pos (.inl (headT_all.2 hc))]
      simp -implicitDefEqProofs [rdC, store_at iT48, cells_agg, faddr_ptr, underlying48, load_one underlying30 rfl iT30, load_aggp underlying48 rfl iT48, c92, hcut, dExtract, b48_2]
      exact (hK _ _).2 ⟨_, x', n, v', a, false, hk2 _ _, rfl, .inl ⟨_, hl2, rfl⟩⟩
    obtain ⟨hd, hhd⟩ : ∃ hd, hd = headT (c :: t) 58 := ⟨_, rfl⟩
    have hcut : cutAt (c :: t) 58 = (hd, (c :: t).drop (hd.length + 1), true) := by unfold cutAt; rw [if_pos hc, hhd]; rfl
    have c72 := fun m H' => (w72 m hd H').wc
    by_cases hn : isName hd
    case neg =>
      have hl2 : lineG l (opO n v a op) at' (c :: t) = .inl at' := by
        unfold lineG; rw [if_neg hb', hsh]; simp only []; rw [if_pos (.inr (by rw [← hhd]; exact hn))]
      simp -implicitDefEqProofs [rdC, store_at iT48, cells_agg, faddr_ptr, underlying48, load_one underlying30 rfl iT30, load_aggp underlying48 rfl iT48, c92, hcut, dExtract, b48_2, c72, hn]
      exact (hK _ _).2 ⟨_, x', n, v', a, false, hk2 _ _, rfl, .inl ⟨_, hl2, rfl⟩⟩
    have hl2 : lineG l (opO n v a op) at' (c :: t) = .inr (l', ⟨at', hd, (c :: t).drop (hd.length + 1)⟩) := by
      unfold lineG; rw [if_neg hb', hsh]; simp only []; rw [if_neg (by rw [headT_all, ← hhd]; rintro (h | h); exact h hc; exact h hn), ← hhd]
    simp -implicitDefEqProofs [rdC, store_at iT48, cells_agg, faddr_ptr, underlying48, load_one underlying30 rfl iT30, load_aggp underlying48 rfl iT48, c92, hcut, dExtract, b48_2, c72, hn, b62_2, atP, underlying127, store_at iT62, store_at iT3, store_at iT4, b48_0]
    refine (hK _ _).2 ⟨_, x', hd, (c :: t).drop (hd.length + 1), at', true, hk2 _ _, rfl, .inr ⟨l', hl2, rfl, hl', ?_, rfl⟩⟩
    have := GF.head (c' := rdC x' hd ((c :: t).drop (hd.length + 1)) at' true) (M := [CO.cells 0 [.v (.int .i64 0), .v (.int .i64 0)] 48]) hg' (by omega)
    simpa [rdC] using this
end Go.Proofs.Tryz

/- Walks: the program's Parse of a header. -/
namespace Go.Proofs.Tryz
open Go Go.SL
set_option linter.unusedVariables false
set_option linter.unusedSimpArgs false

theorem cells_mid {X L : Hp} {v fn : Nat} {ts : List CV} {ps : Array Tmp} {a b : Code} {st : LoopState} {pe : Option Code} {id ver : Nat} {cs : List CV} (o : CO) (h : cellsAt (X ++ .loop v fn ts ps a b st pe :: L) id ver = some cs) : cellsAt (X ++ o :: L) id ver = some cs := by
  by_cases e : id = X.length
  · subst e; simp [cellsAt] at h
  · have : (X ++ o :: L)[id]? = (X ++ .loop v fn ts ps a b st pe :: L)[id]? := by
      by_cases hl : id < X.length
      · rw [List.getElem?_append_left hl, List.getElem?_append_left hl]
      · rw [List.getElem?_append_right (by omega), List.getElem?_append_right (by omega)]
        obtain ⟨k, hk⟩ : ∃ k, id - X.length = k + 1 := ⟨id - X.length - 1, by omega⟩
        rw [hk]; rfl
    unfold cellsAt at h ⊢; rw [this]; exact h
theorem hdrG_line {n : Nat} {x : Ln} {xs : List Ln} {l : List Fld} {o : Option Opn} (h : x.w = true) (h2 : ¬ 998 < x.s.length) (h5 : x.s ≠ []) : hdrG n (x :: xs) l o = match lineG l o x.a x.s with
    | .inl p => .bad p 50
    | .inr (l', o') => hdrG n xs l' (some o') := by
  unfold lineG
  by_cases h3 : (x.s.head?.map blankC) = some true
  · rw [if_pos h3]
    cases o with
    | none => exact hdrG_b0 h h2 h3
    | some o => exact hdrG_b1 h h2 h3
  · rw [if_neg h3]
    cases h4 : shutG l o with
    | none =>
      cases o with
      | none => simp [shutG] at h4
      | some o => exact hdrG_sh h h2 h3 h4
    | some l' =>
      simp only []
      by_cases h6 : (headT x.s 58).length = x.s.length ∨ ¬ isName (headT x.s 58)
      · rw [if_pos h6]; exact hdrG_bad h h2 h3 h4 h5 h6
      · rw [if_neg h6]; exact hdrG_open h h2 h3 h4 h5 h6
theorem lineG_len {l l' : List Fld} {o : Option Opn} {o' : Opn} {a : Nat} {s : Bs} (h : lineG l o a s = .inr (l', o')) : o'.x.length ≤ (o.elim 0 fun o => o.x.length) + s.length := by
  unfold lineG at h
  split at h
  · cases o with
    | none => cases h
    | some o => cases h; simp
  · split at h
    · cases h
    · split at h
      · cases h
      · cases h; simp; omega
theorem b127_0 : dBuild prog 127 [] = some (.agg [nilC, str [], str [], .v (.int .i64 0), .v (.bool false)]) := by
  simp [dBuild, underlying127, places, fillC]
theorem cells_ptr (a b c : Nat) : cvCells (.ptr a b c) = some [.ptr a b c] := rfl
theorem GF.mid {X L : Hp} {v fn k : Nat} {ts : List CV} {ps : Array Tmp} {a b : Code} {st : LoopState} {pe : Option Code} {x : CV} {l : List Fld} (o : CO) (h : GF k (X ++ .loop v fn ts ps a b st pe :: L) x l) : GF k (X ++ o :: L) x l := by
  refine Grow.of_obj h fun i v c _ hi => ?_
  by_cases e : i = X.length
  · subst e; simp at hi
  · by_cases hl : i < X.length
    · rw [List.getElem?_append_left hl, List.getElem?_append_left hl]
    · rw [List.getElem?_append_right (by omega), List.getElem?_append_right (by omega)]
      obtain ⟨k, hk⟩ : ∃ k, i - X.length = k + 1 := ⟨i - X.length - 1, by omega⟩
      rw [hk]; rfl
theorem GF.seven {H L : Hp} {a0 a1 a2 a3 a4 a5 a6 b0 b1 b2 b3 b4 b5 b6 : CO} {x : CV} {l : List Fld} (h : GF (H.length + 2) (H ++ a0 :: a1 :: a2 :: a3 :: a4 :: a5 :: a6 :: L) x l) (h2 : ∀ v c, a2 ≠ .cells v c 62) (h3 : ∀ v c, a3 ≠ .cells v c 62) (h4 : ∀ v c, a4 ≠ .cells v c 62) (h5 : ∀ v c, a5 ≠ .cells v c 62) (h6 : ∀ v c, a6 ≠ .cells v c 62) :
    GF (H.length + 2) (H ++ b0 :: b1 :: b2 :: b3 :: b4 :: b5 :: b6 :: L) x l := by
  refine Grow.of_obj h fun i v c hm hi => ?_
  obtain ⟨j, rfl⟩ : ∃ j, i = H.length + j := ⟨i - H.length, by omega⟩
  rw [get_own] at hi ⊢
  rw [get_own]
  rcases j with _ | _ | _ | _ | _ | _ | _ | j
  · omega
  · omega
  · simp at hi; exact absurd hi (h2 _ _)
  · simp at hi; exact absurd hi (h3 _ _)
  · simp at hi; exact absurd hi (h4 _ _)
  · simp at hi; exact absurd hi (h5 _ _)
  · simp at hi; exact absurd hi (h6 _ _)
  · simp
/-- A round, where the record's code is named. -/
theorem WC_round2 {P : Program} {cs : Cfgs} {m id ver n : Nat} {args : List CV} {H : Hp} {K : CV → Hp → Prop} {fn : FuncId} {ts : List CV} {ps : Array Tmp} {a b a' b' : Code} (h0 : H[id]? = some (.loop ver fn ts ps a b .ready none)) (ha : args.length = ps.size) (hn : ts.length = n) (hA : a = a') (hB : b = b') :
    WC P cs m (.y id ver) args H K ↔ W ⟨P, cs, { cs.of fn with inR := true }, m, n⟩ a' (roundFr ts ps args) H fun e fr1 H1 => e = .norm ∧ WX (busyR id ver H1) fun H1' =>
      W ⟨P, cs, { cs.of fn with inR := true }, m, n⟩ b' fr1 H1' fun e2 _ H3 => WX (doneR id ver e2 H3) fun H4 => K (.v (.bool e2.jump.isNone)) H4 := by
  subst hn hA hB; exact WC_round h0 ha
variable [LayerC]
theorem w34 (m : Nat) (x : CV) (b : Bs) (H : Hp) (hx : RB H x b) (hb : b.length ≤ 2000000) : WC prog cs0 m (.f 62) [x] H fun y H2 => H2 = H ∧ hdrR (hdrG b.length (lnS 0 b) [] none) y := by
  rw [WC_drop rfl func62 rfl rfl]
  have ux := hx.unl
  have c59 := fun m L => (w59 m x (H ++ L) hx.one ux hx.cells).wc
  obtain ⟨Z, hZ⟩ : ∃ Z, Z = hdrG b.length (lnS 0 b) [] none := ⟨_, rfl⟩
  rw [← hZ]
  have hle2 : H.length ≤ H.length + 1 + 1 := by omega
  simp -implicitDefEqProofs [f62, aQ, dAlloc, ux, c59, b127_0, store_at iT125, store_at iT3, cells_agg, stQ, topLe, hle2, cells_ptr]
  simp only [Nat.add_assoc, Nat.reduceAdd]
  refine W_range2 110 [.ptr (H.length + 5) 0 0] rfl (by simp) (by rw [func110]; rfl) ?_
  intro ts A B hA hB hn hts
  have hn : ts.length = 57 := hn
  have ts5 : ts[5]? = some (.ptr (H.length + 2) 0 0) := by simpa using hts 5 (show 5 < 57 by decide)
  have ts6 : ts[6]? = some (.ptr (H.length + 3) 0 0) := by simpa using hts 6 (show 6 < 57 by decide)
  have ts7 : ts[7]? = some (.ptr (H.length + 4) 0 0) := by simpa using hts 7 (show 7 < 57 by decide)
  clear hts
  obtain ⟨BX, hBX⟩ : ∃ BX : LoopState → Option Code → Hp → Hp, ∀ st pe L, BX st pe L = CO.cells 0 [x] 23 :: CO.loop 0 62 ts #[14, 15] A B st pe :: L := ⟨_, fun _ _ _ => rfl⟩
  obtain ⟨J, hJ⟩ : ∃ J : Nat → Hp → Prop, ∀ p H', J p H' ↔ ∃ q n v a op l L, H' = H ++ CO.cells 0 zF 48 :: rdC q n v a op :: CO.cells 0 [.ptr (H.length + 1) 0 0] 125 :: CO.cells 0 zF 48 :: CO.cells 0 [.v (.int .i64 0)] 3 :: CO.cells 0 [x] 23 :: CO.loop 0 62 ts #[14, 15] A B .ready none :: L ∧ GF (H.length + 2) H' q l ∧ l.length ≤ 128 ∧ v.length ≤ p ∧ p ≤ b.length ∧ Z = hdrG b.length (lnS p (b.drop p)) l (opO n v a op) := ⟨_, fun _ _ => Iff.rfl⟩
  obtain ⟨D, hD⟩ : ∃ D : Hp → Prop, ∀ H', D H' ↔ ∃ q n v a op f k L, H' = H ++ CO.cells 0 zF 48 :: rdC q n v a op :: CO.cells 0 [.ptr (H.length + 1) 0 0] 125 :: CO.cells 0 f 48 :: CO.cells 0 [.v (.int .i64 (k : Nat))] 3 :: CO.cells 0 [x] 23 :: CO.loop 0 62 ts #[14, 15] A B .done (some (.exit 0)) :: L ∧
      ((∃ p c : Nat, c ≠ 0 ∧ f = [.v (.int .i64 (p : Nat)), .v (.int .i64 (c : Nat))] ∧ Z = .bad p c) ∨ (∃ l, f = zF ∧ GF (H.length + 2) H' q l ∧ Z = .ok l k)) := ⟨_, fun _ => Iff.rfl⟩
  have hid0 : ∀ (c0 c1 c2 c3 c4 c5 : CO), (H ++ [c0, c1, c2, c3, c4, c5]).length = H.length + 6 := fun _ _ _ _ _ _ => by simp
  simp only [hid0, List.append_assoc, List.cons_append, List.nil_append]
  have h0 : J 0 (H ++ CO.cells 0 zF 48 :: rdC nilC [] [] 0 false :: CO.cells 0 [.ptr (H.length + 1) 0 0] 125 :: CO.cells 0 zF 48 :: CO.cells 0 [.v (.int .i64 0)] 3 :: CO.cells 0 [x] 23 :: CO.loop 0 62 ts #[14, 15] A B .ready none :: []) := (hJ _ _).2 ⟨nilC, [], [], 0, false, [], [], rfl, Grow.nil _ _ 2 62, by simp, by simp, by simp, by rw [hZ]; rfl⟩
  refine WC_mono (w89 _ _ _ (H.length + 5) x b J D (by omega) ?_ ?_ ?_ _ h0) ?_
  · intro p H' hj
    obtain ⟨q, n, v, a, op, l, L, rfl, _⟩ := (hJ _ _).1 hj
    exact ⟨by simp [rdC], hx.app _⟩
  · intro p H' y hj hp hc hy hyn
    obtain ⟨q, n, v, a, op, l, L, rfl, hg, hl, hv, _, hz⟩ := (hJ _ _).1 hj
    have hid : (H ++ CO.cells 0 zF 48 :: rdC q n v a op :: CO.cells 0 [.ptr (H.length + 1) 0 0] 125 :: CO.cells 0 zF 48 :: CO.cells 0 [.v (.int .i64 0)] 3 :: CO.cells 0 [x] 23 :: CO.loop 0 62 ts #[14, 15] A B .ready none :: L)[H.length + 6]? = some (.loop 0 62 ts #[14, 15] A B .ready none) := by simp
    rw [WC_round2 hid (by rfl) hn hA hB]
    have r5 : ∀ a b, roundFr ts #[14, 15] [a, b] 5 = .ptr (H.length + 2) 0 0 := fun a b => by simp [roundFr, ts5]
    have r6 : ∀ a b, roundFr ts #[14, 15] [a, b] 6 = .ptr (H.length + 3) 0 0 := fun a b => by simp [roundFr, ts6]
    have r7 : ∀ a b, roundFr ts #[14, 15] [a, b] 7 = .ptr (H.length + 4) 0 0 := fun a b => by simp [roundFr, ts7]
    have r14 : ∀ a b, roundFr ts #[14, 15] [a, b] 14 = a := fun a b => by simp [roundFr, hn]
    have r15 : ∀ a b, roundFr ts #[14, 15] [a, b] 15 = b := fun a b => by simp [roundFr, hn]
    have hroom := crIdx_room (b.drop p) hc
    rw [List.length_drop] at hroom
    obtain ⟨k, hk⟩ : ∃ k, k = (crIdx (b.drop p)).toNat := ⟨_, rfl⟩
    have hN : lineN (b.drop p) = k + 2 := by unfold lineN; rw [if_neg (by omega), hk]
    rw [lnS_whole hc, hN, ← hk, List.drop_drop] at hz
    rw [hN] at hy ⊢
    obtain ⟨s, hs⟩ : ∃ s, s = (b.drop p).take k := ⟨_, rfl⟩
    rw [← hs] at hz
    have hsk : s.length = k := by rw [hs]; simp; omega
    have hs2 : ((b.drop p).take (k + 2)).take k = s := by rw [List.take_take, hs]; congr 1; omega
    have hll : ((b.drop p).take (k + 2)).length = k + 2 := by simp; omega
    generalize (b.drop p).take (k + 2) = line at *
    have hyB : RB (H ++ CO.cells 0 zF 48 :: rdC q n v a op :: CO.cells 0 [.ptr (H.length + 1) 0 0] 125 :: CO.cells 0 zF 48 :: CO.cells 0 [.v (.int .i64 0)] 3 :: CO.cells 0 [x] 23 :: CO.loop 0 62 ts #[14, 15] A B .busy none :: L) y line := by
      refine RB.of_cells hy fun id ver cs h => ?_
      have := cells_mid (X := H ++ [CO.cells 0 zF 48, rdC q n v a op, CO.cells 0 [.ptr (H.length + 1) 0 0] 125, CO.cells 0 zF 48, CO.cells 0 [.v (.int .i64 0)] 3, CO.cells 0 [x] 23]) (L := L) (CO.loop 0 62 ts #[14, 15] A B .busy none) (by simpa using h)
      simpa using this
    have hgB : GF (H.length + 2) (H ++ CO.cells 0 zF 48 :: rdC q n v a op :: CO.cells 0 [.ptr (H.length + 1) 0 0] 125 :: CO.cells 0 zF 48 :: CO.cells 0 [.v (.int .i64 0)] 3 :: CO.cells 0 [x] 23 :: CO.loop 0 62 ts #[14, 15] A B .busy none :: L) q l := GF.seven hg (by simp) (by simp) (by simp) (by simp) (by simp)
    have hyu := hyB.unl
    have hey := hyB.eqnil (P := prog) underlying23 hyn
    have hlen := hyB.len (P := prog) underlying23
    rw [hll] at hlen
    have hlen2 : ((k + 2 : Nat) : Int) = (k : Int) + 2 := by omega
    have hbz : b.length ≤ 2000000 := hb
    by_cases hk0 : k = 0
    · subst hk0
      have hs0 : s = [] := List.eq_nil_of_length_eq_zero hsk
      simp -implicitDefEqProofs [r5, r6, r7, r14, r15, busyR, hyu, hey, hlen, load_one underlying125 rfl iT125]
      have h60 := w60 H.length (H ++ [CO.cells 0 zF 48]) (CO.cells 0 [.ptr (H.length + 1) 0 0] 125 :: CO.cells 0 zF 48 :: CO.cells 0 [.v (.int .i64 0)] 3 :: CO.cells 0 [x] 23 :: CO.loop 0 62 ts #[14, 15] A B .busy none :: L) q n v a op l (by simp) (by simpa using hgB) hl (by omega)
      simp only [List.append_assoc, List.cons_append, List.nil_append, List.length_append, List.length_cons, List.length_nil, Nat.zero_add, Nat.add_assoc, Nat.reduceAdd] at h60
      refine WC_mono h60 ?_
      rintro y' H2 ⟨L2, x', v', hkp, rfl, hres⟩
      obtain ⟨L3, rfl, _⟩ := Kp.pre (Q := [CO.cells 0 [.ptr (H.length + 1) 0 0] 125, CO.cells 0 zF 48, CO.cells 0 [.v (.int .i64 0)] 3, CO.cells 0 [x] 23, CO.loop 0 62 ts #[14, 15] A B .busy none]) hkp (by simp)
      obtain ⟨p2, hp2, hwp⟩ : ∃ p2, p2 = p + 2 ∧ IntKind.i64.wrap ((p : Int) + 2) = (p2 : Int) := ⟨_, rfl, wrN (by omega) (by omega)⟩
      rcases hres with ⟨l', hsh, hl', hg', rfl⟩ | ⟨hsh, rfl⟩
      · rw [hdrG_end rfl hs0 hsh, ← hp2] at hz
        simp -implicitDefEqProofs [store_at iT48, store_at iT3, cells_agg, zF, doneR, Ex.jump, hwp]
        refine (hD _).2 ⟨x', n, v', a, false, _, p2, L3, rfl, .inr ⟨l', rfl, ?_, hz⟩⟩
        exact GF.seven hg' (by simp) (by simp) (by simp) (by simp) (by simp)
      · have ho : ∃ o, opO n v a op = some o ∧ o.a = a := by
          cases op with
          | true => exact ⟨_, rfl, rfl⟩
          | false => simp [opO, shutG] at hsh
        obtain ⟨o, ho, hoa⟩ := ho
        rw [ho] at hz hsh
        rw [hdrG_sh rfl (by rw [hs0]; simp) (by rw [hs0]; simp) hsh, hoa] at hz
        simp -implicitDefEqProofs [store_at iT48, store_at iT3, cells_agg, zF, doneR, Ex.jump, hwp]
        exact (hD _).2 ⟨x', n, v', a, false, _, p2, L3, rfl, .inl ⟨a, 50, by omega, rfl, hz⟩⟩
    obtain ⟨kk, hkk⟩ : ∃ kk, kk = k + 2 := ⟨_, rfl⟩
    have hk2 : ¬ kk = 2 := by omega
    have zl : zF.length = 2 := rfl
    have zd : zF.drop 2 = [] := rfl
    rw [← hkk] at hlen
    have hs0 : s ≠ [] := by rintro rfl; exact hk0 hsk.symm
    by_cases h998 : 998 < k
    · have h9' : 998 < (k : Int) := by omega
      rw [hdrG_long rfl (by simp only []; omega)] at hz
      have hk1000 : 1000 < kk := by omega
      simp -implicitDefEqProofs [r5, r6, r7, r14, r15, busyR, hyu, hey, hlen, hk2, hk1000, b48_2, store_at iT48, cells_agg, faddr_ptr, underlying48, load_one underlying30 rfl iT30, doneR, Ex.jump, zl, zd]
      exact (hD _).2 ⟨q, n, v, a, op, _, 0, L, rfl, .inl ⟨p, 40, by omega, rfl, hz⟩⟩
    have hk1000 : ¬ 1000 < kk := by omega
    have hwk : IntKind.i64.wrap ((kk : Int) - 2) = (k : Int) := wrN (by omega) (by omega)
    have hsl : dSlice prog 23 y none (some (.v (.int .i64 (k : Nat)))) (H ++ CO.cells 0 zF 48 :: rdC q n v a op :: CO.cells 0 [.ptr (H.length + 1) 0 0] 125 :: CO.cells 0 zF 48 :: CO.cells 0 [.v (.int .i64 0)] 3 :: CO.cells 0 [x] 23 :: CO.loop 0 62 ts #[14, 15] A B .busy none :: L) = some (cutC y 0 k) := by
      have := hyB.slice (P := prog) underlying23 iT5 sT5 none (some (.v (.int .i64 (k : Nat))))
      rw [this]
      have h1 : (k : Int) ≤ (line.length : Nat) := by rw [hll]; omega
      simp [h1]
    have hcut := hyB.cut (o := 0) (h := k) (by omega) (by omega)
    rw [List.drop_zero, hs2] at hcut
    have hcv := hcut.str (P := prog) (s := 23) (d := 9) false underlying23 underlying9 underlying5
    have hcu := hcut.unl
    simp -implicitDefEqProofs [r5, r6, r7, r14, r15, busyR, hyu, hey, hlen, hk2, hk1000]
    rw [W_draw _ _ _ _ _ _ followsT (by rfl)]
    simp -implicitDefEqProofs [r5, r6, r7, r14, r15, hyu, hlen, hwk, hsl, hcv, hcu, load_one underlying125 rfl iT125]
    have h61 := w61 H.length (H ++ [CO.cells 0 zF 48]) (CO.cells 0 [.ptr (H.length + 1) 0 0] 125 :: CO.cells 0 zF 48 :: CO.cells 0 [.v (.int .i64 0)] 3 :: CO.cells 0 [x] 23 :: CO.loop 0 62 ts #[14, 15] A B .busy none :: L) q n v a op l p s (by simp) (by simpa using hgB) hl (by omega) (by omega) hs0
    simp only [List.append_assoc, List.cons_append, List.nil_append, List.length_append, List.length_cons, List.length_nil, Nat.zero_add, Nat.add_assoc, Nat.reduceAdd] at h61
    refine WC_mono h61 ?_
    rintro y' H2 ⟨L2, x', n', v', a', op', hkp, rfl, hres⟩
    obtain ⟨L3, rfl, _⟩ := Kp.pre (Q := [CO.cells 0 [.ptr (H.length + 1) 0 0] 125, CO.cells 0 zF 48, CO.cells 0 [.v (.int .i64 0)] 3, CO.cells 0 [x] 23, CO.loop 0 62 ts #[14, 15] A B .busy none]) hkp (by simp)
    rw [hdrG_line rfl (by simp only []; omega) hs0] at hz
    simp only [] at hz
    rcases hres with ⟨p', hln, rfl⟩ | ⟨l', hln, rfl, hl', hg', rfl⟩
    · rw [hln] at hz
      simp -implicitDefEqProofs [store_at iT48, cells_agg, faddr_ptr, underlying48, load_one underlying30 rfl iT30, zF, doneR, Ex.jump]
      exact (hD _).2 ⟨x', n', v', a', op', _, 0, L3, rfl, .inl ⟨p', 50, by omega, rfl, hz⟩⟩
    · have hvl := lineG_len hln
      rw [hln] at hz
      simp only [] at hz
      have hol : ((opO n v a op).elim 0 fun o => o.x.length) ≤ v.length := by cases op <;> simp [opO]
      simp -implicitDefEqProofs [store_at iT48, cells_agg, faddr_ptr, underlying48, load_one underlying30 rfl iT30, zF, doneR, Ex.jump]
      refine (hJ _ _).2 ⟨x', n', v', a', true, l', L3, rfl, ?_, hl', by simp only [] at hvl; omega, by omega, hz⟩
      exact GF.seven hg' (by simp) (by simp) (by simp) (by simp) (by simp)
  · intro p H' hj hp hc
    obtain ⟨q, n, v, a, op, l, L, rfl, hg, hl, hv, _, hz⟩ := (hJ _ _).1 hj
    have hid : (H ++ CO.cells 0 zF 48 :: rdC q n v a op :: CO.cells 0 [.ptr (H.length + 1) 0 0] 125 :: CO.cells 0 zF 48 :: CO.cells 0 [.v (.int .i64 0)] 3 :: CO.cells 0 [x] 23 :: CO.loop 0 62 ts #[14, 15] A B .ready none :: L)[H.length + 6]? = some (.loop 0 62 ts #[14, 15] A B .ready none) := by simp
    rw [WC_round2 hid (by rfl) hn hA hB]
    have r6 : ∀ a b, roundFr ts #[14, 15] [a, b] 6 = .ptr (H.length + 3) 0 0 := fun a b => by simp [roundFr, ts6]
    have r14 : ∀ a b, roundFr ts #[14, 15] [a, b] 14 = a := fun a b => by simp [roundFr, hn]
    have r15 : ∀ a b, roundFr ts #[14, 15] [a, b] 15 = b := fun a b => by simp [roundFr, hn]
    have hzz : Z = .bad p 42 := by
      rw [hz]
      by_cases hr : b.drop p = []
      · rw [hr, lnS_nil, hdrG_nil]
        have := congrArg List.length hr; simp at this
        rw [show p = b.length by omega]
      · rw [lnS_last hr hc, hdrG_short rfl]
    simp -implicitDefEqProofs [r6, r14, r15, busyR, zF, rdC, eqnil_nil underlying23, b48_2, store_at iT48, cells_agg, faddr_ptr, underlying48, load_one underlying30 rfl iT30, doneR, Ex.jump]
    exact (hD _).2 ⟨q, n, v, a, op, _, 0, L, rfl, .inl ⟨p, 42, by omega, rfl, hzz⟩⟩
  · intro r H' hd
    obtain ⟨q, n, v, a, op, f, k, L, rfl, hcase⟩ := (hD _).1 hd
    rcases hcase with ⟨p, c, hc, rfl, hz⟩ | ⟨l, rfl, hg, hz⟩
    · have hc' : ¬ ((c : Int) = 0) := by omega
      simp -implicitDefEqProofs [afterR, jumpEx, zF, rdC, faddr_ptr, underlying48, load_one underlying30 rfl iT30, hc]
      rw [W_draw _ _ _ _ _ _ followsT (by rfl)]
      simp -implicitDefEqProofs [store_at iT48, cells_agg, load_aggp underlying48 rfl iT48, zF]
      rw [hz]; rfl
    · simp -implicitDefEqProofs [afterR, jumpEx, zF, rdC, faddr_ptr, underlying48, load_one underlying30 rfl iT30]
      rw [W_draw _ _ _ _ _ _ followsT (by rfl)]
      have hu := Grow.unl hg
      have hg2 : GF (H.length + 2) (H ++ CO.cells 0 [.v (.int .i64 0), .v (.int .i64 0)] 48 :: CO.cells 0 [q, str n, str v, .v (.int .i64 (a : Nat)), .v (.bool op)] 127 :: CO.cells 0 [.ptr (H.length + 1) 0 0] 125 :: CO.cells 0 [.v (.int .i64 0), .v (.int .i64 0)] 48 :: CO.cells 0 [.v (.int .i64 (k : Nat))] 3 :: CO.cells 0 [x] 23 :: CO.loop 0 62 ts #[14, 15] A B .exhausted (some (.exit 0)) :: L) q l := by
        have := GF.mid (X := H ++ [CO.cells 0 zF 48, rdC q n v a op, CO.cells 0 [.ptr (H.length + 1) 0 0] 125, CO.cells 0 zF 48, CO.cells 0 [.v (.int .i64 (k : Nat))] 3, CO.cells 0 [x] 23]) (L := L) (CO.loop 0 62 ts #[14, 15] A B .exhausted (some (.exit 0))) (by simpa using hg)
        simpa [rdC, zF] using this
      obtain ⟨y, g1, g2, g3, g4⟩ := Grow.frzV hg2 (k := H.length) (by omega) (fldS_clB l)
      simp -implicitDefEqProofs [store_at iT48, cells_agg, load_aggp underlying48 rfl iT48, load_one underlying125 rfl iT125, atP, faddr_ptr, underlying127, load_one underlying22 rfl iT22, load_one underlying3 rfl iT3, hu, g1, g2, g3]
      rw [hz]; exact ⟨y, g4, rfl⟩
end Go.Proofs.Tryz

/- Walks: the program's cut. -/
namespace Go.Proofs.Tryz
open Go Go.SL
set_option linter.unusedVariables false
set_option linter.unusedSimpArgs false

/-- What a border's line adds. -/
def outP (l : Bs) (p : Nat) (fr : Option Nat) (out : List Bs) : List Bs :=
  match fr with
  | some f => out ++ [(l.take (max (p - 2) f)).drop f]
  | none => out
/-- The texts between the borders' lines, as the program finds them. -/
def cutP (l b : Bs) : List Bs → Nat → Option Nat → List Bs → Option (List Bs)
  | [], _, _, _ => none
  | x :: xs, p, fr, out =>
    if edgeP x b = 0 then cutP l b xs (p + x.length) fr out else
    if edgeP x b = 2 then some (outP l p fr out) else cutP l b xs (p + x.length) (some (p + x.length)) (outP l p fr out)
theorem cutP_nil (l b : Bs) (p : Nat) (fr : Option Nat) (out : List Bs) : cutP l b [] p fr out = none := rfl
theorem cutP_cons (l b x : Bs) (xs : List Bs) (p : Nat) (fr : Option Nat) (out : List Bs) : cutP l b (x :: xs) p fr out =
    if edgeP x b = 0 then cutP l b xs (p + x.length) fr out else
    if edgeP x b = 2 then some (outP l p fr out) else cutP l b xs (p + x.length) (some (p + x.length)) (outP l p fr out) := rfl
/-- A slice of slices that grows. -/
def GY (m : Nat) (H : Hp) (x : CV) (ys : List CV) : Prop := Grow m H x ys ys.length 1 23
/-- Values read as these bytes. -/
def RBs (H : Hp) (ys : List CV) (l : List Bs) : Prop := ys.length = l.length ∧ ∀ i (h1 : i < ys.length) (h2 : i < l.length), RB H ys[i] l[i]
theorem RBs.nil (H : Hp) : RBs H [] [] := ⟨rfl, fun i h1 => by simp at h1⟩
theorem RBs.snoc {H : Hp} {ys : List CV} {l : List Bs} {y : CV} {s : Bs} (h : RBs H ys l) (hy : RB H y s) : RBs H (ys ++ [y]) (l ++ [s]) := by
  refine ⟨by simp [h.1], fun i h1 h2 => ?_⟩
  by_cases hi : i < ys.length
  · rw [List.getElem_append_left hi, List.getElem_append_left (by have := h.1; omega)]
    exact h.2 i hi _
  · have e : i = ys.length := by simp at h1; omega
    have e2 : i = l.length := by have := h.1; omega
    subst e
    rw [List.getElem_append_right (by omega), List.getElem_append_right (by omega)]
    simpa using hy
theorem oneCh (ys : List CV) : Chunks (ys.map fun y => [y]) 1 := by
  intro c hc; obtain ⟨p, _, rfl⟩ := List.mem_map.1 hc; rfl
theorem oneFlat (ys : List CV) : (ys.map fun y => [y]).flatten = ys := by
  induction ys with
  | nil => rfl
  | cons a l ih => rw [List.map_cons, List.flatten_cons, ih]; rfl
theorem GY.rs {m : Nat} {H : Hp} {x : CV} {ys : List CV} (h : GY m H x ys) : RS H x (ys.map fun y => [y]) 1 := by
  refine Grow.rs (m := m) (e := 23) ?_ (oneCh ys)
  rw [oneFlat, List.length_map]; exact h
theorem mkY (v : CV) (hc : cvCells v = some [v]) (H : Hp) : ∃ w M, dBuildSlice prog 27 1 [(0, v)] H false = some (w, H ++ M) ∧ dSrc prog (H ++ M) 27 1 w = some ([v], 1) ∧ unlit w = w := by
  cases hb : clB v with
  | true =>
    refine ⟨.im [v] 1 1, [], ?_, ?_, rfl⟩
    · simp [dBuildSlice, underlying27, fillC, zerosC, isU8, underlying23, hc, hb]
    · simp [dSrc, underlying27, atS]
  | false =>
    refine ⟨.sl H.length 0 0 1 1, [.cells 0 [v] 23], ?_, ?_, rfl⟩
    · simp [dBuildSlice, underlying27, fillC, zerosC, isU8, underlying23, hc, hb]
    · simp [dSrc, underlying27, atS]
/-- What cutting answers. -/
def cutQ (H : Hp) (k : Nat) (H' : Hp) (o : Option (List Bs)) (y : CV) : Prop :=
  match o with
  | some out => ∃ q ys, y = .tup [q, .v (.bool (decide (0 < out.length)))] ∧ RBs H ys out ∧ GY k H' q ys
  | none => y = .tup [nilC, .v (.bool false)]
theorem Grow.cells {m : Nat} {H : Hp} {x : CV} {cs : List CV} {n sz : Nat} {e : TypeId} (h : Grow m H x cs n sz e) : cvCells x = some [x] := by
  rcases h with ⟨_, _, rfl⟩ | ⟨_, _, _, _, rfl, _⟩ <;> rfl
theorem Grow.weaken {m k : Nat} {H : Hp} {x : CV} {cs : List CV} {n sz : Nat} {e : TypeId} (hk : k ≤ m) (h : Grow m H x cs n sz e) : Grow k H x cs n sz e := by
  rcases h with h | ⟨h1, id, ver, h2, h3⟩
  · exact .inl h
  · exact .inr ⟨h1, id, ver, by omega, h3⟩
theorem stQ_nil (m id ver off a b : Nat) : stQ m (.ptr id ver off) (.v (.slice none a b)) = true := by unfold stQ; simp only []; rw [show topLe 0 (.v (.slice none a b)) = true from rfl, Bool.or_true]
theorem cells_nil (a b : Nat) : cvCells (.v (.slice none a b)) = some [.v (.slice none a b)] := rfl
theorem Grow.mid {X L : Hp} {v fn k n sz : Nat} {e : TypeId} {cs : List CV} {ts : List CV} {ps : Array Tmp} {a b : Code} {st : LoopState} {pe : Option Code} {x : CV} (o : CO) (h : Grow k (X ++ .loop v fn ts ps a b st pe :: L) x cs n sz e) : Grow k (X ++ o :: L) x cs n sz e := by
  refine Grow.of_obj h fun i v c _ hi => ?_
  by_cases e : i = X.length
  · subst e; simp at hi
  · by_cases hl : i < X.length
    · rw [List.getElem?_append_left hl, List.getElem?_append_left hl]
    · rw [List.getElem?_append_right (by omega), List.getElem?_append_right (by omega)]
      obtain ⟨k, hk⟩ : ∃ k, i - X.length = k + 1 := ⟨i - X.length - 1, by omega⟩
      rw [hk]; rfl
/-- Objects ahead of those that grow have no bearing. -/
theorem GF8 {H L : Hp} {n sz : Nat} {e : TypeId} {cs : List CV} {a0 a1 a2 a3 a4 a5 a6 a7 b0 b1 b2 b3 b4 b5 b6 b7 : CO} {x : CV} (h : Grow (H.length + 8) (H ++ a0 :: a1 :: a2 :: a3 :: a4 :: a5 :: a6 :: a7 :: L) x cs n sz e) : Grow (H.length + 8) (H ++ b0 :: b1 :: b2 :: b3 :: b4 :: b5 :: b6 :: b7 :: L) x cs n sz e := by
  refine Grow.of_obj h fun i v c hm hi => ?_
  obtain ⟨j, rfl⟩ : ∃ j, i = H.length + (j + 8) := ⟨i - H.length - 8, by omega⟩
  rw [get_own, get_own]; rfl
variable [LayerC]
theorem w37 (m : Nat) (x : CV) (l b : Bs) (H H0 : Hp) (hm : m ≤ H.length) (hx0 : RB H0 x l) (hsub : ∀ y s, RB H0 y s → RB H y s) (hl : l.length ≤ 4294967280) (hb : b.length ≤ 4294967200) : WC prog cs0 m (.f 63) [x, str b] H fun y H' => (∃ L, H' = H ++ L) ∧ cutQ H0 H.length H' (cutP l b (linesS l) 0 none []) y := by
  have hx := hsub _ _ hx0
  rw [WC_raw rfl func63 rfl rfl]
  have ux := hx.unl
  have c63 := fun m L => (w63 m x (H ++ L) hx.one ux hx.cells).wc
  obtain ⟨Z, hZ⟩ : ∃ Z, Z = cutP l b (linesS l) 0 none [] := ⟨_, rfl⟩
  rw [← hZ]
  obtain ⟨K, hK⟩ : ∃ K : CV → Hp → Prop, ∀ y H', K y H' ↔ (∃ L, H' = H ++ L) ∧ cutQ H0 H.length H' Z y := ⟨_, fun _ _ => Iff.rfl⟩
  simp only [← hK]
  have hms : ∀ k, m ≤ H.length + k := fun k => by omega
  simp -implicitDefEqProofs [f63, aQ, dAlloc, ux, c63, hx.cells, store_at iT3, load_one underlying23 rfl iT23, Nat.add_assoc]
  refine W_range2 80 [.ptr (H.length + 6) 0 0] rfl (by simp) (by rw [func80]; rfl) ?_
  intro ts A B hA hB hn hts
  have hn : ts.length = 42 := hn
  have ts2 : ts[2]? = some (.ptr H.length 0 0) := by simpa using hts 2 (show 2 < 42 by decide)
  have ts3 : ts[3]? = some (.ptr (H.length + 1) 0 0) := by simpa using hts 3 (show 3 < 42 by decide)
  have ts4 : ts[4]? = some (.ptr (H.length + 2) 0 0) := by simpa using hts 4 (show 4 < 42 by decide)
  have ts5 : ts[5]? = some (.ptr (H.length + 3) 0 0) := by simpa using hts 5 (show 5 < 42 by decide)
  have ts6 : ts[6]? = some (.ptr (H.length + 4) 0 0) := by simpa using hts 6 (show 6 < 42 by decide)
  have ts7 : ts[7]? = some (.ptr (H.length + 5) 0 0) := by simpa using hts 7 (show 7 < 42 by decide)
  clear hts
  obtain ⟨HP, hHP⟩ : ∃ HP : CV → Bool → CV → Option Nat → LoopState → Option Code → Hp → Hp, ∀ r r2 q fo st pe L, HP r r2 q fo st pe L = H ++ CO.cells 0 [x] 23 :: CO.cells 0 [str b] 9 :: CO.cells 0 [r] 27 :: CO.cells 0 [.v (.bool r2)] 4 :: CO.cells 0 [q] 27 :: CO.cells 0 [fromV fo] 3 :: CO.cells 0 [x] 23 :: CO.loop 0 63 ts #[13, 14] A B st pe :: L := ⟨_, fun _ _ _ _ _ _ _ => rfl⟩
  obtain ⟨J, hJ⟩ : ∃ J : Nat → Hp → Prop, ∀ p H', J p H' ↔ ∃ q ys out fo L, H' = HP nilC false q fo .ready none L ∧ GY (H.length + 8) H' q ys ∧ RBs H0 ys out ∧ (∀ f, fo = some f → f ≤ p) ∧ out.length ≤ p ∧ p ≤ l.length ∧ Z = cutP l b (linesS (l.drop p)) p fo out := ⟨_, fun _ _ => Iff.rfl⟩
  obtain ⟨D, hD⟩ : ∃ D : Hp → Prop, ∀ H', D H' ↔ ∃ q ys, ∃ out : List Bs, ∃ fo L, H' = HP q (decide (0 < out.length)) q fo .done (some .ret) L ∧ GY (H.length + 8) H' q ys ∧ RBs H0 ys out ∧ Z = some out := ⟨_, fun _ => Iff.rfl⟩
  have hid0 : ∀ (c0 c1 c2 c3 c4 c5 c6 : CO), (H ++ [c0, c1, c2, c3, c4, c5, c6]).length = H.length + 7 := fun _ _ _ _ _ _ _ => by simp
  simp only [hid0, List.append_assoc, List.cons_append, List.nil_append]
  have h0 : J 0 (HP nilC false nilC none .ready none []) := (hJ _ _).2 ⟨nilC, [], [], none, [], rfl, Grow.nil _ _ 1 23, RBs.nil H0, by simp, by simp, by simp, by simpa using hZ⟩
  rw [hHP] at h0
  refine WC_mono (w93 _ _ _ (H.length + 6) x l J D (by omega) ?_ ?_ _ h0) ?_
  · intro p H' hj
    obtain ⟨q, ys, out, fo, L, rfl, _⟩ := (hJ _ _).1 hj
    rw [hHP]
    exact ⟨by simp, hx.app _⟩
  · intro p H' y hj hp hyc hy
    obtain ⟨q, ys, out, fo, L, rfl, hg, hr, hfo, hol, _, hz⟩ := (hJ _ _).1 hj
    have hid : (HP nilC false q fo .ready none L)[H.length + 7]? = some (.loop 0 63 ts #[13, 14] A B .ready none) := by rw [hHP]; simp
    rw [WC_round2 hid (by rfl) hn hA hB]
    have r2 : ∀ a b, roundFr ts #[13, 14] [a, b] 2 = .ptr H.length 0 0 := fun a b => by simp [roundFr, ts2]
    have r3 : ∀ a b, roundFr ts #[13, 14] [a, b] 3 = .ptr (H.length + 1) 0 0 := fun a b => by simp [roundFr, ts3]
    have r4 : ∀ a b, roundFr ts #[13, 14] [a, b] 4 = .ptr (H.length + 2) 0 0 := fun a b => by simp [roundFr, ts4]
    have r5 : ∀ a b, roundFr ts #[13, 14] [a, b] 5 = .ptr (H.length + 3) 0 0 := fun a b => by simp [roundFr, ts5]
    have r6 : ∀ a b, roundFr ts #[13, 14] [a, b] 6 = .ptr (H.length + 4) 0 0 := fun a b => by simp [roundFr, ts6]
    have r7 : ∀ a b, roundFr ts #[13, 14] [a, b] 7 = .ptr (H.length + 5) 0 0 := fun a b => by simp [roundFr, ts7]
    have r13 : ∀ a b, roundFr ts #[13, 14] [a, b] 13 = a := fun a b => by simp [roundFr, hn]
    have r14 : ∀ a b, roundFr ts #[13, 14] [a, b] 14 = b := fun a b => by simp [roundFr, hn]
    have hne : l.drop p ≠ [] := by intro h; have := congrArg List.length h; simp at this; omega
    have hn1 := lineN_le (l.drop p)
    rw [List.length_drop] at hn1
    have hn0 := lineN_pos hne
    rw [linesS_cons hne, List.drop_drop] at hz
    have hll : ((l.drop p).take (lineN (l.drop p))).length = lineN (l.drop p) := by simp; omega
    obtain ⟨line, hline⟩ : ∃ line, line = (l.drop p).take (lineN (l.drop p)) := ⟨_, rfl⟩
    rw [← hline] at hz hy hll
    have hlineE := hline
    rw [← hll] at hz hn1 hn0 hyc hlineE ⊢
    clear hline hy
    have hyH : RB H y line := by
      have := hx.cut (o := p) (h := p + line.length) (by omega) (by omega)
      rw [← hyc, List.drop_take, show p + line.length - p = line.length by omega, ← hlineE] at this
      exact this
    have hyB : RB (HP nilC false q fo .busy none L) y line := by rw [hHP]; exact hyH.app _
    have hgB : GY (H.length + 8) (HP nilC false q fo .busy none L) q ys := by
      rw [hHP] at hg ⊢
      have := Grow.mid (X := H ++ [CO.cells 0 [x] 23, CO.cells 0 [str b] 9, CO.cells 0 [nilC] 27, CO.cells 0 [.v (.bool false)] 4, CO.cells 0 [q] 27, CO.cells 0 [fromV fo] 3, CO.cells 0 [x] 23]) (L := L) (CO.loop 0 63 ts #[13, 14] A B .busy none) (by simpa [GY] using hg)
      simpa [GY] using this
    have hyu := hyB.unl
    have hlen := hyB.len (P := prog) underlying23
    have c64 := fun m => (w64 m y line b _ hyB (by omega) hb).wc
    rw [hHP] at hlen c64 hgB ⊢
    rw [cutP_cons] at hz
    by_cases h0 : edgeP line b = 0
    · rw [if_pos h0] at hz
      simp -implicitDefEqProofs [r2, r3, r4, r5, r6, r7, r13, r14, busyR, hyu, hlen, load_one underlying9 rfl iT9, c64, h0, doneR, Ex.jump]
      refine (hJ _ _).2 ⟨q, ys, out, fo, L, by rw [hHP], ?_, hr, fun f hf => by have := hfo f hf; omega, by omega, by omega, hz⟩
      exact GF8 hgB
    rw [if_neg h0] at hz
    obtain ⟨out2, ho2⟩ : ∃ out2, out2 = outP l p fo out := ⟨_, rfl⟩
    rw [← ho2] at hz
    obtain ⟨k, hk, hwp⟩ : ∃ k, k = p + line.length ∧ IntKind.i64.wrap ((p : Int) + (line.length : Int)) = (k : Int) := ⟨_, rfl, wrN (by omega) (by omega)⟩
    rw [← hk] at hz ⊢
    have hst : ∀ k x, stQ m (.ptr (H.length + k) 0 0) x = true := fun k x => by simp [stQ, hms]
    cases fo with
    | none =>
      obtain rfl : out2 = out := ho2
      have hgeq : ∀ H, dBin prog .geq 3 (fromV none) (.v (.int .i64 0)) H = some (.v (.bool false)) := fun H => by simp [fromV]
      simp -implicitDefEqProofs [r2, r3, r4, r5, r6, r7, r13, r14, busyR, hyu, hlen, load_one underlying9 rfl iT9, c64, h0, load_one underlying3 rfl iT3, hgeq, store_at iT3, hwp]
      have hcq := Grow.cells hgB
      have hlq := fun b4 b5 b6 b7 => (GY.rs (m := H.length + 8) (GF8 (b0 := CO.cells 0 [x] 23) (b1 := CO.cells 0 [str b] 9) (b2 := CO.cells 0 [nilC] 27) (b3 := CO.cells 0 [.v (.bool false)] 4) (b4 := b4) (b5 := b5) (b6 := b6) (b7 := b7) hgB)).len (P := prog) underlying27
      rw [List.length_map, hr.1] at hlq
      have huq := Grow.unl hgB
      by_cases h2 : edgeP line b = 2
      · rw [if_pos h2] at hz
        simp -implicitDefEqProofs [h2]
        rw [W_drawJ (SlotJ [(4, .ptr (H.length + 2) 0 0), (6, .ptr (H.length + 4) 0 0)]) [(1, 4), (2, 4)] _ _ _ _ _ _ followsT (by simp [SlotJ, r4, r6]) (by rfl) (fun _ => keep_slots (by rfl)) (by
          intro k j i oj oi hm h1 h2
          simp at hm
          rcases hm with ⟨rfl, rfl⟩ | ⟨rfl, rfl⟩ <;> simp at h1 h2 <;> subst h1 h2
          · exact cmt_ls (by rfl) rfl rfl rfl rfl rfl (List.mem_cons_of_mem _ (List.mem_singleton.2 rfl)) List.mem_cons_self (by omega)
          · exact cmt_lens (by rfl) rfl rfl rfl rfl rfl List.mem_cons_self)]
        simp -implicitDefEqProofs [r2, r3, r4, r5, r6, r7, load_one underlying27 rfl iT27, huq, hlq, hst, store_at iT27, store_at iT4, hcq, doneR, Ex.jump]
        exact (hD _).2 ⟨q, ys, out2, some k, L, by rw [hHP]; rfl, GF8 hgB, hr, hz⟩
      · rw [if_neg h2] at hz
        simp -implicitDefEqProofs [h2, doneR, Ex.jump]
        exact (hJ _ _).2 ⟨q, ys, out2, some k, L, by rw [hHP]; rfl, GF8 hgB, hr, fun f hf => by cases hf; omega, by omega, by omega, hz⟩
    | some f =>
      have hgeq : ∀ H, dBin prog .geq 3 (fromV (some f)) (.v (.int .i64 0)) H = some (.v (.bool true)) := fun H => by simp [fromV]
      simp -implicitDefEqProofs [r2, r3, r4, r5, r6, r7, r13, r14, busyR, hyu, hlen, load_one underlying9 rfl iT9, c64, h0, load_one underlying3 rfl iT3, hgeq]
      rw [W_drawJ TJ [(0, 6), (1, 6), (2, 6), (0, 8)] _ _ _ _ _ _ followsT trivial (by rfl) (fun _ _ _ => keep_T) (by
        intro k j i oj oi hm h1 h2
        simp at hm
        rcases hm with ⟨rfl, rfl⟩ | ⟨rfl, rfl⟩ | ⟨rfl, rfl⟩ | ⟨rfl, rfl⟩ <;> simp at h1 h2 <;> subst h1 h2
        · exact (cmt_of (by rfl) (.inr (.inl (pur_max rfl)))).j
        · exact (cmt_of (by rfl) (.inr (.inl (pur_max rfl)))).j
        · exact (cmt_of (by rfl) (.inr (.inl (pur_max rfl)))).j
        · exact cmt_grow (by rfl) (mon_load rfl) (gro_buildSlice rfl) _)]
      have hfp := hfo f rfl
      have hwA : IntKind.i64.wrap ((p : Int) - 2) = (p : Int) - 2 := wrap64 (by omega)
      obtain ⟨g, hg0⟩ : ∃ g, g = max (p - 2) f := ⟨_, rfl⟩
      have hmx : mx ((p : Int) - 2) (f : Nat) = (g : Int) := by unfold mx; split <;> omega
      have hcut := hx0.cut (o := f) (h := g) (by omega) (by omega)
      have hou : out2 = out ++ [(l.take g).drop f] := by rw [ho2, hg0]; rfl
      have hsl := fun L => (hx.app L).slice (P := prog) underlying23 iT5 sT5 (some (.v (.int .i64 (f : Nat)))) (some (.v (.int .i64 (g : Nat))))
      have hfg : f ≤ g := by omega
      have hgl : g ≤ l.length := by omega
      simp [hfg, hgl] at hsl
      simp -implicitDefEqProofs [r2, r3, r4, r5, r6, r7, r13, r14, load_one underlying27 rfl iT27, load_one underlying23 rfl iT23, load_one underlying3 rfl iT3, ux, hwA, fromV]
      obtain ⟨v, hv⟩ : ∃ v, v = cutC x f g := ⟨_, rfl⟩
      rw [← hv] at hcut hsl
      have hr2 : RBs H0 (ys ++ [v]) out2 := by rw [hou]; exact hr.snoc hcut
      have hd : dMax mx [.v (.int .i64 ((p : Int) - 2)), .v (.int .i64 (f : Nat))] = some (.v (.int .i64 (g : Nat))) := by rw [← hmx]; rfl
      obtain ⟨w, M, e1, e2, e3⟩ := mkY v hcut.cells (H ++ CO.cells 0 [x] 23 :: CO.cells 0 [str b] 9 :: CO.cells 0 [nilC] 27 :: CO.cells 0 [.v (.bool false)] 4 :: CO.cells 0 [q] 27 :: CO.cells 0 [fromV (some f)] 3 :: CO.cells 0 [x] 23 :: CO.loop 0 63 ts #[13, 14] A B .busy none :: L)
      obtain ⟨q2, H2, f1, f2, f3, f4, _⟩ := Grow.append (P := prog) (t := 27) (tx := 27) (y := w) underlying27 iT23 zT23 (by simp) sT23 (by omega) (by simp) (hgB.app M) e2 rfl (by have := hr.1; simp; omega) (by have := hr.1; omega)
      obtain ⟨L2, rfl⟩ : ∃ L2, H2 = H ++ CO.cells 0 [x] 23 :: CO.cells 0 [str b] 9 :: CO.cells 0 [nilC] 27 :: CO.cells 0 [.v (.bool false)] 4 :: CO.cells 0 [q] 27 :: CO.cells 0 [fromV (some f)] 3 :: CO.cells 0 [x] 23 :: CO.loop 0 63 ts #[13, 14] A B .busy none :: L2 := by
        refine ⟨H2.drop (H.length + 8), ?_⟩
        have := split_at f3
        rw [List.append_assoc, List.take_length_add_append] at this
        simpa using this
      have hg2 : GY (H.length + 8) (H ++ CO.cells 0 [x] 23 :: CO.cells 0 [str b] 9 :: CO.cells 0 [nilC] 27 :: CO.cells 0 [.v (.bool false)] 4 :: CO.cells 0 [q] 27 :: CO.cells 0 [fromV (some f)] 3 :: CO.cells 0 [x] 23 :: CO.loop 0 63 ts #[13, 14] A B .busy none :: L2) q2 (ys ++ [v]) := by
        unfold GY; rw [List.length_append]; exact f2
      have hap : ∀ y, apQ m q y = true := Grow.ap hgB (by omega)
      have hol2 : out2.length = out.length + 1 := by rw [hou]; simp
      have huq2 := Grow.unl hg2
      have hcq2 := Grow.cells hg2
      have hlen2 : ∀ L' c4 c5, dLenS prog 23 y (H ++ CO.cells 0 [x] 23 :: CO.cells 0 [str b] 9 :: CO.cells 0 [nilC] 27 :: CO.cells 0 [.v (.bool false)] 4 :: c4 :: c5 :: L') = some (.v (.int .i64 (line.length : Nat))) := fun L' c4 c5 => (hyH.app _).len underlying23
      simp only [fromV, List.append_assoc, List.cons_append] at e1 f1 hg2
      simp -implicitDefEqProofs [hd, hsl, e1, hap, f1, hst, store_at iT27, store_at iT3, hcq2, hlen2, hyu, hwp]
      have hcq := Grow.cells hg2
      have hlq := fun b4 b5 b6 b7 => (GY.rs (m := H.length + 8) (GF8 (b0 := CO.cells 0 [x] 23) (b1 := CO.cells 0 [str b] 9) (b2 := CO.cells 0 [nilC] 27) (b3 := CO.cells 0 [.v (.bool false)] 4) (b4 := b4) (b5 := b5) (b6 := b6) (b7 := b7) hg2)).len (P := prog) underlying27
      rw [List.length_map, hr2.1] at hlq
      have huq := Grow.unl hg2
      by_cases h2 : edgeP line b = 2
      · rw [if_pos h2] at hz
        simp -implicitDefEqProofs [h2]
        rw [W_drawJ (SlotJ [(4, .ptr (H.length + 2) 0 0), (6, .ptr (H.length + 4) 0 0)]) [(1, 4), (2, 4)] _ _ _ _ _ _ followsT (by simp [SlotJ, r4, r6]) (by rfl) (fun _ => keep_slots (by rfl)) (by
          intro k j i oj oi hm h1 h2
          simp at hm
          rcases hm with ⟨rfl, rfl⟩ | ⟨rfl, rfl⟩ <;> simp at h1 h2 <;> subst h1 h2
          · exact cmt_ls (by rfl) rfl rfl rfl rfl rfl (List.mem_cons_of_mem _ (List.mem_singleton.2 rfl)) List.mem_cons_self (by omega)
          · exact cmt_lens (by rfl) rfl rfl rfl rfl rfl List.mem_cons_self)]
        simp -implicitDefEqProofs [r2, r3, r4, r5, r6, r7, load_one underlying27 rfl iT27, huq, hlq, hst, store_at iT27, store_at iT4, hcq, doneR, Ex.jump]
        exact (hD _).2 ⟨q2, ys ++ [v], out2, some k, L2, by rw [hHP]; rfl, GF8 hg2, hr2, hz⟩
      · rw [if_neg h2] at hz
        simp -implicitDefEqProofs [h2, doneR, Ex.jump]
        exact (hJ _ _).2 ⟨q2, ys ++ [v], out2, some k, L2, by rw [hHP]; rfl, GF8 hg2, hr2, fun f hf => by cases hf; omega, by omega, by omega, hz⟩
  · intro r H' hd
    rcases hd with hj | hd
    · obtain ⟨q, ys, out, fo, L, rfl, hg, hr, hfo, hol, _, hz⟩ := (hJ _ _).1 hj
      rw [List.drop_length, linesS_nil, cutP_nil] at hz
      rw [hHP]
      simp -implicitDefEqProofs [afterR, jumpEx, store_at iT27, store_at iT4, stQ_nil, cells_nil, load_one underlying27 rfl iT27, load_one underlying4 rfl iT4]
      refine (hK _ _).2 ⟨⟨_, rfl⟩, ?_⟩
      rw [hz]; rfl
    · obtain ⟨q, ys, out, fo, L, rfl, hg, hr, hz⟩ := (hD _).1 hd
      have hu := Grow.unl hg
      have hrs := hg.rs
      rw [hHP] at hrs ⊢
      simp -implicitDefEqProofs [afterR, jumpEx, load_one underlying27 rfl iT27, load_one underlying4 rfl iT4, hu]
      refine (hK _ _).2 ⟨⟨_, rfl⟩, ?_⟩
      rw [hz]; refine ⟨q, ys, rfl, hr, ?_⟩
      rw [hHP] at hg
      have := Grow.mid (X := H ++ [CO.cells 0 [x] 23, CO.cells 0 [str b] 9, CO.cells 0 [q] 27, CO.cells 0 [.v (.bool (decide (0 < out.length)))] 4, CO.cells 0 [q] 27, CO.cells 0 [fromV fo] 3, CO.cells 0 [x] 23]) (L := L) (CO.loop 0 63 ts #[13, 14] A B .exhausted (some .ret)) (by simpa [GY] using hg)
      have := Grow.weaken (k := H.length) (by omega) this
      simpa [GY] using this
end Go.Proofs.Tryz

/- Trees of parts; walks: a part's kind, a kind's border. -/
namespace Go.Proofs.Tryz
open Go Go.SL
set_option linter.unusedVariables false
set_option linter.unusedSimpArgs false

/-- A tree of parts. -/
inductive Prt where
  | mk (fs : List Fld) (b : Bs) (ps : List Prt)
def Prt.fs : Prt → List Fld | .mk f _ _ => f
def Prt.b : Prt → Bs | .mk _ b _ => b
def Prt.ps : Prt → List Prt | .mk _ _ p => p
theorem Prt.ind {C : Prt → Prop} (h : ∀ fs b ps, (∀ p ∈ ps, C p) → C (.mk fs b ps)) (p : Prt) : C p :=
  Prt.rec (motive_1 := C) (motive_2 := fun ps => ∀ p ∈ ps, C p) (fun fs b ps ih => h fs b ps ih) (fun p hp => by cases hp) (fun p ps ih1 ih2 q hq => by
    rcases List.mem_cons.1 hq with rfl | hq
    · exact ih1
    · exact ih2 q hq) p
/-- A tree's value, closed. -/
inductive PV : Prt → List CV → Prop
  | mk {fs : List Fld} {b : Bs} {ps : List Prt} {f x q : CV} {ch : List (List CV)} (hf : Cls f (fs.map Fld.c).flatten fs.length 2) (hb : CB x b) (hl : ch.length = ps.length) (hc : Chunks ch 3) (hq : Cls q ch.flatten ps.length 3)
      (h : ∀ i (h1 : i < ps.length) (h2 : i < ch.length), PV ps[i] ch[i]) : PV (.mk fs b ps) [f, x, q]

def ctName : Bs := [99, 111, 110, 116, 101, 110, 116, 45, 116, 121, 112, 101]
def ctName2 : Bs := [67, 111, 110, 116, 101, 110, 116, 45, 84, 121, 112, 101]
theorem ct_low : low ctName2 = low ctName := by decide
theorem fall_low (l : List Fld) {a b : Bs} (h : low a = low b) : fall l a = fall l b := by unfold fall; rw [h]
def kText : Kd := ⟨[116, 101, 120, 116], [112, 108, 97, 105, 110], []⟩
/-- The kind of a part with these fields, and the error's number. -/
def kindO (fs : List Fld) : Kd × Int :=
  match fall fs ctName with
  | [] => (kText, 0)
  | [v] => match readK v with
    | some k => (k, 0)
    | none => (⟨[], [], []⟩, 70)
  | _ => (⟨[], [], []⟩, 81)
def kdR (fs : List Fld) (y : CV) : Prop := ∃ x, KV x (kindO fs).1 ∧ y = .tup [x, .v (.int .i64 (kindO fs).2)]
theorem rdK_val {o : Option Kd} {y : CV} (h : rdK o y) : ∃ t s q k e, y = .tup [.agg [str t, str s, q], .v (.int .i64 e)] ∧ KV (.agg [str t, str s, q]) k ∧ (k, e) = o.elim ((⟨[], [], []⟩ : Kd), (70 : Int)) (fun k' => (k', 0)) := by
  unfold rdK at h
  cases o with
  | some k => obtain ⟨x, ⟨q, rfl, hq⟩, rfl⟩ := h; exact ⟨_, _, q, k, 0, rfl, ⟨q, rfl, hq⟩, rfl⟩
  | none => obtain ⟨x, ⟨q, rfl, hq⟩, rfl⟩ := h; exact ⟨_, _, q, _, 70, rfl, ⟨q, rfl, hq⟩, rfl⟩

variable [LayerC]
theorem w14 (m : Nat) (f x q : CV) (fs : List Fld) (H : Hp) (hf : RS H f (fs.map Fld.c) 2) (hx : oneB x = true) (hq : oneB q = true) (hl : fs.length ≤ 4294967280) (hs : ∀ g ∈ fs, g.n.length ≤ 4294967280 ∧ g.v.length ≤ 4294967280) :
    WC prog cs0 m (.f 31) [.agg [f, x, q]] H fun y H2 => H2 = H ∧ kdR fs y := by
  rw [WC_drop rfl func31 rfl rfl]
  have hone := hf.one
  have hu := hf.unl
  have c27 := fun m L => (w27 m f fs ctName2 (H ++ L) (hf.app L) hl (by decide) (fun g hg => (hs g hg).1)).wc
  have hct : fall fs ctName2 = fall fs ctName := fall_low fs ct_low
  have hn2 : str [67, 111, 110, 116, 101, 110, 116, 45, 84, 121, 112, 101] = str ctName2 := rfl
  simp -implicitDefEqProofs [f31, aQ, dAlloc, cells_agg, hone, hx, hq, faddr_ptr, underlying26, load_one underlying22 rfl iT22, hu, hn2, c27, fgetV, hct, dExtract]
  cases ha : fall fs ctName with
  | nil =>
    simp -implicitDefEqProofs [b55_2, store_at iT55, cells_agg, load_aggp underlying55 rfl iT55]
    have hk : kindO fs = (kText, 0) := by unfold kindO; rw [ha]
    unfold kdR; rw [hk]
    exact ⟨_, ⟨nilC, rfl, .inr ⟨rfl, rfl, rfl⟩⟩, rfl⟩
  | cons v vs =>
    cases vs with
    | nil =>
      have hv : v.length ≤ 4294967280 := by
        have : v ∈ fall fs ctName := by rw [ha]; simp
        unfold fall at this
        obtain ⟨g, hg, rfl⟩ := List.mem_map.1 this
        exact (hs g (List.mem_filter.1 hg).1).2
      simp -implicitDefEqProofs
      refine WC_mono (w28 _ v _ hv) ?_
      rintro y H2 ⟨rfl, hy⟩
      obtain ⟨t, s, q', k, e, rfl, hkv, he⟩ := rdK_val hy
      obtain ⟨q2, hq2, hcl⟩ := hkv
      have : q' = q2 := by cases hq2; rfl
      subst this
      have hq1 := hcl.one
      obtain ⟨_, _, fz⟩ := hcl.frz (H ++ [CO.cells 0 [f, x, q] 26, CO.cells 0 [str t, str s, q'] 55]) H.length
      simp -implicitDefEqProofs [dExtract, store_at iT55, cells_agg, hq1, load_aggp underlying55 rfl iT55, fz]
      have hk : kindO fs = (k, e) := by
        unfold kindO; rw [ha, he]
        simp only []
        cases readK v <;> rfl
      unfold kdR; rw [hk]
      exact ⟨_, ⟨q', hq2, hcl⟩, rfl⟩
    | cons w vs =>
      have h1 : ¬ ((vs.length + 1 + 1 : Nat) : Int) = 0 := by omega
      simp -implicitDefEqProofs [b55_0, store_at iT55, cells_agg, load_aggp underlying55 rfl iT55]
      have hk : kindO fs = (⟨[], [], []⟩, 81) := by unfold kindO; rw [ha]
      unfold kdR; rw [hk]
      exact ⟨_, ⟨nilC, rfl, .inr ⟨rfl, rfl, rfl⟩⟩, rfl⟩
theorem w15 (hL : LayerC.b = true) (m : Nat) (f x q : CV) (fs : List Fld) (H : Hp) (hf : RS H f (fs.map Fld.c) 2) (hx : oneB x = true) (hq : oneB q = true) (hl : fs.length ≤ 4294967280) (hs : ∀ g ∈ fs, g.n.length ≤ 4294967280 ∧ g.v.length ≤ 4294967280) :
    WC prog cs0 m (.f 33) [.agg [f, x, q]] H fun y H2 => H2 = H ∧ kdR fs y := by
  rw [WC_drop rfl func33 rfl rfl]
  have hone := hf.one
  have hu := hf.unl
  have c29 := fun m L => (w29 m f fs ctName (H ++ L) (hf.app L) hl (by decide) (fun g hg => (hs g hg).1)).wc
  have hn2 : str [99, 111, 110, 116, 101, 110, 116, 45, 116, 121, 112, 101] = str ctName := rfl
  simp -implicitDefEqProofs [f33, aQ, dAlloc, cells_agg, hone, hx, hq, faddr_ptr, underlying26, load_one underlying22 rfl iT22, hu, hn2, c29, fgetV, dExtract]
  cases ha : fall fs ctName with
  | nil =>
    simp -implicitDefEqProofs [b55_2, store_at iT55, cells_agg, load_aggp underlying55 rfl iT55]
    have hk : kindO fs = (kText, 0) := by unfold kindO; rw [ha]
    unfold kdR; rw [hk]
    exact ⟨_, ⟨nilC, rfl, .inr ⟨rfl, rfl, rfl⟩⟩, rfl⟩
  | cons v vs =>
    cases vs with
    | nil =>
      have hv : v.length ≤ 4294967280 := by
        have : v ∈ fall fs ctName := by rw [ha]; simp
        unfold fall at this
        obtain ⟨g, hg, rfl⟩ := List.mem_map.1 this
        exact (hs g (List.mem_filter.1 hg).1).2
      simp -implicitDefEqProofs
      refine WC_mono (w30 hL _ v _ hv) ?_
      rintro y H2 ⟨rfl, hy⟩
      obtain ⟨t, s, q', k, e, rfl, hkv, he⟩ := rdK_val hy
      obtain ⟨q2, hq2, hcl⟩ := hkv
      have : q' = q2 := by cases hq2; rfl
      subst this
      have hq1 := hcl.one
      obtain ⟨_, _, fz⟩ := hcl.frz (H ++ [CO.cells 0 [f, x, q] 26, CO.cells 0 [str t, str s, q'] 55]) H.length
      simp -implicitDefEqProofs [dExtract, store_at iT55, cells_agg, hq1, load_aggp underlying55 rfl iT55, fz]
      have hk : kindO fs = (k, e) := by
        unfold kindO; rw [ha, he]
        simp only []
        cases readK v <;> rfl
      unfold kdR; rw [hk]
      exact ⟨_, ⟨q', hq2, hcl⟩, rfl⟩
    | cons w vs =>
      have h1 : ¬ ((vs.length + 1 + 1 : Nat) : Int) = 0 := by omega
      simp -implicitDefEqProofs [b55_0, store_at iT55, cells_agg, load_aggp underlying55 rfl iT55]
      have hk : kindO fs = (⟨[], [], []⟩, 81) := by unfold kindO; rw [ha]
      unfold kdR; rw [hk]
      exact ⟨_, ⟨nilC, rfl, .inr ⟨rfl, rfl, rfl⟩⟩, rfl⟩

/-- A border's signs. -/
def borC (c : UInt8) : Prop := (48 ≤ c.toNat ∧ c.toNat ≤ 57) ∨ (65 ≤ c.toNat ∧ c.toNat ≤ 90) ∨ (97 ≤ c.toNat ∧ c.toNat ≤ 122) ∨ c.toNat = 46 ∨ c.toNat = 45 ∨ c.toNat = 95
instance (c : UInt8) : Decidable (borC c) := by unfold borC; infer_instance
def boName : Bs := [98, 111, 117, 110, 100, 97, 114, 121]
/-- A kind's border. -/
def bord (ps : List Par) : Bs := if (∀ c ∈ (kget ps boName).getD [], borC c) ∧ ((kget ps boName).getD []).length ≤ 70 then (kget ps boName).getD [] else []
set_option maxHeartbeats 1600000 in
theorem w36 (m : Nat) (t s : Bs) (ps : List Par) (q : CV) (H : Hp) (hq : RS H q (ps.map Par.c) 2) (hb : ps.length ≤ 4294967280) (hv : ∀ p ∈ ps, p.v.length ≤ 4294967280) : Ret prog cs0 m 61 [.agg [str t, str s, q]] H (str (bord ps)) H := by
  unfold Ret
  rw [WC_drop rfl func61 rfl rfl]
  have hu := hq.unl
  have hone := hq.one
  have c62 := fun m L => (w62 m t s ps q boName (H ++ L) (hq.app L) hb).wc
  have hn2 : str [98, 111, 117, 110, 100, 97, 114, 121] = str boName := rfl
  generalize hz : (kget ps boName).getD [] = b
  have hbl : b.length ≤ 4294967280 := by
    subst hz
    unfold kget
    cases hf : ps.find? (fun p => p.n == boName) with
    | none => simp
    | some p => exact hv p (List.mem_of_find?_eq_some hf)
  have hbo : bord ps = if (∀ c ∈ b, borC c) ∧ b.length ≤ 70 then b else [] := by unfold bord; rw [hz]
  rw [hbo]
  simp -implicitDefEqProofs [f61, cells_agg, hone, load_aggp underlying55 rfl iT55, hn2, c62, kgetV, dExtract, hz, len_str underlying9]
  refine W_up b.length (fun i fr H' => H'.take H.length = H ∧ fr 3 = str b ∧ fr 13 = .v (.int .i64 b.length) ∧ fr 14 = .v (.int .i64 i) ∧ ∀ c ∈ b.take i, borC c) ?_ 0 _ _ (by omega) (by simp)
  rintro i fr H' hi ⟨hH, a3, a13, a14, hk⟩
  by_cases hlt : i < b.length
  · have hw := up64 hlt (by omega)
    have hy := take_all hk hlt
    have hno : ¬ borC b[i] → ¬ ((∀ c ∈ b, borC c) ∧ b.length ≤ 70) := fun h q => h (q.1 _ (List.getElem_mem hlt))
    obtain ⟨n, hn⟩ : ∃ n, n = b[i].toNat := ⟨_, rfl⟩
    have hcases : n < 45 ∨ n = 45 ∨ n = 46 ∨ n = 47 ∨ (48 ≤ n ∧ n ≤ 57) ∨ (58 ≤ n ∧ n ≤ 64) ∨ (65 ≤ n ∧ n ≤ 90) ∨ (91 ≤ n ∧ n ≤ 94) ∨ n = 95 ∨ n = 96 ∨ (97 ≤ n ∧ n ≤ 122) ∨ 122 < n := by omega
    rcases hcases with hh | hh | hh | hh | hh | hh | hh | hh | hh | hh | hh | hh <;> (
      first | have f1 : 97 ≤ b[i].toNat := by omega | have f1 : ¬ 97 ≤ b[i].toNat := by omega
      first | have f2 : 65 ≤ b[i].toNat := by omega | have f2 : ¬ 65 ≤ b[i].toNat := by omega
      first | have f3 : 48 ≤ b[i].toNat := by omega | have f3 : ¬ 48 ≤ b[i].toNat := by omega
      first | have f4 : 122 < b[i].toNat := by omega | have f4 : ¬ 122 < b[i].toNat := by omega
      first | have f5 : 90 < b[i].toNat := by omega | have f5 : ¬ 90 < b[i].toNat := by omega
      first | have f6 : 57 < b[i].toNat := by omega | have f6 : ¬ 57 < b[i].toNat := by omega
      first | have f7 : b[i].toNat = 46 := by omega | have f7 : ¬ b[i].toNat = 46 := by omega
      first | have f8 : b[i].toNat = 45 := by omega | have f8 : ¬ b[i].toNat = 45 := by omega
      first | have f9 : b[i].toNat = 95 := by omega | have f9 : ¬ b[i].toNat = 95 := by omega
      first | have g1 : b[i].toNat ≤ 122 := by omega | have g1 : ¬ b[i].toNat ≤ 122 := by omega
      first | have g2 : b[i].toNat ≤ 90 := by omega | have g2 : ¬ b[i].toNat ≤ 90 := by omega
      first | have g3 : b[i].toNat ≤ 57 := by omega | have g3 : ¬ b[i].toNat ≤ 57 := by omega
      first | have hc : borC b[i] := by unfold borC; omega | have hc : ¬ borC b[i] := by unfold borC; omega
      simp -implicitDefEqProofs [a3, a13, a14, hlt, hw, hH, index_str underlying9, f1, f2, f3, f4, f5, f6, f7, f8, f9, g1, g2, g3]
      first
        | exact hy hc
        | rw [if_neg (hno hc)])
  · obtain rfl : i = b.length := by omega
    rw [List.take_length] at hk
    simp -implicitDefEqProofs [a3, a13, a14, len_str underlying9, hH]
    by_cases h70 : b.length ≤ 70
    · have : ¬ 70 < b.length := by omega
      rw [if_neg this, if_pos ⟨hk, h70⟩]
    · have : 70 < b.length := by omega
      rw [if_pos this, if_neg (fun h => h70 h.2)]
end Go.Proofs.Tryz

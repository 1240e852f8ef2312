/- Walks: trees are counted. -/
import Derived.Test.YtkodlakpjpmbiaaGreatDoorKAJ
import Derived.Test.YtkodlakpjpmbiaaGreatDoorKAG

set_option linter.all false

namespace Go.Proofs.Tryz
open Go Go.SL
set_option linter.unusedVariables false
set_option linter.unusedSimpArgs false

mutual
/-- How many parts, as an int counts; how deep. -/
def cntW : Prt → Int
  | .mk _ _ ps => cntL ps 1
def cntL : List Prt → Int → Int
  | [], n => n
  | p :: ps, n => cntL ps (IntKind.i64.wrap (n + cntW p))
end
mutual
def dep : Prt → Nat
  | .mk _ _ ps => depL ps 1
def depL : List Prt → Nat → Nat
  | [], d => d
  | p :: ps, d => depL ps (max d (dep p + 1))
end
theorem depL_ge (ps : List Prt) (d : Nat) : d ≤ depL ps d := by
  induction ps generalizing d with
  | nil => exact Nat.le_refl _
  | cons p ps ih => rw [depL]; exact Nat.le_trans (Nat.le_max_left _ _) (ih _)
theorem depL_mem {ps : List Prt} {p : Prt} (h : p ∈ ps) (d : Nat) : dep p + 1 ≤ depL ps d := by
  induction ps generalizing d with
  | nil => cases h
  | cons q ps ih =>
    rw [depL]
    rcases List.mem_cons.1 h with rfl | h
    · exact Nat.le_trans (Nat.le_max_right _ _) (depL_ge _ _)
    · exact ih h _
/-- The value of a part in a box. -/
theorem PV.inv {p : Prt} {cs : List CV} (h : PV p cs) : ∃ f x q ch, cs = [f, x, q] ∧ Cls f (p.fs.map Fld.c).flatten p.fs.length 2 ∧ CB x p.b ∧ ch.length = p.ps.length ∧ Chunks ch 3 ∧ (∀ H, RS H q ch 3) ∧ Cls q ch.flatten p.ps.length 3 ∧ ∀ i (h1 : i < p.ps.length) (h2 : i < ch.length), PV p.ps[i] ch[i] := by
  cases h with
  | mk hf hb hl hc hq h =>
    refine ⟨_, _, _, _, rfl, hf, hb, hl, hc, fun H => ?_, hq, h⟩
    refine Cls.rs ?_ hc H
    rw [hl]; exact hq
theorem PV.fld {f : CV} {fs : List Fld} (h : Cls f (fs.map Fld.c).flatten fs.length 2) (H : Hp) : RS H f (fs.map Fld.c) 2 := by
  refine Cls.rs ?_ (fldCh fs) H
  rw [List.length_map]; exact h

/-- Nothing in it is too long. -/
inductive Lim : Prt → Prop
  | mk {fs : List Fld} {b : Bs} {ps : List Prt} (hf : fs.length ≤ 1000000) (hn : ∀ f ∈ fs, f.n.length ≤ 1000000 ∧ f.v.length ≤ 1000000) (hb : b.length ≤ 1000000) (hp : ps.length ≤ 1000000) (h : ∀ q ∈ ps, Lim q) : Lim (.mk fs b ps)

variable [LayerC]
theorem w24 (p : Prt) : Lim p → dep p ≤ 1000 → ∀ (m : Nat) (cs : List CV) (H : Hp), PV p cs → Ret prog cs0 m 15 [.agg cs] H (.tup [.v (.int .i64 (cntW p)), .v (.int .i64 (dep p : Nat))]) H := by
  refine Prt.ind (C := fun p => Lim p → dep p ≤ 1000 → ∀ (m : Nat) (cs : List CV) (H : Hp), PV p cs → Ret prog cs0 m 15 [.agg cs] H (.tup [.v (.int .i64 (cntW p)), .v (.int .i64 (dep p : Nat))]) H) ?_ p
  intro fs b ps ih hlim hdep m cs H hpv
  obtain ⟨f, x, q, ch, rfl, hf, hb, hl, hc, hrs, hq, hch⟩ := hpv.inv
  cases hlim with
  | mk l1 l2 l3 l4 l5 =>
  simp only [Prt.ps] at hl hch hq
  unfold Ret
  rw [WC_drop rfl func15 rfl rfl]
  have hlen : ∀ H, dLenS prog 24 q H = some (.v (.int .i64 ps.length)) := fun H => by rw [(hrs H).len underlying24, hl]
  have uq := hq.unl
  have of := hf.one
  have ob := hb.one
  have oq := hq.one
  simp -implicitDefEqProofs [f15, cells_agg, of, ob, oq]
  obtain ⟨I, hI⟩ : ∃ I : Nat → Fr → Hp → Prop, ∀ i fr H', I i fr H' ↔ ∃ n d, H' = H ++ [CO.cells 0 [f, x, q] 26] ∧ fr 1 = .ptr H.length 0 0 ∧ fr 4 = .v (.int .i64 n) ∧ fr 5 = .v (.int .i64 (d : Nat)) ∧ fr 6 = .v (.int .i64 (i : Nat)) ∧ cntW (.mk fs b ps) = cntL (ps.drop i) n ∧ dep (.mk fs b ps) = depL (ps.drop i) d := ⟨_, fun _ _ _ => Iff.rfl⟩
  refine W_up ps.length I ?_ 0 _ _ (by omega) ((hI _ _ _).2 ⟨1, 1, by simp, by simp, by simp, by simp, by simp, by rw [cntW]; simp, by rw [dep]; simp⟩)
  intro i fr H' hi hinv
  obtain ⟨n, d, rfl, a1, a4, a5, a6, hn, hd⟩ := (hI _ _ _).1 hinv
  by_cases hlt : i < ps.length
  · have hw := up64 hlt (by omega)
    have hlt2 : i < ch.length := by omega
    have had := fun H => (hrs H).addr (P := prog) underlying24 iT26 sT26 .i64 i
    have hla := fun H => (hrs H).loadAgg (P := prog) underlying26 rfl iT26 sT26 hlt2
    simp [hlt2] at had
    have hdr := List.drop_eq_getElem_cons hlt
    have hdm := depL_mem (List.getElem_mem hlt) 1
    have hdp : dep ps[i] + 1 ≤ dep (.mk fs b ps) := by rw [dep]; exact hdm
    have c24 := fun m H => (ih ps[i] (List.getElem_mem hlt) (l5 _ (List.getElem_mem hlt)) (by omega) m ch[i] H (hch i hlt hlt2)).wc
    rw [hdr, cntL] at hn
    rw [hdr, depL] at hd
    obtain ⟨e, he, hw1⟩ := upJ (i := dep ps[i]) (n := 2000) (by omega) (by omega)
    simp -implicitDefEqProofs [a1, a4, a5, a6, hlen, hlt, faddr_ptr, underlying26, load_one underlying24 rfl iT24, uq, had, hla, c24, dExtract, hw, hw1]
    by_cases hde : d < e
    · have hm : max d (dep ps[i] + 1) = e := by omega
      rw [hm] at hd
      simp -implicitDefEqProofs [hde, hw1, hw, a6]
      exact (hI _ _ _).2 ⟨_, e, rfl, by simp [a1], by simp, by simp, by simp, hn, hd⟩
    · have hm : max d (dep ps[i] + 1) = d := by omega
      rw [hm] at hd
      simp -implicitDefEqProofs [hde, hw, a6]
      exact (hI _ _ _).2 ⟨_, d, rfl, by simp [a1], by simp, by simp [a5], by simp, hn, hd⟩
  · obtain rfl : i = ps.length := by omega
    rw [List.drop_length, cntL] at hn
    rw [List.drop_length, depL] at hd
    simp -implicitDefEqProofs [a1, a4, a5, a6, hlen, faddr_ptr, underlying26, load_one underlying24 rfl iT24, uq, hn, hd]

theorem w11 (m : Nat) (p : Prt) (n : Int) (cs : List CV) (H : Hp) (hl : Lim p) (hd : dep p ≤ 1000) (hp : PV p cs) : Ret prog cs0 m 5 [.agg cs, .v (.int .i64 n)] H (.v (.bool (decide (cntW p ≤ n)))) H := by
  unfold Ret
  rw [WC_drop rfl func5 rfl rfl]
  have c24 := fun m H => (w24 p hl hd m cs H hp).wc
  obtain ⟨f, x, q, ch, rfl, hf, hb, _, _, _, hq, _⟩ := hp.inv
  have of := hf.one
  have ob := hb.one
  have oq := hq.one
  simp -implicitDefEqProofs [f5, cells_agg, of, ob, oq, load_aggp underlying26 rfl iT26, c24, dExtract]

/-- Are fields too many for a statement, or too long? -/
def grF (l : List Fld) : Prop := 200 < l.length ∨ ∃ i, ∃ h : i < l.length, 200 < l[i].n.length ∨ 5000 < l[i].v.length ∨ (20 < i ∧ 100 < l[i].v.length)
theorem w23 (m : Nat) (x : CV) (l : List Fld) (H : Hp) (hx : RS H x (l.map Fld.c) 2) : ∃ b : Bool, (b = true ↔ grF l) ∧ Ret prog cs0 m 14 [x] H (.v (.bool b)) H := by
  refine ⟨@decide (grF l) (Classical.propDecidable _), by simp, ?_⟩
  unfold Ret
  rw [WC_drop rfl func14 rfl rfl]
  have ux := hx.unl
  have hlen := hx.len (P := prog) underlying22
  rw [List.length_map] at hlen
  by_cases h200 : 200 < l.length
  · have hg : grF l := .inl h200
    simp -implicitDefEqProofs [f14, ux, hlen, h200, hg]
  · simp -implicitDefEqProofs [f14, ux, hlen, h200]
    refine W_up l.length (fun i fr H' => H' = H ∧ fr 0 = x ∧ fr 3 = .v (.int .i64 i) ∧ ∀ j, ∀ h : j < l.length, j < i → ¬ (200 < l[j].n.length ∨ 5000 < l[j].v.length ∨ (20 < j ∧ 100 < l[j].v.length))) ?_ 0 _ _ (by omega) (by simp)
    rintro i fr H' hi ⟨rfl, a0, a3, hk⟩
    by_cases hlt : i < l.length
    · have hw := up64 hlt (by omega)
      have hlt2 : i < (l.map Fld.c).length := by simpa using hlt
      have had := hx.addr (P := prog) underlying22 iT62 sT62 .i64 i
      have hf0 := hx.fieldAddr (P := prog) (f := 0) underlying62 rfl iT9 (by simp) hlt2 (by simp)
      have hf1 := hx.fieldAddr (P := prog) (f := 1) underlying62 rfl iT9 (by simp) hlt2 (by simp)
      have hl0 := hx.loadPart (P := prog) (k := 0) underlying9 rfl iT9 hlt2 (by omega)
      have hl1 := hx.loadPart (P := prog) (k := 1) underlying9 rfl iT9 hlt2 (by omega)
      simp [Fld.c, hlt] at hl0 hl1 had
      simp at hf0 hf1
      by_cases c1 : 200 < l[i].n.length
      · have hg : grF l := .inr ⟨i, hlt, .inl c1⟩
        simp -implicitDefEqProofs [a0, a3, ux, hlen, hlt, had, hf0, hf1, hl0, hl1, len_str underlying9, c1, hg]
      by_cases c2 : 5000 < l[i].v.length
      · have hg : grF l := .inr ⟨i, hlt, .inr (.inl c2)⟩
        simp -implicitDefEqProofs [a0, a3, ux, hlen, hlt, had, hf0, hf1, hl0, hl1, len_str underlying9, c1, c2, hg]
      by_cases c3 : 20 < i
      · by_cases c4 : 100 < l[i].v.length
        · have hg : grF l := .inr ⟨i, hlt, .inr (.inr ⟨c3, c4⟩)⟩
          simp -implicitDefEqProofs [a0, a3, ux, hlen, hlt, had, hf0, hf1, hl0, hl1, len_str underlying9, c1, c2, c3, c4, hg]
        · simp -implicitDefEqProofs [a0, a3, ux, hlen, hlt, had, hf0, hf1, hl0, hl1, len_str underlying9, c1, c2, c3, c4, hw]
          intro j hj hji
          by_cases e : j = i
          · subst e; omega
          · have := hk j hj (by omega); omega
      · simp -implicitDefEqProofs [a0, a3, ux, hlen, hlt, had, hf0, hf1, hl0, hl1, len_str underlying9, c1, c2, c3, hw]
        intro j hj hji
        by_cases e : j = i
        · subst e; omega
        · have := hk j hj (by omega); omega
    · obtain rfl : i = l.length := by omega
      have hg : ¬ grF l := by
        rintro (h | ⟨j, hj, h⟩)
        · exact h200 h
        · exact hk j hj hj h
      simp -implicitDefEqProofs [a0, a3, ux, hlen, hg]
end Go.Proofs.Tryz

/- Walks: trees too great, trees that are the same. -/
namespace Go.Proofs.Tryz
open Go Go.SL
set_option linter.unusedVariables false
set_option linter.unusedSimpArgs false
/-- Is a tree too great for a statement? -/
def grT : Nat → Prt → Prop
  | 0, _ => True
  | n + 1, .mk fs b ps => grF fs ∨ 3000 < b.length ∨ 70 < ps.length ∨ ∃ q ∈ ps, grT n q
variable [LayerC]
theorem w10 (n : Nat) (hn : n ≤ 1000) : ∀ (p : Prt) (m : Nat) (cs : List CV) (H : Hp), PV p cs → ∃ r : Bool, (r = true ↔ grT n p) ∧ Ret prog cs0 m 4 [.agg cs, .v (.int .i64 (n : Nat))] H (.v (.bool r)) H := by
  induction n with
  | zero =>
    intro p m cs H hp
    obtain ⟨f, x, q, ch, rfl, hf, hb, _, _, _, hq, _⟩ := hp.inv
    have of := hf.one
    have ob := hb.one
    have oq := hq.one
    refine ⟨true, by simp [grT], ?_⟩
    unfold Ret
    rw [WC_drop rfl func4 rfl rfl]
    simp -implicitDefEqProofs [f4, cells_agg, of, ob, oq]
  | succ n ih =>
    intro p m cs H hp
    refine ⟨@decide (grT (n + 1) p) (Classical.propDecidable _), by simp, ?_⟩
    obtain ⟨f, x, q, ch, rfl, hf, hb, hl, hc, hrs, hq, hch⟩ := hp.inv
    obtain ⟨fs, b, ps⟩ := p
    simp only [Prt.fs, Prt.b, Prt.ps] at hf hb hl hq hch
    have of := hf.one
    have ob := hb.one
    have oq := hq.one
    have uf := hf.unl
    have ux := hb.unl
    have uq := hq.unl
    obtain ⟨r23, h23, w23'⟩ := w23 H.length f fs (H ++ [CO.cells 0 [f, x, q] 26]) (PV.fld hf _)
    have c23 := w23'.wc
    have hlx := fun H => (hb.rb H).len (P := prog) underlying23
    have hlen : ∀ H, dLenS prog 24 q H = some (.v (.int .i64 ps.length)) := fun H => by rw [(hrs H).len underlying24, hl]
    have hw0 : IntKind.i64.wrap (((n + 1 : Nat) : Int) - 1) = (n : Int) := wrN (by omega) (by omega)
    unfold Ret
    rw [WC_drop rfl func4 rfl rfl]
    have hle : ¬ ((n + 1 : Nat) : Int) ≤ 0 := by omega
    obtain ⟨k, hk⟩ : ∃ k, k = n + 1 := ⟨_, rfl⟩
    rw [← hk] at hw0 hle ⊢
    have hk0 : ¬ k = 0 := by omega
    have hgr : grT k (.mk fs b ps) ↔ (grF fs ∨ 3000 < b.length ∨ 70 < ps.length ∨ ∃ q ∈ ps, grT n q) := by rw [hk, grT]
    by_cases g1 : grF fs
    · have hr : r23 = true := h23.2 g1
      have hg : grT k (.mk fs b ps) := hgr.2 (.inl g1)
      simp -implicitDefEqProofs [f4, cells_agg, of, ob, oq, faddr_ptr, underlying26, load_one underlying22 rfl iT22, uf, c23, hr, hk0, hg]
    have hr : r23 = false := by cases r23; rfl; exact absurd (h23.1 rfl) g1
    by_cases g2 : 3000 < b.length
    · have hg : grT k (.mk fs b ps) := hgr.2 (.inr (.inl g2))
      simp -implicitDefEqProofs [f4, cells_agg, of, ob, oq, faddr_ptr, underlying26, load_one underlying22 rfl iT22, load_one underlying23 rfl iT23, uf, ux, c23, hr, hk0, hlx, g2, hg]
    by_cases g3 : 70 < ps.length
    · have hg : grT k (.mk fs b ps) := hgr.2 (.inr (.inr (.inl g3)))
      simp -implicitDefEqProofs [f4, cells_agg, of, ob, oq, faddr_ptr, underlying26, load_one underlying22 rfl iT22, load_one underlying23 rfl iT23, load_one underlying24 rfl iT24, uf, ux, uq, c23, hr, hk0, hlx, hlen, g2, g3, hg]
    simp -implicitDefEqProofs [f4, cells_agg, of, ob, oq, faddr_ptr, underlying26, load_one underlying22 rfl iT22, load_one underlying23 rfl iT23, load_one underlying24 rfl iT24, uf, ux, uq, c23, hr, hk0, hlx, hlen, g2, g3]
    refine W_up ps.length (fun i fr H' => H' = H ++ [CO.cells 0 [f, x, q] 26] ∧ fr 1 = .v (.int .i64 (k : Nat)) ∧ fr 2 = .ptr H.length 0 0 ∧ fr 5 = .v (.int .i64 (i : Nat)) ∧ ∀ j, ∀ h : j < ps.length, j < i → ¬ grT n ps[j]) ?_ 0 _ _ (by omega) (by simp)
    rintro i fr H' hi ⟨rfl, a1, a2, a5, hkk⟩
    by_cases hlt : i < ps.length
    · have hw := up64 hlt (by omega)
      have hlt2 : i < ch.length := by omega
      have had := fun H => (hrs H).addr (P := prog) underlying24 iT26 sT26 .i64 i
      have hla := fun H => (hrs H).loadAgg (P := prog) underlying26 rfl iT26 sT26 hlt2
      simp [hlt2] at had
      obtain ⟨r10, h10, w10'⟩ := ih (by omega) ps[i] H.length ch[i] (H ++ [CO.cells 0 [f, x, q] 26]) (hch i hlt hlt2)
      have c10 := w10'.wc
      cases r10 with
      | true =>
        have hg : grT k (.mk fs b ps) := hgr.2 (.inr (.inr (.inr ⟨_, List.getElem_mem hlt, h10.1 rfl⟩)))
        simp -implicitDefEqProofs [a1, a2, a5, hlen, hlt, faddr_ptr, underlying26, load_one underlying24 rfl iT24, uq, had, hla, hw0, c10, hg]
      | false =>
        simp -implicitDefEqProofs [a1, a2, a5, hlen, hlt, faddr_ptr, underlying26, load_one underlying24 rfl iT24, uq, had, hla, hw0, c10, hw]
        intro j hj hji
        by_cases e : j = i
        · subst e; intro h; have := h10.2 h; cases this
        · exact hkk j hj (by omega)
    · obtain rfl : i = ps.length := by omega
      have hg : ¬ grT k (.mk fs b ps) := by
        rw [hgr]
        rintro (h | h | h | ⟨q', hq', h⟩)
        · exact g1 h
        · exact g2 h
        · exact g3 h
        · obtain ⟨j, hj, rfl⟩ := List.getElem_of_mem hq'
          exact hkk j hj hj h
      simp -implicitDefEqProofs [a1, a2, a5, hlen, faddr_ptr, underlying26, load_one underlying24 rfl iT24, uq, hg]
end Go.Proofs.Tryz

/- Walks: trees that are the same; a copy. -/
namespace Go.Proofs.Tryz
open Go Go.SL
set_option linter.unusedVariables false
set_option linter.unusedSimpArgs false
/-- Of p it is known when another tree is the same. -/
def SameOK [LayerC] (p : Prt) : Prop := Lim p → ∀ (r : Prt) (m : Nat) (cs ds : List CV) (H : Hp), PV p cs → PV r ds → ∃ b : Bool, (b = true ↔ p = r) ∧ Ret prog cs0 m 19 [.agg cs, .agg ds] H (.v (.bool b)) H
variable [LayerC]
theorem w22 (ps rs : List Prt) (ih : ∀ p ∈ ps, SameOK p) (hlim : ∀ p ∈ ps, Lim p) (hpl : ps.length ≤ 1000000) (m : Nat) (x y : CV) (ch dh : List (List CV)) (H : Hp) (hx : ∀ H, RS H x ch 3) (hy : ∀ H, RS H y dh 3) (hl : ch.length = ps.length) (hl2 : dh.length = rs.length)
    (h1 : ∀ i (h1 : i < ps.length) (h2 : i < ch.length), PV ps[i] ch[i]) (h2 : ∀ i (h1 : i < rs.length) (h2 : i < dh.length), PV rs[i] dh[i]) : ∃ b : Bool, (b = true ↔ ps = rs) ∧ Ret prog cs0 m 9 [x, y] H (.v (.bool b)) H := by
  refine ⟨@decide (ps = rs) (Classical.propDecidable _), by simp, ?_⟩
  unfold Ret
  rw [WC_drop rfl func9 rfl rfl]
  have ux := (hx H).unl
  have uy := (hy H).unl
  have lx := fun H => (hx H).len (P := prog) underlying24
  have ly := fun H => (hy H).len (P := prog) underlying24
  rw [hl] at lx
  rw [hl2] at ly
  by_cases hll : ps.length = rs.length
  · simp -implicitDefEqProofs [f9, ux, uy, lx, ly, hll]
    refine W_up ps.length (fun i fr H' => H' = H ∧ fr 0 = x ∧ fr 1 = y ∧ fr 5 = .v (.int .i64 (i : Nat)) ∧ ps.take i = rs.take i) ?_ 0 _ _ (by omega) (by simp)
    rintro i fr H' hi ⟨rfl, a0, a1, a5, hk⟩
    by_cases hlt : i < ps.length
    · have hw := up64 hlt (by omega)
      have q1 : i < ch.length := by omega
      have q2 : i < dh.length := by omega
      have q3 : i < rs.length := by omega
      have ad1 := fun H => (hx H).addr (P := prog) underlying24 iT26 sT26 .i64 i
      have ad2 := fun H => (hy H).addr (P := prog) underlying24 iT26 sT26 .i64 i
      have la1 := fun H => (hx H).loadAgg (P := prog) underlying26 rfl iT26 sT26 q1
      have la2 := fun H => (hy H).loadAgg (P := prog) underlying26 rfl iT26 sT26 q2
      simp [q1] at ad1
      simp [q2] at ad2
      obtain ⟨b, hb, hw9⟩ := ih _ (List.getElem_mem hlt) (hlim _ (List.getElem_mem hlt)) rs[i] H'.length ch[i] dh[i] H' (h1 i hlt q1) (h2 i q3 q2)
      have c9 := hw9.wc
      simp -implicitDefEqProofs [a0, a1, a5, lx, ux, hlt]
      rw [W_draw _ _ _ _ _ _ followsT (by rfl)]
      cases b with
      | true =>
        simp -implicitDefEqProofs [a0, a1, a5, ux, uy, ad1, ad2, la1, la2, c9, hw]
        rw [take_snoc hlt, take_snoc q3, hk, hb.1 rfl]
      | false =>
        have hne : ¬ ps = rs := by
          rintro rfl
          have := hb.2 rfl
          cases this
        simp -implicitDefEqProofs [a0, a1, a5, ux, uy, ad1, ad2, la1, la2, c9, hne]
    · obtain rfl : i = ps.length := by omega
      rw [List.take_length, hll, List.take_length] at hk
      simp -implicitDefEqProofs [a0, a1, a5, lx, ux, hk]
  · have hne : ¬ ps = rs := fun h => hll (by rw [h])
    simp -implicitDefEqProofs [f9, ux, uy, lx, ly, hll, hne]

theorem w9 (p : Prt) : SameOK p := by
  refine Prt.ind (C := SameOK) ?_ p
  intro fs b ps ih hlim r m cs ds H hp hr
  obtain ⟨f, x, q, ch, rfl, hf, hb, hl, hc, hrs, hq, hch⟩ := hp.inv
  obtain ⟨f2, x2, q2, ch2, rfl, hf2, hb2, hl2, hc2, hrs2, hq2, hch2⟩ := hr.inv
  obtain ⟨gs, d, rs⟩ := r
  simp only [Prt.fs, Prt.b, Prt.ps] at hf hb hl hq hch hf2 hb2 hl2 hq2 hch2
  cases hlim with
  | mk l1 l2 l3 l4 l5 =>
  refine ⟨@decide (Prt.mk fs b ps = Prt.mk gs d rs) (Classical.propDecidable _), by simp, ?_⟩
  unfold Ret
  rw [WC_drop rfl func19 rfl rfl]
  have o1 := hf.one
  have o2 := hb.one
  have o3 := hq.one
  have o4 := hf2.one
  have o5 := hb2.one
  have o6 := hq2.one
  have u1 := hf.unl
  have u2 := hb.unl
  have u3 := hq.unl
  have u4 := hf2.unl
  have u5 := hb2.unl
  have u6 := hq2.unl
  have c21 := fun m H => (w21 m f f2 fs gs H (PV.fld hf _) (PV.fld hf2 _) (by omega)).wc
  have hs1 := fun H => (hb.rb H).str (P := prog) (s := 23) (d := 9) (cs0.of 19).mu underlying23 underlying9 underlying5
  have hs2 := fun H => (hb2.rb H).str (P := prog) (s := 23) (d := 9) (cs0.of 19).mu underlying23 underlying9 underlying5
  rw [mu9] at hs1 hs2
  obtain ⟨bb, hbb, hw22⟩ := w22 ps rs ih l5 l4 H.length q q2 ch ch2 (H ++ [CO.cells 0 [f, x, q] 26, CO.cells 0 [f2, x2, q2] 26]) hrs hrs2 hl hl2 hch hch2
  have c22 := hw22.wc
  by_cases e1 : fs = gs
  · by_cases e2 : b = d
    · cases bb with
      | true =>
        have e3 := hbb.1 rfl
        simp -implicitDefEqProofs [f19, cells_agg, o1, o2, o3, o4, o5, o6, faddr_ptr, underlying26, load_one underlying22 rfl iT22, load_one underlying23 rfl iT23, load_one underlying24 rfl iT24, u1, u2, u3, u4, u5, u6, c21, hs1, hs2, c22, e1, e2, e3]
      | false =>
        have e3 : ¬ ps = rs := fun h => by have := hbb.2 h; cases this
        simp -implicitDefEqProofs [f19, cells_agg, o1, o2, o3, o4, o5, o6, faddr_ptr, underlying26, load_one underlying22 rfl iT22, load_one underlying23 rfl iT23, load_one underlying24 rfl iT24, u1, u2, u3, u4, u5, u6, c21, hs1, hs2, c22, e1, e2, e3]
    · simp -implicitDefEqProofs [f19, cells_agg, o1, o2, o3, o4, o5, o6, faddr_ptr, underlying26, load_one underlying22 rfl iT22, load_one underlying23 rfl iT23, load_one underlying24 rfl iT24, u1, u2, u3, u4, u5, u6, c21, hs1, hs2, e1, e2]
  · simp -implicitDefEqProofs [f19, cells_agg, o1, o2, o3, o4, o5, o6, faddr_ptr, underlying26, load_one underlying22 rfl iT22, load_one underlying23 rfl iT23, load_one underlying24 rfl iT24, u1, u2, u3, u4, u5, u6, c21, hs1, hs2, e1]

/-- A copy: an object of its own. -/
theorem w6 (m : Nat) (x : CV) (l : Bs) (H : Hp) (hx : RB H x l) (hl : l.length ≤ 4294967280) : ∃ y H2, AccB H H2 y l 5 ∧ Ret prog cs0 m 27 [x] H y H2 := by
  have ux := hx.unl
  have h0 : AccB H H nilC [] 5 := Acc.nil H 1 5
  obtain ⟨y, H2, e1, e2⟩ := AccB.append' (P := prog) (t := 23) (tx := 23) (l' := l) underlying23 iT5 zT5 sT5 bT5 h0 (RB.src underlying23 hx) (by simp; omega)
  refine ⟨y, H2, by simpa using e2, ?_⟩
  unfold Ret
  rw [WC_raw rfl func27 rfl rfl]
  have u2 := e2.unl
  simp -implicitDefEqProofs [f27, ux, e1, u2]
end Go.Proofs.Tryz

/- Laws: what a header is written to is one alone; trees of small size; what writing a tree comes to. -/
namespace Go.Proofs.Tryz
open Go Go.SL
set_option linter.unusedVariables false
set_option linter.unusedSimpArgs false

theorem FoldR.det {s : Bs} {f : Nat} {a : List Bs} (h : FoldR s f a) : ∀ {b : List Bs}, FoldR s f b → a = b := by
  induction h with
  | @stop s f h =>
    intro b hb
    cases hb with
    | stop h2 => rfl
    | step h2 hp ho =>
      rcases h with h | h
      · omega
      · exact absurd (PL_uniq h hp) (by simp)
  | @step s f k out h hp ho ih =>
    intro b hb
    cases hb with
    | stop h2 =>
      rcases h2 with h2 | h2
      · omega
      · exact absurd (PL_uniq h2 hp) (by simp)
    | step h2 hp2 ho2 =>
      have := PL_uniq hp hp2
      cases this
      rw [ih ho2]
theorem FoldsR.det {l : List Fld} {a : List Bs} (h : FoldsR l a) : ∀ {b : List Bs}, FoldsR l b → a = b := by
  have key : ∀ {l : List Fld} {b : List Bs}, FoldsR l b → (l = [] ∧ b = []) ∨ ∃ l' f os o, l = l' ++ [f] ∧ b = os ++ o ∧ FoldsR l' os ∧ FoldR (lineF f) (f.n.length + 3) o := by
    intro l b h
    cases h with
    | nil => exact .inl ⟨rfl, rfl⟩
    | snoc h hf => exact .inr ⟨_, _, _, _, rfl, rfl, h, hf⟩
  induction h with
  | nil =>
    intro b hb
    rcases key hb with ⟨_, h⟩ | ⟨l', f, os, o, h, _⟩
    · exact h.symm
    · simp at h
  | @snoc l f o os h hf ih =>
    intro b hb
    rcases key hb with ⟨h, _⟩ | ⟨l', f', os', o', h1, rfl, h2, h3⟩
    · simp at h
    · obtain ⟨rfl, h4⟩ := List.append_inj' h1 rfl
      cases h4
      rw [ih h2, hf.det h3]
theorem WrR.det {l : List Fld} {a b : Option Bs} {e e' : Nat} (h : WrR l a e) (h' : WrR l b e') : a = b ∧ e = e' := by
  cases h with
  | long h =>
    cases h' with
    | long _ => exact ⟨rfl, rfl⟩
    | _ => omega
  | field h f hf hb =>
    cases h' with
    | long _ => omega
    | field => exact ⟨rfl, rfl⟩
    | line _ hb2 => exact absurd (hb2 f hf) hb
    | ok _ hb2 => exact absurd (hb2 f hf) hb
  | line h hb os ho s hs h9 =>
    cases h' with
    | long _ => omega
    | field _ f hf hb2 => exact absurd (hb f hf) hb2
    | line => exact ⟨rfl, rfl⟩
    | ok _ _ os2 ho2 h92 =>
      rw [ho.det ho2] at hs
      have := h92 s hs; omega
  | ok h hb os ho h9 =>
    cases h' with
    | long _ => omega
    | field _ f hf hb2 => exact absurd (hb f hf) hb2
    | line _ _ os2 ho2 s hs h92 =>
      rw [← ho.det ho2] at hs
      have := h9 s hs; omega
    | ok _ _ os2 ho2 => rw [ho.det ho2]; exact ⟨rfl, rfl⟩
open Classical in
/-- A header's text, if it may be written. -/
noncomputable def hdO (l : List Fld) : Option Bs := if h : ∃ b, WrR l (some b) 0 then some h.choose else none
theorem hd_of {l : List Fld} {o : Option Bs} {e : Nat} (h : WrR l o e) : hdO l = o ∧ (e = 0 ↔ o.isSome = true) := by
  have h2 : (e = 0 ↔ o.isSome = true) := by cases h <;> simp
  refine ⟨?_, h2⟩
  unfold hdO
  cases o with
  | some b =>
    have he : e = 0 := h2.2 rfl
    subst he
    have hex : ∃ b, WrR l (some b) 0 := ⟨b, h⟩
    rw [dif_pos hex]
    exact (WrR.det hex.choose_spec h).1
  | none =>
    rw [dif_neg]
    rintro ⟨b, hb⟩
    exact absurd (WrR.det h hb).1 (by simp)
theorem FoldR.len {s : Bs} {f : Nat} {a : List Bs} (h : FoldR s f a) : 1 ≤ f → a.length ≤ s.length + 1 := by
  induction h with
  | stop => intro _; simp
  | @step s f k out h hp ho ih =>
    intro hf
    have := ih (Nat.le_refl 1)
    have h1 := hp.1
    have h2 := hp.2.1
    simp at this ⊢; omega
section
variable [LayerC]
theorem FoldsR.len {l : List Fld} {a : List Bs} (h : FoldsR l a) : (∀ f ∈ l, isName f.n ∧ isVal f.v) → (emit a).length ≤ l.length * 13000 := by
  induction h with
  | nil => intro _; simp [emit]
  | @snoc l f o os h hf ih =>
    intro hb
    have h1 := ih fun g hg => hb g (by simp [hg])
    have h2 := (lineF_len (hb f (by simp))).1
    have h3 := hf.len (by omega)
    have h4 := hf.flat
    rw [emit_app, List.length_append, emit_len o, h4]
    simp only [List.length_append, List.length_singleton]
    omega
theorem hd_len {l : List Fld} {b : Bs} {e : Nat} (h : WrR l (some b) e) : b.length ≤ 2000000 := by
  cases h with
  | ok h hb os ho h9 =>
    have := ho.len hb
    simp [crlf]; omega

end
/-- Trees of small size. -/
inductive Lin : Prt → Prop
  | mk {fs : List Fld} {b : Bs} {ps : List Prt} (hf : fs.length ≤ 1000) (hn : ∀ f ∈ fs, f.n.length ≤ 100000 ∧ f.v.length ≤ 100000) (hb : b.length ≤ 1000000) (hp : ps.length ≤ 100) (h : ∀ q ∈ ps, Lin q) : Lin (.mk fs b ps)
theorem Lin.lim {p : Prt} : Lin p → Lim p := by
  refine Prt.ind (C := fun p => Lin p → Lim p) ?_ p
  intro fs b ps ih h
  cases h with
  | mk h1 h2 h3 h4 h5 => exact .mk (by omega) (fun f hf => ⟨by have := h2 f hf; omega, by have := h2 f hf; omega⟩) (by omega) (by omega) fun q hq => ih q hq (h5 q hq)
def mpart : Bs := [109, 117, 108, 116, 105, 112, 97, 114, 116]
theorem bord_len (ps : List Par) : (bord ps).length ≤ 70 := by
  unfold bord
  split
  · rename_i h; exact h.2
  · simp
noncomputable section
open Classical
mutual
/-- A part's text, as the program writes it, and how many parts were counted. -/
def wrPt : Prt → Nat → Nat → Option Bs × Nat
  | .mk fs b ps, d, c =>
    match hdO fs with
    | none => (none, c + 1)
    | some hd =>
      if (kindO fs).2 ≠ 0 ∨ 8 < d ∨ 64 < c + 1 then (none, c + 1)
      else if (kindO fs).1.t ≠ mpart then (if ps.length = 0 then some (hd ++ b) else none, c + 1)
      else if bord (kindO fs).1.ps = [] ∨ ps.length = 0 ∨ 0 < b.length then (none, c + 1)
      else wrLp ps (bord (kindO fs).1.ps) hd d (c + 1)
def wrLp : List Prt → Bs → Bs → Nat → Nat → Option Bs × Nat
  | [], bo, hd, d, c => (some (hd ++ (dash2 ++ bo ++ dash2 ++ crlf)), c)
  | p :: ps, bo, hd, d, c =>
    match wrPt p (d + 1) c with
    | (none, c2) => (none, c2)
    | (some t, c2) => if begL t (dash2 ++ bo) ∨ 1048576 < hd.length + t.length then (none, c2) else wrLp ps bo (hd ++ (dash2 ++ bo ++ crlf) ++ t ++ crlf) d c2
end
end
end Go.Proofs.Tryz

/- Walks: a tree is written. -/
namespace Go.SL
theorem getL0 {A L : Hp} {n : Nat} (h : A.length = n) : (A ++ L)[n]? = L[0]? := by subst h; simp
theorem getL {A L : Hp} {n i : Nat} (h : A.length = n) : (A ++ L)[n + i]? = L[i]? := by subst h; simp
theorem atL0 {A L : Hp} {n ver : Nat} (h : A.length = n) : cellsAt (A ++ L) n ver = cellsAt L 0 ver := by subst h; simp
theorem atL {A L : Hp} {n i ver : Nat} (h : A.length = n) : cellsAt (A ++ L) (n + i) ver = cellsAt L i ver := by subst h; simp
theorem putL0 {A L : Hp} {n off : Nat} {xs : List CV} (h : A.length = n) : putH (A ++ L) n off xs = A ++ putH L 0 off xs := by subst h; simp
theorem putL {A L : Hp} {n i off : Nat} {xs : List CV} (h : A.length = n) : putH (A ++ L) (n + i) off xs = A ++ putH L i off xs := by subst h; simp
theorem takeL {A L : Hp} {n : Nat} (h : A.length = n) : (A ++ L).take n = A := by subst h; simp
theorem takeLi {A L : Hp} {n i : Nat} (h : A.length = n) : (A ++ L).take (n + i) = A ++ L.take i := by subst h; rw [List.take_length_add_append]
/-- A heap that differs in an old object alone. -/
structure Base (G : Int → Hp) (w n : Nat) (t : TypeId) : Prop where
  lt : w < n
  len : ∀ c, (G c).length = n
  get : ∀ c, (G c)[w]? = some (.cells 0 [.v (.int .i64 c)] t)
  set : ∀ c v, (G c).set w (.cells 0 [.v (.int .i64 v)] t) = G v
theorem Base.mk' {H : Hp} {w : Nat} {t : TypeId} {c : Int} (h : H[w]? = some (.cells 0 [.v (.int .i64 c)] t)) : ∃ G, Base G w H.length t ∧ H = G c := by
  have hl := (List.getElem?_eq_some_iff.1 h).1
  refine ⟨fun v => H.set w (.cells 0 [.v (.int .i64 v)] t), ⟨hl, fun c => by simp, fun c => by simp [hl], fun c v => by simp⟩, ?_⟩
  have := (List.getElem?_eq_some_iff.1 h).2
  simp only [← this]; simp
variable {G : Int → Hp} {w n : Nat} {t : TypeId}
theorem Base.at (b : Base G w n t) (c : Int) (L : Hp) : cellsAt (G c ++ L) w 0 = some [.v (.int .i64 c)] := by
  rw [at_old (by rw [b.len]; exact b.lt)]
  unfold cellsAt; rw [b.get]; simp
theorem Base.put (b : Base G w n t) (c v : Int) (L : Hp) : putH (G c ++ L) w 0 [.v (.int .i64 v)] = G v ++ L := by
  have h1 : w < (G c).length := by rw [b.len]; exact b.lt
  rw [← b.set c v]
  unfold putH
  apply List.ext_getElem?
  intro j
  rw [List.getElem?_modify]
  by_cases e : w = j
  · subst e
    rw [List.getElem?_append_left h1, List.getElem?_append_left (by simpa using h1), b.get, List.getElem?_set_self h1]; simp
  · by_cases hj : j < (G c).length
    · rw [List.getElem?_append_left hj, List.getElem?_append_left (by simpa using hj), List.getElem?_set_ne e]; simp [e]
    · rw [List.getElem?_append_right (by omega), List.getElem?_append_right (by simp; omega)]; simp [e]
theorem Base.get' (b : Base G w n t) (c : Int) (L : Hp) : (G c ++ L)[w]? = some (.cells 0 [.v (.int .i64 c)] t) := by
  rw [List.getElem?_append_left (by rw [b.len]; exact b.lt)]; exact b.get c
theorem Base.set' (b : Base G w n t) (c v : Int) (L : Hp) : (G c ++ L).set w (.cells 0 [.v (.int .i64 v)] t) = G v ++ L := by
  rw [List.set_append_left _ _ (by rw [b.len]; exact b.lt), b.set]
end Go.SL
namespace Go.Proofs.Tryz
open Go Go.SL
set_option linter.unusedVariables false
set_option linter.unusedSimpArgs false

attribute [local congr] WX_stop WC_stop W_stop
/-- What writing a part answers. -/
def wrA (o : Option Bs) (y : CV) : Prop :=
  match o with
  | some t => t.length ≤ 3000000 ∧ ∃ z, CB z t ∧ y = .tup [z, .v (.bool true)]
  | none => ∃ z t, CB z t ∧ y = .tup [z, .v (.bool false)]
theorem kind_par (fs : List Fld) : (kindO fs).1.ps.length ≤ 16 ∧ ∀ p ∈ (kindO fs).1.ps, p.v.length ≤ 256 := by
  have hr : ∀ s k, readK s = some k → k.ps.length ≤ 16 ∧ ∀ p ∈ k.ps, p.v.length ≤ 256 := by
    intro s k h
    unfold readK at h
    split at h
    · split at h
      · obtain ⟨ps, h1, h2⟩ := Option.bind_eq_some_iff.1 h
        split at h2
        · rename_i hk
          cases h2
          exact ⟨hk.2.2.1, fun p hp => ((hk.2.2.2.1 p hp).2).2⟩
        · cases h2
      · cases h
    · cases h
  unfold kindO
  split
  · simp [kText]
  · split
    · rename_i h; exact hr _ _ h
    · simp
  · simp
theorem wrPt_c (p : Prt) : ∀ (d c : Nat) (t : Bs) (c2 : Nat), wrPt p d c = (some t, c2) → c2 ≤ 64 := by
  refine Prt.ind (C := fun p => ∀ (d c : Nat) (t : Bs) (c2 : Nat), wrPt p d c = (some t, c2) → c2 ≤ 64) ?_ p
  intro fs b ps ih d c t c2 h
  have key : ∀ (l : List Prt), (∀ q ∈ l, q ∈ ps) → ∀ (bo hd : Bs) (c : Nat), c ≤ 64 → wrLp l bo hd d c = (some t, c2) → c2 ≤ 64 := by
    intro l
    induction l with
    | nil => intro _ bo hd c hc h; rw [wrLp] at h; cases h; exact hc
    | cons q l ihl =>
      intro hq bo hd c hc h
      rw [wrLp] at h
      split at h
      · cases h
      · rename_i t' c' he
        have hc' := ih q (hq q (by simp)) _ _ _ _ he
        split at h
        · cases h
        · exact ihl (fun r hr => hq r (by simp [hr])) _ _ _ hc' h
  rw [wrPt] at h
  split at h
  · cases h
  · split at h
    · cases h
    · rename_i hn
      have hc : c + 1 ≤ 64 := by omega
      split at h
      · split at h
        · cases h; exact hc
        · cases h
      · split at h
        · cases h
        · exact key ps (fun _ h => h) _ _ _ hc h
theorem u8s_clB (l : Bs) : (u8s l).all clB = true := by simp [u8s]; exact fun _ _ => rfl
variable [LayerC]
set_option maxRecDepth 100000 in
theorem w25 (p : Prt) : Lin p → ∀ (m : Nat) (cs : List CV) (H : Hp) (w d c : Nat), PV p cs → H[w]? = some (.cells 0 [.v (.int .i64 (c : Nat))] 65) → d ≤ 1000 → c ≤ 1000 →
    WC prog cs0 m (.f 38) [.ptr w 0 0, .agg cs, .v (.int .i64 (d : Nat))] H fun y H' => H' = H.set w (.cells 0 [.v (.int .i64 ((wrPt p d c).2 : Nat))] 65) ∧ wrA (wrPt p d c).1 y := by
  refine Prt.ind (C := fun p => Lin p → ∀ (m : Nat) (cs : List CV) (H : Hp) (w d c : Nat), PV p cs → H[w]? = some (.cells 0 [.v (.int .i64 (c : Nat))] 65) → d ≤ 1000 → c ≤ 1000 →
    WC prog cs0 m (.f 38) [.ptr w 0 0, .agg cs, .v (.int .i64 (d : Nat))] H fun y H' => H' = H.set w (.cells 0 [.v (.int .i64 ((wrPt p d c).2 : Nat))] 65) ∧ wrA (wrPt p d c).1 y) ?_ p
  intro fs b ps ih hlin m cs H w d c hpv hw hd hc
  obtain ⟨f, x, q, ch, rfl, hf, hb, hl, hch1, hrs, hq, hch⟩ := hpv.inv
  cases hlin with
  | mk l1 l2 l3 l4 l5 =>
  simp only [Prt.fs, Prt.b, Prt.ps] at hf hb hl hq hch
  obtain ⟨Z, hZ⟩ : ∃ Z, Z = wrPt (.mk fs b ps) d c := ⟨_, rfl⟩
  rw [← hZ]
  obtain ⟨G, hG, hH⟩ := Base.mk' hw
  obtain ⟨K, hK⟩ : ∃ K : CV → Hp → Prop, ∀ y H', K y H' ↔ H' = G (Z.2 : Nat) ∧ wrA Z.1 y := ⟨_, fun _ _ => Iff.rfl⟩
  have hset : ∀ v : Nat, H.set w (.cells 0 [.v (.int .i64 (v : Nat))] 65) = G (v : Nat) := fun v => by rw [hH, hG.set]
  simp only [hset, ← hK]
  rw [WC_drop rfl func38 rfl rfl]
  obtain ⟨n, hn⟩ : ∃ n, n = H.length := ⟨_, rfl⟩
  rw [← hn] at hG ⊢
  rw [hH] at hn ⊢
  clear hH hw hset
  have gl := hG.len
  have a0 := fun c L ver => atL0 (L := L) (ver := ver) (gl c)
  have ai := fun c L ver i => atL (L := L) (ver := ver) (i := i) (gl c)
  have p0 := fun c L off xs => putL0 (L := L) (off := off) (xs := xs) (gl c)
  have pi := fun c L off xs i => putL (L := L) (off := off) (xs := xs) (i := i) (gl c)
  have tk := fun c L => takeL (L := L) (gl c)
  have gat := hG.at
  have gput := hG.put
  have of := hf.one
  have ob := hb.one
  have oq := hq.one
  have uf := hf.unl
  obtain ⟨c1, hc1, hwc⟩ := upJ (i := c) (n := 2000) (by omega) (by omega)
  have h14 := fun L => w14 n f x q fs (G (c1 : Nat) ++ L) (PV.fld hf _) ob oq (by omega) (fun g hg => by have := l2 g hg; omega)
  obtain ⟨kd, hkd⟩ : ∃ kd, kd = kindO fs := ⟨_, rfl⟩
  simp -implicitDefEqProofs [f38, aQ, dAlloc, cells_agg, of, ob, oq, gl, a0, ai, p0, pi, gat, gput, atP, faddr_ptr, underlying65, load_one underlying3 rfl iT3, store_at iT3, hwc, load_aggp underlying26 rfl iT26]
  refine WC_mono (h14 _) ?_
  rintro y H2 ⟨rfl, x', ⟨q', rfl, hk⟩, rfl⟩
  rw [← hkd] at hk ⊢
  obtain ⟨kk, ke⟩ := kd
  obtain ⟨kt, ks, kp⟩ := kk
  simp only at hk
  have oq' := hk.one
  have uq' := hk.unl
  have h41 := fun L => w41 n f fs (G (c1 : Nat) ++ L) (PV.fld hf _) (by omega) (fun g hg => by have := l2 g hg; omega) (by rw [List.length_append, gl]; omega)
  have hkp := kind_par fs
  rw [← hkd] at hkp
  simp only at hkp
  have hz0 := hZ
  rw [wrPt, ← hkd] at hZ
  have hst : ∀ k x off, stQ n (.ptr (n + k) 0 off) x = true := fun k x off => by simp [stQ]
  simp -implicitDefEqProofs [aQ, dAlloc, dExtract, oq', cells_agg, store_at iT55, hst, gl, a0, ai, p0, pi, faddr_ptr, underlying26, underlying55, load_one underlying22 rfl iT22, uf]
  refine WC_mono (h41 _) ?_
  rintro y H2 ⟨o, e, z, hwr, rfl, hz, htk⟩
  obtain ⟨hdo, heo⟩ := hd_of hwr
  rw [hdo] at hZ
  obtain ⟨L, rfl⟩ : ∃ L, H2 = G (c1 : Nat) ++ CO.cells 0 [f, x, q] 26 :: CO.cells 0 [str kt, str ks, q'] 55 :: L := ⟨_, by have := split_at htk; simpa using this⟩
  have hbad : ∀ v, (Z = (none, c + 1)) → (∃ z t, CB z t ∧ v = .tup [z, .v (.bool false)]) → K v (G (c1 : Nat)) := fun v h1 h2 => (hK _ _).2 ⟨by rw [h1, ← hc1], by rw [h1]; exact h2⟩
  have hnil : ∃ z t, CB z t ∧ CV.tup [.v (.slice none 0 0), .v (.bool false)] = .tup [z, .v (.bool false)] := ⟨nilC, [], .inr ⟨rfl, rfl, rfl⟩, rfl⟩
  by_cases hke : ke = 0
  case neg =>
    have hZ1 : Z = (none, c + 1) := by
      rw [hZ]; cases o with
      | none => rfl
      | some hd => simp only []; rw [if_pos (.inl hke)]
    simp -implicitDefEqProofs [dExtract, hke, tk]
    exact hbad _ hZ1 hnil
  subst hke
  cases o with
  | none =>
    have he : ¬ e = 0 := fun h => by have := heo.1 h; cases this
    simp -implicitDefEqProofs [dExtract, he, tk]
    exact hbad _ hZ hnil
  | some hd =>
  obtain rfl : e = 0 := heo.2 rfl
  simp only [] at hZ
  by_cases h8 : 8 < d
  · rw [if_pos (.inr (.inl h8))] at hZ
    simp -implicitDefEqProofs [dExtract, h8, tk]
    exact hbad _ hZ hnil
  by_cases h64 : 64 < c1
  · rw [if_pos (.inr (.inr (by omega)))] at hZ
    simp -implicitDefEqProofs [dExtract, h8, h64, tk, atP, gat, faddr_ptr, underlying65, load_one underlying3 rfl iT3]
    exact hbad _ hZ hnil
  rw [if_neg (by omega)] at hZ
  have hhd := hd_len hwr
  have hgz : GB (n + 2) (G (c1 : Nat) ++ CO.cells 0 [f, x, q] 26 :: CO.cells 0 [str kt, str ks, q'] 55 :: L) z hd := by
    have h2 : (G (c1 : Nat) ++ [CO.cells 0 [f, x, q] 26, CO.cells 0 [str kt, str ks, q'] 55]).length = n + 2 := by simp [gl]
    have h3 : GB _ _ z hd := hz
    rw [h2] at h3; exact h3
  have uz := Grow.unl hgz
  have hfa : ∀ H y, dFieldAddr prog 26 (.ptr n 0 0) 2 H = some y → y = .ptr n 0 2 := fun H y h => by
    rw [faddr_ptr] at h
    simp [underlying26] at h
    cases hc : cellsAt H n 0 with
    | none => simp [hc] at h
    | some cs => simp [hc] at h; exact h.symm
  have hld : ∀ H y, cellsAt H n 0 = some [f, x, q] → dLoad prog 24 (.ptr n 0 2) H = some y → y = q := fun H y h1 h2 => by
    rw [load_one underlying24 rfl iT24, h1] at h2
    simp at h2; exact h2.symm
  by_cases hkt : kt = [109, 117, 108, 116, 105, 112, 97, 114, 116]
  case neg =>
    rw [if_pos (show ¬ kt = mpart from hkt)] at hZ
    simp -implicitDefEqProofs [dExtract, h8, h64, tk, atP, gat, faddr_ptr, underlying65, underlying55, load_one underlying3 rfl iT3, load_one underlying9 rfl iT9, a0, ai, hkt]
    rw [W_drawJ (LJ 4 10 55 59 60 n (n + 2) f x q) [(3, 4), (3, 5), (3, 6), (3, 7)] _ _ _ _ _ _ followsT (by
        refine ⟨by simp [gl], by simp [gl], ?_, ?_, by simp [a0], .inr (by simp), ?_⟩
        · simp [uz]; exact Grow.own hgz
        · simp; intro _ _ _ _ _ h; cases h
        · simp; intro _ _ _ _ _ h; cases h) (by rfl) (by
        intro k o ho
        simp at ho
        rcases ho with rfl | rfl | rfl | rfl | rfl | rfl | rfl | rfl | rfl | rfl
        · exact keep_mv rfl rfl rfl (by decide)
        · exact keep_rd (rd_of rfl) (by decide)
        · exact keep_rd (rd_of rfl) (by decide)
        · exact keep_app (by omega) rfl rfl (by decide)
        · exact keep_fa hfa rfl rfl rfl (by decide)
        · exact keep_ld hq.clS hld rfl rfl rfl (by decide)
        · exact keep_rd (rd_of rfl) (by decide)
        · exact keep_rd (rd_of rfl) (by decide)
        · exact keep_rd (rd_of rfl) (by decide)
        · exact keep_rd (rd_of rfl) (by decide)) (by
        intro k j i oj oi hm h1 h2
        simp at hm
        rcases hm with ⟨rfl, rfl⟩ | ⟨rfl, rfl⟩ | ⟨rfl, rfl⟩ | ⟨rfl, rfl⟩ <;> simp at h1 h2 <;> subst h1 h2
        · exact capp_fa (by omega) (by rfl) rfl rfl rfl rfl rfl
        · exact capp_ld (by omega) (by rfl) rfl rfl rfl rfl rfl
        · exact capp_len (by rfl) rfl rfl rfl rfl rfl
        · exact capp_eql (t := 0) (tx := 0) (b := .tmp 0) (by rfl) rfl rfl rfl)]
    obtain ⟨z2, H3, e1, u2, e2, e3, e4⟩ := hgz.add (tx := 23) (y := x) (by simp [gl]) (RB.src underlying23 (hb.rb _)) (by omega)
    have hap : ∀ y, apQ n z y = true := Grow.ap hgz (by omega)
    obtain ⟨L3, rfl⟩ : ∃ L3, H3 = G (c1 : Nat) ++ CO.cells 0 [f, x, q] 26 :: CO.cells 0 [str kt, str ks, q'] 55 :: L3 := ⟨_, by have := split_at e3; rw [takeLi (gl _)] at this; simpa using this⟩
    have ub := hb.unl
    have uq := hq.unl
    have hlq : dLenS prog 24 q (G (c1 : Nat) ++ CO.cells 0 [f, x, q] 26 :: CO.cells 0 [str kt, str ks, q'] 55 :: L3) = some (.v (.int .i64 (ps.length : Nat))) := by rw [(hrs _).len underlying24, hl]
    obtain ⟨y3, _, k1, _, k2⟩ := Grow.frzV e2 (k := n) (by omega) (u8s_clB _)
    simp -implicitDefEqProofs [uz, gl, a0, faddr_ptr, underlying26, load_one underlying23 rfl iT23, load_one underlying24 rfl iT24, hap, e1, u2, hlq, k1, tk]
    by_cases hps : ps = []
    · subst hps
      rw [if_pos (show ([] : List Prt).length = 0 from rfl)] at hZ
      have e : K (CV.tup [y3, .v (.bool true)]) (G (c1 : Nat)) := (hK _ _).2 ⟨by rw [hZ, ← hc1], by rw [hZ]; exact ⟨by simp; omega, y3, k2, rfl⟩⟩
      simpa using e
    · rw [if_neg (fun h => hps (List.eq_nil_of_length_eq_zero h))] at hZ
      simp only [hps, decide_false]
      exact hbad _ hZ ⟨y3, _, k2, rfl⟩
  rw [if_neg (show ¬ ¬ kt = mpart from fun h => h hkt)] at hZ
  have hkr := fun H => Cls.rs (sz := 2) (ch := kp.map Par.c) (by rw [List.length_map]; exact hk) (parCh kp) H
  have c36 := fun H => (w36 n kt ks kp q' H (hkr H) (by omega) (fun g hg => by have := hkp.2 g hg; omega)).wc
  obtain ⟨bo, hbo⟩ : ∃ bo, bo = bord kp := ⟨_, rfl⟩
  have hbol : bo.length ≤ 70 := by rw [hbo]; exact bord_len kp
  simp only [← hbo] at hZ c36
  have ub := hb.unl
  have uq := hq.unl
  have hlq : ∀ H, dLenS prog 24 q H = some (.v (.int .i64 (ps.length : Nat))) := fun H => by rw [(hrs H).len underlying24, hl]
  have hlx : ∀ H, dLenS prog 23 x H = some (.v (.int .i64 (b.length : Nat))) := fun H => (hb.rb H).len underlying23
  simp -implicitDefEqProofs [dExtract, h8, h64, tk, atP, gat, faddr_ptr, underlying65, underlying55, load_one underlying3 rfl iT3, load_one underlying9 rfl iT9, a0, ai, hkt, load_aggp underlying55 rfl iT55]
  rw [← hkt]
  simp -implicitDefEqProofs [c36]
  by_cases hb0 : bo = []
  · rw [if_pos (.inl hb0)] at hZ
    simp -implicitDefEqProofs [gl, hb0, tk]
    exact hbad _ hZ hnil
  by_cases hp0 : ps.length = 0
  · rw [if_pos (.inr (.inl hp0))] at hZ
    simp -implicitDefEqProofs [gl, hb0, tk, faddr_ptr, underlying26, a0, load_one underlying24 rfl iT24, hlq, hp0, uq]
    exact hbad _ hZ hnil
  by_cases hx0 : 0 < b.length
  · rw [if_pos (.inr (.inr hx0))] at hZ
    simp -implicitDefEqProofs [gl, hb0, tk, faddr_ptr, underlying26, a0, load_one underlying24 rfl iT24, load_one underlying23 rfl iT23, hlq, hlx, hp0, hx0, uq, ub]
    exact hbad _ hZ hnil
  rw [if_neg (by rintro (h | h | h); exact hb0 h; exact hp0 h; exact hx0 h)] at hZ
  simp -implicitDefEqProofs [gl, hb0, tk, faddr_ptr, underlying26, a0, load_one underlying24 rfl iT24, load_one underlying23 rfl iT23, hlq, hlx, hp0, hx0, uq, ub]
  obtain ⟨I, hI⟩ : ∃ I : Nat → Fr → Hp → Prop, ∀ i fr H', I i fr H' ↔ ∃ (c' : Nat) (hd' : Bs) (L' : Hp), H' = G (c' : Nat) ++ CO.cells 0 [f, x, q] 26 :: CO.cells 0 [str kt, str ks, q'] 55 :: L' ∧ fr 0 = .ptr w 0 0 ∧ fr 2 = .v (.int .i64 (d : Nat)) ∧ fr 12 = str bo ∧ fr 80 = q ∧ fr 81 = .v (.int .i64 (ps.length : Nat)) ∧ fr 82 = .v (.int .i64 (i : Nat)) ∧ GB (n + 2) H' (fr 10) hd' ∧ hd'.length ≤ 2000000 ∧ c' ≤ 64 ∧ Z = wrLp (ps.drop i) bo hd' d c' := ⟨_, fun _ _ _ => Iff.rfl⟩
  refine W_mono (W_up (Q := fun e fr H' => (e = .exit 0 ∧ I ps.length fr H') ∨ (e = .ret ∧ ∃ c' L', H' = G c' ++ L' ∧ fr 6 = .v (.slice none 0 0) ∧ fr 7 = .v (.bool false) ∧ K (.tup [.v (.slice none 0 0), .v (.bool false)]) (G c'))) ps.length I ?_ 0 _ _ (by omega) ((hI _ _ _).2 ⟨c1, hd, L, rfl, by simp, by simp, by simp, by simp, by simp, by simp, by simpa [uz] using hgz, hhd, by omega, by rw [hZ, ← hc1]; simp⟩)) ?_
  · intro i fr H' hi hinv
    obtain ⟨c', hd', L', rfl, e0, e2, e12, e80, e81, e82, hg, hhl, hc64, hz2⟩ := (hI _ _ _).1 hinv
    by_cases hlt : i < ps.length
    case neg =>
      obtain rfl : i = ps.length := by omega
      simp -implicitDefEqProofs [e81, e82]
      exact (hI _ _ _).2 ⟨c', hd', L', rfl, by simp [e0], by simp [e2], by simp [e12], by simp [e80], by simp [e81], by simp [e82], by simpa using hg, hhl, hc64, hz2⟩
    have hw := up64 hlt (by omega)
    have hlt2 : i < ch.length := by omega
    have had := fun H => (hrs H).addr (P := prog) underlying24 iT26 sT26 .i64 i
    have hla := fun H => (hrs H).loadAgg (P := prog) underlying26 rfl iT26 sT26 hlt2
    simp [hlt2] at had
    have hdr := List.drop_eq_getElem_cons hlt
    rw [hdr, wrLp] at hz2
    have hpv := hch i hlt hlt2
    obtain ⟨pf, px, pq, pch, hce, g1, g2, -, -, -, g3, -⟩ := hpv.inv
    have o1 := g1.one
    have o2 := g2.one
    have o3 := g3.one
    have h25 := fun L => ih ps[i] (List.getElem_mem hlt) (l5 _ (List.getElem_mem hlt)) n ch[i] (G (c' : Nat) ++ L) w (d + 1) c' hpv (hG.get' _ _) (by omega) (by omega)
    simp only [hce] at hla h25
    obtain ⟨d1, hd1, hwd⟩ := upJ (i := d) (n := 2000) (by omega) (by omega)
    rw [← hd1] at hz2 h25
    simp -implicitDefEqProofs [e0, e2, e80, e81, e82, hlt, had, hla, uq, aQ, dAlloc, hwd, gl, ai, pi, hst, store_at iT26, cells_agg, o1, o2, o3, load_aggp underlying26 rfl iT26]
    refine WC_mono (h25 _) ?_
    rintro y H2 ⟨rfl, hy⟩
    rw [hG.set']
    obtain ⟨r, hr⟩ : ∃ r, r = wrPt ps[i] d1 c' := ⟨_, rfl⟩
    rw [← hr] at hz2 hy ⊢
    obtain ⟨ro, c2⟩ := r
    simp only [] at hz2 hy ⊢
    cases ro with
    | none =>
      obtain ⟨z', t', hcb, rfl⟩ := hy
      simp only [] at hz2
      simp -implicitDefEqProofs [dExtract]
      exact ⟨_, ⟨_, rfl⟩, (hK _ _).2 ⟨by rw [hz2], by rw [hz2]; exact hnil⟩⟩
    | some t =>
      obtain ⟨htl, z', hcb, rfl⟩ := hy
      simp only [] at hz2
      have hc2 := wrPt_c _ _ _ _ _ hr.symm
      have uz' := hcb.unl
      have c42 : ∀ L K, WC prog cs0 n (.f 35) [z', str (45 :: 45 :: bo)] (G (c2 : Nat) ++ L) K ↔ K (.v (.bool (decide (begL t (dash2 ++ bo))))) (G (c2 : Nat) ++ L) := fun L => (w42 n z' t (dash2 ++ bo) (G (c2 : Nat) ++ L) (hcb.rb _) (by omega) (by simp [dash2]; omega)).wc
      have hb2 : 2 + bo.length ≤ 9223372036854775807 := by omega
      have hb3 : 2 + bo.length + 2 ≤ 9223372036854775807 := by omega
      have hb4 : bo.length + 1 + 1 + 2 ≤ 9223372036854775807 := by omega
      by_cases hbg : begL t (dash2 ++ bo)
      · rw [if_pos (.inl hbg)] at hz2
        simp -implicitDefEqProofs [dExtract, e12, uz', hb2, c42, hbg]
        exact ⟨_, ⟨_, rfl⟩, (hK _ _).2 ⟨by rw [hz2], by rw [hz2]; exact hnil⟩⟩
      obtain ⟨hx, hhx⟩ : ∃ hx, hx = fr 10 := ⟨_, rfl⟩
      rw [← hhx] at hg
      have uh := Grow.unl hg
      have hg2 : GB (n + 2) (G (c2 : Nat) ++ CO.cells 0 [f, x, q] 26 :: CO.cells 0 [str kt, str ks, q'] 55 :: (L' ++ [CO.cells 0 [pf, px, pq] 26])) hx hd' := by
        refine Grow.of_obj hg fun j v cc hj hsome => ?_
        obtain ⟨j, rfl⟩ : ∃ k, j = n + (k + 2) := ⟨j - n - 2, by omega⟩
        rw [getL (gl _)] at hsome ⊢
        rw [getL (gl _)]
        simp only [List.getElem?_cons_succ] at hsome ⊢
        rw [List.getElem?_append_left (List.getElem?_eq_some_iff.1 hsome).1]
      have hlh := (Grow.rb hg2).len (P := prog) underlying23
      have hlt' := fun H => (hcb.rb H).len (P := prog) underlying23
      obtain ⟨sm, hsm, hws⟩ : ∃ sm, sm = hd'.length + t.length ∧ IntKind.i64.wrap ((hd'.length : Int) + (t.length : Int)) = (sm : Int) := ⟨_, rfl, wrN (by omega) (by omega)⟩
      rw [← hsm] at hz2
      by_cases hbig : 1048576 < sm
      · rw [if_pos (.inr hbig)] at hz2
        simp -implicitDefEqProofs [dExtract, e12, uz', hb2, c42, hbg, ← hhx, uh, hlh, hlt', hws, hbig]
        exact ⟨_, ⟨_, rfl⟩, (hK _ _).2 ⟨by rw [hz2], by rw [hz2]; exact hnil⟩⟩
      rw [if_neg (by rintro (h | h); exact hbg h; exact hbig h)] at hz2
      have hap : ∀ y, apQ n hx y = true := Grow.ap hg2 (by omega)
      obtain ⟨x2, H3, k1, k2, k3, k4, k5⟩ := hg2.addS (l' := dash2 ++ bo ++ crlf) (by simp [gl]) (by simp [dash2, crlf]; omega)
      obtain ⟨x3, H4, m1, m2, m3, m4, m5⟩ := k3.add (tx := 23) (y := z') k5 (RB.src underlying23 (hcb.rb _)) (by simp [dash2, crlf]; omega)
      obtain ⟨x4, H5, n1, n2, n3, n4, n5⟩ := m3.addS (l' := crlf) m5 (by simp [dash2, crlf]; omega)
      have hap2 : ∀ y, apQ n x2 y = true := Grow.ap k3 (by omega)
      have hap3 : ∀ y, apQ n x3 y = true := Grow.ap m3 (by omega)
      have k1' : dAppend prog 23 9 hx (str (45 :: 45 :: (bo ++ [13, 10]))) (G (c2 : Nat) ++ CO.cells 0 [f, x, q] 26 :: CO.cells 0 [str kt, str ks, q'] 55 :: (L' ++ [CO.cells 0 [pf, px, pq] 26])) = some (x2, H3) := k1
      have n1' : dAppend prog 23 9 x3 (str [13, 10]) H4 = some (x4, H5) := n1
      simp -implicitDefEqProofs [dExtract, e12, e82, uz', hb2, hb3, hb4, c42, hbg, ← hhx, uh, hlh, hlt', hws, hbig, hap, hap2, hap3, k1', m1, n1', k2, m2, n2, hw]
      refine ⟨hlt, (hI _ _ _).2 ⟨c2, hd' ++ (dash2 ++ bo ++ crlf) ++ t ++ crlf, H5.drop (n + 2), ?_, by simp [e0], by simp [e2], by simp [e12], by simp [e80], by simp [e81], by simp, by simpa using n3, by simp [dash2, crlf]; omega, hc2, hz2⟩⟩
      have := split_at (n4.trans (m4.trans k4))
      rw [takeLi (gl _)] at this
      simpa using this
  · rintro e fr H' (⟨rfl, hi⟩ | ⟨rfl, c', L', rfl, h6, h7, hk'⟩)
    · obtain ⟨c', hd', L', rfl, e0, e2, e12, e80, e81, e82, hg, hhl, hc64, hz2⟩ := (hI _ _ _).1 hi
      rw [List.drop_length, wrLp] at hz2
      obtain ⟨hx, hhx⟩ : ∃ hx, hx = fr 10 := ⟨_, rfl⟩
      rw [← hhx] at hg
      have uh := Grow.unl hg
      have hap : ∀ y, apQ n hx y = true := Grow.ap hg (by omega)
      have hb2 : 2 + bo.length ≤ 9223372036854775807 := by omega
      have hb3 : 2 + bo.length + 4 ≤ 9223372036854775807 := by omega
      have hb4 : bo.length + 1 + 1 + 4 ≤ 9223372036854775807 := by omega
      obtain ⟨x2, H3, k1, k2, k3, k4, k5⟩ := hg.addS (l' := dash2 ++ bo ++ dash2 ++ crlf) (by simp [gl]) (by simp [dash2, crlf]; omega)
      have k1' : dAppend prog 23 9 hx (str (45 :: 45 :: (bo ++ [45, 45, 13, 10]))) (G (c' : Nat) ++ CO.cells 0 [f, x, q] 26 :: CO.cells 0 [str kt, str ks, q'] 55 :: L') = some (x2, H3) := by
        rw [← k1]; simp [dash2, crlf]
      obtain ⟨y3, _, f2, _, f4⟩ := Grow.frzV k3 (k := n) (by omega) (u8s_clB _)
      obtain ⟨L3, rfl⟩ : ∃ L3, H3 = G (c' : Nat) ++ CO.cells 0 [f, x, q] 26 :: CO.cells 0 [str kt, str ks, q'] 55 :: L3 := ⟨_, by have := split_at k4; rw [takeLi (gl _)] at this; simpa using this⟩
      simp -implicitDefEqProofs [e12, hb2, hb3, hb4, ← hhx, uh, hap, k1', k2, f2, tk]
      refine (hK _ _).2 ⟨by rw [hz2], ?_⟩
      rw [hz2]; exact ⟨by simp [dash2, crlf]; omega, y3, f4, rfl⟩
    · simp -implicitDefEqProofs [h6, h7, tk]
      exact hk'
end Go.Proofs.Tryz

/- Walks: Write, and the reference's. -/
namespace Go.Proofs.Tryz
open Go Go.SL
set_option linter.unusedVariables false
set_option linter.unusedSimpArgs false
attribute [local congr] WX_stop WC_stop W_stop

/-- What Write answers. -/
def wrW (o : Option Bs) (y : CV) : Prop :=
  match o with
  | some t => t.length ≤ 1048576 ∧ ∃ z, CB z t ∧ y = .tup [z, .v (.int .i64 0)]
  | none => y = .tup [nilC, .v (.int .i64 81)]
def capO (o : Option Bs) : Option Bs := o.bind fun t => if 1048576 < t.length then none else some t
noncomputable def wrP (p : Prt) : Option Bs := capO (wrPt p 1 0).1
/-- How many parts. -/
def cntN : Prt → Nat
  | .mk _ _ ps => cntNL ps + 1
where cntNL : List Prt → Nat
  | [] => 0
  | p :: ps => cntN p + cntNL ps
noncomputable section
open Classical
mutual
/-- A part's text, as the reference writes it. -/
def wrRt : Prt → Option Bs
  | .mk fs b ps =>
    match hdO fs with
    | none => none
    | some hd =>
      if (kindO fs).2 ≠ 0 then none
      else if (kindO fs).1.t ≠ mpart then (if ps.length = 0 then some (hd ++ b) else none)
      else if bord (kindO fs).1.ps = [] ∨ ps.length = 0 ∨ 0 < b.length then none
      else wrRl ps (bord (kindO fs).1.ps) hd
def wrRl : List Prt → Bs → Bs → Option Bs
  | [], bo, hd => some (hd ++ (dash2 ++ bo ++ dash2 ++ crlf))
  | p :: ps, bo, hd =>
    match wrRt p with
    | none => none
    | some t => if begR t (dash2 ++ bo) then none else wrRl ps bo (hd ++ (dash2 ++ bo ++ crlf) ++ t ++ crlf)
end
end
/-- What writing a part answers in the reference. -/
def wrB (o : Option Bs) (k : Nat) (y : CV) : Prop :=
  match o with
  | some t => t.length + 100 ≤ 3100000 * k ∧ ∃ z, CB z t ∧ y = .tup [z, .v (.bool true)]
  | none => ∃ z t, CB z t ∧ y = .tup [z, .v (.bool false)]
theorem cntN_le {ps : List Prt} {p : Prt} (h : p ∈ ps) : cntN p ≤ cntN.cntNL ps := by
  induction ps with
  | nil => cases h
  | cons q ps ih =>
    rw [cntN.cntNL]
    rcases List.mem_cons.1 h with rfl | h
    · omega
    · have := ih h; omega
variable [LayerC]
theorem w12 (p : Prt) (hl : Lin p) (m : Nat) (cs : List CV) (H : Hp) (hp : PV p cs) : WC prog cs0 m (.f 16) [.agg cs] H fun y H' => H' = H ∧ wrW (wrP p) y := by
  obtain ⟨f, x, q, ch, rfl, hf, hb, hcl, hch1, hrs, hq, hch⟩ := hp.inv
  have of := hf.one
  have ob := hb.one
  have oq := hq.one
  rw [WC_drop rfl func16 rfl rfl]
  have h25 := w25 p hl H.length [f, x, q] (H ++ [CO.cells 0 [f, x, q] 26, CO.cells 0 [.v (.int .i64 0)] 65]) (H.length + 1) 1 0 hp (by simp) (by omega) (by omega)
  obtain ⟨Z, hZ⟩ : ∃ Z, Z = wrPt p 1 0 := ⟨_, rfl⟩
  unfold wrP
  rw [← hZ] at h25 ⊢
  have b58 : dBuild prog 65 [] = some (.agg [.v (.int .i64 0)]) := by simp [dBuild, underlying65, places, fillC]
  simp -implicitDefEqProofs [f16, aQ, dAlloc, cells_agg, of, ob, oq, b58, load_aggp underlying26 rfl iT26]
  refine WC_mono h25 ?_
  rintro y H2 ⟨rfl, hy⟩
  obtain ⟨o, c2⟩ := Z
  simp only [] at hy ⊢
  cases o with
  | none =>
    obtain ⟨z, t, hz, rfl⟩ := hy
    have uz := hz.unl
    simp -implicitDefEqProofs [dExtract, uz]
    rfl
  | some t =>
    obtain ⟨htl, z, hz, rfl⟩ := hy
    have uz := hz.unl
    have hlz := fun H => (hz.rb H).len (P := prog) underlying23
    by_cases hbig : 1048576 < t.length
    · simp -implicitDefEqProofs [dExtract, uz, hlz, hbig, capO]
      rfl
    · have hfz := fun H n => (hz.frz H n).2.1
      simp -implicitDefEqProofs [dExtract, uz, hlz, hbig, capO, hfz]
      exact ⟨by omega, z, hz, rfl⟩
/-- What the reference's Write answers. -/
noncomputable def wrR (p : Prt) : Option Bs := if 64 < cntN p ∨ 8 < dep p then none else capO (wrRt p)
section
omit [LayerC]
theorem cntNL_le {ps : List Prt} {M : Nat} (h : ∀ q ∈ ps, cntN q ≤ M) : cntN.cntNL ps ≤ ps.length * M := by
  induction ps with
  | nil => simp [cntN.cntNL]
  | cons q ps ih =>
    have h1 := h q (by simp)
    have h2 := ih fun r hr => h r (by simp [hr])
    rw [cntN.cntNL, List.length_cons, Nat.succ_mul]; omega
theorem cnt_pow (p : Prt) : Lin p → cntN p ≤ 101 ^ dep p := by
  refine Prt.ind (C := fun p => Lin p → cntN p ≤ 101 ^ dep p) ?_ p
  intro fs b ps ih hl
  cases hl with
  | mk h1 h2 h3 h4 h5 =>
    have hd : 1 ≤ dep (.mk fs b ps) := by rw [dep]; exact depL_ge ps 1
    obtain ⟨D, hD⟩ : ∃ D, dep (.mk fs b ps) = D + 1 := ⟨dep (.mk fs b ps) - 1, by omega⟩
    have hq : ∀ q ∈ ps, cntN q ≤ 101 ^ D := by
      intro q hq
      have h6 := ih q hq (h5 q hq)
      have h7 : dep q + 1 ≤ dep (.mk fs b ps) := by rw [dep]; exact depL_mem hq 1
      exact Nat.le_trans h6 (Nat.pow_le_pow_right (by omega) (by omega))
    have h8 := cntNL_le hq
    have h9 : ps.length * 101 ^ D ≤ 100 * 101 ^ D := Nat.mul_le_mul_right _ h4
    have h10 : 0 < 101 ^ D := Nat.pow_pos (by omega)
    rw [hD, cntN, Nat.pow_succ]
    omega
theorem cntW_eq (p : Prt) : Lin p → dep p ≤ 8 → cntW p = (cntN p : Nat) := by
  refine Prt.ind (C := fun p => Lin p → dep p ≤ 8 → cntW p = (cntN p : Nat)) ?_ p
  intro fs b ps ih hl hd
  have hbig := cnt_pow _ hl
  have hbig2 : 101 ^ dep (.mk fs b ps) ≤ 101 ^ 8 := Nat.pow_le_pow_right (by omega) hd
  cases hl with
  | mk h1 h2 h3 h4 h5 =>
    have key : ∀ (l : List Prt), (∀ q ∈ l, q ∈ ps) → ∀ n : Nat, n + cntN.cntNL l ≤ 101 ^ 8 → cntL l (n : Nat) = ((n + cntN.cntNL l : Nat) : Int) := by
      intro l
      induction l with
      | nil => intro _ n _; rw [cntL, cntN.cntNL]; rfl
      | cons q l ihl =>
        intro hq n hn
        rw [cntN.cntNL] at hn ⊢
        have hqm := hq q (by simp)
        have h7 : dep q + 1 ≤ dep (.mk fs b ps) := by rw [dep]; exact depL_mem hqm 1
        have h8 := ih q hqm (h5 q hqm) (by omega)
        have h9 : IntKind.i64.wrap ((n : Int) + (cntN q : Nat)) = ((n + cntN q : Nat) : Int) := wrN (by omega) (by omega)
        rw [cntL, h8, h9, ihl (fun r hr => hq r (by simp [hr])) _ (by omega)]
        omega
    rw [cntW, cntN]
    rw [cntN] at hbig
    have := key ps (fun _ h => h) 1 (by omega)
    rw [show ((1 : Nat) : Int) = 1 from rfl] at this
    rw [this]; omega
end
end Go.Proofs.Tryz

/- Laws: the program's lines, edges and cuts are the reference's. -/
namespace Go.Proofs.Tryz
open Go Go.SL
set_option linter.unusedVariables false

/-- A text of no line's end. -/
def noCr (t : Bs) : Prop := ∀ c ∈ t, c ≠ 13
theorem pre_crlf {t s : Bs} (h : noCr t) : t <+: s ++ crlf ↔ t <+: s := by
  constructor
  · rintro ⟨r, hr⟩
    rcases List.append_eq_append_iff.1 hr with ⟨u, h1, h2⟩ | ⟨u, h1, h2⟩
    · exact ⟨u, h1.symm⟩
    · cases u with
      | nil => rw [List.append_nil] at h1; exact ⟨[], by rw [h1]; simp⟩
      | cons a u =>
        have : a = 13 := by
          simp [crlf] at h2
          exact h2.1.symm
        subst this
        have := h 13 (by rw [h1]; simp)
        exact absurd rfl this
  · rintro ⟨r, hr⟩
    exact ⟨r ++ crlf, by rw [← hr]; simp⟩
theorem beh_crlf {t s : Bs} (h : noCr t) : behind (s ++ crlf) t = behind s t ++ crlf := by
  unfold behind
  by_cases hp : t <+: s
  · rw [if_pos hp, if_pos ((pre_crlf h).2 hp), List.drop_append_of_le_length hp.length_le]
  · rw [if_neg hp, if_neg (fun x => hp ((pre_crlf h).1 x))]
theorem ahead_crlf (s : Bs) : ahead (s ++ crlf) crlf = s := by
  unfold ahead
  rw [if_pos (List.suffix_append s crlf)]
  simp
theorem dash_cr {b : Bs} (hb : noCr b) : noCr (dash2 ++ b) := by
  intro c hc
  rcases List.mem_append.1 hc with h | h
  · simp [dash2] at h; subst h; decide
  · exact hb c h
theorem dash_cr0 : noCr dash2 := by intro c hc; simp [dash2] at hc; subst hc; decide
theorem edge_whole {s b : Bs} (hb : noCr b) : edgeP (s ++ crlf) b = edgeC s b := by
  unfold edgeP edgeC edgeG
  rw [beh_crlf (dash_cr hb), beh_crlf dash_cr0]
  simp only [ahead_crlf]
  have h1 : (dash2 ++ b <+: s ++ crlf) = (dash2 ++ b <+: s) := propext (pre_crlf (dash_cr hb))
  have h2 : (dash2 <+: behind s (dash2 ++ b) ++ crlf) = (dash2 <+: behind s (dash2 ++ b)) := propext (pre_crlf dash_cr0)
  simp only [h1, h2, id]
theorem cr_at {r : Bs} (h : 0 ≤ crIdx r) : pairAt r (crIdx r).toNat := by
  rcases Lib.index_spec r [13, 10] with ⟨h1, _⟩ | ⟨i, h1, _, h3, _⟩
  · unfold crIdx at h; omega
  · have : (crIdx r).toNat = i := by unfold crIdx; omega
    rw [this]; exact (occ_pair r i).1 h3
theorem no_pair {r : Bs} (h : crIdx r < 0) (i : Nat) : ¬ pairAt r i := by
  intro hp
  rcases Lib.index_spec r [13, 10] with ⟨h1, h2⟩ | ⟨i, h1, _, h3, _⟩
  · have hi : i ≤ r.length := by
      rcases Nat.lt_or_ge i r.length with h' | h'
      · omega
      · have := hp.1; rw [List.getElem?_eq_none (by omega)] at this; cases this
    have := h2 i hi
    rw [(occ_pair r i).2 hp] at this; cases this
  · unfold crIdx at h; omega
theorem line_whole {r : Bs} (h : 0 ≤ crIdx r) : r.take (lineN r) = r.take (crIdx r).toNat ++ crlf := by
  have hn : lineN r = (crIdx r).toNat + 2 := by unfold lineN; rw [if_neg (by omega)]
  obtain ⟨h1, h2⟩ := cr_at h
  obtain ⟨k, hk⟩ : ∃ k, k = (crIdx r).toNat := ⟨_, rfl⟩
  rw [← hk] at h1 h2 hn ⊢
  rw [hn, List.take_add_one, List.take_add_one, h1, h2]
  simp [crlf]
theorem ahead_no {x r : Bs} (h : crIdx r < 0) (hs : x <:+ r) : ahead x crlf = x := by
  unfold ahead
  rw [if_neg]
  rintro ⟨u, hu⟩
  obtain ⟨v, hv⟩ := hs
  have : pairAt r (v ++ u).length := by
    rw [← hv, ← hu]
    constructor
    · rw [← List.append_assoc, List.getElem?_append_right (Nat.le_refl _)]; simp [crlf]
    · rw [← List.append_assoc, List.getElem?_append_right (by omega)]; simp [crlf]
  exact no_pair h _ this
theorem behind_sfx (a b : Bs) : behind a b <:+ a := by
  unfold behind; split
  · exact List.drop_suffix _ _
  · exact List.suffix_refl _
theorem edge_last {r b : Bs} (h : crIdx r < 0) : edgeP r b = edgeC r b := by
  unfold edgeP edgeC edgeG
  simp only [ahead_no h ((behind_sfx _ _).trans (behind_sfx _ _))]
  rfl
theorem cut_law {l b : Bs} (hb : noCr b) (r : Bs) : ∀ (p : Nat) (fr : Option Nat) (out : List Bs), cutP l b (linesS r) p fr out = cutG l b (lnS p r) fr out := by
  have key : ∀ n (r : Bs), r.length ≤ n → ∀ (p : Nat) (fr : Option Nat) (out : List Bs), cutP l b (linesS r) p fr out = cutG l b (lnS p r) fr out := by
    intro n
    induction n with
    | zero =>
      intro r hr p fr out
      obtain rfl := List.eq_nil_of_length_eq_zero (by omega : r.length = 0)
      rw [linesS_nil, lnS_nil]; rfl
    | succ n ih =>
      intro r hr p fr out
      by_cases h : r = []
      · subst h; rw [linesS_nil, lnS_nil]; rfl
      have hp := lineN_pos h
      have hle := lineN_le r
      have hll : (r.take (lineN r)).length = lineN r := by simp; omega
      rw [linesS_cons h, cutP_cons, hll]
      by_cases hc : crIdx r < 0
      · have hn : lineN r = r.length := by unfold lineN; rw [if_pos hc]
        rw [lnS_last h hc, hn, List.take_length, List.drop_length, linesS_nil, edge_last hc]
        simp only [cutG, cutP_nil]
        rfl
      · have hc' : 0 ≤ crIdx r := by omega
        rw [lnS_whole hc', line_whole hc', edge_whole hb]
        have hdl : (r.drop (lineN r)).length ≤ n := by have := List.length_pos_iff.2 h; simp; omega
        have hroom := crIdx_room r hc'
        have hnx : nextN ⟨p, r.take (crIdx r).toNat, true⟩ = p + lineN r := by
          unfold nextN lineN
          rw [if_neg hc]; simp; omega
        rw [ih _ hdl, ih _ hdl, cutG, hnx]
        rfl
  exact key _ r (Nat.le_refl _)
theorem beg_law {t b : Bs} (hb : noCr b) : begL t (dash2 ++ b) ↔ begR t (dash2 ++ b) := by
  have key : ∀ n (r : Bs), r.length ≤ n → ∀ p, ((∃ x ∈ linesS r, dash2 ++ b <+: x) ↔ ∃ x ∈ lnS p r, dash2 ++ b <+: x.s) := by
    intro n
    induction n with
    | zero =>
      intro r hr p
      obtain rfl := List.eq_nil_of_length_eq_zero (by omega : r.length = 0)
      rw [linesS_nil, lnS_nil]; simp
    | succ n ih =>
      intro r hr p
      by_cases h : r = []
      · subst h; rw [linesS_nil, lnS_nil]; simp
      have hp := lineN_pos h
      have hle := lineN_le r
      rw [linesS_cons h]
      by_cases hc : crIdx r < 0
      · have hn : lineN r = r.length := by unfold lineN; rw [if_pos hc]
        rw [lnS_last h hc, hn, List.take_length, List.drop_length, linesS_nil]
        simp
      · have hc' : 0 ≤ crIdx r := by omega
        rw [lnS_whole hc', line_whole hc']
        have hdl : (r.drop (lineN r)).length ≤ n := by have := List.length_pos_iff.2 h; simp; omega
        simp only [List.mem_cons, exists_eq_or_imp, pre_crlf (dash_cr hb), ih _ hdl (p + lineN r)]
  exact key _ t (Nat.le_refl _) 0
theorem bord_cr (ps : List Par) : noCr (bord ps) := by
  intro c hc
  unfold bord at hc
  split at hc
  · rename_i h
    have := h.1 c hc
    rintro rfl
    revert this; decide
  · cases hc
end Go.Proofs.Tryz

/- Laws: what the program writes is what the reference writes. -/
namespace Go.Proofs.Tryz
open Go Go.SL
set_option linter.unusedVariables false

theorem depL_le {ps : List Prt} {D d : Nat} (hd : d ≤ D) (h : ∀ q ∈ ps, dep q + 1 ≤ D) : depL ps d ≤ D := by
  induction ps generalizing d with
  | nil => rw [depL]; exact hd
  | cons q ps ih =>
    rw [depL]
    have := h q (by simp)
    exact ih (by omega) fun r hr => h r (by simp [hr])
theorem wrA_law (p : Prt) : ∀ (d c : Nat) (t : Bs) (c2 : Nat), wrPt p d c = (some t, c2) → wrRt p = some t ∧ c2 = c + cntN p ∧ dep p + d ≤ 9 := by
  refine Prt.ind (C := fun p => ∀ (d c : Nat) (t : Bs) (c2 : Nat), wrPt p d c = (some t, c2) → wrRt p = some t ∧ c2 = c + cntN p ∧ dep p + d ≤ 9) ?_ p
  intro fs b ps ih d c t c2 h
  rw [wrPt] at h
  rw [wrRt, cntN]
  cases hh : hdO fs with
  | none => rw [hh] at h; cases h
  | some hd =>
    rw [hh] at h
    simp only [] at h ⊢
    split at h
    · cases h
    · rename_i hn
      have hke : ¬ (kindO fs).2 ≠ 0 := fun x => hn (.inl x)
      rw [if_neg hke]
      split at h
      · rename_i hk
        rw [if_pos hk]
        split at h
        · rename_i hp
          cases h
          rw [if_pos hp]
          have hp0 := List.eq_nil_of_length_eq_zero hp
          subst hp0
          refine ⟨rfl, by rw [cntN.cntNL], ?_⟩
          rw [dep, depL]; omega
        · cases h
      · rename_i hk
        rw [if_neg hk]
        split at h
        · cases h
        · rename_i hb
          rw [if_neg hb]
          have key : ∀ (l : List Prt), (∀ q ∈ l, q ∈ ps) → ∀ (hd : Bs) (c : Nat), wrLp l (bord (kindO fs).1.ps) hd d c = (some t, c2) → wrRl l (bord (kindO fs).1.ps) hd = some t ∧ c2 = c + cntN.cntNL l ∧ ∀ q ∈ l, dep q + (d + 1) ≤ 9 := by
            intro l
            induction l with
            | nil => intro _ hd c h; rw [wrLp] at h; cases h; rw [wrRl, cntN.cntNL]; exact ⟨rfl, rfl, by simp⟩
            | cons q l ihl =>
              intro hq hd c h
              rw [wrLp] at h
              split at h
              · cases h
              · rename_i t' c' he
                obtain ⟨h1, h2, h3⟩ := ih q (hq q (by simp)) _ _ _ _ he
                split at h
                · cases h
                · rename_i hbg
                  have hbg' : ¬ begR t' (dash2 ++ bord (kindO fs).1.ps) := fun x => hbg (.inl ((beg_law (bord_cr _)).2 x))
                  obtain ⟨h4, h5, h6⟩ := ihl (fun r hr => hq r (by simp [hr])) _ _ h
                  rw [wrRl, h1, cntN.cntNL]
                  simp only []
                  rw [if_neg hbg']
                  exact ⟨h4, by omega, fun r hr => by
                    rcases List.mem_cons.1 hr with rfl | hr
                    · exact h3
                    · exact h6 r hr⟩
          obtain ⟨h1, h2, h3⟩ := key ps (fun _ h => h) _ _ h
          refine ⟨h1, by omega, ?_⟩
          have hd8 : d ≤ 8 := by omega
          have : depL ps 1 ≤ 9 - d := depL_le (by omega) fun q hq => by have := h3 q hq; omega
          rw [dep]; omega
theorem wrRl_ge (ps : List Prt) : ∀ (bo hd t : Bs), wrRl ps bo hd = some t → hd.length ≤ t.length := by
  induction ps with
  | nil => intro bo hd t h; rw [wrRl] at h; cases h; simp
  | cons q ps ih =>
    intro bo hd t h
    rw [wrRl] at h
    split at h
    · cases h
    · split at h
      · cases h
      · have := ih _ _ _ h; simp at this; omega
theorem wrB_law (p : Prt) : ∀ (d c : Nat) (t : Bs), dep p + d ≤ 9 → c + cntN p ≤ 64 → wrRt p = some t → t.length ≤ 1048576 → wrPt p d c = (some t, c + cntN p) := by
  refine Prt.ind (C := fun p => ∀ (d c : Nat) (t : Bs), dep p + d ≤ 9 → c + cntN p ≤ 64 → wrRt p = some t → t.length ≤ 1048576 → wrPt p d c = (some t, c + cntN p)) ?_ p
  intro fs b ps ih d c t hd hc h ht
  rw [wrRt] at h
  rw [wrPt]
  have h1 : 1 ≤ dep (.mk fs b ps) := by rw [dep]; exact depL_ge ps 1
  rw [cntN] at hc ⊢
  cases hh : hdO fs with
  | none => rw [hh] at h; cases h
  | some hd' =>
    rw [hh] at h
    simp only [] at h ⊢
    split at h
    · cases h
    · rename_i hke
      rw [if_neg (by rintro (x | x | x); exact hke x; omega; omega)]
      split at h
      · rename_i hk
        rw [if_pos hk]
        split at h
        · rename_i hp
          cases h
          rw [if_pos hp]
          have hp0 := List.eq_nil_of_length_eq_zero hp
          subst hp0
          rw [cntN.cntNL]
        · cases h
      · rename_i hk
        rw [if_neg hk]
        split at h
        · cases h
        · rename_i hb
          rw [if_neg hb]
          have key : ∀ (l : List Prt), (∀ q ∈ l, q ∈ ps) → ∀ (hd' : Bs) (c : Nat), c + cntN.cntNL l ≤ 64 → wrRl l (bord (kindO fs).1.ps) hd' = some t → wrLp l (bord (kindO fs).1.ps) hd' d c = (some t, c + cntN.cntNL l) := by
            intro l
            induction l with
            | nil => intro _ hd' c _ h; rw [wrRl] at h; cases h; rw [wrLp, cntN.cntNL]; rfl
            | cons q l ihl =>
              intro hq hd' c hc h
              rw [wrRl] at h
              rw [cntN.cntNL] at hc ⊢
              split at h
              · cases h
              · rename_i t' he
                split at h
                · cases h
                · rename_i hbg
                  have hge := wrRl_ge _ _ _ _ h
                  simp at hge
                  have hqm := hq q (by simp)
                  have hdq : dep q + 1 ≤ dep (.mk fs b ps) := by rw [dep]; exact depL_mem hqm 1
                  have h2 := ih q hqm (d + 1) c t' (by omega) (by omega) he (by omega)
                  rw [wrLp, h2]
                  simp only []
                  rw [if_neg (by rintro (x | x); exact hbg ((beg_law (bord_cr _)).1 x); omega), ihl (fun r hr => hq r (by simp [hr])) _ _ (by omega) h]
                  congr 1; omega
          rw [key ps (fun _ h => h) _ _ (by omega) h]
          congr 1; omega
/-- The program's Write is the reference's. -/
theorem wr_law (p : Prt) : wrP p = wrR p := by
  unfold wrP wrR capO
  by_cases hlim : 64 < cntN p ∨ 8 < dep p
  · rw [if_pos hlim]
    cases h : wrPt p 1 0 with
    | mk o c2 =>
      cases o with
      | none => rfl
      | some t =>
        obtain ⟨_, h2, h3⟩ := wrA_law p 1 0 t c2 h
        have := wrPt_c p 1 0 t c2 h
        omega
  · rw [if_neg hlim]
    cases h : wrRt p with
    | none =>
      cases h2 : wrPt p 1 0 with
      | mk o c2 =>
        cases o with
        | none => rfl
        | some t =>
          have := (wrA_law p 1 0 t c2 h2).1
          rw [h] at this; cases this
    | some t =>
      by_cases ht : 1048576 < t.length
      · simp only [Option.bind_some, if_pos ht]
        cases h2 : wrPt p 1 0 with
        | mk o c2 =>
          cases o with
          | none => rfl
          | some t' =>
            have := (wrA_law p 1 0 t' c2 h2).1
            rw [h] at this; cases this
            simp only [Option.bind_some, if_pos ht]
      · rw [wrB_law p 1 0 t (by omega) (by omega) h (by omega)]
end Go.Proofs.Tryz

/- Laws: what reading a tree comes to. -/
namespace Go.SL
/-- Bytes stay, where only a count differs. -/
theorem Base.rb {G : Int → Hp} {w n : Nat} {t : TypeId} (b : Base G w n t) {c : Int} (c' : Int) {x : CV} {l : Bs} (h : RB (G c) x l) : RB (G c') x l := by
  rcases h with h | h | ⟨id, ver, off, cs, rfl, hc, ht, ho⟩
  · exact .inl h
  · exact .inr (.inl h)
  · by_cases e : id = w
    · subst e
      have h1 := b.get c
      unfold cellsAt at hc
      rw [h1] at hc
      simp only [] at hc
      split at hc
      · rename_i hv
        cases hc
        subst hv
        cases l with
        | nil =>
          refine .inr (.inr ⟨id, 0, off, [.v (.int .i64 c')], rfl, ?_, by simp, by simpa using ho⟩)
          unfold cellsAt; rw [b.get]; simp
        | cons a l =>
          have h0 : off = 0 := by
            have : (a :: l).length = l.length + 1 := rfl
            have : [CV.v (Value.int .i64 c)].length = 1 := rfl
            omega
          subst h0
          simp [u8s] at ht
      · cases hc
    · have hs := b.set c c'
      have : cellsAt (G c') id ver = cellsAt (G c) id ver := by
        unfold cellsAt; rw [← hs, List.getElem?_set_ne (fun h => e h.symm)]
      exact .inr (.inr ⟨id, ver, off, cs, rfl, by rw [this]; exact hc, ht, ho⟩)
end Go.SL
namespace Go.Proofs.Tryz
open Go Go.SL
set_option linter.unusedVariables false

/-- Texts are read one by one. -/
def rdL (f : Bs → Nat → (Int ⊕ Prt) × Nat) : List Bs → Nat → List Prt → (Int ⊕ List Prt) × Nat
  | [], c, acc => (.inr acc, c)
  | t :: ts, c, acc =>
    match f t c with
    | (.inl e, c2) => (.inl e, c2)
    | (.inr p, c2) => rdL f ts c2 (acc ++ [p])
/-- A knot of what was read. -/
def finR (l : List Fld) : (Int ⊕ List Prt) × Nat → (Int ⊕ Prt) × Nat
  | (.inl e, c) => (.inl e, c)
  | (.inr ps, c) => (.inr (.mk l [] ps), c)
/-- A part is read; so many levels may be below it. -/
def rdP : Nat → Bs → Nat → (Int ⊕ Prt) × Nat
  | k, b, c =>
    if 64 < c + 1 then (.inl 81, c + 1) else
    match hdrG b.length (lnS 0 b) [] none with
    | .bad _ _ => (.inl 50, c + 1)
    | .ok l n =>
      if (kindO l).2 ≠ 0 then (.inl (kindO l).2, c + 1) else
      if (kindO l).1.t ≠ mpart then (.inr (.mk l (b.drop n) []), c + 1) else
      if bord (kindO l).1.ps = [] then (.inl 81, c + 1) else
      match cutG (b.drop n) (bord (kindO l).1.ps) (lnS 0 (b.drop n)) none [] with
      | none => (.inl 81, c + 1)
      | some ts =>
        if ts.length = 0 then (.inl 81, c + 1) else
        match k with
        | 0 => (.inl 80, c + 1)
        | k + 1 =>
          finR l (rdL (rdP k) ts (c + 1) [])
/-- Fields that may be written. -/
def FOK (l : List Fld) : Prop := l.length ≤ 128 ∧ ∀ f ∈ l, isName f.n ∧ isVal f.v
theorem FOK.nil : FOK [] := ⟨by simp, by simp⟩
def OOK : Option Opn → Prop
  | none => True
  | some o => isName o.n
theorem shut_ok {l l' : List Fld} {o : Option Opn} (hl : FOK l) (ho : OOK o) (h : shutG l o = some l') : FOK l' := by
  unfold shutG at h
  split at h
  · cases h; exact hl
  · split at h
    · rename_i hv
      cases h
      refine ⟨by simp; omega, fun f hf => ?_⟩
      rcases List.mem_append.1 hf with hf | hf
      · exact hl.2 f hf
      · simp at hf; subst hf; exact ⟨ho, hv.1⟩
    · cases h
theorem hdrG_ok {n N : Nat} (ls : List Ln) : ∀ (l : List Fld) (o : Option Opn) (l' : List Fld) (k : Nat), (∀ x ∈ ls, x.w = true → x.a + 2 ≤ N) → FOK l → OOK o → hdrG n ls l o = .ok l' k → k ≤ N ∧ FOK l' := by
  induction ls with
  | nil => intro l o l' k _ _ _ h; rw [hdrG_nil] at h; cases h
  | cons x xs ih =>
    intro l o l' k hx hl ho h
    have hxs : ∀ y ∈ xs, y.w = true → y.a + 2 ≤ N := fun y hy => hx y (by simp [hy])
    cases hw : x.w with
    | false => rw [hdrG_short hw] at h; cases h
    | true =>
      by_cases h9 : 998 < x.s.length
      · rw [hdrG_long hw h9] at h; cases h
      by_cases hb : (x.s.head?.map blankC) = some true
      · cases o with
        | none => rw [hdrG_b0 hw h9 hb] at h; cases h
        | some o => rw [hdrG_b1 hw h9 hb] at h; exact ih _ _ _ _ hxs hl (by exact ho) h
      · cases hs : shutG l o with
        | none =>
          cases o with
          | none => simp [shutG] at hs
          | some o => rw [hdrG_sh hw h9 hb hs] at h; cases h
        | some l2 =>
          have hl2 := shut_ok hl ho hs
          by_cases he : x.s = []
          · rw [hdrG_end hw he hs] at h
            cases h
            exact ⟨hx x (by simp) hw, hl2⟩
          · by_cases h6 : (headT x.s 58).length = x.s.length ∨ ¬ isName (headT x.s 58)
            · rw [hdrG_bad hw h9 hb hs he h6] at h; cases h
            · rw [hdrG_open hw h9 hb hs he h6] at h
              exact ih _ _ _ _ hxs hl2 (by have := not_or.1 h6; exact Classical.not_not.1 this.2) h
theorem hdrG_code {n : Nat} (ls : List Ln) : ∀ (l : List Fld) (o : Option Opn) (a c : Nat), hdrG n ls l o = .bad a c → c ≠ 0 := by
  induction ls with
  | nil => intro l o a c h; rw [hdrG_nil] at h; cases h; omega
  | cons x xs ih =>
    intro l o a c h
    cases hw : x.w with
    | false => rw [hdrG_short hw] at h; cases h; omega
    | true =>
      by_cases h9 : 998 < x.s.length
      · rw [hdrG_long hw h9] at h; cases h; omega
      by_cases hb : (x.s.head?.map blankC) = some true
      · cases o with
        | none => rw [hdrG_b0 hw h9 hb] at h; cases h; omega
        | some o => rw [hdrG_b1 hw h9 hb] at h; exact ih _ _ _ _ h
      · cases hs : shutG l o with
        | none =>
          cases o with
          | none => simp [shutG] at hs
          | some o => rw [hdrG_sh hw h9 hb hs] at h; cases h; omega
        | some l2 =>
          by_cases he : x.s = []
          · rw [hdrG_end hw he hs] at h; cases h
          · by_cases h6 : (headT x.s 58).length = x.s.length ∨ ¬ isName (headT x.s 58)
            · rw [hdrG_bad hw h9 hb hs he h6] at h; cases h; omega
            · rw [hdrG_open hw h9 hb hs he h6] at h; exact ih _ _ _ _ h
theorem hdr_ok {b : Bs} {l : List Fld} {n : Nat} (h : hdrG b.length (lnS 0 b) [] none = .ok l n) : n ≤ b.length ∧ FOK l :=
  hdrG_ok (N := b.length) _ _ none _ _ (fun x hx hw => by have := lnS_room 0 b x hx; rw [hw] at this; simp at this; omega) FOK.nil trivial h
theorem hdr_code {b : Bs} {a c : Nat} (h : hdrG b.length (lnS 0 b) [] none = .bad a c) : c ≠ 0 := hdrG_code _ _ _ _ _ h
/-- The texts of a cut are no longer than what is cut, and not too many. -/
theorem cutG_len {l b : Bs} (ls : List Ln) : ∀ (fr : Option Nat) (out ts : List Bs), (∀ t ∈ out, t.length ≤ l.length) → cutG l b ls fr out = some ts → (∀ t ∈ ts, t.length ≤ l.length) ∧ ts.length ≤ out.length + ls.length := by
  have ho : ∀ (x : Ln) (fr : Option Nat) (out : List Bs), (∀ t ∈ out, t.length ≤ l.length) → (∀ t ∈ outN l x fr out, t.length ≤ l.length) ∧ (outN l x fr out).length ≤ out.length + 1 := by
    intro x fr out h
    unfold outN
    cases fr with
    | none => exact ⟨h, by simp⟩
    | some f =>
      refine ⟨fun t ht => ?_, by simp⟩
      rcases List.mem_append.1 ht with ht | ht
      · exact h t ht
      · simp at ht; subst ht; simp; omega
  induction ls with
  | nil => intro fr out ts _ h; rw [cutG] at h; cases h
  | cons x xs ih =>
    intro fr out ts h1 h
    rw [cutG] at h
    obtain ⟨h2, h3⟩ := ho x fr out h1
    split at h
    · have := ih _ _ _ h1 h; exact ⟨this.1, by simp; omega⟩
    · split at h
      · cases h; exact ⟨h2, by simp; omega⟩
      · have := ih _ _ _ h2 h; exact ⟨this.1, by simp; omega⟩
/-- The count, behind reading. -/
theorem rdP_c (k : Nat) : ∀ (b : Bs) (c : Nat), c ≤ 64 → c + 1 ≤ (rdP k b c).2 ∧ (rdP k b c).2 ≤ 65 ∧ ((∃ p, (rdP k b c).1 = .inr p) → (rdP k b c).2 ≤ 64) := by
  induction k with
  | zero =>
    intro b c hc
    rw [rdP]
    split
    · simp; omega
    split
    · simp; omega
    split
    · simp; omega
    split
    · simp; omega
    split
    · simp; omega
    split
    · simp; omega
    split
    · simp; omega
    · simp; omega
  | succ k ih =>
    intro b c hc
    have key : ∀ (ts : List Bs) (c : Nat) (acc : List Prt), c ≤ 64 → c ≤ (rdL (rdP k) ts c acc).2 ∧ (rdL (rdP k) ts c acc).2 ≤ 65 ∧ ((∃ p, (rdL (rdP k) ts c acc).1 = .inr p) → (rdL (rdP k) ts c acc).2 ≤ 64) := by
      intro ts
      induction ts with
      | nil => intro c acc hc; rw [rdL]; simp; omega
      | cons t ts iht =>
        intro c acc hc
        rw [rdL]
        obtain ⟨h1, h2, h3⟩ := ih t c hc
        split
        · rename_i e c2 he; rw [he] at h1 h2; simp only [] at h1 h2; simp; omega
        · rename_i p c2 he
          rw [he] at h1 h2 h3
          simp only [] at h1 h2 h3
          have h4 := h3 ⟨p, rfl⟩
          obtain ⟨h5, h6, h7⟩ := iht c2 (acc ++ [p]) h4
          exact ⟨by omega, h6, h7⟩
    rw [rdP]
    split
    · simp; omega
    rename_i hc1
    split
    · simp; omega
    split
    · simp; omega
    split
    · simp; omega
    split
    · simp; omega
    split
    · simp; omega
    split
    · simp; omega
    · rename_i ts _ _
      obtain ⟨h1, h2, h3⟩ := key ts (c + 1) [] (by omega)
      simp only []
      obtain ⟨r, hr⟩ : ∃ r, r = rdL (rdP k) ts (c + 1) [] := ⟨_, rfl⟩
      rw [← hr] at h1 h2 h3 ⊢
      obtain ⟨r, c2⟩ := r
      simp only [] at h1 h2 h3
      cases r with
      | inl e => simp [finR]; omega
      | inr ps => exact ⟨by simp [finR]; omega, by simpa [finR] using h2, fun _ => by simpa [finR] using h3 ⟨ps, rfl⟩⟩
end Go.Proofs.Tryz

/- Walks: a tree is read. -/
namespace Go.Proofs.Tryz
open Go Go.SL
set_option linter.unusedVariables false
set_option linter.unusedSimpArgs false
attribute [local congr] WX_stop WC_stop W_stop

/-- What reading a part answers. -/
def rdA (r : Int ⊕ Prt) (y : CV) : Prop :=
  match r with
  | .inl e => e ≠ 0 ∧ y = .tup [.agg [nilC, nilC, nilC], .v (.int .i64 e)]
  | .inr p => ∃ cs, PV p cs ∧ y = .tup [.agg cs, .v (.int .i64 0)]
theorem PV.clo {p : Prt} {cs : List CV} (h : PV p cs) : cs.all clB = true ∧ cs.all oneB = true ∧ cs.length = 3 := by
  obtain ⟨f, x, q, ch, rfl, hf, hb, _, _, _, hq, _⟩ := h.inv
  simp [hf.clB, hb.clB, hq.clB, hf.one, hb.one, hq.one]
/-- Parts' cells. -/
def PVs (ps : List Prt) (ch : List (List CV)) : Prop := ch.length = ps.length ∧ Chunks ch 3 ∧ ∀ i (h1 : i < ps.length) (h2 : i < ch.length), PV ps[i] ch[i]
theorem PVs.nil : PVs [] [] := ⟨rfl, fun _ h => by simp at h, fun i h1 => by simp at h1⟩
theorem PVs.snoc {ps : List Prt} {ch : List (List CV)} {p : Prt} {cs : List CV} (h : PVs ps ch) (hp : PV p cs) : PVs (ps ++ [p]) (ch ++ [cs]) := by
  refine ⟨by simp [h.1], fun c hc => ?_, fun i h1 h2 => ?_⟩
  · rcases List.mem_append.1 hc with hc | hc
    · exact h.2.1 c hc
    · simp at hc; subst hc; exact hp.clo.2.2
  · by_cases hi : i < ps.length
    · rw [List.getElem_append_left hi, List.getElem_append_left (by have := h.1; omega)]
      exact h.2.2 i hi _
    · have e : i = ps.length := by simp at h1; omega
      have e2 : i = ch.length := by have := h.1; omega
      subst e
      rw [List.getElem_append_right (by omega), List.getElem_append_right (by omega)]
      simpa using hp
theorem PVs.clB {ps : List Prt} {ch : List (List CV)} (h : PVs ps ch) : ch.flatten.all SL.clB = true := by
  rw [List.all_eq_true]
  intro v hv
  obtain ⟨c, hc, hv⟩ := List.mem_flatten.1 hv
  obtain ⟨i, hi, rfl⟩ := List.getElem_of_mem hc
  have := (h.2.2 i (by have := h.1; omega) hi).clo.1
  exact List.all_eq_true.1 this v hv
theorem Grow.one {m : Nat} {H : Hp} {x : CV} {cs : List CV} {n sz : Nat} {e : TypeId} (h : Grow m H x cs n sz e) : oneB x = true := by
  rcases h with ⟨_, _, rfl⟩ | ⟨_, _, _, _, rfl, _⟩ <;> rfl
theorem cells_cls {y : CV} {cs : List CV} {n sz : Nat} (h : Cls y cs n sz) : cvCells y = some [y] := by rcases h with rfl | ⟨_, _, rfl⟩ <;> rfl
theorem b26_1 (q : CV) (hq : cvCells q = some [q]) : dBuild prog 26 [(0, q)] = some (.agg [q, nilC, nilC]) := by
  simp [dBuild, underlying26, places, fillC, hq]
/-- Reading with so many levels below. -/
def P19 [LayerC] (k : Nat) : Prop := ∀ (m : Nat) (x : CV) (b : Bs) (H : Hp) (w c : Nat), RB H x b → b.length ≤ 1100000 → H[w]? = some (.cells 0 [.v (.int .i64 (c : Nat))] 69) → c ≤ 64 →
    WC prog cs0 m (.f 39) [.ptr w 0 0, x, .v (.int .i64 ((8 - k : Nat) : Int))] H fun y H' => H' = H.set w (.cells 0 [.v (.int .i64 ((rdP k b c).2 : Nat))] 69) ∧ rdA (rdP k b c).1 y
theorem PV.of {fs : List Fld} {b : Bs} {ps : List Prt} {f x q : CV} {ch : List (List CV)} (hf : Cls f (fldS fs) fs.length 2) (hb : CB x b) (h : PVs ps ch) (hq : Cls q ch.flatten ch.length 3) : PV (.mk fs b ps) [f, x, q] :=
  .mk hf hb h.1 h.2.1 (by rw [← h.1]; exact hq) h.2.2
variable [LayerC]
set_option maxRecDepth 100000 in
theorem w19s (k : Nat) (hk8 : k ≤ 7) (ih : ∀ k', k = k' + 1 → P19 k') : P19 k := by
  intro m x b H w c hx hbl hw hc
  obtain ⟨d, hd⟩ : ∃ d, d = 8 - k := ⟨_, rfl⟩
  rw [← hd]
  obtain ⟨Z, hZ⟩ : ∃ Z, Z = rdP k b c := ⟨_, rfl⟩
  rw [← hZ]
  obtain ⟨G, hG, hH⟩ := Base.mk' hw
  obtain ⟨K, hK⟩ : ∃ K : CV → Hp → Prop, ∀ y H', K y H' ↔ H' = G (Z.2 : Nat) ∧ rdA Z.1 y := ⟨_, fun _ _ => Iff.rfl⟩
  have hset : ∀ v : Nat, H.set w (.cells 0 [.v (.int .i64 (v : Nat))] 69) = G (v : Nat) := fun v => by rw [hH, hG.set]
  simp only [hset, ← hK]
  rw [WC_drop rfl func39 rfl rfl]
  obtain ⟨n, hn⟩ : ∃ n, n = H.length := ⟨_, rfl⟩
  rw [← hn] at hG ⊢
  rw [hH] at hn hx ⊢
  clear hH hw hset
  have hxG := fun c' => hG.rb c' hx
  have gl := hG.len
  have a0 := fun c L ver => atL0 (L := L) (ver := ver) (gl c)
  have ai := fun c L ver i => atL (L := L) (ver := ver) (i := i) (gl c)
  have p0 := fun c L off xs => putL0 (L := L) (off := off) (xs := xs) (gl c)
  have pi := fun c L off xs i => putL (L := L) (off := off) (xs := xs) (i := i) (gl c)
  have tk := fun c L => takeL (L := L) (gl c)
  have gat := hG.at
  have gput := hG.put
  have ux := hx.unl
  have hst : ∀ k x off, stQ n (.ptr (n + k) 0 off) x = true := fun k x off => by simp [stQ]
  have hst0 : ∀ x off, stQ n (.ptr n 0 off) x = true := fun x off => by simp [stQ]
  obtain ⟨c1, hc1, hwc⟩ := upJ (i := c) (n := 2000) (by omega) (by omega)
  rw [rdP.eq_def] at hZ
  simp only [← hc1] at hZ
  have hbad : ∀ e : Int, e ≠ 0 → (Z = (.inl e, c1)) → K (.tup [.agg [.v (.slice none 0 0), .v (.slice none 0 0), .v (.slice none 0 0)], .v (.int .i64 e)]) (G (c1 : Nat)) := fun e he h1 => (hK _ _).2 ⟨by rw [h1], by rw [h1]; exact ⟨he, rfl⟩⟩
  by_cases h64 : 64 < c1
  · rw [if_pos h64] at hZ
    simp -implicitDefEqProofs [f39, aQ, dAlloc, cells_agg, gl, a0, ai, p0, pi, gat, gput, atP, faddr_ptr, underlying69, load_one underlying3 rfl iT3, store_at iT3, hwc, h64, b26_0, store_at iT26, hst0, tk, load_aggp underlying26 rfl iT26]
    exact hbad _ (by omega) hZ
  rw [if_neg h64] at hZ
  have h34 := fun L => w34 n x b (G (c1 : Nat) ++ L) ((hxG _).app L) (by omega)
  simp -implicitDefEqProofs [f39, aQ, dAlloc, cells_agg, gl, a0, ai, p0, pi, gat, gput, atP, faddr_ptr, underlying69, load_one underlying3 rfl iT3, store_at iT3, hwc, h64, ux]
  refine WC_mono (h34 _) ?_
  rintro y H2 ⟨rfl, hy⟩
  obtain ⟨pr, hpr⟩ : ∃ pr, pr = hdrG b.length (lnS 0 b) [] none := ⟨_, rfl⟩
  rw [← hpr] at hy hZ
  cases pr with
  | bad pa pc =>
    have hpc := hdr_code hpr.symm
    cases hy
    simp only [] at hZ
    simp -implicitDefEqProofs [aQ, dAlloc, dExtract, cells_agg, gl, a0, ai, p0, pi, faddr_ptr, underlying48, load_one underlying30 rfl iT30, store_at iT48, hst, hst0, hpc, b26_0, store_at iT26, tk, load_aggp underlying26 rfl iT26]
    exact hbad _ (by omega) hZ
  | ok l nn =>
  obtain ⟨hnb, hfok⟩ := hdr_ok hpr.symm
  obtain ⟨f, hf, rfl⟩ := hy
  simp only [] at hZ
  have of := hf.one
  have cf := cells_cls hf
  have uf := hf.unl
  have hfl := hf
  rw [fldS] at hfl
  have hfb : ∀ g ∈ l, g.n.length ≤ 4294967280 ∧ g.v.length ≤ 4294967280 := fun g hg => by
    have h1 := (hfok.2 g hg).1.2.1
    have h2 := (hfok.2 g hg).2.2.1
    omega
  have h14 := fun L => w14 n f nilC nilC l (G (c1 : Nat) ++ L) (PV.fld hfl _) rfl rfl (by have := hfok.1; omega) hfb
  obtain ⟨kd, hkd⟩ : ∃ kd, kd = kindO l := ⟨_, rfl⟩
  have on : oneB nilC = true := rfl
  simp -implicitDefEqProofs [aQ, dAlloc, dExtract, cells_agg, gl, a0, ai, p0, pi, faddr_ptr, underlying48, load_one underlying30 rfl iT30, store_at iT48, hst, hst0, zF, uf, b26_1 f cf, of, on, store_at iT26, load_aggp underlying26 rfl iT26]
  refine WC_mono (h14 _) ?_
  rintro y H2 ⟨rfl, x', ⟨q', rfl, hk⟩, rfl⟩
  rw [← hkd] at hk hZ ⊢
  obtain ⟨kk, ke⟩ := kd
  obtain ⟨kt, ks, kp⟩ := kk
  simp only at hk hZ
  have oq' := hk.one
  have uq' := hk.unl
  by_cases hke : ke = 0
  case neg =>
    rw [if_pos hke] at hZ
    simp -implicitDefEqProofs [aQ, dAlloc, dExtract, cells_agg, gl, a0, ai, p0, pi, oq', store_at iT55, hst, hst0, hke, b26_0, store_at iT26, tk, load_aggp underlying26 rfl iT26]
    exact hbad _ hke hZ
  subst hke
  rw [if_neg (by simp)] at hZ
  have hxr := fun L => (hxG (c1 : Nat)).app L
  have hsl : ∀ L, dSlice prog 23 x (some (.v (.int .i64 (nn : Nat)))) none (G (c1 : Nat) ++ L) = some (cutC x nn b.length) := fun L => by
    rw [(hxr L).slice (P := prog) underlying23 iT5 sT5]
    simp [hnb]
  have hcutG : RB (G (c1 : Nat)) (cutC x nn b.length) (b.drop nn) := by
    have := (hxG (c1 : Nat)).cut (o := nn) (h := b.length) hnb (Nat.le_refl _)
    rw [List.take_length] at this; exact this
  have ucut := hcutG.unl
  have hdl : (b.drop nn).length ≤ 1100000 := by simp; omega
  by_cases hkt : kt = [109, 117, 108, 116, 105, 112, 97, 114, 116]
  case neg =>
    rw [if_pos (show ¬ kt = mpart from hkt)] at hZ
    obtain ⟨r, hr, h35⟩ := w35 n (cutC x nn b.length) (b.drop nn) (G (c1 : Nat) ++ [CO.cells 0 [.v (.slice none 0 0), .v (.slice none 0 0), .v (.slice none 0 0)] 26, CO.cells 0 [.v (.int .i64 0), .v (.int .i64 0)] 48, CO.cells 0 [f, nilC, nilC] 26, CO.cells 0 [str kt, str ks, q'] 55]) (hcutG.app _) (by omega)
    have c35 := h35.wc
    have or' := hr.one
    have cr := cells_cls hr
    have ur := hr.unl
    have zf := fun H n => hf.frz H n
    have zr := fun H n => hr.frz H n
    simp -implicitDefEqProofs [aQ, dAlloc, dExtract, cells_agg, gl, a0, ai, p0, pi, oq', store_at iT55, hst, hst0, b26_0, store_at iT26, tk, load_aggp underlying26 rfl iT26, faddr_ptr, underlying55, underlying26, load_one underlying9 rfl iT9, hkt, ux, hsl, ucut]
    simp -implicitDefEqProofs [c35, cells_agg, gl, a0, ai, p0, pi, hst, hst0, store_at iT23, store_at iT26, tk, load_aggp underlying26 rfl iT26, faddr_ptr, underlying26, ur, cr, of, or', on, zf, zr]
    exact (hK _ _).2 ⟨by rw [hZ], by rw [hZ]; exact ⟨_, PV.of hf hr PVs.nil (.inr ⟨rfl, rfl, rfl⟩), rfl⟩⟩
  rw [if_neg (show ¬ ¬ kt = mpart from fun h => h hkt)] at hZ
  have hkr := fun H => Cls.rs (sz := 2) (ch := kp.map Par.c) (by rw [List.length_map]; exact hk) (parCh kp) H
  have hkp := kind_par l
  rw [← hkd] at hkp
  simp only at hkp
  have c36 := fun H => (w36 n kt ks kp q' H (hkr H) (by omega) (fun g hg => by have := hkp.2 g hg; omega)).wc
  obtain ⟨bo, hbo⟩ : ∃ bo, bo = bord kp := ⟨_, rfl⟩
  have hbol : bo.length ≤ 70 := by rw [hbo]; exact bord_len kp
  have hbcr : noCr bo := by rw [hbo]; exact bord_cr kp
  simp only [← hbo] at hZ c36
  simp -implicitDefEqProofs [aQ, dAlloc, dExtract, cells_agg, gl, a0, ai, p0, pi, oq', store_at iT55, hst, hst0, tk, load_aggp underlying26 rfl iT26, load_aggp underlying55 rfl iT55, faddr_ptr, underlying55, underlying26, load_one underlying9 rfl iT9, hkt]
  rw [← hkt]
  simp -implicitDefEqProofs [c36]
  by_cases hb0 : bo = []
  · rw [if_pos hb0] at hZ
    simp -implicitDefEqProofs [hb0, tk, gl, a0, ai, p0, pi, hst, hst0, b26_0, store_at iT26, load_aggp underlying26 rfl iT26, cells_agg]
    exact hbad _ (by omega) hZ
  rw [if_neg hb0] at hZ
  have h37 := fun L => w37 n (cutC x nn b.length) (b.drop nn) bo (G (c1 : Nat) ++ L) (G (c1 : Nat)) (by rw [List.length_append, gl]; omega) hcutG (fun y s h => h.app L) (by omega) (by omega)
  simp -implicitDefEqProofs [hb0, hsl, ux, ucut]
  refine WC_mono (h37 _) ?_
  rintro y H2 ⟨⟨L, rfl⟩, hy⟩
  rw [cut_law hbcr] at hy
  obtain ⟨co, hco⟩ : ∃ co, co = cutG (b.drop nn) bo (lnS 0 (b.drop nn)) none [] := ⟨_, rfl⟩
  rw [← hco] at hy hZ
  cases co with
  | none =>
    cases hy
    simp only [] at hZ
    simp -implicitDefEqProofs [dExtract, tk, gl, a0, ai, p0, pi, hst, hst0, b26_0, store_at iT26, load_aggp underlying26 rfl iT26, cells_agg]
    exact hbad _ (by omega) hZ
  | some ts =>
  obtain ⟨tq, ys, rfl, hrb, hgy⟩ := hy
  simp only [] at hZ
  by_cases ht0 : ts.length = 0
  · rw [if_pos ht0] at hZ
    simp -implicitDefEqProofs [dExtract, tk, gl, a0, ai, p0, pi, hst, hst0, b26_0, store_at iT26, load_aggp underlying26 rfl iT26, cells_agg, ht0]
    exact hbad _ (by omega) hZ
  rw [if_neg ht0] at hZ
  have htp : 0 < ts.length := by omega
  have utq := Grow.unl hgy
  cases k with
  | zero =>
    simp only [] at hZ
    have hd8 : 8 ≤ d := by omega
    simp -implicitDefEqProofs [dExtract, tk, gl, a0, ai, p0, pi, hst, hst0, b26_0, store_at iT26, load_aggp underlying26 rfl iT26, cells_agg, htp, hd8]
    exact hbad _ (by omega) hZ
  | succ k =>
  simp only [] at hZ
  have hd8 : ¬ 8 ≤ d := by omega
  have ihk := ih k rfl
  obtain ⟨d1, hd1, hwd⟩ := upJ (i := d) (n := 2000) (by omega) (by omega)
  unfold P19 at ihk
  rw [show 8 - k = d1 by omega] at ihk
  obtain ⟨hcl1, hcl2⟩ := cutG_len _ _ _ _ (by simp) hco.symm
  have hll := lnS_len 0 (b.drop nn)
  simp only [List.length_nil, Nat.zero_add] at hcl2
  have hgy' : GY (n + 4) (G (c1 : Nat) ++ CO.cells 0 [.v (.slice none 0 0), .v (.slice none 0 0), .v (.slice none 0 0)] 26 :: CO.cells 0 [.v (.int .i64 0), .v (.int .i64 0)] 48 :: CO.cells 0 [f, nilC, nilC] 26 :: CO.cells 0 [str kt, str ks, q'] 55 :: L) tq ys := by
    simpa [gl] using hgy
  have htq : ∀ (c' : Int) (u0 u1 u2 u3 : CO) (M : Hp), GY (n + 4) (G c' ++ u0 :: u1 :: u2 :: u3 :: (L ++ M)) tq ys := by
    intro c' u0 u1 u2 u3 M
    refine Grow.of_obj hgy' fun j v cc hj hsome => ?_
    obtain ⟨j, rfl⟩ : ∃ k, j = n + (k + 4) := ⟨j - n - 4, by omega⟩
    rw [getL (gl _)] at hsome ⊢
    rw [getL (gl _)]
    simp only [List.getElem?_cons_succ] at hsome ⊢
    rw [List.getElem?_append_left (List.getElem?_eq_some_iff.1 hsome).1]
  have hmv : ∀ {c' c'' : Int} {a0 a1 a2 a3 : CO} (u0 u1 u2 u3 : CO) {M : Hp} (M' : Hp) {z : CV} {cc : List CV} {nn : Nat}, Grow (n + (L.length + 4)) (G c' ++ a0 :: a1 :: a2 :: a3 :: (L ++ M)) z cc nn 3 26 → Grow (n + (L.length + 4)) (G c'' ++ u0 :: u1 :: u2 :: u3 :: (L ++ (M ++ M'))) z cc nn 3 26 := by
    intro c' c'' a0 a1 a2 a3 u0 u1 u2 u3 M M' z cc nn h
    refine Grow.of_obj h fun j v cc hj hsome => ?_
    obtain ⟨j, rfl⟩ : ∃ k, j = n + (L.length + k + 4) := ⟨j - n - L.length - 4, by omega⟩
    rw [getL (gl _)] at hsome ⊢
    rw [getL (gl _)]
    simp only [List.getElem?_cons_succ] at hsome ⊢
    rw [get_own] at hsome ⊢
    rw [get_own]
    rw [List.getElem?_append_left (List.getElem?_eq_some_iff.1 hsome).1]
  have hysl := hrb.1
  have hlen := fun c' u0 u1 u2 u3 M => (GY.rs (htq c' u0 u1 u2 u3 M)).len (P := prog) underlying27
  simp only [List.length_map, hysl] at hlen
  have hlen0 := fun c' u0 u1 u2 u3 => hlen c' u0 u1 u2 u3 []
  simp only [List.append_nil] at hlen0
  simp -implicitDefEqProofs [dExtract, tk, gl, a0, ai, p0, pi, hst, hst0, htp, hd8, utq, hlen0]
  obtain ⟨I, hI⟩ : ∃ I : Nat → Fr → Hp → Prop, ∀ i fr H', I i fr H' ↔ ∃ (c' : Nat) (ps : List Prt) (ch : List (List CV)) (pz : CV) (M : Hp), H' = G (c' : Nat) ++ CO.cells 0 [.v (.slice none 0 0), .v (.slice none 0 0), .v (.slice none 0 0)] 26 :: CO.cells 0 [.v (.int .i64 0), .v (.int .i64 0)] 48 :: CO.cells 0 [f, nilC, pz] 26 :: CO.cells 0 [str kt, str ks, q'] 55 :: (L ++ M) ∧ fr 0 = .ptr w 0 0 ∧ fr 2 = .v (.int .i64 (d : Nat)) ∧ fr 6 = .ptr n 0 0 ∧ fr 11 = .ptr (n + 2) 0 0 ∧ fr 85 = tq ∧ fr 86 = .v (.int .i64 (ts.length : Nat)) ∧ fr 87 = .v (.int .i64 (i : Nat)) ∧
      PVs ps ch ∧ Grow (n + (L.length + 4)) H' pz ch.flatten ch.length 3 26 ∧ c' ≤ 64 ∧ ps.length = i ∧ Z = finR l (rdL (rdP k) (ts.drop i) c' ps) := ⟨_, fun _ _ _ => Iff.rfl⟩
  obtain ⟨RR, hRR⟩ : ∃ RR : Fr → Hp → Prop, ∀ fr H', RR fr H' ↔ ∃ (c' e : Int) (L' : Hp), H' = G c' ++ CO.cells 0 [.v (.slice none 0 0), .v (.slice none 0 0), .v (.slice none 0 0)] 26 :: L' ∧ fr 6 = .ptr n 0 0 ∧ fr 7 = .v (.int .i64 e) ∧ K (.tup [.agg [.v (.slice none 0 0), .v (.slice none 0 0), .v (.slice none 0 0)], .v (.int .i64 e)]) (G c') := ⟨_, fun _ _ => Iff.rfl⟩
  refine W_mono (W_up (Q := fun e fr H' => (e = .exit 1 ∧ I ts.length fr H') ∨ (e = .ret ∧ RR fr H')) ts.length I ?_ 0 _ _ (by omega) ((hI _ _ _).2 ⟨c1, [], [], nilC, [], by rw [List.append_nil], by simp, by simp [hd], by simp [gl], by simp [gl], by simp, by simp, by simp, PVs.nil, Grow.nil _ _ 3 26, by omega, rfl, by rw [hZ]; rfl⟩)) ?_
  · intro i fr H' hi hinv
    obtain ⟨c', ps, ch, pz, M, rfl, e0, e2, e6, e11, e85, e86, e87, hpv, hg, hc64, hpl, hz2⟩ := (hI _ _ _).1 hinv
    by_cases hlt : i < ts.length
    case neg =>
      obtain rfl : i = ts.length := by omega
      simp -implicitDefEqProofs [e86, e87]
      exact (hI _ _ _).2 ⟨c', ps, ch, pz, M, rfl, by simp [e0], by simp [e2], by simp [e6], by simp [e11], by simp [e85], by simp [e86], by simp [e87], hpv, hg, hc64, hpl, hz2⟩
    have hw := up64 hlt (by omega)
    have hlt2 : i < ys.length := by omega
    have hlt3 : i < (ys.map fun y => [y]).length := by simpa using hlt2
    have had := fun c' u0 u1 u2 u3 M => (GY.rs (htq c' u0 u1 u2 u3 M)).addr (P := prog) underlying27 iT23 sT23 .i64 i
    have hld := fun c' u0 u1 u2 u3 M => (GY.rs (htq c' u0 u1 u2 u3 M)).load1 (P := prog) underlying23 rfl iT23 hlt3 (by omega)
    simp [hlt2] at had hld
    have hyi := hrb.2 i hlt2 hlt
    have uyi := hyi.unl
    have hdr := List.drop_eq_getElem_cons hlt
    rw [hdr, rdL] at hz2
    have h19 := fun L' => ihk n ys[i] ts[i] (G (c' : Nat) ++ L') w c' ((hG.rb _ hyi).app L') (by have := hcl1 _ (List.getElem_mem hlt); omega) (hG.get' _ _) hc64
    simp -implicitDefEqProofs [e0, e2, e85, e86, e87, hlt, had, hld, utq, uyi, hwd]
    refine WC_mono (h19 _) ?_
    rintro y H2 ⟨rfl, hy⟩
    rw [hG.set']
    obtain ⟨r, hr⟩ : ∃ r, r = rdP k ts[i] c' := ⟨_, rfl⟩
    have hrc := rdP_c k ts[i] c' hc64
    rw [← hr] at hz2 hy hrc ⊢
    obtain ⟨ro, c2⟩ := r
    simp only [] at hz2 hy hrc ⊢
    cases ro with
    | inl e =>
      obtain ⟨hen, rfl⟩ := hy
      simp only [finR] at hz2
      simp -implicitDefEqProofs [aQ, dAlloc, dExtract, gl, a0, ai, p0, pi, hst, hst0, on, cells_agg, store_at iT26, load_aggp underlying26 rfl iT26, b26_0, hen, e6]
      exact (hRR _ _).2 ⟨_, e, _, rfl, by simp [e6], by simp, (hK _ _).2 ⟨by rw [hz2], by rw [hz2]; exact ⟨hen, rfl⟩⟩⟩
    | inr p =>
      obtain ⟨cs, hcs, rfl⟩ := hy
      have hc2 := hrc.2.2 ⟨p, rfl⟩
      simp only [] at hz2
      obtain ⟨q1, q2, q3⟩ := hcs.clo
      obtain ⟨v1, v2, v3, -, hcse, -⟩ := hcs.inv
      subst hcse
      have hmk := fun H => mkA1 (P := prog) (t := 24) (cs := [v1, v2, v3]) underlying24 (by rw [underlying26]; rfl) iT26 zT26 rfl sT26 (by omega) (by omega) q3 q2 q1 H
      have hpu := Grow.unl hg
      have hag : cvCells (.agg [v1, v2, v3]) = some [v1, v2, v3] := cells_agg q2
      have hg2 := hmv (c'' := (c2 : Nat)) (CO.cells 0 [.v (.slice none 0 0), .v (.slice none 0 0), .v (.slice none 0 0)] 26) (CO.cells 0 [.v (.int .i64 0), .v (.int .i64 0)] 48) (CO.cells 0 [f, nilC, pz] 26) (CO.cells 0 [str kt, str ks, q'] 55) [CO.cells 0 [v1, v2, v3] 26] hg
      have hchl : ch.length ≤ 1100000 := by have := hpv.1; omega
      obtain ⟨pz2, H3, k1, k2, k3, k4, _⟩ := Grow.append (P := prog) (t := 24) (tx := 24) (y := .im [v1, v2, v3] 1 3) underlying24 iT26 zT26 rfl sT26 (by omega) (by simp [gl]) hg2 (src_clo (n := 1) underlying24 (.inl rfl) rfl _) rfl (by simp; omega) (by omega)
      obtain ⟨M3, rfl⟩ : ∃ M3, H3 = G (c2 : Nat) ++ CO.cells 0 [.v (.slice none 0 0), .v (.slice none 0 0), .v (.slice none 0 0)] 26 :: CO.cells 0 [.v (.int .i64 0), .v (.int .i64 0)] 48 :: CO.cells 0 [f, nilC, pz] 26 :: CO.cells 0 [str kt, str ks, q'] 55 :: (L ++ M3) := by
        refine ⟨H3.drop (n + (L.length + 4)), ?_⟩
        have := split_at k3
        rw [takeLi (gl _)] at this
        simpa using this
      have hap : ∀ y, apQ n pz y = true := Grow.ap hg (by omega)
      have upz2 := Grow.unl k2
      have cpz2 := Grow.cells k2
      simp -implicitDefEqProofs [aQ, dAlloc, dExtract, gl, a0, ai, p0, pi, hst, hst0, on, hag, store_at iT26, load_aggp underlying26 rfl iT26, e6, e11, e87, hw, hmk, hap, k1, upz2, cpz2, store_at iT24, faddr_ptr, underlying26, load_one underlying24 rfl iT24, hpu]
      refine ⟨hlt, (hI _ _ _).2 ⟨c2, ps ++ [p], ch ++ [[v1, v2, v3]], pz2, M3, rfl, by simp [e0], by simp [e2], by simp [e6], by simp [e11], by simp [e85], by simp [e86], by simp, hpv.snoc hcs, ?_, hc2, by simp [hpl], hz2⟩⟩
      have := hmv (c'' := (c2 : Nat)) (CO.cells 0 [.v (.slice none 0 0), .v (.slice none 0 0), .v (.slice none 0 0)] 26) (CO.cells 0 [.v (.int .i64 0), .v (.int .i64 0)] 48) (CO.cells 0 [f, nilC, pz2] 26) (CO.cells 0 [str kt, str ks, q'] 55) [] k2
      simpa using this
  · rintro e fr H' (⟨rfl, hi⟩ | ⟨rfl, hr⟩)
    · obtain ⟨c', ps, ch, pz, M, rfl, e0, e2, e6, e11, e85, e86, e87, hpv, hg, hc64, hpl, hz2⟩ := (hI _ _ _).1 hi
      rw [List.drop_length, rdL, finR] at hz2
      have hg' := hmv (c'' := (c' : Nat)) (CO.cells 0 [f, nilC, pz] 26) (CO.cells 0 [.v (.int .i64 0), .v (.int .i64 0)] 48) (CO.cells 0 [f, nilC, pz] 26) (CO.cells 0 [str kt, str ks, q'] 55) [] hg
      rw [List.append_nil] at hg'
      obtain ⟨y3, f1, f2, f3, f4⟩ := Grow.frzV hg' (k := n) (by omega) hpv.clB
      have op := Grow.one hg
      have zf := fun H n => hf.frz H n
      simp -implicitDefEqProofs [e6, e11, gl, a0, ai, p0, pi, hst, hst0, of, on, op, cells_agg, load_aggp underlying26 rfl iT26, store_at iT26, tk, zf, f1, f2, f3]
      exact (hK _ _).2 ⟨by rw [hz2], by rw [hz2]; exact ⟨_, PV.of hf (.inr ⟨rfl, rfl, rfl⟩) hpv f4, rfl⟩⟩
    · obtain ⟨c', e, L', rfl, h6, h7, hk'⟩ := (hRR _ _).1 hr
      simp -implicitDefEqProofs [h6, h7, a0, load_aggp underlying26 rfl iT26, tk]
      exact hk'
theorem w19 (k : Nat) (hk : k ≤ 7) : P19 k := by
  induction k with
  | zero => exact w19s 0 hk fun k' h => by omega
  | succ k ih => exact w19s (k + 1) hk fun k' h => (show k = k' by omega) ▸ ih (by omega)
/-- What reading bytes comes to. -/
def psP (b : Bs) : Int ⊕ Prt := if 1048576 < b.length then .inl 2 else (rdP 7 b 0).1
theorem w7 (m : Nat) (x : CV) (b : Bs) (H : Hp) (hx : RB H x b) : WC prog cs0 m (.f 18) [x] H fun y H' => H' = H ∧ rdA (psP b) y := by
  rw [WC_drop rfl func18 rfl rfl]
  have ux := hx.unl
  have hlen := fun L => (hx.app L).len (P := prog) underlying23
  have on : oneB nilC = true := rfl
  have hst0 : ∀ x off, stQ H.length (.ptr H.length 0 off) x = true := fun x off => by simp [stQ]
  have b48 : dBuild prog 69 [] = some (.agg [.v (.int .i64 0)]) := by simp [dBuild, underlying69, places, fillC]
  by_cases hbig : 1048576 < b.length
  · have hp : psP b = .inl 2 := by unfold psP; rw [if_pos hbig]
    simp -implicitDefEqProofs [f18, aQ, dAlloc, ux, hlen, hbig, b26_0, store_at iT26, cells_agg, hst0, load_aggp underlying26 rfl iT26]
    rw [hp]; exact ⟨by omega, rfl⟩
  have hp : psP b = (rdP 7 b 0).1 := by unfold psP; rw [if_neg hbig]
  rw [hp]
  have h19 := w19 7 (by omega) H.length x b (H ++ [CO.cells 0 [.v (.slice none 0 0), .v (.slice none 0 0), .v (.slice none 0 0)] 26, CO.cells 0 [.v (.int .i64 0)] 69]) (H.length + 1) 0 (hx.app _) (by omega) (by simp) (by omega)
  simp -implicitDefEqProofs [f18, aQ, dAlloc, ux, hlen, hbig, b48, cells_agg]
  refine WC_mono h19 ?_
  rintro y H2 ⟨rfl, hy⟩
  obtain ⟨r, hr⟩ : ∃ r, r = (rdP 7 b 0).1 := ⟨_, rfl⟩
  rw [← hr] at hy ⊢
  cases r with
  | inl e =>
    obtain ⟨he, rfl⟩ := hy
    simp -implicitDefEqProofs [dExtract, store_at iT26, cells_agg, on, hst0, load_aggp underlying26 rfl iT26]
    exact ⟨he, rfl⟩
  | inr p =>
    obtain ⟨cs, hcs, rfl⟩ := hy
    obtain ⟨v1, v2, v3, ch, rfl, g1, g2, -, -, -, g3, -⟩ := hcs.inv
    have z1 := fun H n => g1.frz H n
    have z2 := fun H n => g2.frz H n
    have z3 := fun H n => g3.frz H n
    have o1 := g1.one
    have o2 := g2.one
    have o3 := g3.one
    simp -implicitDefEqProofs [dExtract, store_at iT26, cells_agg, o1, o2, o3, hst0, load_aggp underlying26 rfl iT26, z1, z2, z3]
    exact ⟨_, hcs, rfl⟩
end Go.Proofs.Tryz

/- Walks: the reference reads a tree. -/
namespace Go.Proofs.Tryz
open Go Go.SL
set_option linter.unusedVariables false
set_option linter.unusedSimpArgs false
attribute [local congr] WX_stop WC_stop W_stop

/-- What reading a part answers in the reference. -/
def rdD (r : (Int ⊕ Prt) × Nat) (y : CV) : Prop :=
  match r with
  | (.inl e, c) => e ≠ 0 ∧ y = .tup [.agg [nilC, nilC, nilC], .v (.int .i64 (c : Nat)), .v (.int .i64 e)]
  | (.inr p, c) => ∃ cs, PV p cs ∧ y = .tup [.agg cs, .v (.int .i64 (c : Nat)), .v (.int .i64 0)]
theorem bytCh (l : List Bs) : Chunks (l.map fun s => [byt s]) 1 := by
  intro c hc; obtain ⟨p, _, rfl⟩ := List.mem_map.1 hc; rfl
theorem bytFlat (l : List Bs) : (l.map fun s => [byt s]).flatten = bytS l := by
  induction l with
  | nil => rfl
  | cons a l ih => rw [List.map_cons, List.flatten_cons, ih]; rfl
theorem Cls.byts {q : CV} {l : List Bs} (h : Cls q (bytS l) l.length 1) (H : Hp) : RS H q (l.map fun s => [byt s]) 1 := by
  refine Cls.rs ?_ (bytCh l) H
  rw [bytFlat, List.length_map]; exact h
/-- Other objects ahead, and more behind. -/
theorem Grow.heads4 {H M : Hp} {a0 a1 a2 a3 : CO} (u0 u1 u2 u3 : CO) (M' : Hp) {z : CV} {cc : List CV} {nn sz : Nat} {e : TypeId} (h : Grow (H.length + 4) (H ++ a0 :: a1 :: a2 :: a3 :: M) z cc nn sz e) : Grow (H.length + 4) (H ++ u0 :: u1 :: u2 :: u3 :: (M ++ M')) z cc nn sz e := by
  refine Grow.of_obj h fun j v cc hj hsome => ?_
  obtain ⟨j, rfl⟩ : ∃ k, j = H.length + (k + 4) := ⟨j - H.length - 4, by omega⟩
  rw [get_own] at hsome ⊢
  rw [get_own]
  simp only [List.getElem?_cons_succ] at hsome ⊢
  rw [List.getElem?_append_left (List.getElem?_eq_some_iff.1 hsome).1]
theorem Acc.tail {H H' : Hp} {x : CV} {cs : List CV} {n sz : Nat} {e : TypeId} (h : Acc H H' x cs n sz e) : ∃ M, H' = H ++ M := by
  rcases h with ⟨_, _, _, rfl⟩ | ⟨_, ver, _, rfl⟩
  · exact ⟨[], by simp⟩
  · exact ⟨_, rfl⟩
variable [LayerC]
end Go.Proofs.Tryz

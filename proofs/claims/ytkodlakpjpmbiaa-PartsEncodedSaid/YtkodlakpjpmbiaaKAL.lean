/- Walks: parts.Content. -/
import Derived.Test.YtkodlakpjpmbiaaKAK
import Derived.Test.YtkodlakpjpmbiaaKAJ
import Derived.Test.YtkodlakpjpmbiaaRows
import Derived.ProofKit
import Derived.HandedShaped
import Derived.Shelf.Vars
import Derived.ChangeSlices
import Derived.Carry
import Derived.OpenShut

set_option linter.all false

namespace Go.Proofs.Try
open Go Go.SL
set_option linter.unusedVariables false
set_option linter.unusedSimpArgs false
attribute [local congr] WX_stop WC_stop W_stop
def cteName : Bs := [67, 111, 110, 116, 101, 110, 116, 45, 84, 114, 97, 110, 115, 102, 101, 114, 45, 69, 110, 99, 111, 100, 105, 110, 103]
def tB7 : Bs := [55, 98, 105, 116]
def tB8 : Bs := [56, 98, 105, 116]
def tBin : Bs := [98, 105, 110, 97, 114, 121]
def tB64 : Bs := [98, 97, 115, 101, 54, 52]
def tQP : Bs := [113, 117, 111, 116, 101, 100, 45, 112, 114, 105, 110, 116, 97, 98, 108, 101]
def okO (r : (Nat × Nat) ⊕ Bs) : Option Bs := match r with | .inl _ => none | .inr o => some o
/-- What a body stands for. -/
def contR (p : Prt) : Option Bs :=
  let vs := fall p.fs cteName
  let how := low (vs.headD [])
  if how = tB7 ∨ how = tB8 ∨ how = tBin then some p.b
  else if how = tB64 then okO (decB p.b)
  else if how = tQP then okO (qdec p.b)
  else if 0 < vs.length then none else some p.b
def contV (o : Option Bs) (y : CV) : Prop :=
  match o with
  | none => y = .tup [nilC, .v (.int .i64 82)]
  | some b => ∃ z, CB z b ∧ y = .tup [z, .v (.int .i64 0)]
theorem nameE : str [67, 111, 110, 116, 101, 110, 116, 45, 84, 114, 97, 110, 115, 102, 101, 114, 45, 69, 110, 99, 111, 100, 105, 110, 103] = str cteName := rfl
theorem t7E : str [55, 98, 105, 116] = str tB7 := rfl
theorem t8E : str [56, 98, 105, 116] = str tB8 := rfl
theorem tbE : str [98, 105, 110, 97, 114, 121] = str tBin := rfl
theorem t64E : str [98, 97, 115, 101, 54, 52] = str tB64 := rfl
theorem tqE : str [113, 117, 111, 116, 101, 100, 45, 112, 114, 105, 110, 116, 97, 98, 108, 101] = str tQP := rfl
/-- What reading answers: never 0 as an error's number. -/
def okN (r : (Nat × Nat) ⊕ Bs) : Prop := ∀ a c, r = .inl (a, c) → c ≠ 0
theorem dPut_ok {d pads last : Nat} {s : DS} : ∀ a c, dPut d pads last s = .inl (a, c) → c ≠ 0 := by
  intro a c h
  unfold dPut at h
  split at h
  · split at h
    · cases h; omega
    · cases h
  · cases h
theorem dStep_ok {i : Nat} {b : UInt8} {s : DS} : ∀ a c, dStep i b s = .inl (a, c) → c ≠ 0 := by
  intro a c h
  unfold dStep at h
  split at h
  · split at h
    · cases h; omega
    · split at h
      · cases h; omega
      · exact dPut_ok a c h
  · split at h
    · cases h; omega
    · exact dPut_ok a c h
theorem dB_ok (L : Nat) : ∀ (k : Nat) (s : Bs) (i : Nat) (z : DS), okN (dB L k s i z) := by
  intro k
  induction k with
  | zero => intro s i z a c h; cases h
  | succ k ih =>
    intro s i z a c h
    cases s with
    | nil =>
      rw [dB] at h
      split at h
      · cases h
      · cases h; omega
    | cons b r =>
      rw [dB] at h
      split at h
      · exact ih _ _ _ a c h
      · split at h
        · rename_i e he
          obtain ⟨e1, e2⟩ := e
          cases h
          exact dStep_ok _ _ he
        · exact ih _ _ _ a c h
theorem decB_ok (s : Bs) : okN (decB s) := by
  intro a c h
  unfold decB at h
  split at h
  · cases h; omega
  · exact dB_ok _ _ _ _ _ a c h
theorem qD_ok : ∀ (k : Nat) (s : Bs) (i : Nat) (out : Bs), okN (qD k s i out) := by
  intro k
  induction k with
  | zero => intro s i z a c h; cases h
  | succ k ih =>
    intro s i z a c h
    cases s with
    | nil => cases h
    | cons b r =>
      rw [qD] at h
      repeat' split at h
      all_goals first | exact ih _ _ _ a c h | (cases h; omega)
theorem qdec_ok (s : Bs) : okN (qdec s) := by
  intro a c h
  unfold qdec at h
  split at h
  · cases h; omega
  · exact qD_ok _ _ _ _ a c h
variable [LayerC]
set_option maxRecDepth 100000 in
set_option maxHeartbeats 2000000 in
theorem e14 (m : Nat) (p : Prt) (cs : List CV) (H : Hp) (hp : PV p cs) (hlim : Lim p) : WC prog cs0 m (.f 14) [.agg cs] H fun y H' => H' = H ∧ contV (contR p) y := by
  rw [WC_drop rfl func14 rfl rfl]
  obtain ⟨f, x, q, ch, rfl, hf, hb, hcl, hch1, hrs, hq, hch⟩ := hp.inv
  have of := hf.one
  have ob := hb.one
  have oq := hq.one
  have uf := hf.unl
  have ub := hb.unl
  obtain ⟨lf, ln, lb, lp, lq⟩ : p.fs.length ≤ 1000000 ∧ (∀ g ∈ p.fs, g.n.length ≤ 1000000 ∧ g.v.length ≤ 1000000) ∧ p.b.length ≤ 1000000 ∧ True ∧ True := by
    cases hlim with
    | mk l1 l2 l3 l4 l5 => exact ⟨l1, l2, l3, trivial, trivial⟩
  have c30 := fun m H => (w27 m f p.fs cteName H (PV.fld hf H) (by omega) (by decide) (fun g hg => by have := (ln g hg).1; omega)).wc
  obtain ⟨r, hr, h31⟩ := w35 H.length x p.b (H ++ [CO.cells 0 [f, x, q] 26]) (hb.rb _) (by omega)
  obtain ⟨how, hhow⟩ : ∃ how, how = (fall p.fs cteName).headD [] := ⟨_, rfl⟩
  have hhl : how.length ≤ 1000000 := by
    rw [hhow]
    cases hfa : fall p.fs cteName with
    | nil => simp
    | cons a t =>
      have : a ∈ fall p.fs cteName := by rw [hfa]; simp
      unfold fall at this
      obtain ⟨g, hg, rfl⟩ := List.mem_map.1 this
      exact (ln g (List.mem_filter.1 hg).1).2
  have c32 := fun m H => (e32 m how H (by omega)).wc
  have hcv : ∀ H, cvt prog false 23 9 x H = some (str p.b, H) := fun H => (hb.rb H).str false underlying23 underlying9 underlying5
  obtain ⟨o, ho⟩ : ∃ o, o = contR p := ⟨_, rfl⟩
  rw [← ho]
  unfold contR at ho
  simp only [← hhow] at ho
  unfold fgetV at c30
  rw [← hhow] at c30
  obtain ⟨n, hn⟩ : ∃ n, n = (fall p.fs cteName).length := ⟨_, rfl⟩
  rw [← hn] at c30 ho
  have c31 := h31.wc
  have ur := hr.unl
  have hfz : ∀ (H2 : Hp) (m2 : Nat), frz2 H2 m2 r = some r := fun H2 m2 => (hr.frz H2 m2).2.1
  obtain ⟨L7, hL7⟩ : ∃ L7, L7 = low how := ⟨_, rfl⟩
  rw [← hL7] at c32 ho
  have fin : o = some p.b → contV o (.tup [r, .v (.int .i64 0)]) := fun h => by rw [h]; exact ⟨r, hr, rfl⟩
  by_cases h7 : L7 = tB7
  · rw [if_pos (.inl h7)] at ho
    simp -implicitDefEqProofs [f14, cells_agg, of, ob, oq, uf, ub, ur, faddr_ptr, underlying26, underlying78, atP, load_one underlying22 rfl iT22, load_one underlying23 rfl iT23, load_one underlying29 rfl iT29, nameE, t7E, t8E, tbE, t64E, tqE, c30, c31, c32, dExtract, b78_0, dAlloc, aQ, store_at iT78, stQ, h7, hfz]
    exact fin ho
  by_cases h8 : L7 = tB8
  · rw [if_pos (.inr (.inl h8))] at ho
    have h87 : ¬ tB8 = tB7 := by decide
    simp -implicitDefEqProofs [f14, cells_agg, of, ob, oq, uf, ub, ur, faddr_ptr, underlying26, underlying78, atP, load_one underlying22 rfl iT22, load_one underlying23 rfl iT23, load_one underlying29 rfl iT29, nameE, t7E, t8E, tbE, t64E, tqE, c30, c31, c32, dExtract, b78_0, dAlloc, aQ, store_at iT78, stQ, h8, h87, hfz]
    exact fin ho
  by_cases hbi : L7 = tBin
  · rw [if_pos (.inr (.inr hbi))] at ho
    have h87 : ¬ tBin = tB7 := by decide
    have h88 : ¬ tBin = tB8 := by decide
    simp -implicitDefEqProofs [f14, cells_agg, of, ob, oq, uf, ub, ur, faddr_ptr, underlying26, underlying78, atP, load_one underlying22 rfl iT22, load_one underlying23 rfl iT23, load_one underlying29 rfl iT29, nameE, t7E, t8E, tbE, t64E, tqE, c30, c31, c32, dExtract, b78_0, dAlloc, aQ, store_at iT78, stQ, hbi, h87, h88, hfz]
    exact fin ho
  rw [if_neg (by rintro (h | h | h) <;> contradiction)] at ho
  by_cases h64 : L7 = tB64
  · rw [if_pos h64] at ho
    have k1 := eq_true h64
    simp -implicitDefEqProofs [f14, cells_agg, of, ob, oq, uf, ub, ur, faddr_ptr, underlying26, underlying78, atP, load_one underlying22 rfl iT22, load_one underlying23 rfl iT23, load_one underlying29 rfl iT29, nameE, t7E, t8E, tbE, t64E, tqE, c30, c31, c32, dExtract, b78_0, dAlloc, aQ, store_at iT78, stQ, h7, h8, hbi, k1, hfz, hcv]
    refine WC_mono (e33 _ p.b _) ?_
    rintro y H2 ⟨rfl, hy⟩
    have hok := decB_ok p.b
    cases hd : decB p.b with
    | inl e =>
      obtain ⟨ea, ec⟩ := e
      have he := hok ea ec hd
      rw [hd] at hy ho
      unfold decV at hy
      simp only [] at hy
      subst hy
      simp -implicitDefEqProofs [f14, cells_agg, of, ob, oq, uf, ub, ur, faddr_ptr, underlying26, underlying78, atP, load_one underlying22 rfl iT22, load_one underlying23 rfl iT23, load_one underlying29 rfl iT29, nameE, t7E, t8E, tbE, t64E, tqE, c30, c31, c32, dExtract, b78_0, dAlloc, aQ, store_at iT78, stQ, he]
      rw [ho]; rfl
    | inr b =>
      rw [hd] at hy ho
      obtain ⟨z, hz, rfl⟩ := hy
      have uz := hz.unl
      have hzf : ∀ (H2 : Hp) (m2 : Nat), frz2 H2 m2 z = some z := fun H2 m2 => (hz.frz H2 m2).2.1
      simp -implicitDefEqProofs [f14, cells_agg, of, ob, oq, uf, ub, ur, faddr_ptr, underlying26, underlying78, atP, load_one underlying22 rfl iT22, load_one underlying23 rfl iT23, load_one underlying29 rfl iT29, nameE, t7E, t8E, tbE, t64E, tqE, c30, c31, c32, dExtract, b78_0, dAlloc, aQ, store_at iT78, stQ, uz, hzf]
      rw [ho]; exact ⟨z, hz, rfl⟩
  rw [if_neg h64] at ho
  by_cases hqp : L7 = tQP
  · rw [if_pos hqp] at ho
    have k1 := eq_true hqp
    simp -implicitDefEqProofs [f14, cells_agg, of, ob, oq, uf, ub, ur, faddr_ptr, underlying26, underlying78, atP, load_one underlying22 rfl iT22, load_one underlying23 rfl iT23, load_one underlying29 rfl iT29, nameE, t7E, t8E, tbE, t64E, tqE, c30, c31, c32, dExtract, b78_0, dAlloc, aQ, store_at iT78, stQ, h7, h8, hbi, h64, k1, hfz, hcv]
    refine WC_mono (e34 _ p.b _) ?_
    rintro y H2 ⟨rfl, hy⟩
    have hok := qdec_ok p.b
    cases hd : qdec p.b with
    | inl e =>
      obtain ⟨ea, ec⟩ := e
      have he := hok ea ec hd
      rw [hd] at hy ho
      unfold decV at hy
      simp only [] at hy
      subst hy
      simp -implicitDefEqProofs [f14, cells_agg, of, ob, oq, uf, ub, ur, faddr_ptr, underlying26, underlying78, atP, load_one underlying22 rfl iT22, load_one underlying23 rfl iT23, load_one underlying29 rfl iT29, nameE, t7E, t8E, tbE, t64E, tqE, c30, c31, c32, dExtract, b78_0, dAlloc, aQ, store_at iT78, stQ, he]
      rw [ho]; rfl
    | inr b =>
      rw [hd] at hy ho
      obtain ⟨z, hz, rfl⟩ := hy
      have uz := hz.unl
      have hzf : ∀ (H2 : Hp) (m2 : Nat), frz2 H2 m2 z = some z := fun H2 m2 => (hz.frz H2 m2).2.1
      simp -implicitDefEqProofs [f14, cells_agg, of, ob, oq, uf, ub, ur, faddr_ptr, underlying26, underlying78, atP, load_one underlying22 rfl iT22, load_one underlying23 rfl iT23, load_one underlying29 rfl iT29, nameE, t7E, t8E, tbE, t64E, tqE, c30, c31, c32, dExtract, b78_0, dAlloc, aQ, store_at iT78, stQ, uz, hzf]
      rw [ho]; exact ⟨z, hz, rfl⟩
  rw [if_neg hqp] at ho
  by_cases hn0 : 0 < n
  · rw [if_pos hn0] at ho
    simp -implicitDefEqProofs [f14, cells_agg, of, ob, oq, uf, ub, ur, faddr_ptr, underlying26, underlying78, atP, load_one underlying22 rfl iT22, load_one underlying23 rfl iT23, load_one underlying29 rfl iT29, nameE, t7E, t8E, tbE, t64E, tqE, c30, c31, c32, dExtract, b78_0, dAlloc, aQ, store_at iT78, stQ, h7, h8, hbi, h64, hqp, hn0]
    rw [ho]; rfl
  · rw [if_neg hn0] at ho
    simp -implicitDefEqProofs [f14, cells_agg, of, ob, oq, uf, ub, ur, faddr_ptr, underlying26, underlying78, atP, load_one underlying22 rfl iT22, load_one underlying23 rfl iT23, load_one underlying29 rfl iT29, nameE, t7E, t8E, tbE, t64E, tqE, c30, c31, c32, dExtract, b78_0, dAlloc, aQ, store_at iT78, stQ, h7, h8, hbi, h64, hqp, hn0, hfz]
    exact fin ho
end Go.Proofs.Try

/- Laws: what bits.Encode and quoted.Encode write is read as it was. -/
namespace Go.Proofs.Try
open Go Go.SL
set_option linter.unusedVariables false
set_option linter.unusedSimpArgs false
theorem sgn_sv : ∀ w : Fin 64, sv (sgn.getD w.val 0) = some w.val ∧ sgn.getD w.val 0 ≠ 13 := by decide +kernel
/-- One sign. -/
theorem dB_sign (L k : Nat) (w : Nat) (r : Bs) (i : Nat) (z : DS) (hw : w < 64) (hp : z.pads = 0) (h4 : (z.n + 1) % 4 ≠ 0) : dB L (k + 1) (sgn.getD w 0 :: r) i z = dB L k r (i + 1) ⟨z.v * 64 + w, z.n + 1, 0, i, z.out⟩ := by
  obtain ⟨h1, h2⟩ := sgn_sv ⟨w, hw⟩
  simp only at h1 h2
  rw [dB, if_neg (by rintro ⟨h, _⟩; exact h2 h)]
  unfold dStep
  rw [h1]
  simp only [hp]
  rw [if_neg (by omega)]
  unfold dPut
  rw [if_neg h4]
theorem dB_last (L k : Nat) (w : Nat) (r : Bs) (i : Nat) (z : DS) (hw : w < 64) (hp : z.pads = 0) (h4 : (z.n + 1) % 4 = 0) : dB L (k + 1) (sgn.getD w 0 :: r) i z = dB L k r (i + 1) ⟨0, z.n + 1, 0, i, z.out ++ tri (z.v * 64 + w)⟩ := by
  obtain ⟨h1, h2⟩ := sgn_sv ⟨w, hw⟩
  simp only at h1 h2
  rw [dB, if_neg (by rintro ⟨h, _⟩; exact h2 h)]
  unfold dStep
  rw [h1]
  simp only [hp]
  rw [if_neg (by omega)]
  unfold dPut
  rw [if_pos h4, if_neg (by rintro ⟨h, _⟩; omega)]
  simp only [Nat.sub_zero]
  rw [List.take_of_length_le (by simp [tri])]
theorem dB_pad (L k : Nat) (r : Bs) (i : Nat) (z : DS) (h2 : 2 ≤ z.n % 4) (h4 : (z.n + 1) % 4 ≠ 0) : dB L (k + 1) (61 :: r) i z = dB L k r (i + 1) ⟨z.v * 64, z.n + 1, z.pads + 1, z.last, z.out⟩ := by
  rw [dB, if_neg (by rintro ⟨h, _⟩; revert h; decide)]
  unfold dStep
  rw [sv61]
  simp only []
  rw [if_neg (by decide), if_neg (by omega)]
  unfold dPut
  rw [if_neg h4]; rfl
theorem dB_padl (L k : Nat) (r : Bs) (i : Nat) (z : DS) (h2 : 2 ≤ z.n % 4) (h4 : (z.n + 1) % 4 = 0) (h0 : (z.out ++ tri (z.v * 64)).getD (z.out.length + 3 - (z.pads + 1)) 0 = 0) : dB L (k + 1) (61 :: r) i z = dB L k r (i + 1) ⟨0, z.n + 1, z.pads + 1, z.last, (z.out ++ tri (z.v * 64)).take (z.out.length + 3 - (z.pads + 1))⟩ := by
  rw [dB, if_neg (by rintro ⟨h, _⟩; revert h; decide)]
  unfold dStep
  rw [sv61]
  simp only []
  rw [if_neg (by decide), if_neg (by omega)]
  unfold dPut
  rw [if_pos h4, if_neg (by rintro ⟨_, h⟩; exact h h0)]; rfl
theorem dB_pair (L k : Nat) (r : Bs) (i : Nat) (z : DS) : dB L (k + 1) (13 :: 10 :: r) i z = dB L k r (i + 2) z := by
  rw [dB, if_pos ⟨rfl, rfl⟩]; rfl
theorem tri_eq (a b c : UInt8) : tri (a.toNat * 65536 + b.toNat * 256 + c.toNat) = [a, b, c] := by
  have ha := a.toNat_lt
  have hb := b.toNat_lt
  have hc := c.toNat_lt
  unfold tri
  have e1 : (a.toNat * 65536 + b.toNat * 256 + c.toNat) / 65536 = a.toNat := by omega
  have e2 : (a.toNat * 65536 + b.toNat * 256 + c.toNat) / 256 = a.toNat * 256 + b.toNat := by omega
  rw [e1, e2]
  refine congr (congrArg _ (by simp)) (congr (congrArg _ ?_) (congrArg (· :: []) ?_))
  · apply UInt8.toNat_inj.1; simp
  · apply UInt8.toNat_inj.1; simp
theorem sigB_at (l : Bs) (i v e w : Nat) (hi : i ≤ l.length) (hv : valB l = v) (he : 2 ^ (18 - 6 * i) = e) (hw : v / e % 64 = w) : sigB l i = sgn.getD w 0 := by
  unfold sigB; rw [if_pos hi, hv, he, hw]
theorem quad4 (l : Bs) (h : l.length ≤ 3) : quad l = [sigB l 0, sigB l 1, sigB l 2, sigB l 3] := rfl
/-- Lines are read. -/
theorem dB_enc (L : Nat) : ∀ (m : Nat) (b : Bs) (line k i n last : Nat) (out : Bs), b.length ≤ m → n % 4 = 0 → (encF line b).length + 1 ≤ k → dB L k (encF line b) i ⟨0, n, 0, last, out⟩ = .inr (out ++ b) := by
  intro m
  induction m using Nat.strongRecOn with
  | ind m ih =>
  intro b line k i n last out hb hn hk
  by_cases hb0 : b = []
  · subst hb0
    obtain ⟨k, rfl⟩ : ∃ k', k = k' + 1 := ⟨k - 1, by omega⟩
    simp [encF, dB, hn]
  rw [encF_step line b hb0] at hk ⊢
  -- the line's end
  suffices H : ∀ k i, (quad (b.take 3) ++ encF (nxtL line) (b.drop 3)).length + 1 ≤ k → dB L k (quad (b.take 3) ++ encF (nxtL line) (b.drop 3)) i ⟨0, n, 0, last, out⟩ = .inr (out ++ b) by
    unfold preL at hk ⊢
    split
    · rename_i h76
      rw [if_pos h76] at hk
      obtain ⟨k, rfl⟩ : ∃ k', k = k' + 1 := ⟨k - 1, by omega⟩
      rw [show ([13, 10] : Bs) ++ (quad (b.take 3) ++ encF (nxtL line) (b.drop 3)) = 13 :: 10 :: (quad (b.take 3) ++ encF (nxtL line) (b.drop 3)) from rfl, dB_pair]
      exact H _ _ (by simp at hk ⊢; omega)
    · rename_i h76
      rw [if_neg h76] at hk
      exact H _ _ (by simpa using hk)
  intro k i hk
  obtain ⟨k, rfl⟩ : ∃ k', k = k' + 4 := ⟨k - 4, by rw [quad4 _ (by simp; omega)] at hk; simp at hk; omega⟩
  rw [quad4 _ (by simp; omega)] at hk ⊢
  simp only [List.cons_append, List.nil_append, List.length_cons] at hk ⊢
  generalize hX : encF (nxtL line) (b.drop 3) = X at hk ⊢
  rcases b with _ | ⟨a, _ | ⟨b', _ | ⟨c, r⟩⟩⟩
  · exact absurd rfl hb0
  · have hX0 : X = [] := by rw [← hX]; rfl
    have ha := a.toNat_lt
    have s0 : sigB ([a].take 3) 0 = sgn.getD (a.toNat / 4) 0 := sigB_at _ _ (a.toNat * 65536 + 0 * 256 + 0) 262144 _ (by simp) rfl rfl (by omega)
    have s1 : sigB ([a].take 3) 1 = sgn.getD (a.toNat % 4 * 16) 0 := sigB_at _ _ (a.toNat * 65536 + 0 * 256 + 0) 4096 _ (by simp) rfl rfl (by omega)
    have s2 : sigB ([a].take 3) 2 = 61 := rfl
    have s3 : sigB ([a].take 3) 3 = 61 := rfl
    have ht : tri (((0 * 64 + a.toNat / 4) * 64 + a.toNat % 4 * 16) * 64 * 64) = [a, 0, 0] := by
      rw [← tri_eq a 0 0]; congr 1; simp; omega
    rw [s0, s1, s2, s3, hX0, dB_sign _ _ _ _ _ _ (by omega) rfl (by simp; omega), dB_sign _ _ _ _ _ _ (by omega) rfl (by simp; omega), dB_pad _ _ _ _ _ (by simp; omega) (by simp; omega), dB_padl _ _ _ _ _ (by simp; omega) (by simp; omega) (by simp only [ht]; simp [List.getD])]
    simp only [ht]
    obtain ⟨k, rfl⟩ : ∃ k', k = k' + 1 := ⟨k - 1, by omega⟩
    rw [dB, if_pos (by simp; omega)]
    simp [List.take_append]
    exact List.take_of_length_le (by omega)
  · have hX0 : X = [] := by rw [← hX]; rfl
    have ha := a.toNat_lt
    have hb' := b'.toNat_lt
    have s0 : sigB ([a, b'].take 3) 0 = sgn.getD (a.toNat / 4) 0 := sigB_at _ _ (a.toNat * 65536 + b'.toNat * 256 + 0) 262144 _ (by simp) rfl rfl (by omega)
    have s1 : sigB ([a, b'].take 3) 1 = sgn.getD (a.toNat % 4 * 16 + b'.toNat / 16) 0 := sigB_at _ _ (a.toNat * 65536 + b'.toNat * 256 + 0) 4096 _ (by simp) rfl rfl (by omega)
    have s2 : sigB ([a, b'].take 3) 2 = sgn.getD (b'.toNat % 16 * 4) 0 := sigB_at _ _ (a.toNat * 65536 + b'.toNat * 256 + 0) 64 _ (by simp) rfl rfl (by omega)
    have s3 : sigB ([a, b'].take 3) 3 = 61 := rfl
    have ht : tri ((((0 * 64 + a.toNat / 4) * 64 + (a.toNat % 4 * 16 + b'.toNat / 16)) * 64 + b'.toNat % 16 * 4) * 64) = [a, b', 0] := by
      rw [← tri_eq a b' 0]; congr 1; simp; omega
    rw [s0, s1, s2, s3, hX0, dB_sign _ _ _ _ _ _ (by omega) rfl (by simp; omega), dB_sign _ _ _ _ _ _ (by omega) rfl (by simp; omega), dB_sign _ _ _ _ _ _ (by omega) rfl (by simp; omega), dB_padl _ _ _ _ _ (by simp; omega) (by simp; omega) (by simp only [ht]; simp [List.getD])]
    simp only [ht]
    obtain ⟨k, rfl⟩ : ∃ k', k = k' + 1 := ⟨k - 1, by omega⟩
    rw [dB, if_pos (by simp; omega)]
    simp [List.take_append]
    exact List.take_of_length_le (by omega)
  · have ha := a.toNat_lt
    have hb' := b'.toNat_lt
    have hc := c.toNat_lt
    have s0 : sigB ((a :: b' :: c :: r).take 3) 0 = sgn.getD (a.toNat / 4) 0 := sigB_at _ _ (a.toNat * 65536 + b'.toNat * 256 + c.toNat) 262144 _ (by simp) rfl rfl (by omega)
    have s1 : sigB ((a :: b' :: c :: r).take 3) 1 = sgn.getD (a.toNat % 4 * 16 + b'.toNat / 16) 0 := sigB_at _ _ (a.toNat * 65536 + b'.toNat * 256 + c.toNat) 4096 _ (by simp) rfl rfl (by omega)
    have s2 : sigB ((a :: b' :: c :: r).take 3) 2 = sgn.getD (b'.toNat % 16 * 4 + c.toNat / 64) 0 := sigB_at _ _ (a.toNat * 65536 + b'.toNat * 256 + c.toNat) 64 _ (by simp) rfl rfl (by omega)
    have s3 : sigB ((a :: b' :: c :: r).take 3) 3 = sgn.getD (c.toNat % 64) 0 := sigB_at _ _ (a.toNat * 65536 + b'.toNat * 256 + c.toNat) 1 _ (by simp) rfl rfl (by omega)
    have ht : tri ((((0 * 64 + a.toNat / 4) * 64 + (a.toNat % 4 * 16 + b'.toNat / 16)) * 64 + (b'.toNat % 16 * 4 + c.toNat / 64)) * 64 + c.toNat % 64) = [a, b', c] := by
      rw [← tri_eq a b' c]; congr 1; omega
    rw [s0, s1, s2, s3, dB_sign _ _ _ _ _ _ (by omega) rfl (by simp; omega), dB_sign _ _ _ _ _ _ (by omega) rfl (by simp; omega), dB_sign _ _ _ _ _ _ (by omega) rfl (by simp; omega), dB_last _ _ _ _ _ _ (by omega) rfl (by simp; omega)]
    simp only [ht]
    subst hX
    have := ih r.length (by simp at hb; omega) r (nxtL line) k (i + 1 + 1 + 1 + 1) (n + 1 + 1 + 1 + 1) (i + 1 + 1 + 1) (out ++ [a, b', c]) (Nat.le_refl _) (by omega) (by simpa using hk)
    simpa using this
theorem encF_len : ∀ (m : Nat) (b : Bs) (line : Nat), b.length ≤ m → (encF line b).length ≤ 6 * b.length := by
  intro m
  induction m using Nat.strongRecOn with
  | ind m ih =>
  intro b line hb
  by_cases h : b = []
  · subst h; simp [encF]
  rw [encF_step line b h, quad4 _ (by simp; omega)]
  have hp := List.length_pos_iff.2 h
  have hpre : (preL line).length ≤ 2 := by unfold preL; split <;> simp
  match b, h with
  | [a], _ => simp [encF]; omega
  | [a, b'], _ => simp [encF]; omega
  | a :: b' :: c :: r, _ =>
    have := ih r.length (by simp at hb; omega) r (nxtL line) (Nat.le_refl _)
    simp; omega
theorem dec_enc (b : Bs) (hb : b.length ≤ 2000) : decB (encF 0 b) = .inr b := by
  have hl := encF_len _ b 0 (Nat.le_refl _)
  unfold decB
  rw [if_neg (by omega)]
  exact dB_enc _ _ b 0 _ 0 0 0 [] (Nat.le_refl _) rfl (Nat.le_refl _)
end Go.Proofs.Try

/- Laws: what quoted.Encode writes is read as it was. -/
namespace Go.Proofs.Try
open Go Go.SL
set_option linter.unusedVariables false
set_option linter.unusedSimpArgs false
/-- Lines are read, without fuel. -/
def QD (s : Bs) (i : Nat) (out : Bs) : (Nat × Nat) ⊕ Bs := qD (s.length + 1) s i out
theorem dropW_len (p : UInt8 → Bool) (l : Bs) : (l.dropWhile p).length ≤ l.length := (List.dropWhile_sublist p).length_le
theorem qD_more : ∀ (k k' : Nat) (s : Bs) (i : Nat) (out : Bs), s.length + 1 ≤ k → k ≤ k' → qD k s i out = qD k' s i out := by
  intro k
  induction k with
  | zero => intro k' s i out h; omega
  | succ k ih =>
    intro k' s i out h hk
    obtain ⟨k', rfl⟩ : ∃ q, k' = q + 1 := ⟨k' - 1, by omega⟩
    cases s with
    | nil => rfl
    | cons c r =>
      have hl : r.length + 1 ≤ k := by simpa using h
      have hdl : blankC c = true → ((c :: r).dropWhile blankC).length ≤ r.length := fun hb => by
        rw [List.dropWhile_cons, if_pos hb]; exact dropW_len _ _
      rw [qD, qD]
      split
      · exact ih _ _ _ _ (by rw [List.length_drop]; omega) (by omega)
      · split
        · split
          · exact ih _ _ _ _ (by rw [List.length_drop]; omega) (by omega)
          · split
            · exact ih _ _ _ _ (by rw [List.length_drop]; omega) (by omega)
            · rfl
        · split
          · rename_i hb
            have := hdl hb
            split
            · exact ih _ _ _ _ (by omega) (by omega)
            · exact ih _ _ _ _ (by omega) (by omega)
          · split
            · rfl
            · exact ih _ _ _ _ (by omega) (by omega)
theorem QD_at (k : Nat) (s : Bs) (i : Nat) (out : Bs) (h : s.length + 1 ≤ k) : qD k s i out = QD s i out := (qD_more _ _ s i out (Nat.le_refl _) h).symm
theorem QD_nil (i : Nat) (out : Bs) : QD [] i out = .inr out := rfl
theorem QD_pair (r : Bs) (i : Nat) (out : Bs) : QD (13 :: 10 :: r) i out = QD r (i + 2) (out ++ [13, 10]) := by
  rw [QD, qD, if_pos ⟨r, rfl⟩]
  exact QD_at _ _ _ _ (by simp)
theorem np (c : UInt8) (r : Bs) (h : c ≠ 13) : ¬ [13, 10] <+: c :: r := by
  rintro ⟨t, ht⟩
  cases ht
  exact h rfl
theorem QD_soft (r : Bs) (i : Nat) (out : Bs) : QD (61 :: 13 :: 10 :: r) i out = QD r (i + 3) out := by
  rw [QD, qD, if_neg (np _ _ (by decide)), if_pos rfl, if_pos ⟨r, rfl⟩]
  exact QD_at _ _ _ _ (by simp)
theorem QD_hex (a b : UInt8) (r : Bs) (i : Nat) (out : Bs) (h13 : a ≠ 13) (ha : dgt a ≤ 15) (hb : dgt b ≤ 15) : QD (61 :: a :: b :: r) i out = QD r (i + 3) (out ++ [(dgt a * 16 + dgt b).toUInt8]) := by
  rw [QD, qD, if_neg (np _ _ (by decide)), if_pos rfl, if_neg (np _ _ h13), if_pos ⟨by simp, ha, hb⟩]
  exact QD_at _ _ _ _ (by simp)
theorem QD_raw (c : UInt8) (r : Bs) (i : Nat) (out : Bs) (h1 : 32 < c.toNat) (h2 : c.toNat < 127) (h3 : c ≠ 61) : QD (c :: r) i out = QD r (i + 1) (out ++ [c]) := by
  have hb : ¬ blankC c = true := by simp [blankC]; omega
  have h13 : c ≠ 13 := fun h => by rw [h] at h1; revert h1; decide
  rw [QD, qD, if_neg (np _ _ h13), if_neg h3, if_neg hb, if_neg (by omega)]
  exact QD_at _ _ _ _ (by simp)
/-- Behind the blanks something goes on. -/
def goes (s : Bs) : Prop := s.dropWhile blankC ≠ [] ∧ ¬ [13, 10] <+: s.dropWhile blankC
theorem blank_ne {c : UInt8} (h : blankC c = true) : c ≠ 13 ∧ c ≠ 61 := by
  constructor
  · rintro rfl; revert h; decide
  · rintro rfl; revert h; decide
theorem QD_blank (c : UInt8) (r : Bs) (i : Nat) (out : Bs) (hb : blankC c = true) (hg : goes r) : QD (c :: r) i out = QD r (i + 1) (out ++ [c]) := by
  obtain ⟨h13, h61⟩ := blank_ne hb
  have hd : (c :: r).dropWhile blankC = r.dropWhile blankC := by rw [List.dropWhile_cons, if_pos hb]
  have ht : (c :: r).takeWhile blankC = c :: r.takeWhile blankC := by rw [List.takeWhile_cons, if_pos hb]
  have hdl := dropW_len blankC r
  rw [QD, qD, if_neg (np _ _ h13), if_neg h61, if_pos hb, hd, if_pos (show r.dropWhile blankC ≠ [] ∧ ¬ [13, 10] <+: r.dropWhile blankC from hg), ht, QD_at _ _ _ _ (by simp; omega)]
  cases r with
  | nil => exact absurd rfl hg.1
  | cons d r =>
    by_cases hb2 : blankC d = true
    · obtain ⟨h13', h61'⟩ := blank_ne hb2
      have hd2 : (d :: r).dropWhile blankC = r.dropWhile blankC := by rw [List.dropWhile_cons, if_pos hb2]
      have ht2 : (d :: r).takeWhile blankC = d :: r.takeWhile blankC := by rw [List.takeWhile_cons, if_pos hb2]
      have hdl2 := dropW_len blankC r
      conv => rhs; rw [QD, qD, if_neg (np _ _ h13'), if_neg h61', if_pos hb2, if_pos (show (d :: r).dropWhile blankC ≠ [] ∧ ¬ [13, 10] <+: (d :: r).dropWhile blankC from hg), QD_at _ _ _ _ (by rw [hd2]; simp; omega)]
      rw [hd2, ht2]
      simp [Nat.add_assoc, Nat.add_comm]
    · have hd2 : (d :: r).dropWhile blankC = d :: r := by rw [List.dropWhile_cons, if_neg hb2]
      have ht2 : (d :: r).takeWhile blankC = [] := by rw [List.takeWhile_cons, if_neg hb2]
      rw [hd2, ht2]; rfl
theorem hex_dgt : ∀ p : Fin 16, dgt (hexS.getD p.val 0) = p.val ∧ hexS.getD p.val 0 ≠ 13 := by decide +kernel
theorem QD_sig61 (c : UInt8) (r : Bs) (i : Nat) (out : Bs) : QD (61 :: hex2 c ++ r) i out = QD r (i + 3) (out ++ [c]) := by
  have hc := c.toNat_lt
  obtain ⟨h1, h2⟩ := hex_dgt ⟨c.toNat / 16, by omega⟩
  obtain ⟨h3, _⟩ := hex_dgt ⟨c.toNat % 16, by omega⟩
  simp only at h1 h2 h3
  have := QD_hex (hexS.getD (c.toNat / 16) 0) (hexS.getD (c.toNat % 16) 0) r i out h2 (by omega) (by omega)
  unfold hex2
  simp only [List.cons_append, List.nil_append]
  rw [this, h1, h3]
  have : (c.toNat / 16 * 16 + c.toNat % 16).toUInt8 = c := by
    apply UInt8.toNat_inj.1; simp; omega
  rw [this]
theorem goes_raw (c : UInt8) (r : Bs) (hb : ¬ blankC c = true) (h : c ≠ 13) : goes (c :: r) := by
  unfold goes
  rw [List.dropWhile_cons, if_neg hb]
  exact ⟨by simp, np _ _ h⟩
theorem endS_goes {r : Bs} (h : endS r = false) : r ≠ [] ∧ ¬ [13, 10] <+: r := by
  unfold endS at h
  simp at h
  exact ⟨h.1, by simpa using h.2⟩
theorem qE_goes (text : Bool) : ∀ (f : Nat) (s : Bs) (line : Nat), s.length ≤ f → s ≠ [] → ¬ [13, 10] <+: s → goes (qE text f line s) := by
  intro f
  induction f with
  | zero => intro s line h h0; exact absurd (List.eq_nil_of_length_eq_zero (by omega)) h0
  | succ f ih =>
    intro s line h h0 hp
    cases s with
    | nil => exact absurd rfl h0
    | cons c r =>
      rw [qE, if_neg (by rintro ⟨_, h⟩; exact hp h)]
      split
      · rw [show ([61, 13, 10] : Bs) ++ sigS c r ++ qE text f (0 + (sigS c r).length) r = 61 :: (13 :: 10 :: (sigS c r ++ qE text f (0 + (sigS c r).length) r)) from by simp]
        exact goes_raw _ _ (by decide) (by decide)
      · rw [List.nil_append]
        generalize line + (sigS c r).length = l2
        unfold sigS
        split
        · rename_i hh
          exact goes_raw _ _ (by simp [blankC]; omega) (fun h => by rw [h] at hh; revert hh; decide)
        · split
          · rename_i hh
            obtain ⟨g1, g2⟩ := endS_goes hh.2
            have := ih r l2 (by simpa using h) g1 g2
            unfold goes at this ⊢
            rw [List.cons_append, List.nil_append, List.dropWhile_cons, if_pos (by simp [blankC]; exact hh.1)]
            exact this
          · exact goes_raw _ _ (by decide) (by decide)
theorem QD_enc (text : Bool) : ∀ (f : Nat) (s : Bs) (line i : Nat) (out : Bs), s.length ≤ f → QD (qE text f line s) i out = .inr (out ++ s) := by
  intro f
  induction f with
  | zero =>
    intro s line i out h
    have : s = [] := List.eq_nil_of_length_eq_zero (by omega)
    subst this
    simp [qE, QD_nil]
  | succ f ih =>
    intro s line i out h
    cases s with
    | nil => simp [qE, QD_nil]
    | cons c r =>
      have hl : r.length ≤ f := by simpa using h
      rw [qE]
      split
      · rename_i hp
        obtain ⟨_, t, ht⟩ := hp
        obtain ⟨rfl, rfl⟩ : 13 = c ∧ 10 :: t = r := by
          have h2 : 13 :: (10 :: t) = c :: r := ht
          exact List.cons.inj h2
        rw [show ([13, 10] : Bs) ++ qE text f 0 ((10 :: t).drop 1) = 13 :: 10 :: qE text f 0 t from rfl, QD_pair, ih _ _ _ _ (by simp at hl; omega)]
        simp
      · -- the soft end
        suffices H : ∀ (l2 i : Nat), QD (sigS c r ++ qE text f l2 r) i out = .inr (out ++ c :: r) by
          split
          · rw [show ([61, 13, 10] : Bs) ++ sigS c r ++ qE text f (0 + (sigS c r).length) r = 61 :: 13 :: 10 :: (sigS c r ++ qE text f (0 + (sigS c r).length) r) from by simp, QD_soft]
            exact H _ _
          · rw [List.nil_append]; exact H _ _
        intro l2 i
        have hfin : ∀ i, QD (qE text f l2 r) i (out ++ [c]) = .inr (out ++ c :: r) := fun i => by rw [ih _ _ _ _ hl]; simp
        by_cases h1 : 32 < c.toNat ∧ c.toNat < 127 ∧ c.toNat ≠ 61
        · have hs : sigS c r = [c] := by unfold sigS; rw [if_pos h1]
          rw [hs, List.cons_append, List.nil_append, QD_raw _ _ _ _ h1.1 h1.2.1 (fun h => h1.2.2 (by rw [h]; rfl)), hfin]
        · by_cases h2 : (c.toNat = 32 ∨ c.toNat = 9) ∧ endS r = false
          · have hs : sigS c r = [c] := by unfold sigS; rw [if_neg h1, if_pos h2]
            obtain ⟨g1, g2⟩ := endS_goes h2.2
            rw [hs, List.cons_append, List.nil_append, QD_blank _ _ _ _ (by simp [blankC]; exact h2.1) (qE_goes text f r l2 hl g1 g2), hfin]
          · have hs : sigS c r = 61 :: hex2 c := by unfold sigS; rw [if_neg h1, if_neg h2]
            rw [hs, QD_sig61, hfin]
theorem qE_len (text : Bool) : ∀ (f : Nat) (s : Bs) (line : Nat), (qE text f line s).length ≤ 6 * s.length := by
  intro f
  induction f with
  | zero => intro s line; simp [qE]
  | succ f ih =>
    intro s line
    cases s with
    | nil => simp [qE]
    | cons c r =>
      rw [qE]
      split
      · have := ih (r.drop 1) 0
        simp at this ⊢; omega
      · have h3 := sigS_len c r
        split
        · have := ih r (0 + (sigS c r).length)
          simp at this ⊢; omega
        · have := ih r (line + (sigS c r).length)
          simp at this ⊢; omega
theorem qdec_enc (text : Bool) (s : Bs) (hs : s.length ≤ 2000) : qdec (qE text s.length 0 s) = .inr s := by
  have hl := qE_len text s.length s 0
  unfold qdec
  rw [if_neg (by omega), QD_at _ _ _ _ (Nat.le_refl _), QD_enc _ _ _ _ _ _ (Nat.le_refl _)]
  rfl
end Go.Proofs.Try

/- Laws: the lines of what is written. -/
namespace Go.Proofs.Try
open Go Go.SL
set_option linter.unusedVariables false

theorem pair_app {s r : Bs} {i : Nat} (h : pairAt (s ++ crlf ++ r) i) (hi : i < s.length) : pairAt s i := by
  obtain ⟨h1, h2⟩ := h
  rw [List.append_assoc, List.getElem?_append_left hi] at h1
  refine ⟨h1, ?_⟩
  by_cases h3 : i + 1 < s.length
  · rwa [List.append_assoc, List.getElem?_append_left h3] at h2
  · have : i + 1 = s.length := by omega
    rw [List.append_assoc, List.getElem?_append_right (by omega), this] at h2
    simp [crlf] at h2
theorem cr_cat {s r : Bs} (h : ∀ i, ¬ pairAt s i) : crIdx (s ++ crlf ++ r) = s.length := by
  refine cr_first ⟨?_, ?_⟩ fun i hi hp => h i (pair_app hp hi)
  · rw [List.append_assoc, List.getElem?_append_right (Nat.le_refl _)]; simp [crlf]
  · rw [List.append_assoc, List.getElem?_append_right (by omega)]; simp [crlf]
/-- A line, its end, and what is behind it. -/
theorem lnS_cat {s : Bs} (h : ∀ i, ¬ pairAt s i) (a : Nat) (r : Bs) : lnS a (s ++ crlf ++ r) = ⟨a, s, true⟩ :: lnS (a + s.length + 2) r := by
  have hc := cr_cat (r := r) h
  have h0 : 0 ≤ crIdx (s ++ crlf ++ r) := by omega
  rw [lnS_whole h0]
  have hn : lineN (s ++ crlf ++ r) = s.length + 2 := by unfold lineN; rw [if_neg (by omega), hc]; simp
  rw [hn, hc]
  have h1 : (s ++ crlf ++ r).take (s.length : Int).toNat = s := by simp
  have h2 : (s ++ crlf ++ r).drop (s.length + 2) = r := by
    have : (s ++ crlf).length = s.length + 2 := by simp [crlf]
    rw [← this, List.drop_left]
  rw [h1, h2, Nat.add_assoc]
theorem noCr_pair {s : Bs} (h : noCr s) : ∀ i, ¬ pairAt s i := by
  intro i hp
  have := List.mem_of_getElem? hp.1
  exact h 13 this rfl
/-- The lines' texts don't hang on where they begin. -/
theorem lnS_s (a b : Nat) (t : Bs) : (lnS a t).map Ln.s = (lnS b t).map Ln.s := by
  have key : ∀ n (t : Bs), t.length ≤ n → ∀ a b, (lnS a t).map Ln.s = (lnS b t).map Ln.s := by
    intro n
    induction n with
    | zero =>
      intro t ht a b
      obtain rfl := List.eq_nil_of_length_eq_zero (by omega : t.length = 0)
      rw [lnS_nil, lnS_nil]
    | succ n ih =>
      intro t ht a b
      by_cases h : t = []
      · subst h; rw [lnS_nil, lnS_nil]
      · by_cases hc : crIdx t < 0
        · rw [lnS_last h hc, lnS_last h hc]; rfl
        · have hp := lineN_pos h
          have := List.length_pos_iff.2 h
          rw [lnS_whole (a := a) (by omega), lnS_whole (a := b) (by omega), List.map_cons, List.map_cons, ih _ (by simp; omega) _ (b + lineN t)]
  exact key _ t (Nat.le_refl _) a b
/-- A text with an end put behind it: its lines, the last one whole. -/
theorem lnS_text (t r : Bs) : ∀ p, ∃ L : List Ln, lnS p (t ++ crlf ++ r) = L ++ lnS (p + t.length + 2) r ∧ ∀ x ∈ L, x.s = [] ∨ ∃ y ∈ lnS p t, x.s = y.s := by
  have key : ∀ n (t : Bs), t.length ≤ n → ∀ p, ∃ L : List Ln, lnS p (t ++ crlf ++ r) = L ++ lnS (p + t.length + 2) r ∧ ∀ x ∈ L, x.s = [] ∨ ∃ y ∈ lnS p t, x.s = y.s := by
    intro n
    induction n with
    | zero =>
      intro t ht p
      obtain rfl := List.eq_nil_of_length_eq_zero (by omega : t.length = 0)
      exact ⟨[⟨p, [], true⟩], by rw [lnS_cat (by intro i h; simp [pairAt] at h)]; rfl, fun x hx => .inl (by simp at hx; rw [hx])⟩
    | succ n ih =>
      intro t ht p
      by_cases h : t = []
      · subst h; exact ⟨[⟨p, [], true⟩], by rw [lnS_cat (by intro i h; simp [pairAt] at h)]; rfl, fun x hx => .inl (by simp at hx; rw [hx])⟩
      · by_cases hc : crIdx t < 0
        · refine ⟨[⟨p, t, true⟩], by rw [lnS_cat (no_pair hc)]; rfl, fun x hx => .inr ⟨⟨p, t, false⟩, ?_, ?_⟩⟩
          · rw [lnS_last h hc]; simp
          · simp at hx; rw [hx]
        · have hc' : 0 ≤ crIdx t := by omega
          have hp := lineN_pos h
          have hle := lineN_le t
          have hroom := crIdx_room t hc'
          have hnn : lineN t = (crIdx t).toNat + 2 := by unfold lineN; rw [if_neg hc]
          obtain ⟨k, hk⟩ : ∃ k, k = (crIdx t).toNat := ⟨_, rfl⟩
          have e : t ++ crlf ++ r = t.take k ++ crlf ++ (t.drop (lineN t) ++ crlf ++ r) := by
            have h1 := line_whole hc'
            rw [← hk] at h1
            rw [← h1]
            have h2 : t.take (lineN t) ++ (t.drop (lineN t) ++ (crlf ++ r)) = t ++ (crlf ++ r) := by rw [← List.append_assoc, List.take_append_drop]
            rw [List.append_assoc, ← h2, List.append_assoc (t.drop (lineN t))]
          have hnp : ∀ i, ¬ pairAt (t.take k) i := by
            intro i hp2
            have hi : i < k := by
              have h1 := hp2.1
              rcases Nat.lt_or_ge i (t.take k).length with h3 | h3
              · simp at h3; omega
              · rw [List.getElem?_eq_none (by omega)] at h1; cases h1
            rcases Lib.index_spec t [13, 10] with ⟨h1, _⟩ | ⟨j, h1, _, _, h4⟩
            · unfold crIdx at hc; omega
            · have hj : k = j := by rw [hk]; unfold crIdx; omega
              have h5 := h4 i (by omega)
              have h6 : Lib.occAt t [13, 10] i = true := (occ_pair t i).2 ⟨by
                  have := hp2.1
                  rw [List.getElem?_take_of_lt hi] at this
                  exact this, by
                  have := hp2.2
                  rw [List.getElem?_take] at this
                  split at this
                  · exact this
                  · cases this⟩
              rw [h6] at h5; cases h5
          have hlk : (t.take k).length = k := by simp; omega
          obtain ⟨L, h1, h2⟩ := ih (t.drop (lineN t)) (by simp; omega) (p + lineN t)
          refine ⟨⟨p, t.take k, true⟩ :: L, ?_, ?_⟩
          · rw [e, lnS_cat hnp, hlk]
            have : p + k + 2 = p + lineN t := by omega
            rw [this, h1]
            have : p + lineN t + (t.drop (lineN t)).length + 2 = p + t.length + 2 := by simp; omega
            rw [this]; rfl
          · intro x hx
            rw [lnS_whole hc']
            rcases List.mem_cons.1 hx with rfl | hx
            · exact .inr ⟨_, List.mem_cons_self, by rw [hk]⟩
            · rcases h2 x hx with h3 | ⟨y, hy, h3⟩
              · exact .inl h3
              · exact .inr ⟨y, List.mem_cons_of_mem _ hy, h3⟩
  exact key _ t (Nat.le_refl _)

theorem noCr_app {a b : Bs} (ha : noCr a) (hb : noCr b) : noCr (a ++ b) := by
  intro c hc
  rcases List.mem_append.1 hc with h | h
  · exact ha c h
  · exact hb c h
theorem name_cr {s : Bs} (h : isName s) : noCr s := by
  intro c hc e
  subst e
  have := h.2.2 13 hc
  unfold nameC at this
  revert this; decide
theorem val_cr {s : Bs} (h : isVal s) : noCr s := by
  intro c hc e
  subst e
  have := h.1 13 hc
  unfold valC at this
  revert this; decide
theorem lineF_cr {f : Fld} (h : isName f.n ∧ isVal f.v) : noCr (lineF f) := by
  unfold lineF
  refine noCr_app (noCr_app (name_cr h.1) (by intro c hc; simp at hc; subst hc; decide)) ?_
  split
  · intro c hc; simp at hc
  · intro c hc
    rcases List.mem_cons.1 hc with rfl | hc
    · decide
    · exact val_cr h.2 c hc
/-- Lines that are written are read as lines. -/
theorem emit_lines (os : List Bs) (r : Bs) (h : ∀ s ∈ os, noCr s) : ∀ a, ∃ L : List Ln, lnS a (emit os ++ r) = L ++ lnS (a + (emit os).length) r ∧ L.map Ln.s = os ∧ (∀ x ∈ L, x.w = true) := by
  induction os with
  | nil => intro a; exact ⟨[], by simp [emit], rfl, by simp⟩
  | cons s os ih =>
    intro a
    obtain ⟨L, h1, h2, h3⟩ := ih (fun t ht => h t (by simp [ht])) (a + s.length + 2)
    refine ⟨⟨a, s, true⟩ :: L, ?_, by rw [List.map_cons, h2], ?_⟩
    · have e : emit (s :: os) ++ r = s ++ crlf ++ (emit os ++ r) := by simp [emit]
      rw [e, lnS_cat (noCr_pair (h s (by simp))), h1]
      have : a + s.length + 2 + (emit os).length = a + (emit (s :: os)).length := by simp [emit, crlf]; omega
      rw [this]; rfl
    · intro x hx
      rcases List.mem_cons.1 hx with rfl | hx
      · rfl
      · exact h3 x hx
theorem fold_tail {s : Bs} {f : Nat} {o : List Bs} (h : FoldR s f o) : f = 1 → s.head?.map blankC = some true → ∀ x ∈ o, x.head?.map blankC = some true := by
  induction h with
  | stop => intro _ hs x hx; simp at hx; subst hx; exact hs
  | @step s f k out h hp ho ih =>
    intro hf hs x hx
    subst hf
    rcases List.mem_cons.1 hx with rfl | hx
    · obtain ⟨h1, _⟩ := hp
      cases s with
      | nil => simp at hs
      | cons a s =>
        cases k with
        | zero => omega
        | succ k => simpa using hs
    · refine ih rfl ?_ x hx
      rw [List.head?_drop, hp.2.2.1]
      rfl
/-- A folded line: the first one holds the beginning, all others begin with a blank. -/
theorem fold_head {s : Bs} {f : Nat} {o : List Bs} (h : FoldR s f o) (hf : f ≤ s.length + 2) : ∃ (a : Bs) (os : List Bs), o = a :: os ∧ (∀ x ∈ os, x.head?.map blankC = some true) ∧ a ++ os.flatten = s ∧ (os = [] ∨ f ≤ a.length) := by
  cases h with
  | stop h => exact ⟨s, [], rfl, by simp, by simp, .inl rfl⟩
  | @step _ _ k out h hp ho =>
    refine ⟨s.take k, out, rfl, fold_tail ho rfl ?_, ?_, .inr ?_⟩
    · rw [List.head?_drop, hp.2.2.1]; rfl
    · rw [ho.flat, List.take_append_drop]
    · have := hp.1; have := hp.2.1; simp; omega
theorem blank_all (n : Nat) (L : List Ln) (xs : List Ln) (l : List Fld) (a : Nat) (nm : Bs) : ∀ (v : Bs), (∀ x ∈ L, x.w = true ∧ ¬ 998 < x.s.length ∧ x.s.head?.map blankC = some true) → hdrG n (L ++ xs) l (some ⟨a, nm, v⟩) = hdrG n xs l (some ⟨a, nm, v ++ (L.map Ln.s).flatten⟩) := by
  induction L with
  | nil => intro v _; simp
  | cons x L ih =>
    intro v h
    obtain ⟨h1, h2, h3⟩ := h x (by simp)
    rw [List.cons_append, hdrG_b1 h1 h2 h3, ih _ (fun y hy => h y (by simp [hy]))]
    simp
theorem headT_app {n r : Bs} (h : ∀ c ∈ n, c ≠ 58) : headT (n ++ 58 :: r) 58 = n := by
  unfold headT
  rw [List.takeWhile_append_of_pos (fun c hc => by simpa using h c hc)]
  simp
theorem trim_sp {v : Bs} (h : trim v = v) : trim (if v = [] then [] else 32 :: v) = v := by
  split
  · rename_i e; subst e; rfl
  · have : trim (32 :: v) = trim v := by
      unfold trim
      have : trimL (32 :: v) = trimL v := by unfold trimL; rw [List.dropWhile_cons]; rfl
      rw [this]
    rw [this, h]
/-- A field's lines. -/
theorem fld_lines {f : Fld} (hf : isName f.n ∧ isVal f.v) {o : List Bs} (ho : FoldR (lineF f) (f.n.length + 3) o) (h9 : ∀ s ∈ o, s.length ≤ 998) {n : Nat} {L : List Ln} (hL : L.map Ln.s = o) (hw : ∀ x ∈ L, x.w = true) (xs : List Ln) (l l1 : List Fld) (q : Option Opn) (hs : shutG l q = some l1) :
    ∃ a, hdrG n (L ++ xs) l q = hdrG n xs l1 (some ⟨a, f.n, if f.v = [] then [] else 32 :: f.v⟩) := by
  have hlen : (lineF f).length = f.n.length + 1 + (if f.v = [] then [] else 32 :: f.v).length := by simp [lineF]; omega
  obtain ⟨a, os, rfl, h1, h2, h3⟩ := fold_head ho (by
    rw [hlen]; split <;> simp <;> omega)
  cases L with
  | nil => simp at hL
  | cons x L =>
    simp only [List.map_cons, List.cons.injEq] at hL
    obtain ⟨hx, hL⟩ := hL
    have hxw := hw x (by simp)
    have hx9 : ¬ 998 < x.s.length := by have := h9 a (by simp); rw [hx]; omega
    obtain ⟨c0, nt, hn0⟩ : ∃ c0 nt, f.n = c0 :: nt := by
      cases e : f.n with
      | nil => have := hf.1.1; rw [e] at this; simp at this
      | cons c t => exact ⟨c, t, rfl⟩
    obtain ⟨r, hr⟩ : ∃ r, a = f.n ++ 58 :: r := by
      have e : lineF f = f.n ++ 58 :: (if f.v = [] then [] else 32 :: f.v) := by simp [lineF]
      rw [e] at h2
      rcases List.append_eq_append_iff.1 h2 with ⟨u, h4, h5⟩ | ⟨u, h4, h5⟩
      · cases u with
        | nil =>
          exfalso
          rw [List.append_nil] at h4
          rcases h3 with h3 | h3
          · subst h3; simp at h5
          · rw [← h4] at h3; omega
        | cons d u =>
          exfalso
          rcases h3 with h3 | h3
          · subst h3; simp at h5
          · rw [h4] at h3; simp at h3; omega
      · cases u with
        | nil =>
          exfalso
          rw [List.append_nil] at h4
          rcases h3 with h3 | h3
          · subst h3; simp at h5
          · rw [h4] at h3; omega
        | cons d u =>
          simp at h5
          exact ⟨u, by rw [h4, h5.1]⟩
    have hno : ∀ c ∈ f.n, c ≠ 58 := fun c hc e => (hf.1.2.2 c hc).2.2 (by rw [e]; rfl)
    have hht : headT x.s 58 = f.n := by rw [hx, hr]; exact headT_app hno
    have hnb : ¬ (x.s.head?.map blankC) = some true := by
      rw [hx, hr, hn0]
      simp only [List.cons_append, List.head?_cons, Option.map_some, Option.some.injEq, Bool.not_eq_true]
      have := hf.1.2.2 c0 (by rw [hn0]; simp)
      unfold nameC at this
      unfold blankC
      simp; omega
    have hne : x.s ≠ [] := by rw [hx, hr, hn0]; simp
    refine ⟨x.a, ?_⟩
    rw [List.cons_append, hdrG_open hxw hx9 hnb hs hne (by rw [hht, hx, hr]; simp; exact hf.1), hht]
    rw [blank_all n L xs l1 x.a f.n _ (fun y hy => ⟨hw y (by simp [hy]), by have := h9 y.s (by rw [List.mem_cons, ← hL]; exact .inr (List.mem_map_of_mem hy)); omega, h1 y.s (by rw [← hL]; exact List.mem_map_of_mem hy)⟩)]
    have e : x.s.drop (f.n.length + 1) ++ (L.map Ln.s).flatten = if f.v = [] then [] else 32 :: f.v := by
      have e : lineF f = f.n ++ 58 :: (if f.v = [] then [] else 32 :: f.v) := by simp [lineF]
      rw [e, hr] at h2
      rw [hx, hr, hL]
      simp at h2
      simp [h2]
    rw [e]
/-- A header that is written is read. -/
theorem folds_back {l : List Fld} {os : List Bs} (ho : FoldsR l os) {n : Nat} : (∀ f ∈ l, isName f.n ∧ isVal f.v) → l.length ≤ 128 → (∀ s ∈ os, s.length ≤ 998) → ∀ (L : List Ln), L.map Ln.s = os → (∀ x ∈ L, x.w = true) → ∀ xs : List Ln,
    ∃ (l0 : List Fld) (q : Option Opn), shutG l0 q = some l ∧ hdrG n (L ++ xs) [] none = hdrG n xs l0 q := by
  induction ho with
  | nil =>
    intro _ _ _ L hL _ xs
    obtain rfl : L = [] := by simpa using hL
    exact ⟨[], none, rfl, rfl⟩
  | @snoc l f o os h hf ih =>
    intro hb hl h9 L hL hw xs
    obtain ⟨L1, L2, rfl, h1, h2⟩ := List.map_eq_append_iff.1 hL
    obtain ⟨l0, q, hs, he⟩ := ih (fun g hg => hb g (by simp [hg])) (by simp at hl; omega) (fun s hs => h9 s (by simp [hs])) L1 h1 (fun x hx => hw x (by simp [hx])) (L2 ++ xs)
    obtain ⟨a, ha⟩ := fld_lines (hb f (by simp)) hf (fun s hs => h9 s (by simp [hs])) (n := n) h2 (fun x hx => hw x (by simp [hx])) xs l0 l q hs
    refine ⟨l, _, ?_, by rw [List.append_assoc, he, ha]⟩
    have hv := (hb f (by simp)).2
    unfold shutG
    simp only [trim_sp hv.2.2]
    rw [if_pos ⟨hv, by simp at hl; omega⟩]
theorem FoldsR.cr {l : List Fld} {os : List Bs} (h : FoldsR l os) : (∀ f ∈ l, isName f.n ∧ isVal f.v) → ∀ s ∈ os, noCr s := by
  induction h with
  | nil => intro _ s hs; cases hs
  | @snoc l f o os h hf ih =>
    intro hb s hs
    rcases List.mem_append.1 hs with h1 | h1
    · exact ih (fun g hg => hb g (by simp [hg])) s h1
    · intro c hc
      exact lineF_cr (hb f (by simp)) c (by rw [← hf.flat]; exact List.mem_flatten.2 ⟨s, h1, hc⟩)
theorem hdr_back {l : List Fld} {hd : Bs} (h : hdO l = some hd) (n : Nat) (body : Bs) : hdrG n (lnS 0 (hd ++ body)) [] none = .ok l hd.length := by
  unfold hdO at h
  split at h
  · rename_i hex
    have hw := hex.choose_spec
    cases h
    obtain ⟨b, hb⟩ : ∃ b, b = hex.choose := ⟨_, rfl⟩
    rw [← hb] at hw ⊢
    cases hw with
    | ok h hbb os ho h9 =>
      obtain ⟨L, h1, h2, h3⟩ := emit_lines os (crlf ++ body) (ho.cr hbb) 0
      rw [List.append_assoc, h1]
      have h4 : lnS (0 + (emit os).length) (crlf ++ body) = ⟨0 + (emit os).length, [], true⟩ :: lnS (0 + (emit os).length + 2) body := by
        have := lnS_cat (s := []) (by intro i hp; simp [pairAt] at hp) (0 + (emit os).length) body
        simpa using this
      rw [h4]
      obtain ⟨l0, q, hs, he⟩ := folds_back ho (n := n) hbb h h9 L h2 h3 (⟨0 + (emit os).length, [], true⟩ :: lnS (0 + (emit os).length + 2) body)
      rw [he, hdrG_end rfl rfl hs]
      simp [crlf]
  · cases h
end Go.Proofs.Try

/- Laws: a tree that is written is read as it was. -/
namespace Go.Proofs.Try
open Go Go.SL
set_option linter.unusedVariables false

theorem edge_no {s b : Bs} (h : ¬ dash2 ++ b <+: s) : edgeC s b = 0 := by unfold edgeC edgeG; rw [if_neg h]
theorem edge_nil (b : Bs) : edgeC [] b = 0 := edge_no (by rintro ⟨r, hr⟩; simp [dash2] at hr)
theorem beh_self (a b : Bs) : behind (a ++ b) a = b := by unfold behind; rw [if_pos (List.prefix_append a b), List.drop_left]
theorem edge_one (b : Bs) : edgeC (dash2 ++ b) b = 1 := by
  unfold edgeC edgeG
  rw [if_pos (List.prefix_refl _)]
  have h1 : behind (dash2 ++ b) (dash2 ++ b) = [] := by have := beh_self (dash2 ++ b) []; simpa using this
  rw [h1]
  rfl
theorem edge_two (b : Bs) : edgeC (dash2 ++ b ++ dash2) b = 2 := by
  unfold edgeC edgeG
  rw [if_pos (List.prefix_append _ _), beh_self]
  rfl
/-- A knot's content. -/
def knotT (b : Bs) : List Bs → Bs
  | [] => dash2 ++ b ++ dash2 ++ crlf
  | t :: ts => dash2 ++ b ++ crlf ++ t ++ crlf ++ knotT b ts
theorem cut_skip {l b : Bs} (xs : List Ln) (fr : Option Nat) (out : List Bs) : ∀ L : List Ln, (∀ x ∈ L, edgeC x.s b = 0) → cutG l b (L ++ xs) fr out = cutG l b xs fr out := by
  intro L
  induction L with
  | nil => intro _; rfl
  | cons x L ih =>
    intro h
    rw [List.cons_append, cutG, if_pos (h x (by simp)), ih fun y hy => h y (by simp [hy])]
theorem outN_at {l : Bs} {x y : Ln} (h : x.a = y.a) (fr : Option Nat) (out : List Bs) : outN l x fr out = outN l y fr out := by unfold outN; rw [h]
theorem cut_back {b : Bs} (hb : noCr b) : ∀ (ts : List Bs) (pre : Bs) (fr : Option Nat) (out : List Bs), (∀ t ∈ ts, ¬ begR t (dash2 ++ b)) →
    cutG (pre ++ knotT b ts) b (lnS pre.length (knotT b ts)) fr out = some (outN (pre ++ knotT b ts) ⟨pre.length, [], true⟩ fr out ++ ts) := by
  intro ts
  induction ts with
  | nil =>
    intro pre fr out _
    have h1 : lnS pre.length (knotT b []) = ⟨pre.length, dash2 ++ b ++ dash2, true⟩ :: lnS (pre.length + (dash2 ++ b ++ dash2).length + 2) [] := by
      have := lnS_cat (noCr_pair (noCr_app (dash_cr hb) dash_cr0)) pre.length []
      simpa [knotT] using this
    rw [h1, cutG, edge_two]
    simp only [List.append_nil]
    rw [if_neg (by decide), if_pos trivial]
    exact congrArg some (outN_at rfl fr out)
  | cons t ts ih =>
    intro pre fr out ht
    obtain ⟨K, hK⟩ : ∃ K, K = knotT b (t :: ts) := ⟨_, rfl⟩
    have e1 : K = (dash2 ++ b) ++ crlf ++ (t ++ crlf ++ knotT b ts) := by rw [hK, knotT]; simp
    have h1 : lnS pre.length K = ⟨pre.length, dash2 ++ b, true⟩ :: lnS (pre.length + (dash2 ++ b).length + 2) (t ++ crlf ++ knotT b ts) := by
      rw [e1, lnS_cat (noCr_pair (dash_cr hb))]
    obtain ⟨L, h2, h3⟩ := lnS_text t (knotT b ts) (pre.length + (dash2 ++ b).length + 2)
    have hno := ht t (by simp)
    have h4 : ∀ x ∈ L, edgeC x.s b = 0 := by
      intro x hx
      rcases h3 x hx with h | ⟨y, hy, h⟩
      · rw [h]; exact edge_nil b
      · rw [h]
        refine edge_no fun hp => hno ?_
        have hm : y.s ∈ (lnS 0 t).map Ln.s := by rw [lnS_s 0 (pre.length + (dash2 ++ b).length + 2) t]; exact List.mem_map_of_mem hy
        obtain ⟨z, hz, hz2⟩ := List.mem_map.1 hm
        exact ⟨z, hz, by rw [hz2]; exact hp⟩
    rw [← hK, h1, h2, cutG, edge_one, if_neg (by decide), if_neg (by decide), cut_skip _ _ _ L h4]
    have hn : nextN ⟨pre.length, dash2 ++ b, true⟩ = pre.length + (dash2 ++ b).length + 2 := rfl
    rw [hn]
    obtain ⟨f, hf⟩ : ∃ f, f = pre.length + (dash2 ++ b).length + 2 := ⟨_, rfl⟩
    obtain ⟨pre2, hpre2⟩ : ∃ pre2, pre2 = pre ++ (dash2 ++ b) ++ crlf ++ t ++ crlf := ⟨_, rfl⟩
    have e2 : pre ++ K = pre2 ++ knotT b ts := by rw [e1, hpre2]; simp
    have e3 : pre2.length = f + t.length + 2 := by rw [hpre2, hf]; simp [crlf]; omega
    rw [← hf, ← e3, e2, ih pre2 _ _ fun u hu => ht u (by simp [hu])]
    have e4 : outN (pre2 ++ knotT b ts) ⟨pre2.length, [], true⟩ (some f) (outN (pre2 ++ knotT b ts) ⟨pre.length, dash2 ++ b, true⟩ fr out) = outN (pre2 ++ knotT b ts) ⟨pre.length, [], true⟩ fr out ++ [t] := by
      rw [outN_at (x := ⟨pre.length, dash2 ++ b, true⟩) (y := ⟨pre.length, [], true⟩) rfl]
      conv => lhs; rw [outN]
      simp only []
      have hm : max (pre2.length - 2) f = f + t.length := by omega
      rw [hm]
      have h5 : pre2 ++ knotT b ts = (pre ++ (dash2 ++ b) ++ crlf ++ t) ++ (crlf ++ knotT b ts) := by rw [hpre2]; simp
      have h6 : (pre ++ (dash2 ++ b) ++ crlf ++ t).length = f + t.length := by rw [hf]; simp [crlf]; omega
      have h7 : (pre ++ (dash2 ++ b) ++ crlf).length = f := by rw [hf]; simp [crlf]; omega
      rw [h5, ← h6, List.take_left, ← h7, List.drop_left]
    rw [e4]
    simp
/-- A knot's parts, one by one, are written. -/
theorem wrRl_knot {b : Bs} : ∀ (ps : List Prt) (hd t : Bs), wrRl ps b hd = some t → ∃ ts : List Bs, t = hd ++ knotT b ts ∧ ts.length = ps.length ∧ (∀ u ∈ ts, ¬ begR u (dash2 ++ b)) ∧ ∀ i (h1 : i < ps.length) (h2 : i < ts.length), wrRt ps[i] = some ts[i] := by
  intro ps
  induction ps with
  | nil =>
    intro hd t h
    rw [wrRl] at h
    cases h
    exact ⟨[], by simp [knotT], rfl, by simp, fun i h1 => by simp at h1⟩
  | cons p ps ih =>
    intro hd t h
    rw [wrRl] at h
    split at h
    · cases h
    · rename_i u hu
      split at h
      · cases h
      · rename_i hnb
        obtain ⟨ts, h1, h2, h3, h4⟩ := ih _ _ h
        refine ⟨u :: ts, by rw [h1, knotT]; simp, by simp [h2], fun v hv => ?_, fun i h5 h6 => ?_⟩
        · rcases List.mem_cons.1 hv with rfl | hv
          · exact hnb
          · exact h3 v hv
        · cases i with
          | zero => exact hu
          | succ i => exact h4 i (by simpa using h5) (by simpa using h6)
theorem rdL_all {f : Bs → Nat → (Int ⊕ Prt) × Nat} : ∀ (ps : List Prt) (ts : List Bs) (c : Nat) (acc : List Prt), ts.length = ps.length → (∀ i (h1 : i < ps.length) (h2 : i < ts.length) c', c' + cntN ps[i] ≤ c + cntN.cntNL ps → f ts[i] c' = (.inr ps[i], c' + cntN ps[i])) →
    rdL f ts c acc = (.inr (acc ++ ps), c + cntN.cntNL ps) := by
  intro ps
  induction ps with
  | nil =>
    intro ts c acc hl _
    obtain rfl := List.eq_nil_of_length_eq_zero hl
    rw [rdL]; simp [cntN.cntNL]
  | cons p ps ih =>
    intro ts c acc hl h
    cases ts with
    | nil => simp at hl
    | cons t ts =>
      have h0 := h 0 (by simp) (by simp) c (by simp [cntN.cntNL])
      simp only [List.getElem_cons_zero] at h0
      rw [rdL, h0]
      simp only []
      rw [ih ts _ _ (by simpa using hl) fun i h1 h2 c' hc => ?_]
      · simp [cntN.cntNL]; omega
      · have := h (i + 1) (by simpa using h1) (by simpa using h2) c' (by simp [cntN.cntNL]; omega)
        simpa using this
theorem cntN_pos (p : Prt) : 0 < cntN p := by cases p; rw [cntN]; omega
theorem dep_pos (p : Prt) : 0 < dep p := by cases p; rw [dep]; exact depL_ge _ _
/-- What is written is read. -/
theorem tree_back (k : Nat) : ∀ (p : Prt) (t : Bs) (c : Nat), wrRt p = some t → dep p ≤ k + 1 → c + cntN p ≤ 64 → rdP k t c = (.inr p, c + cntN p) := by
  induction k with
  | zero =>
    intro p t c h hd hc
    obtain ⟨fs, b, ps⟩ := p
    have hps : ps = [] := by
      cases ps with
      | nil => rfl
      | cons q ps =>
        rw [dep] at hd
        have := depL_mem (p := q) (ps := q :: ps) (by simp) 1
        have := dep_pos q
        omega
    subst hps
    rw [wrRt] at h
    rw [cntN] at hc ⊢
    simp only [cntN.cntNL] at hc ⊢
    split at h
    · cases h
    · rename_i hd' hh
      split at h
      · cases h
      · rename_i hk
        split at h
        · rename_i hm
          simp at h
          subst h
          rw [rdP, if_neg (by omega), hdr_back hh]
          simp only []
          rw [if_neg hk, if_pos hm, List.drop_left]
        · simp at h
  | succ k ih =>
    intro p t c h hd hc
    obtain ⟨fs, b, ps⟩ := p
    rw [wrRt] at h
    rw [cntN] at hc ⊢
    split at h
    · cases h
    · rename_i hd' hh
      split at h
      · cases h
      · rename_i hk
        split at h
        · rename_i hm
          split at h
          · rename_i h0
            obtain rfl := List.eq_nil_of_length_eq_zero h0
            simp at h
            subst h
            simp only [cntN.cntNL] at hc ⊢
            rw [rdP, if_neg (by omega), hdr_back hh]
            simp only []
            rw [if_neg hk, if_pos hm, List.drop_left]
          · cases h
        · rename_i hm
          split at h
          · cases h
          · rename_i hor
            obtain ⟨hbo, hor⟩ := not_or.1 hor
            obtain ⟨hp0, hb0⟩ := not_or.1 hor
            obtain rfl : b = [] := List.eq_nil_of_length_eq_zero (by omega)
            obtain ⟨ts, rfl, h1, h2, h3⟩ := wrRl_knot ps hd' t h
            have hcb := cut_back (b := bord (kindO fs).1.ps) (bord_cr _) ts [] none [] h2
            simp only [List.nil_append, List.length_nil] at hcb
            have hout : outN (knotT (bord (kindO fs).1.ps) ts) ⟨0, [], true⟩ none [] = [] := rfl
            rw [hout, List.nil_append] at hcb
            rw [rdP, if_neg (by omega), hdr_back hh]
            simp only []
            rw [if_neg hk, if_neg hm, if_neg hbo, List.drop_left, hcb]
            simp only []
            rw [if_neg (by omega)]
            rw [rdL_all ps ts (c + 1) [] h1 fun i h4 h5 c' hc' => ?_]
            · simp [finR]; omega
            · refine ih ps[i] ts[i] c' (h3 i h4 h5) ?_ (by omega)
              have := depL_mem (p := ps[i]) (ps := ps) (List.getElem_mem h4) 1
              rw [dep] at hd
              omega
theorem write_parse {p : Prt} {t : Bs} (h : wrR p = some t) : psP t = .inr p := by
  unfold wrR at h
  split at h
  · cases h
  · rename_i hc
    obtain ⟨h1, h2⟩ := not_or.1 hc
    unfold capO at h
    obtain ⟨u, hu, h⟩ := Option.bind_eq_some_iff.1 h
    split at h
    · cases h
    · rename_i hl
      cases h
      unfold psP
      rw [if_neg hl, tree_back 7 p t 0 hu (by omega) (by omega)]
end Go.Proofs.Try

/- Walks: what is written is read as it was; what is read, if it can be written, is read as the same. -/
namespace Go.Proofs.Try
open Go Go.SL
set_option linter.unusedVariables false
set_option linter.unusedSimpArgs false
attribute [local congr] WX_stop WC_stop W_stop
variable [LayerC]
@[simp] theorem muB3 : (cs0.of 3).mu = false := rfl
@[simp] theorem reB3 : (cs0.of 3).reuse = false := rfl
@[simp] theorem muB4 : (cs0.of 4).mu = false := rfl
@[simp] theorem reB4 : (cs0.of 4).reuse = false := rfl
set_option maxRecDepth 100000 in
theorem wBack (m : Nat) (p : Prt) (cs : List CV) (H : Hp) (hp : PV p cs) : Ret prog cs0 m 3 [.agg cs] H (.v (.bool true)) H := by
  have hp0 := hp
  obtain ⟨f, x, q, ch, rfl, hf, hb, hcl, hch1, hrs, hq, hch⟩ := hp.inv
  have of := hf.one
  have ob := hb.one
  have oq := hq.one
  unfold Ret
  rw [WC_drop rfl func3 rfl rfl]
  have c5 := fun H2 => (w5 H.length H2).wc
  obtain ⟨g, hg, h10⟩ := w10 12 (by omega) p H.length [f, x, q] (H ++ [CO.cells 0 [f, x, q] 26]) hp0
  have c10 : ∀ K, WC prog cs0 H.length (.f 6) [.agg [f, x, q], .v (.int .i64 12)] (H ++ [CO.cells 0 [f, x, q] 26]) K ↔ K (.v (.bool g)) (H ++ [CO.cells 0 [f, x, q] 26]) := h10.wc
  cases g with
  | true =>
    simp -implicitDefEqProofs [f3, cells_agg, of, ob, oq, load_aggp underlying26 rfl iT26, c10, c5]
  | false =>
  have hng : ¬ grT 12 p := fun h => by have := hg.2 h; cases this
  obtain ⟨hlin, hdep⟩ := not_great 12 p hng
  have h11 := w11 H.length p 80 [f, x, q] (H ++ [CO.cells 0 [f, x, q] 26]) hlin.lim (by omega) hp0
  have c11 := h11.wc
  by_cases hfew : cntW p ≤ 80
  case neg =>
    simp -implicitDefEqProofs [f3, cells_agg, of, ob, oq, load_aggp underlying26 rfl iT26, c10, c11, c5, hfew]
  simp -implicitDefEqProofs [f3, cells_agg, of, ob, oq, load_aggp underlying26 rfl iT26, c10, c11, c5, hfew]
  refine WC_mono (w12 p hlin _ [f, x, q] _ hp0) ?_
  rintro y1 H2 ⟨e2, hy1⟩
  rw [e2]
  clear e2 H2
  rw [wr_law] at hy1
  have hln : ∀ H, dLenS prog 23 nilC H = some (.v (.int .i64 0)) := fun H => dLenS_nil underlying23 0 0 H
  cases ho : wrR p with
  | none =>
    rw [ho] at hy1
    obtain rfl : y1 = .tup [nilC, .v (.int .i64 81)] := hy1
    simp -implicitDefEqProofs [dExtract, c5, hln]
  | some t =>
    rw [ho] at hy1
    obtain ⟨htl, z, hz, rfl⟩ := hy1
    have uz := hz.unl
    simp -implicitDefEqProofs [dExtract, uz]
    refine WC_mono (w7 _ z t _ (hz.rb _)) ?_
    rintro y2 H2 ⟨e2, hy2⟩
    rw [e2]
    clear e2 H2
    rw [write_parse ho] at hy2
    obtain ⟨cs2, hp2, rfl⟩ := hy2
    have c9 : ∀ H2 K, WC prog cs0 H.length (.f 11) [.agg [f, x, q], .agg cs2] H2 K ↔ K (.v (.bool true)) H2 := by
      intro H2
      obtain ⟨r, hr, h9⟩ := w9 p hlin.lim p H.length [f, x, q] cs2 H2 hp0 hp2
      rw [hr.2 rfl] at h9; exact h9.wc
    obtain ⟨u1, u2, u3, ch2, rfl, g1, g2, -, -, -, g3, -⟩ := hp2.inv
    have o1 := g1.one
    have o2 := g2.one
    have o3 := g3.one
    have hst : ∀ k x off, stQ H.length (.ptr (H.length + k) 0 off) x = true := fun k x off => by simp [stQ]
    simp -implicitDefEqProofs [aQ, dAlloc, dExtract, store_at iT26, cells_agg, o1, o2, o3, hst, c5, load_aggp underlying26 rfl iT26, c9]
theorem lim_nil : Lim (.mk [] [] []) := .mk (by simp) (by simp) (by simp) (by simp) (by simp)
theorem pv_nil : PV (.mk [] [] []) [nilC, nilC, nilC] := PV.of (fs := []) (.inr ⟨rfl, rfl, rfl⟩) (.inr ⟨rfl, rfl, rfl⟩) PVs.nil (.inr ⟨rfl, rfl, rfl⟩)
set_option maxRecDepth 100000 in
theorem wAgain (m : Nat) (x : CV) (b : Bs) (H : Hp) (hx : CB x b) : Ret prog cs0 m 4 [x] H (.v (.bool true)) H := by
  unfold Ret
  rw [WC_drop rfl func4 rfl rfl]
  have ux := hx.unl
  have hlen := fun H => (hx.rb H).len (P := prog) underlying23
  have c5 := fun H2 => (w5 H.length H2).wc
  by_cases hbig : 8000 < b.length
  · simp -implicitDefEqProofs [f4, ux, hlen, hbig, c5]
  have hst : ∀ k x off, stQ H.length (.ptr (H.length + k) 0 off) x = true := fun k x off => by simp [stQ]
  have hst0 : ∀ x off, stQ H.length (.ptr H.length 0 off) x = true := fun x off => by simp [stQ]
  simp -implicitDefEqProofs [f4, ux, hlen, hbig]
  refine WC_mono (w7 _ _ b _ (hx.rb _)) ?_
  rintro y1 H2 ⟨e2, hy1⟩
  rw [e2]
  clear e2 H2
  cases hps : psP b with
  | inl e =>
    rw [hps] at hy1
    obtain ⟨he, rfl⟩ := hy1
    have c9 : ∀ H2 K, WC prog cs0 H.length (.f 11) [.agg [nilC, nilC, nilC], .agg [nilC, nilC, nilC]] H2 K ↔ K (.v (.bool true)) H2 := by
      intro H2
      obtain ⟨r, hr, h9⟩ := w9 _ lim_nil _ H.length _ _ H2 pv_nil pv_nil
      rw [hr.2 rfl] at h9; exact h9.wc
    simp -implicitDefEqProofs [aQ, dAlloc, dExtract, store_at iT26, cells_agg, hst, hst0, load_aggp underlying26 rfl iT26, c5, c9, he, b26_0]
  | inr p =>
    rw [hps] at hy1
    obtain ⟨cs1, hp1, rfl⟩ := hy1
    have hp0 := hp1
    have hlin := ps_lin (by omega) hps
    obtain ⟨v1, v2, v3, ch, rfl, g1, g2, -, -, -, g3, -⟩ := hp1.inv
    have o1 := g1.one
    have o2 := g2.one
    have o3 := g3.one
    simp -implicitDefEqProofs [aQ, dAlloc, dExtract, store_at iT26, cells_agg, o1, o2, o3, hst, hst0, load_aggp underlying26 rfl iT26]
    refine WC_mono (w12 p hlin _ [v1, v2, v3] _ hp0) ?_
    rintro y1 H2 ⟨e2, hy1⟩
    rw [e2]
    clear e2 H2
    rw [wr_law] at hy1
    cases ho : wrR p with
    | none =>
      rw [ho] at hy1
      obtain rfl : y1 = .tup [nilC, .v (.int .i64 81)] := hy1
      simp -implicitDefEqProofs [dExtract, c5]
    | some t =>
      rw [ho] at hy1
      obtain ⟨htl, z, hz, rfl⟩ := hy1
      have uz := hz.unl
      simp -implicitDefEqProofs [dExtract, uz]
      refine WC_mono (w7 _ z t _ (hz.rb _)) ?_
      rintro y2 H2 ⟨e2, hy2⟩
      rw [e2]
      clear e2 H2
      rw [write_parse ho] at hy2
      obtain ⟨cs2, hp2, rfl⟩ := hy2
      have c9 : ∀ H2 K, WC prog cs0 H.length (.f 11) [.agg [v1, v2, v3], .agg cs2] H2 K ↔ K (.v (.bool true)) H2 := by
        intro H2
        obtain ⟨r, hr, h9⟩ := w9 p hlin.lim p H.length [v1, v2, v3] cs2 H2 hp0 hp2
        rw [hr.2 rfl] at h9; exact h9.wc
      obtain ⟨u1, u2, u3, ch2, rfl, g1', g2', -, -, -, g3', -⟩ := hp2.inv
      have o1' := g1'.one
      have o2' := g2'.one
      have o3' := g3'.one
      simp -implicitDefEqProofs [aQ, dAlloc, dExtract, store_at iT26, cells_agg, o1, o2, o3, o1', o2', o3', hst, hst0, c5, load_aggp underlying26 rfl iT26, c9]
end Go.Proofs.Try

/- Walks: the statement PartsEncoded. -/
namespace Go.Proofs.Try
open Go Go.SL
set_option linter.unusedVariables false
set_option linter.unusedSimpArgs false
attribute [local congr] WX_stop WC_stop W_stop
def cteLow : Bs := [99, 111, 110, 116, 101, 110, 116, 45, 116, 114, 97, 110, 115, 102, 101, 114, 45, 101, 110, 99, 111, 100, 105, 110, 103]
def tB64U : Bs := [66, 65, 83, 69, 54, 52]
theorem cteLowE : str [99, 111, 110, 116, 101, 110, 116, 45, 116, 114, 97, 110, 115, 102, 101, 114, 45, 101, 110, 99, 111, 100, 105, 110, 103] = str cteLow := rfl
theorem tB64UE : str [66, 65, 83, 69, 54, 52] = str tB64U := rfl
theorem cont64 (b : Bs) (hb : b.length ≤ 2000) : contR (.mk [⟨cteLow, tB64U⟩] (encF 0 b) []) = some b := by
  have hv : fall (Prt.mk [⟨cteLow, tB64U⟩] (encF 0 b) []).fs cteName = [tB64U] := by
    show fall [⟨cteLow, tB64U⟩] cteName = [tB64U]
    decide
  unfold contR
  simp only [hv]
  rw [if_neg (by decide), if_pos (by decide)]
  show okO (decB (encF 0 b)) = some b
  rw [dec_enc b hb]; rfl
theorem contQP (text : Bool) (b : Bs) (hb : b.length ≤ 2000) : contR (.mk [⟨cteName, tQP⟩] (qE text b.length 0 b) []) = some b := by
  have hv : fall (Prt.mk [⟨cteName, tQP⟩] (qE text b.length 0 b) []).fs cteName = [tQP] := by
    show fall [⟨cteName, tQP⟩] cteName = [tQP]
    decide
  unfold contR
  simp only [hv]
  rw [if_neg (by decide), if_neg (by decide), if_pos (by decide)]
  show okO (qdec (qE text b.length 0 b)) = some b
  rw [qdec_enc text b hb]; rfl
theorem b26_01 (x y : CV) (hx : cvCells x = some [x]) (hy : cvCells y = some [y]) : dBuild prog 26 [(0, x), (1, y)] = some (.agg [x, y, nilC]) := by
  simp [dBuild, underlying26, places, fillC, hx, hy]
theorem lim1 (f : Fld) (x : Bs) (hf : f.n.length ≤ 1000000 ∧ f.v.length ≤ 1000000) (hx : x.length ≤ 1000000) : Lim (.mk [f] x []) := .mk (by simp) (by simpa using hf) hx (by simp) (by simp)
variable [LayerC]
set_option maxRecDepth 100000 in
theorem wEnc (m : Nat) (x : CV) (b : Bs) (text : Bool) (H : Hp) (hx : CB x b) : Ret prog cs0 m 5 [x, .v (.bool text)] H (.v (.bool true)) H := by
  unfold Ret
  rw [WC_drop rfl func5 rfl rfl]
  have ux := hx.unl
  have hlen := fun H => (hx.rb H).len (P := prog) underlying23
  have c8 := fun H2 => (w5 H.length H2).wc
  by_cases hbig : 2000 < b.length
  · simp -implicitDefEqProofs [f5, ux, hlen, hbig, c8]
  have c12 := fun m H => (e12 m x b H (hx.rb H) (by omega)).wc
  have c13 := fun m H => (e13 m x b text H (hx.rb H) (by omega)).wc
  have el := encF_len _ b 0 (Nat.le_refl _)
  have ql := qE_len text b.length b 0
  have hp1 : PV (.mk [⟨cteLow, tB64U⟩] (encF 0 b) []) [.im [str cteLow, str tB64U] 1 2, byt (encF 0 b), nilC] := PV.of (fs := [⟨cteLow, tB64U⟩]) (.inl rfl) (.inl rfl) PVs.nil (.inr ⟨rfl, rfl, rfl⟩)
  have hp2 : PV (.mk [⟨cteName, tQP⟩] (qE text b.length 0 b) []) [.im [str cteName, str tQP] 1 2, byt (qE text b.length 0 b), nilC] := PV.of (fs := [⟨cteName, tQP⟩]) (.inl rfl) (.inl rfl) PVs.nil (.inr ⟨rfl, rfl, rfl⟩)
  have hcv : ∀ H, cvt prog false 23 9 x H = some (str b, H) := fun H => (hx.rb H).str false underlying23 underlying9 underlying5
  have h30 : ∀ a b H, dBuildSlice prog 22 1 [(0, .agg [str a, str b])] H false = some (.im [str a, str b] 1 2, H) := fun a b H => mkA1 underlying22 (by simp [underlying41, isU8]) iT41 zT41 rfl sT41 (by omega) (by omega) rfl rfl rfl H
  have hsb : ∀ l H, cvt prog false 9 23 (str l) H = some (byt l, H) := fun l H => cvt_s2b' underlying9 underlying23 underlying5 l H
  have b1 : ∀ a b l, dBuild prog 26 [(0, .im [str a, str b] 1 2), (1, byt l)] = some (.agg [.im [str a, str b] 1 2, byt l, nilC]) := fun a b l => b26_01 _ _ rfl rfl
  simp -implicitDefEqProofs [f5, ux, hlen, hbig, c12, c13, dExtract, cteLowE, tB64UE, nameE, tqE, b41_2, h30, hsb, b1]
  refine WC_mono (e14 _ _ _ _ hp1 (lim1 _ _ (by decide) (by omega))) ?_
  rintro y1 H2 ⟨e1, hy1⟩
  rw [e1]
  clear e1 H2
  rw [cont64 b (by omega)] at hy1
  obtain ⟨z1, hz1, rfl⟩ := hy1
  have uz1 := hz1.unl
  have hc1 : ∀ H, cvt prog false 23 9 z1 H = some (str b, H) := fun H => (hz1.rb H).str false underlying23 underlying9 underlying5
  simp -implicitDefEqProofs [uz1, dExtract, cteLowE, tB64UE, nameE, tqE, b41_2, h30, hsb, b1]
  refine WC_mono (e14 _ _ _ _ hp2 (lim1 _ _ (by decide) (by omega))) ?_
  rintro y2 H2 ⟨e2, hy2⟩
  rw [e2]
  clear e2 H2
  rw [contQP text b (by omega)] at hy2
  obtain ⟨z2, hz2, rfl⟩ := hy2
  have uz2 := hz2.unl
  have hc2 : ∀ H, cvt prog false 23 9 z2 H = some (str b, H) := fun H => (hz2.rb H).str false underlying23 underlying9 underlying5
  simp -implicitDefEqProofs [ux, uz1, uz2, hc1, hc2, hcv, dExtract, c8]
end Go.Proofs.Try

/- What all laws of this seat ask of the program and the first world. -/
namespace Go.Proofs.Ytkodlakpjpmbiaa
open Go.ChangeShapes Go.WideShapes Go.ChangeAt Go.RowKit
set_option linter.unusedVariables false

theorem Try.own : ownKnob Try.prog.godebug = none := by kernel_rfl
theorem Try.laidOut : laidOutB Try.prog = true := by kernel_rfl
theorem max_cell {W : World} (h : W.ShapedOpen Try.prog) : ∃ m, W.cell? ⟨0, 0, none⟩ = some (.int .i64 m) :=
  cell_of_shapedOpen_int (t := 3) (zero := #[.int .i64 0]) h (of_decide_eq_true (by kernel_rfl)) (by kernel_rfl) rfl (by kernel_rfl) (by kernel_rfl) Try.underlying3
end Go.Proofs.Ytkodlakpjpmbiaa

/- The law PartsEncoded: for every input the call returns true, and the arguments read behind it as they did. -/
namespace Go.Proofs.Ytkodlakpjpmbiaa
open Go.ChangeShapes Go.WideShapes Go.ChangeAt Go.RowKit
set_option linter.unusedVariables false

set_option maxRecDepth 100000 in
theorem enc_lifted (os : Os) (started : os.Started) (H : Type) (enc : TypeId × Value → H) :
    ReturnsInHanded {} Try.checked os 5 .any (Rows.partsEncodedSpec.pre6 enc Try.prog Try.f5 Rows.partsEncodedRow.domain false) (Rows.partsEncodedSpec.post enc Try.prog Try.f5 false true false false) := by
  refine returnsInHanded_of_change_shaped (C := Try.checked) Try.own started (by kernel_rfl) Try.func5
    (ChangeSpec.witness6 (enc := enc) (C := Try.checked) false ⟨#[], #[.slice none 0 0, .bool false], []⟩ 8 (by kernel_rfl) (by kernel_rfl) (by kernel_rfl) (by kernel_rfl)) ?_
  intro W base args ds gs before hval0 hW hcnd _ hsh _
  have hval : ∀ (j : Nat) t v, Try.f5.params[j]? = some t → args[j]? = some v → Value.okWide Try.prog W .any base t v := hval0
  have hW' := hW
  obtain ⟨p, q, hA0, hV, rfl, hfz, hnd⟩ := hW
  have hA : DataW.TrodAll enc Try.prog W 0 (fun _ => true) true Try.f5.params.toList args.toList ds p := hA0
  rw [Try.params5] at hA hval
  obtain ⟨v0, vs0, d0, ds0, p0, q0, hargs, rfl, rfl, h0, r0⟩ := trodAll_cons hA
  obtain ⟨v1, vs1, d1, ds1, p1, q1, hargs1, rfl, rfl, h1, r1⟩ := trodAll_cons r0
  subst hargs1
  obtain ⟨rfl, rfl, rfl⟩ := trodAll_nil r1
  obtain rfl : args = #[v0, v1] := by cases args; simp_all
  obtain ⟨rfl, rfl⟩ := trodVars_none hV
  have hok := hval 0 23 v0 rfl rfl
  have hok1 := hval 1 4 v1 rfl rfl
  obtain ⟨b1, rfl, rfl, rfl⟩ := open_bool Try.underlying4 hok1 h1
  obtain ⟨a0, len0, cap0, rfl⟩ := okWide_slice Try.underlying23 hok
  have k0 := h0
  have lt0 : ∀ x ∈ p0, x.block < W.heap.size := by obtain ⟨m, hm⟩ := k0; exact DataW.trod_lt m _ _ _ hm
  obtain ⟨zs, hz⟩ : ∃ zs : List Int, (a0 = none ∧ len0 = 0 ∧ cap0 = 0) ∨ ∃ x, a0 = some x ∧ x.spot = none ∧ len0 ≤ cap0 ∧ zs.length = cap0 ∧ (∀ i, i < zs.length → W.cell? (x.add i) = some (.int .u8 (zs.getD i 0))) ∧ ∀ n ∈ zs, 0 ≤ n ∧ n < 256 := by
    obtain ⟨fuel, hf⟩ := h0
    rcases open_ints Try.underlying23 Try.underlying5 (by kernel_rfl) hf with ⟨hcs, _⟩ | ⟨x, l, c, zs, hcs, _, hl, hm, hz, _, hcell, hwz⟩
    · simp [Value.cells] at hcs
      obtain ⟨rfl, rfl, rfl⟩ := hcs
      exact ⟨[], .inl ⟨rfl, rfl, rfl⟩⟩
    · simp [Value.cells] at hcs
      obtain ⟨rfl, rfl, rfl⟩ := hcs
      refine ⟨zs, .inr ⟨_, rfl, ?_, hl, by simpa using hz, hcell, fun n hn => ?_⟩⟩
      · have : W.has Try.prog .any base x 5 cap0 := by
          simp only [Value.okWide, Try.underlying23, Cell.okWide, Cell.ok] at hok
          exact hok.2.2
        exact this.2.1
      · have := hwz n hn
        simp [Lit.wf, IntKind.min, IntKind.max, IntKind.signed, IntKind.bits] at this
        omega
  obtain ⟨x, b, hx, hvr⟩ := Go.Proofs.Try.byt_vr hz
  obtain ⟨mx, hmx⟩ := max_cell hsh
  refine (Go.Proofs.Try.law_calls (mx := mx) (xs := [x, .v (.bool b1)]) Try.func5 (by intro h; cases h) hmx ⟨rfl, fun i hi hi' => by
    have : i = 0 ∨ i = 1 := by simp at hi; omega
    rcases this with rfl | rfl
    · exact hvr
    · exact .cl (.v rfl)⟩ (@Go.Proofs.Try.wEnc Go.Proofs.Try.L1 0 x b b1 [] hx)).mono fun e W' ⟨he, bel⟩ => ?_
  subst he
  exact ⟨_, rfl, _, _, _, [], _, [], hW', trodAll_mk1 (shut_bool Try.underlying4 _), (trodAll_cons_mk (Below.trod Try.laidOut (by kernel_rfl) (of_decide_eq_true (by kernel_rfl)) k0 bel lt0) (trodAll_cons_mk (shut_bool Try.underlying4 _) trodAll_mk0)), rfl, bel.frame _, fun h => by cases h⟩
theorem partsEncoded_holds : Rows.PartsEncodedSaid :=
  OpenClaim.holds_of_wide 5 Try.f5 rfl rfl rfl rfl rfl rfl rfl ⟨rfl, rfl, rfl, rfl, rfl⟩ rfl rfl rfl rfl rfl (by kernel_rfl) Try.func5 (by kernel_rfl)
    (of_decide_eq_true (by kernel_rfl)) (by unfold Func.isWrapper; first | (rw [if_pos (by decide +kernel)]; kernel_rfl) | (rw [if_neg (by decide +kernel)]; exact ⟨rfl, rfl⟩))
    (fun os started H enc _ => enc_lifted os started H enc)
end Go.Proofs.Ytkodlakpjpmbiaa

/- Walks: quoted.Decode. -/
import Derived.Test.YtkodlakpjpmbiaaGreatDoorKAM
import Derived.Test.YtkodlakpjpmbiaaGreatDoorKAL

set_option linter.all false

namespace Go.Proofs.Tryz
open Go Go.SL
set_option linter.unusedVariables false
set_option linter.unusedSimpArgs false
attribute [local congr] WX_stop WC_stop W_stop
/-- Lines are read. -/
def qD : Nat → Bs → Nat → Bs → (Nat × Nat) ⊕ Bs
  | 0, _, _, out => .inr out
  | _ + 1, [], _, out => .inr out
  | k + 1, c :: r, i, out =>
    if [13, 10] <+: c :: r then qD k (r.drop 1) (i + 2) (out ++ [13, 10])
    else if c = 61 then
      if [13, 10] <+: r then qD k (r.drop 2) (i + 3) out
      else if 2 ≤ r.length ∧ dgt (r.getD 0 0) ≤ 15 ∧ dgt (r.getD 1 0) ≤ 15 then qD k (r.drop 2) (i + 3) (out ++ [(dgt (r.getD 0 0) * 16 + dgt (r.getD 1 0)).toUInt8])
      else .inl (i, 3)
    else if blankC c = true then
      if (c :: r).dropWhile blankC ≠ [] ∧ ¬ [13, 10] <+: (c :: r).dropWhile blankC then qD k ((c :: r).dropWhile blankC) (i + ((c :: r).takeWhile blankC).length) (out ++ (c :: r).takeWhile blankC)
      else qD k ((c :: r).dropWhile blankC) (i + ((c :: r).takeWhile blankC).length) out
    else if c.toNat < 32 ∨ 126 < c.toNat then .inl (i, 10)
    else qD k r (i + 1) (out ++ [c])
def qdec (s : Bs) : (Nat × Nat) ⊕ Bs := if 4194304 < s.length then .inl (0, 2) else qD (s.length + 1) s 0 []
theorem dgt_lt (c : UInt8) : dgt c ≤ 16 := by unfold dgt; split <;> (try split) <;> (try split) <;> omega
theorem dropW_eq (p : UInt8 → Bool) : ∀ l : Bs, l.dropWhile p = l.drop (l.takeWhile p).length := by
  intro l
  induction l with
  | nil => rfl
  | cons a l ih => by_cases h : p a = true <;> simp [h, ih]
theorem takeW_eq (p : UInt8 → Bool) : ∀ l : Bs, l.takeWhile p = l.take (l.takeWhile p).length := by
  intro l
  induction l with
  | nil => rfl
  | cons a l ih => by_cases h : p a = true <;> simp [h]; exact ih
theorem takeW_len (p : UInt8 → Bool) (l : Bs) : (l.takeWhile p).length ≤ l.length := (List.takeWhile_sublist p).length_le
variable [LayerC]
set_option maxRecDepth 100000 in
set_option maxHeartbeats 2000000 in
theorem e34 (m : Nat) (s : Bs) (H : Hp) : WC prog cs0 m (.f 24) [str s] H fun y H' => H' = H ∧ decV (qdec s) y := by
  rw [WC_drop rfl func24 rfl rfl]
  obtain ⟨R, hR⟩ : ∃ R, R = qdec s := ⟨_, rfl⟩
  rw [← hR]
  unfold qdec at hR
  by_cases hbig : 4194304 < s.length
  · rw [if_pos hbig] at hR
    simp -implicitDefEqProofs [f24, len_str underlying9, hbig, dAlloc, aQ, b48_1, store_at iT48, cells_agg, stQ, load_aggp underlying48 rfl iT48, hR, decV]
  rw [if_neg hbig] at hR
  have hst : ∀ x, stQ H.length (.ptr H.length 0 0) x = true := fun x => by simp [stQ]
  simp -implicitDefEqProofs [f24, len_str underlying9, hbig, dAlloc, aQ]
  obtain ⟨I, hI⟩ : ∃ I : Nat → Fr → Hp → Prop, ∀ j fr H', I j fr H' ↔ ∃ i k x out L, j = s.length - i ∧ i ≤ s.length ∧ s.length - i + 1 ≤ k ∧ qD k (s.drop i) i out = R ∧ out.length ≤ 3 * i ∧ H' = H ++ zFc :: L ∧ GB (H.length + 1) H' x out ∧ fr 0 = str s ∧ fr 3 = .ptr H.length 0 0 ∧ fr 4 = x ∧ fr 5 = .v (.int .i64 (i : Nat)) := ⟨_, fun _ _ _ => Iff.rfl⟩
  refine W_rounds I ?_ (s.length - 0) _ _ ((hI _ _ _).2 ⟨0, s.length + 1, nilC, [], [], rfl, by omega, by omega, hR.symm, by simp, rfl, GB.nil _ _, by simp⟩)
  intro j fr H' h
  obtain ⟨i, k, x, out, L, rfl, hi, hk, hdB, hz, rfl, hg, a0, a3, a4, a5⟩ := (hI _ _ _).1 h
  have hrb : RB (H ++ zFc :: L) x out := hg.rb
  have ux := hrb.unl
  have hap : ∀ y, apQ H.length x y = true := fun y => Grow.ap hg (by omega) y
  obtain ⟨k, rfl⟩ : ∃ k', k = k' + 1 := ⟨k - 1, by omega⟩
  by_cases hlt : i < s.length
  case neg =>
    obtain rfl : i = s.length := by omega
    rw [List.drop_length, qD] at hdB
    obtain ⟨y, hy1, hy2⟩ := frz_new (m := H.length) hrb (fun id ver off len sz h => by have := hg.ids h; omega)
    simp -implicitDefEqProofs [a0, a3, a4, a5, len_str underlying9, b48_0, store_at iT48, cells_agg, hst, load_aggp underlying48 rfl iT48, ux, hy1]
    rw [← hdB]
    exact ⟨y, hy2, rfl⟩
  have hdr : s.drop i = s[i] :: s.drop (i + 1) := List.drop_eq_getElem_cons hlt
  rw [hdr, qD] at hdB
  have hw := up64 (i := i) (n := s.length) hlt (by omega)
  have ht1 : ((i : Int) + 1).toNat = i + 1 := by omega
  have hge : (0 : Int) ≤ (i : Int) + 1 := by omega
  have ht2 : ((i : Int) + 2).toNat = i + 2 := by omega
  have hge2 : (0 : Int) ≤ (i : Int) + 2 := by omega
  have hw2 : IntKind.i64.wrap ((i : Int) + 2) = ((i + 2 : Nat) : Int) := wrN (by omega) (by omega)
  have hw3 : IntKind.i64.wrap ((i : Int) + 3) = ((i + 3 : Nat) : Int) := wrN (by omega) (by omega)
  have c28 := fun m H => (e28 m s i H hi).wc
  have c28b := fun m H => (e28 m s (i + 1) H hlt).wc
  have h28c : ((i + 1 : Nat) : Int) = (i : Int) + 1 := by omega
  rw [h28c] at c28b
  -- what is appended
  have step : ∀ (l' : Bs) (y : CV) (tx : TypeId), dSrc prog (H ++ zFc :: L) tx 1 y = some (u8s l', l'.length) → l'.length ≤ 2 * s.length + 2 → ∃ x2 L2, dAppend prog 23 tx x y (H ++ zFc :: L) = some (x2, H ++ zFc :: L2) ∧ unlit x2 = x2 ∧ GB (H.length + 1) (H ++ zFc :: L2) x2 (out ++ l') := by
    intro l' y tx hs hl
    obtain ⟨x2, H2, e1, e2, e3, e4, e5⟩ := hg.add (l' := l') (y := y) (tx := tx) (by simp) hs (by omega)
    obtain ⟨L2, rfl⟩ := take_pre e4
    exact ⟨x2, L2, e1, e2, e3⟩
  have next : ∀ (i' : Nat) (x2 : CV) (out2 : Bs) (L2 : Hp) fr2, qD k (s.drop i') i' out2 = R → i < i' → i' ≤ s.length → out2.length ≤ 3 * i' → GB (H.length + 1) (H ++ zFc :: L2) x2 out2 → fr2 0 = str s → fr2 3 = .ptr H.length 0 0 → fr2 4 = x2 → fr2 5 = .v (.int .i64 (i' : Nat)) → ∃ j', j' < s.length - i ∧ I j' fr2 (H ++ zFc :: L2) :=
    fun i' x2 out2 L2 fr2 h1 h2 h3 h4 h5 b0 b3 b4 b5 => ⟨_, by omega, (hI _ _ _).2 ⟨i', k, x2, out2, L2, rfl, h3, by omega, h1, h4, rfl, h5, b0, b3, b4, b5⟩⟩
  by_cases hp : [13, 10] <+: s[i] :: s.drop (i + 1)
  · rw [if_pos hp] at hdB
    rw [← hdr] at hp
    obtain ⟨x2, L2, e1, e2, e3⟩ := step [13, 10] (.lit [.v (.int .u8 13), .v (.int .u8 10)] 2 1) 23 (by simp [dSrc, underlying23, atS, u8s, u8]) (by simp)
    have hlt2 : i + 2 ≤ s.length := by
      obtain ⟨t2, ht2⟩ := hp
      have := congrArg List.length ht2
      simp at this; omega
    simp -implicitDefEqProofs [a0, a3, a4, a5, len_str underlying9, hlt, index_str underlying9, u8, c28, hp, ux, hap, mkB2, e1, e2, hw2]
    refine next (i + 2) x2 _ L2 _ ?_ (by omega) hlt2 (by simp; omega) e3 (by simp [a0]) (by simp [a3]) (by simp [e2]) (by simp)
    rw [← hdB]; simp
  rw [if_neg hp] at hdB
  rw [← hdr] at hp
  by_cases h61 : s[i] = 61
  · have h61e := eq_true (show s[i].toNat = 61 by rw [h61]; rfl)
    rw [if_pos h61] at hdB
    by_cases hp2 : [13, 10] <+: s.drop (i + 1)
    · rw [if_pos hp2] at hdB
      have hlt3 : i + 3 ≤ s.length := by
        obtain ⟨t2, ht2⟩ := hp2
        have := congrArg List.length ht2
        simp at this; omega
      simp -implicitDefEqProofs [a0, a3, a4, a5, len_str underlying9, hlt, index_str underlying9, u8, c28, hp, ux, hap, h61e, c28b, hw, hp2, hw3]
      refine next (i + 3) x _ L _ ?_ (by omega) hlt3 (by omega) hg (by simp [a0]) (by simp [a3]) (by simp [a4]) (by simp)
      rw [← hdB]; simp
    rw [if_neg hp2] at hdB
    have h28b : ¬ blankC s[i] = true := by rw [h61]; decide
    by_cases hl2 : i + 2 < s.length
    case neg =>
      rw [if_neg (by rw [List.length_drop]; rintro ⟨h, _⟩; omega)] at hdB
      have hl2' : (s.length : Int) ≤ (i : Int) + 2 := by omega
      simp -implicitDefEqProofs [a0, a3, a4, a5, len_str underlying9, hlt, index_str underlying9, u8, c28, hp, ux, hap, h61e, c28b, hw, hp2, hw2, hl2', b48_2, store_at iT48, cells_agg, hst, load_aggp underlying48 rfl iT48]
      rw [← hdB]; rfl
    have hl2' : ¬ (s.length : Int) ≤ (i : Int) + 2 := by omega
    have hl1 : i + 1 < s.length := by omega
    have g0 : (s.drop (i + 1)).getD 0 0 = s[i + 1] := by simp [List.getD, hl1]
    have g1 : (s.drop (i + 1)).getD 1 0 = s[i + 2] := by
      have : i + 1 + 1 = i + 2 := rfl
      simp [List.getD, this, hl2]
    rw [g0, g1] at hdB
    have c48a := fun m H => (e48 m s[i + 1] H).wc
    have c48b := fun m H => (e48 m s[i + 2] H).wc
    obtain ⟨d1, hd1⟩ : ∃ d1, d1 = dgt s[i + 1] := ⟨_, rfl⟩
    obtain ⟨d2, hd2⟩ : ∃ d2, d2 = dgt s[i + 2] := ⟨_, rfl⟩
    rw [← hd1] at c48a
    rw [← hd2] at c48b
    rw [← hd1, ← hd2] at hdB
    by_cases hda : d1 ≤ 15
    case neg =>
      rw [if_neg (by rintro ⟨_, h, _⟩; exact hda h)] at hdB
      have hda' : 15 < d1 := by omega
      simp -implicitDefEqProofs [a0, a3, a4, a5, len_str underlying9, hlt, index_str underlying9, u8, c28, hp, ux, hap, h61e, c28b, hw, hp2, hw2, hl2', hl1, hl2, ht1, hge, ht2, hge2, c48a, c48b, hda', b48_2, store_at iT48, cells_agg, hst, load_aggp underlying48 rfl iT48]
      rw [← hdB]; rfl
    have hda' : ¬ 15 < d1 := by omega
    by_cases hdb : d2 ≤ 15
    case neg =>
      rw [if_neg (by rintro ⟨_, _, h⟩; exact hdb h)] at hdB
      have hdb' : 15 < d2 := by omega
      simp -implicitDefEqProofs [a0, a3, a4, a5, len_str underlying9, hlt, index_str underlying9, u8, c28, hp, ux, hap, h61e, c28b, hw, hp2, hw2, hl2', hl1, hl2, ht1, hge, ht2, hge2, c48a, c48b, hda', hdb', b48_2, store_at iT48, cells_agg, hst, load_aggp underlying48 rfl iT48]
      rw [← hdB]; rfl
    have hdb' : ¬ 15 < d2 := by omega
    rw [if_pos ⟨by rw [List.length_drop]; omega, hda, hdb⟩] at hdB
    simp -implicitDefEqProofs [a0, a3, a4, a5, len_str underlying9, hlt, index_str underlying9, u8, c28, hp, ux, hap, h61e, c28b, hw, hp2, hw2, hl2', hl1, hl2, ht1, hge, ht2, hge2, c48a, c48b, hda', hdb']
    rw [W_draw _ _ _ _ _ _ followsT (by rfl)]
    obtain ⟨v1, hv1⟩ : ∃ v1, v1 = d1 * 2 ^ 4 := ⟨_, rfl⟩
    have hsh : ∀ H, dBin prog .shl 5 (.v (.int .u8 (d1 : Nat))) (.v (.int .u64 4)) H = some (.v (.int .u8 (v1 : Nat))) := fun H => by
      rw [hv1]; exact shl_u8 d1 4 .u64 H (by omega) (by omega)
    obtain ⟨p, hpp⟩ : ∃ p, p = (d1 * 16 + d2).toUInt8 := ⟨_, rfl⟩
    have hpn : p.toNat = d1 * 16 + d2 := by rw [hpp]; simp; omega
    have hor : ∀ H, dBin prog .or 5 (.v (.int .u8 (v1 : Nat))) (.v (.int .u8 (d2 : Nat))) H = some (.v (.int .u8 (p.toNat : Nat))) := fun H => by
      rw [hpn, hv1]; exact or_u8 d1 d2 4 H (by omega) (by omega)
    rw [← hpp] at hdB
    obtain ⟨x2, L2, e1, e2, e3⟩ := step [p] (.lit (u8s [p]) 1 1) 23 (by simp [dSrc, underlying23, atS]) (by simp)
    simp -implicitDefEqProofs [a0, a3, a4, a5, len_str underlying9, hlt, index_str underlying9, u8, ux, hap, hw, hw2, hl1, hl2, ht1, hge, ht2, hge2, c48a, c48b, hsh, hor, mkB1, e1, e2, hw3]
    refine next (i + 3) x2 _ L2 _ ?_ (by omega) hl2 (by simp; omega) e3 (by simp [a0]) (by simp [a3]) (by simp [e2]) (by simp)
    rw [← hdB]; simp
  rw [if_neg h61] at hdB
  have h61n : ¬ s[i].toNat = 61 := fun h => h61 (UInt8.toNat_inj.1 h)
  by_cases hbl : blankC s[i] = true
  · rw [if_pos hbl] at hdB
    obtain ⟨n, hn⟩ : ∃ n, n = ((s.drop i).takeWhile blankC).length := ⟨_, rfl⟩
    have hnl : n ≤ s.length - i := by rw [hn]; have := takeW_len blankC (s.drop i); simpa using this
    have hn0 : 0 < n := by rw [hn, hdr, List.takeWhile_cons, if_pos hbl]; exact Nat.succ_pos _
    have hdw : (s.drop i).dropWhile blankC = s.drop (i + n) := by rw [dropW_eq, ← hn, List.drop_drop]
    have htw : (s.drop i).takeWhile blankC = (s.take (i + n)).drop i := by rw [takeW_eq, ← hn, List.drop_take]; simp
    rw [← hdr, hdw, ← hn, htw] at hdB
    have c49 := fun m H => (e49 m s i H hi (by omega)).wc
    rw [← hn] at c49
    have hwn : IntKind.i64.wrap ((i : Int) + (n : Nat)) = ((i + n : Nat) : Int) := wrN (by omega) (by omega)
    have c28c := fun m H => (e28 m s (i + n) H (by omega)).wc
    have hcc : ((i + n : Nat) : Int) = (i : Int) + (n : Nat) := by omega
    rw [hcc] at c28c
    have hbl' : s[i].toNat = 32 ∨ s[i].toNat = 9 := by simpa [blankC] using hbl
    have hblc : (s[i].toNat = 32) = True ∨ ¬ s[i].toNat = 32 ∧ (s[i].toNat = 9) = True := by
      rcases hbl' with h | h
      · exact .inl (eq_true h)
      · exact .inr ⟨by omega, eq_true h⟩
    by_cases hmore : i + n < s.length
    · have hmore' : (i : Int) + (n : Nat) < (s.length : Nat) := by omega
      by_cases hp3 : [13, 10] <+: s.drop (i + n)
      · rw [if_neg (by rintro ⟨_, h⟩; exact h hp3)] at hdB
        rcases hblc with hb | ⟨hb1, hb⟩
        · simp -implicitDefEqProofs [a0, a3, a4, a5, len_str underlying9, hlt, index_str underlying9, u8, c28, hp, ux, hap, h61n, hb, c49, hwn, hmore', c28c, hp3]
          exact next (i + n) x _ L _ hdB (by omega) (by omega) (by omega) hg (by simp [a0]) (by simp [a3]) (by simp [a4]) (by simp)
        · simp -implicitDefEqProofs [a0, a3, a4, a5, len_str underlying9, hlt, index_str underlying9, u8, c28, hp, ux, hap, h61n, hb1, hb, c49, hwn, hmore', c28c, hp3]
          exact next (i + n) x _ L _ hdB (by omega) (by omega) (by omega) hg (by simp [a0]) (by simp [a3]) (by simp [a4]) (by simp)
      · have hne : s.drop (i + n) ≠ [] := fun h => by have := congrArg List.length h; simp at this; omega
        rw [if_pos ⟨hne, hp3⟩] at hdB
        obtain ⟨x2, L2, e1, e2, e3⟩ := step ((s.take (i + n)).drop i) (str ((s.take (i + n)).drop i)) 9 (src_str underlying9 _ _) (by simp; omega)
        have hsl : ∀ H, dSlice prog 9 (str s) (some (.v (.int .i64 (i : Nat)))) (some (.v (.int .i64 ((i : Int) + (n : Nat))))) H = some (str ((s.take (i + n)).drop i)) := fun H => by
          rw [slice_str underlying9]
          have k1 : ((i : Int) + (n : Nat)).toNat = i + n := by omega
          simp [k1]; omega
        rcases hblc with hb | ⟨hb1, hb⟩
        · simp -implicitDefEqProofs [a0, a3, a4, a5, len_str underlying9, hlt, index_str underlying9, u8, c28, hp, ux, hap, h61n, hb, c49, hwn, hmore', c28c, hp3, hsl, e1, e2]
          exact next (i + n) x2 _ L2 _ hdB (by omega) (by omega) (by simp; omega) e3 (by simp [a0]) (by simp [a3]) (by simp [e2]) (by simp)
        · simp -implicitDefEqProofs [a0, a3, a4, a5, len_str underlying9, hlt, index_str underlying9, u8, c28, hp, ux, hap, h61n, hb1, hb, c49, hwn, hmore', c28c, hp3, hsl, e1, e2]
          exact next (i + n) x2 _ L2 _ hdB (by omega) (by omega) (by simp; omega) e3 (by simp [a0]) (by simp [a3]) (by simp [e2]) (by simp)
    · have hmore' : ¬ (i : Int) + (n : Nat) < (s.length : Nat) := by omega
      rw [if_neg (by rintro ⟨h, _⟩; exact h (List.drop_eq_nil_of_le (by omega)))] at hdB
      rcases hblc with hb | ⟨hb1, hb⟩
      · simp -implicitDefEqProofs [a0, a3, a4, a5, len_str underlying9, hlt, index_str underlying9, u8, c28, hp, ux, hap, h61n, hb, c49, hwn, hmore']
        exact next (i + n) x _ L _ hdB (by omega) (by omega) (by omega) hg (by simp [a0]) (by simp [a3]) (by simp [a4]) (by simp)
      · simp -implicitDefEqProofs [a0, a3, a4, a5, len_str underlying9, hlt, index_str underlying9, u8, c28, hp, ux, hap, h61n, hb1, hb, c49, hwn, hmore']
        exact next (i + n) x _ L _ hdB (by omega) (by omega) (by omega) hg (by simp [a0]) (by simp [a3]) (by simp [a4]) (by simp)
  rw [if_neg hbl] at hdB
  have hbl' : ¬ (s[i].toNat = 32 ∨ s[i].toNat = 9) := by simpa [blankC] using hbl
  have hb1 : ¬ s[i].toNat = 32 := fun h => hbl' (.inl h)
  have hb2 : ¬ s[i].toNat = 9 := fun h => hbl' (.inr h)
  by_cases h32 : s[i].toNat < 32
  · rw [if_pos (.inl h32)] at hdB
    simp -implicitDefEqProofs [a0, a3, a4, a5, len_str underlying9, hlt, index_str underlying9, u8, c28, hp, ux, hap, h61n, hb1, hb2, h32, b48_2, store_at iT48, cells_agg, hst, load_aggp underlying48 rfl iT48]
    rw [← hdB]; rfl
  by_cases h126 : 126 < s[i].toNat
  · rw [if_pos (.inr h126)] at hdB
    simp -implicitDefEqProofs [a0, a3, a4, a5, len_str underlying9, hlt, index_str underlying9, u8, c28, hp, ux, hap, h61n, hb1, hb2, h32, h126, b48_2, store_at iT48, cells_agg, hst, load_aggp underlying48 rfl iT48]
    rw [← hdB]; rfl
  rw [if_neg (by omega)] at hdB
  obtain ⟨x2, L2, e1, e2, e3⟩ := step [s[i]] (.lit (u8s [s[i]]) 1 1) 23 (by simp [dSrc, underlying23, atS]) (by simp)
  simp -implicitDefEqProofs [a0, a3, a4, a5, len_str underlying9, hlt, index_str underlying9, u8, c28, hp, ux, hap, h61n, hb1, hb2, h32, h126, mkB1, e1, e2, hw]
  exact next (i + 1) x2 _ L2 _ hdB (by omega) hlt (by simp; omega) e3 (by simp [a0]) (by simp [a3]) (by simp [e2]) (by simp)
end Go.Proofs.Tryz

/- Walks: the reference's quoted.Decode. -/
namespace Go.Proofs.Tryz
open Go Go.SL
set_option linter.unusedVariables false
set_option linter.unusedSimpArgs false
attribute [local congr] WX_stop WC_stop W_stop
section
def trailS (s : Bs) : Bool := decide (s.dropWhile blankC = [] ∨ [13, 10] <+: s.dropWhile blankC)
/-- Lines are read, one byte at a time. -/
def rq : Nat → Bs → Bs → Option Bs
  | 0, _, out => some out
  | _ + 1, [], out => some out
  | k + 1, c :: r, out =>
    if [13, 10] <+: c :: r then rq k (r.drop 1) (out ++ [13, 10])
    else if c = 61 then
      if [13, 10] <+: r then rq k (r.drop 2) out
      else if 2 ≤ r.length ∧ dgt (r.getD 0 0) ≤ 15 ∧ dgt (r.getD 1 0) ≤ 15 then rq k (r.drop 2) (out ++ [(dgt (r.getD 0 0) * 16 + dgt (r.getD 1 0)).toUInt8])
      else none
    else if c.toNat ≠ 9 ∧ (c.toNat < 32 ∨ 126 < c.toNat) then none
    else rq k r (if trailS (c :: r) = true then out else out ++ [c])
def rdec (s : Bs) : Option Bs := rq (s.length + 1) s []
/-- What reading answers. -/
def rV (o : Option Bs) (y : CV) : Prop :=
  match o with
  | none => ∃ a c : Int, c ≠ 0 ∧ y = .tup [nilC, .agg [.v (.int .i64 a), .v (.int .i64 c)]]
  | some b => ∃ z, CB z b ∧ y = .tup [z, .agg [.v (.int .i64 0), .v (.int .i64 0)]]
theorem idx_nil {P : Program} {t e : TypeId} (h : P.underlying t = some (.slice e)) (ix : CV) (H : Hp) : dIndexAddr P t (.tup []) ix H = none := by
  unfold dIndexAddr
  rw [h]
  split
  · cases P.info? _ <;> rfl
  · rename_i h2; simp at h2
  · rfl
theorem idx_rb {P : Program} {t e : TypeId} {i : TypeInfo} {H : Hp} {x ix y : CV} {l : Bs} (h : P.underlying t = some (.slice e)) (hi : P.info? e = some i) (hz : i.size = 1) (hx : RB H x l) (hy : dIndexAddr P t x ix H = some y) : ∃ j, j < l.length ∧ y = adrC x j := by
  have hv : ∃ k n, ix = .v (.int k n) := by
    unfold dIndexAddr at hy
    rw [h] at hy
    split at hy
    · exact ⟨_, _, rfl⟩
    · rename_i h2; simp at h2
    · cases hy
  obtain ⟨k, n, rfl⟩ := hv
  rw [hx.addr h hi hz] at hy
  split at hy
  · cases hy; exact ⟨n.toNat, by omega, rfl⟩
  · cases hy
theorem load_nil {P : Program} (t : TypeId) (H : Hp) : dLoad P t (.tup []) H = none := by
  unfold dLoad
  cases P.underlying t with
  | none => rfl
  | some d => cases P.info? t <;> rfl
theorem hexV_lt (c : UInt8) : hexV c < 0 ↔ ¬ dgt c ≤ 15 := by
  unfold hexV
  split <;> omega
theorem hexV_eq {c : UInt8} (h : dgt c ≤ 15) : hexV c = (dgt c : Nat) := by unfold hexV; rw [if_pos h]
end
variable [LayerC]
def VQ (z : CV) (s : Bs) (fr : Fr) : Prop := fr 4 = z ∧ (fr 64 = .tup [] ∨ fr 64 = z) ∧ (fr 67 = .tup [] ∨ ∃ j, j < s.length ∧ fr 67 = adrC z j) ∧ (fr 68 = .tup [] ∨ ∃ c : UInt8, fr 68 = .v (.int .u8 c.toNat))
theorem c51_no (m : Nat) (K : CV → Hp → Prop) (H : Hp) : ¬ WC prog cs0 m (.f 51) [.tup []] H K := by
  rw [WC_drop rfl func51 rfl rfl]
  simp -implicitDefEqProofs [f51, dBin, binA]
set_option maxRecDepth 100000 in
set_option maxHeartbeats 2000000 in
theorem c29 (m : Nat) (s : Bs) (H : Hp) (hbig : s.length ≤ 1000000) : WC prog cs0 m (.f 29) [str s] H fun y H' => H' = H ∧ rV (rdec s) y := by
  rw [WC_drop rfl func29 rfl rfl]
  obtain ⟨R, hR⟩ : ∃ R, R = rdec s := ⟨_, rfl⟩
  rw [← hR]
  unfold rdec at hR
  have hst : ∀ x, stQ H.length (.ptr H.length 0 0) x = true := fun x => by simp [stQ]
  have hb : ¬ 4194304 < s.length := by omega
  have hcv : ∀ H, cvt prog false 9 23 (str s) H = some (.im (u8s s) s.length 1, H) := fun H => cvt_s2b' underlying9 underlying23 underlying5 s H
  have hu : unlit (.im (u8s s) s.length 1) = .im (u8s s) s.length 1 := rfl
  simp -implicitDefEqProofs [f29, len_str underlying9, hb, dAlloc, aQ, hcv]
  obtain ⟨z, hz⟩ : ∃ z, z = CV.im (u8s s) s.length 1 := ⟨_, rfl⟩
  have cz : CB z s := .inl hz
  rw [← hz]
  have uz := cz.unl
  have lz := fun H => (cz.rb H).len (P := prog) underlying23
  obtain ⟨I, hI⟩ : ∃ I : Nat → Fr → Hp → Prop, ∀ j fr H', I j fr H' ↔ ∃ i k x out L, j = s.length - i ∧ i ≤ s.length ∧ s.length - i + 1 ≤ k ∧ rq k (s.drop i) out = R ∧ out.length ≤ 3 * i ∧ H' = H ++ zFc :: L ∧ GB (H.length + 1) H' x out ∧ fr 4 = z ∧ fr 3 = .ptr H.length 0 0 ∧ fr 5 = x ∧ fr 6 = .v (.int .i64 (i : Nat)) ∧ VQ z s fr := ⟨_, fun _ _ _ => Iff.rfl⟩
  refine W_rounds I ?_ (s.length - 0) _ _ ((hI _ _ _).2 ⟨0, s.length + 1, nilC, [], [], rfl, by omega, by omega, hR.symm, by simp, rfl, GB.nil _ _, by simp [VQ]⟩)
  intro j fr H' h
  obtain ⟨i, k, x, out, L, rfl, hi, hk, hdB, hz, rfl, hg, a4, a3, a5, a6, hvq⟩ := (hI _ _ _).1 h
  obtain ⟨_, q64, q67, q68⟩ := hvq
  have hrb : RB (H ++ zFc :: L) x out := hg.rb
  have ux := hrb.unl
  have hap : ∀ y, apQ H.length x y = true := fun y => Grow.ap hg (by omega) y
  obtain ⟨k, rfl⟩ : ∃ k', k = k' + 1 := ⟨k - 1, by omega⟩
  by_cases hlt : i < s.length
  case neg =>
    obtain rfl : i = s.length := by omega
    rw [List.drop_length, rq] at hdB
    obtain ⟨y, hy1, hy2⟩ := frz_new (m := H.length) hrb (fun id ver off len sz h => by have := hg.ids h; omega)
    simp -implicitDefEqProofs [a4, a3, a5, a6, lz, uz, b48_0, store_at iT48, cells_agg, hst, load_aggp underlying48 rfl iT48, ux, hy1]
    rw [← hdB]
    exact ⟨y, hy2, rfl⟩
  have hdr : s.drop i = s[i] :: s.drop (i + 1) := List.drop_eq_getElem_cons hlt
  rw [hdr, rq] at hdB
  have hw := up64 (i := i) (n := s.length) hlt (by omega)
  have hw11 : IntKind.i64.wrap ((i : Int) + 1 + 1) = ((i + 2 : Nat) : Int) := wrN (by omega) (by omega)
  have hw2 : IntKind.i64.wrap ((i : Int) + 2) = ((i + 2 : Nat) : Int) := wrN (by omega) (by omega)
  have hw21 : IntKind.i64.wrap ((i : Int) + 2 + 1) = ((i + 3 : Nat) : Int) := wrN (by omega) (by omega)
  have c50' := fun m H => (c50 m H z s (cz.rb H) i hi (by omega)).wc
  have c50b := fun m H => (c50 m H z s (cz.rb H) (i + 1) hlt (by omega)).wc
  have h50c : ((i + 1 : Nat) : Int) = (i : Int) + 1 := by omega
  rw [h50c] at c50b
  have adr : ∀ (j : Nat) H, j < s.length → dIndexAddr prog 23 z (.v (.int .i64 (j : Nat))) H = some (adrC z j) := fun j H hj => by rw [(cz.rb H).addr underlying23 iT5 sT5]; simp [hj]
  have lda : ∀ (j : Nat) (hj : j < s.length) H, dLoad prog 5 (adrC z j) H = some (.v (.int .u8 s[j].toNat)) := fun j hj H => (cz.rb H).load underlying5 rfl iT5 j hj
  have had := fun H => adr i H hlt
  have hld := fun H => lda i hlt H
  -- what is appended
  have step : ∀ (l' : Bs) (y : CV) (tx : TypeId), dSrc prog (H ++ zFc :: L) tx 1 y = some (u8s l', l'.length) → l'.length ≤ 2 * s.length + 2 → ∃ x2 L2, dAppend prog 23 tx x y (H ++ zFc :: L) = some (x2, H ++ zFc :: L2) ∧ unlit x2 = x2 ∧ GB (H.length + 1) (H ++ zFc :: L2) x2 (out ++ l') := by
    intro l' y tx hs hl
    obtain ⟨x2, H2, e1, e2, e3, e4, e5⟩ := hg.add (l' := l') (y := y) (tx := tx) (by simp) hs (by omega)
    obtain ⟨L2, rfl⟩ := take_pre e4
    exact ⟨x2, L2, e1, e2, e3⟩
  have next : ∀ (i' : Nat) (x2 : CV) (out2 : Bs) (L2 : Hp) fr2, rq k (s.drop i') out2 = R → i < i' → i' ≤ s.length → out2.length ≤ 3 * i' → GB (H.length + 1) (H ++ zFc :: L2) x2 out2 → fr2 4 = z → fr2 3 = .ptr H.length 0 0 → fr2 5 = x2 → fr2 6 = .v (.int .i64 (i' : Nat)) → VQ z s fr2 → ∃ j', j' < s.length - i ∧ I j' fr2 (H ++ zFc :: L2) :=
    fun i' x2 out2 L2 fr2 h1 h2 h3 h4 h5 b4 b3 b5 b6 b7 => ⟨_, by omega, (hI _ _ _).2 ⟨i', k, x2, out2, L2, rfl, h3, by omega, h1, h4, rfl, h5, b4, b3, b5, b6, b7⟩⟩
  by_cases hp : [13, 10] <+: s[i] :: s.drop (i + 1)
  · rw [if_pos hp] at hdB
    rw [← hdr] at hp
    obtain ⟨x2, L2, e1, e2, e3⟩ := step [13, 10] (.lit [.v (.int .u8 13), .v (.int .u8 10)] 2 1) 23 (by simp [dSrc, underlying23, atS, u8s, u8]) (by simp)
    have hlt2 : i + 2 ≤ s.length := by
      obtain ⟨t2, ht2⟩ := hp
      have := congrArg List.length ht2
      simp at this; omega
    simp -implicitDefEqProofs [a4, a3, a5, a6, lz, uz, hlt, c50', hp, ux, hap, mkB2, e1, e2, hw, hw11]
    refine next (i + 2) x2 _ L2 _ ?_ (by omega) hlt2 (by simp; omega) e3 (by simp [a4]) (by simp [a3]) (by simp [e2]) (by simp) ⟨by simp [a4], by simpa using q64, by simpa using q67, by simpa using q68⟩
    rw [← hdB]; simp
  rw [if_neg hp] at hdB
  rw [← hdr] at hp
  by_cases h61 : s[i] = 61
  · have h61e := eq_true (show s[i].toNat = 61 by rw [h61]; rfl)
    rw [if_pos h61] at hdB
    by_cases hp2 : [13, 10] <+: s.drop (i + 1)
    · rw [if_pos hp2] at hdB
      have hlt3 : i + 3 ≤ s.length := by
        obtain ⟨t2, ht2⟩ := hp2
        have := congrArg List.length ht2
        simp at this; omega
      simp -implicitDefEqProofs [a4, a3, a5, a6, lz, uz, hlt, c50', hp, ux, had, hld, h61e, c50b, hw, hp2, hw2, hw21]
      refine next (i + 3) x _ L _ ?_ (by omega) hlt3 (by omega) hg (by simp [a4]) (by simp [a3]) (by simp [a5]) (by simp) ⟨by simp [a4], by simpa using q64, by simpa using q67, by simpa using q68⟩
      rw [← hdB]; simp
    rw [if_neg hp2] at hdB
    by_cases hl2 : i + 2 < s.length
    case neg =>
      rw [if_neg (by rw [List.length_drop]; rintro ⟨h, _⟩; omega)] at hdB
      have hl2' : (s.length : Int) ≤ (i : Int) + 2 := by omega
      simp -implicitDefEqProofs [a4, a3, a5, a6, lz, uz, hlt, c50', hp, ux, had, hld, h61e, c50b, hw, hp2, hw2, hl2', b48_2, store_at iT48, cells_agg, hst, load_aggp underlying48 rfl iT48]
      rw [← hdB]; exact ⟨_, _, by decide, rfl⟩
    have hl2' : ¬ (s.length : Int) ≤ (i : Int) + 2 := by omega
    have hl1 : i + 1 < s.length := by omega
    have g0 : (s.drop (i + 1)).getD 0 0 = s[i + 1] := by simp [List.getD, hl1]
    have g1 : (s.drop (i + 1)).getD 1 0 = s[i + 2] := by
      have : i + 1 + 1 = i + 2 := rfl
      simp [List.getD, this, hl2]
    rw [g0, g1] at hdB
    have c51a := fun m H => (c51 m s[i + 1] H).wc
    have c51b := fun m H => (c51 m s[i + 2] H).wc
    have had1 := fun H => adr (i + 1) H hl1
    have hld1 := fun H => lda (i + 1) hl1 H
    have had2 := fun H => adr (i + 2) H hl2
    have hld2 := fun H => lda (i + 2) hl2 H
    have h2c : ((i + 2 : Nat) : Int) = (i : Int) + 2 := by omega
    rw [h50c] at had1
    rw [h2c] at had2
    by_cases hda : dgt s[i + 1] ≤ 15
    case neg =>
      rw [if_neg (by rintro ⟨_, h, _⟩; exact hda h)] at hdB
      have hda' := (hexV_lt _).2 hda
      simp -implicitDefEqProofs [a4, a3, a5, a6, lz, uz, hlt, c50', hp, ux, had, hld, h61e, c50b, hw, hp2, hw2, hl2', had1, hld1, c51a, hda', b48_2, store_at iT48, cells_agg, hst, load_aggp underlying48 rfl iT48]
      rw [← hdB]; exact ⟨_, _, by decide, rfl⟩
    have hea := hexV_eq hda
    rw [hea] at c51a
    obtain ⟨d1, hd1⟩ : ∃ d1, d1 = dgt s[i + 1] := ⟨_, rfl⟩
    rw [← hd1] at c51a hda hdB
    by_cases hdb : dgt s[i + 2] ≤ 15
    case neg =>
      rw [if_neg (by rintro ⟨_, _, h⟩; exact hdb h)] at hdB
      have hdb' := (hexV_lt _).2 hdb
      simp -implicitDefEqProofs [a4, a3, a5, a6, lz, uz, hlt, c50', hp, ux, had, hld, h61e, c50b, hw, hp2, hw2, hl2', had1, hld1, c51a, had2, hld2, c51b, hdb', b48_2, store_at iT48, cells_agg, hst, load_aggp underlying48 rfl iT48]
      rw [← hdB]; exact ⟨_, _, by decide, rfl⟩
    have heb := hexV_eq hdb
    rw [heb] at c51b
    obtain ⟨d2, hd2⟩ : ∃ d2, d2 = dgt s[i + 2] := ⟨_, rfl⟩
    rw [← hd2] at c51b hdb hdB
    rw [if_pos ⟨by rw [List.length_drop]; omega, hda, hdb⟩] at hdB
    simp -implicitDefEqProofs [a4, a3, a5, a6, lz, uz, hlt, c50', hp, ux, had, hld, h61e, c50b, hw, hp2, hw2, hl2', had1, hld1, c51a, had2, hld2, c51b]
    rw [W_drawJ (fun fr _ => VQ z s fr) [(6, 11), (6, 12)] _ _ _ _ _ _ followsT ⟨by simp [a4], by simpa using q64, by simpa using q67, by simpa using q68⟩ (by rfl) (by
      intro k o ho
      refine keep_fr fun fr H0 y H2 hv hy fr2 hfr2 => ?_
      simp only [List.mem_toArray, List.mem_cons, List.not_mem_nil, or_false] at ho
      obtain ⟨v4, v64, v67, v68⟩ := hv
      have f4 := hfr2 4
      have f64 := hfr2 64
      have f67 := hfr2 67
      have f68 := hfr2 68
      unfold VQ
      rcases ho with rfl | rfl | rfl | rfl | rfl | rfl | rfl | rfl | rfl | rfl | rfl | rfl | rfl | rfl | rfl | rfl | rfl | rfl | rfl <;> simp at f4 f64 f67 f68 <;> rw [f4, f64, f67, f68]
      · exact ⟨v4, v64, v67, v68⟩
      · rw [actX_plain (by rfl)] at hy
        simp [opX, opE, stOK, evO, v4] at hy
        exact ⟨v4, .inr (hy.1.symm.trans uz), v67, v68⟩
      · exact ⟨v4, v64, v67, v68⟩
      · exact ⟨v4, v64, v67, v68⟩
      · rw [actX_plain (by rfl)] at hy
        simp only [opX, opE, stOK, if_true] at hy
        refine ⟨v4, v64, .inr ?_, v68⟩
        rcases v64 with v | v
        · simp [evO, v, idx_nil underlying23] at hy
        · simp [evO, v] at hy
          obtain ⟨w, hw, hy, _⟩ := hy
          obtain ⟨j, hj, rfl⟩ := idx_rb underlying23 iT5 sT5 (cz.rb H0) hw
          exact ⟨j, hj, hy.symm⟩
      · rw [actX_plain (by rfl)] at hy
        simp only [opX, opE, stOK, if_true] at hy
        refine ⟨v4, v64, v67, .inr ?_⟩
        rcases v67 with v | ⟨j, hj, v⟩
        · simp [evO, v, load_nil] at hy
        · have := lda j hj H0
          simp [evO, v, this] at hy
          exact ⟨s[j], hy.1.symm⟩
      all_goals exact ⟨v4, v64, v67, v68⟩) (by
      intro k j i oj oi hm h1 h2
      simp at hm
      rcases hm with ⟨rfl, rfl⟩ | ⟨rfl, rfl⟩ <;> simp at h1 h2 <;> subst h1 h2
      all_goals refine cmt_rdJ (by rfl) (fun fr H0 y hv hy => ?_) (fun fr H0 y hv hy => rd_of (by rfl) _ _ _ hy)
      all_goals
        obtain ⟨v4, v64, v67, v68⟩ := hv
        rw [actX_plain (by rfl)] at hy
        rcases v68 with v2 | ⟨c, v2⟩
        · simp [opX, evO, evL, v2, unlit] at hy
          exact (call_ret_no (fun K => c51_no _ K H0) hy).elim
        · simp [opX, evO, evL, v2, unlit] at hy
          exact call_ret (c51 _ c _) hy)]
    obtain ⟨v1, hv1⟩ : ∃ v1, v1 = 16 * d1 := ⟨_, rfl⟩
    have hmul : IntKind.i64.wrap (16 * (d1 : Int)) = (v1 : Int) := wrN (by omega) (by omega)
    obtain ⟨v2, hv2⟩ : ∃ v2, v2 = v1 + d2 := ⟨_, rfl⟩
    have hadd : IntKind.i64.wrap ((v1 : Int) + (d2 : Int)) = (v2 : Int) := wrN (by omega) (by omega)
    obtain ⟨p, hpp⟩ : ∃ p, p = (d1 * 16 + d2).toUInt8 := ⟨_, rfl⟩
    have hpn : p.toNat = v2 := by rw [hpp]; simp; omega
    have hcv5 : ∀ H, cvt prog false 3 5 (.v (.int .i64 (v2 : Nat))) H = some (.v (.int .u8 (p.toNat : Nat)), H) := fun H => by
      rw [hpn]; simp only [cvt, dConv, underlying3, underlying5, wrapU8 v2 (by omega)]
    rw [← hpp] at hdB
    obtain ⟨x2, L2, e1, e2, e3⟩ := step [p] (.lit (u8s [p]) 1 1) 23 (by simp [dSrc, underlying23, atS]) (by simp)
    simp -implicitDefEqProofs [a4, a3, a5, a6, lz, uz, hlt, ux, hap, hw, hw2, had1, hld1, c51a, had2, hld2, c51b, binA_mul, hmul, hadd, hcv5, mkB1, e1, e2, hw21]
    refine next (i + 3) x2 _ L2 _ ?_ (by omega) hl2 (by simp; omega) e3 (by simp [a4]) (by simp [a3]) (by simp [e2]) (by simp) ⟨by simp [a4], by simp, by simp; exact .inr ⟨i + 1, hl1, rfl⟩, by simp; exact ⟨s[i + 1], rfl⟩⟩
    rw [← hdB]; simp
  rw [if_neg h61] at hdB
  have h61n : ¬ s[i].toNat = 61 := fun h => h61 (UInt8.toNat_inj.1 h)
  have c52' := fun m H => (c52 m H z s (cz.rb H) i hi (by omega)).wc
  obtain ⟨tr, htr⟩ : ∃ tr, tr = trailS (s.drop i) := ⟨_, rfl⟩
  rw [← hdr, ← htr] at hdB
  have htr2 : decide ((s.drop i).dropWhile blankC = [] ∨ [13, 10] <+: (s.drop i).dropWhile blankC) = tr := htr.symm
  simp only [htr2] at c52'
  obtain ⟨n, hn⟩ : ∃ n, n = s[i].toNat := ⟨_, rfl⟩
  rw [← hn] at hdB h61n
  have hld' := hld
  simp only [← hn] at hld'
  have fin : ∀ b9 b32 b126, (n = 9) = b9 → (n < 32) = b32 → (126 < n) = b126 → True := fun _ _ _ _ _ _ => trivial
  have okcase : (n = 9 ∨ (32 ≤ n ∧ n ≤ 126)) ∨ (n ≠ 9 ∧ n < 32) ∨ (n ≠ 9 ∧ 32 ≤ n ∧ 126 < n) := by omega
  rcases okcase with hok | ⟨hb1, hb2⟩ | ⟨hb1, hb2, hb3⟩
  · rw [if_neg (by omega)] at hdB
    have hok' : (n = 9) = True ∨ (n = 9) = False ∧ (n < 32) = False ∧ (126 < n) = False := by
      rcases hok with h | h
      · exact .inl (eq_true h)
      · exact .inr ⟨eq_false (by omega), eq_false (by omega), eq_false (by omega)⟩
    cases tr with
    | true =>
      rw [if_pos rfl] at hdB
      rcases hok' with hb | ⟨hb, hb2, hb3⟩
      · simp -implicitDefEqProofs [a4, a3, a5, a6, lz, uz, hlt, c50', hp, ux, hap, had, hld', h61n, hb, c52', hw]
        exact next (i + 1) x _ L _ hdB (by omega) hlt (by omega) hg (by simp [a4]) (by simp [a3]) (by simp [a5]) (by simp) ⟨by simp [a4], by simpa using q64, by simpa using q67, by simpa using q68⟩
      · simp -implicitDefEqProofs [a4, a3, a5, a6, lz, uz, hlt, c50', hp, ux, hap, had, hld', h61n, hb, hb2, hb3, c52', hw]
        exact next (i + 1) x _ L _ hdB (by omega) hlt (by omega) hg (by simp [a4]) (by simp [a3]) (by simp [a5]) (by simp) ⟨by simp [a4], by simpa using q64, by simpa using q67, by simpa using q68⟩
    | false =>
      rw [if_neg (by simp)] at hdB
      obtain ⟨x2, L2, e1, e2, e3⟩ := step [s[i]] (.lit (u8s [s[i]]) 1 1) 23 (by simp [dSrc, underlying23, atS]) (by simp)
      have hu8 : u8s [s[i]] = [.v (.int .u8 (n : Nat))] := by rw [hn]; rfl
      rw [hu8] at e1
      rcases hok' with hb | ⟨hb, hb2, hb3⟩
      · simp -implicitDefEqProofs [a4, a3, a5, a6, lz, uz, hlt, c50', hp, ux, hap, had, hld', h61n, hb, c52', hw, mkB1, e1, e2]
        exact next (i + 1) x2 _ L2 _ hdB (by omega) hlt (by simp; omega) e3 (by simp [a4]) (by simp [a3]) (by simp [e2]) (by simp) ⟨by simp [a4], by simpa using q64, by simpa using q67, by simpa using q68⟩
      · simp -implicitDefEqProofs [a4, a3, a5, a6, lz, uz, hlt, c50', hp, ux, hap, had, hld', h61n, hb, hb2, hb3, c52', hw, mkB1, e1, e2]
        exact next (i + 1) x2 _ L2 _ hdB (by omega) hlt (by simp; omega) e3 (by simp [a4]) (by simp [a3]) (by simp [e2]) (by simp) ⟨by simp [a4], by simpa using q64, by simpa using q67, by simpa using q68⟩
  · rw [if_pos ⟨hb1, .inl hb2⟩] at hdB
    simp -implicitDefEqProofs [a4, a3, a5, a6, lz, uz, hlt, c50', hp, ux, hap, had, hld', h61n, hb1, hb2, b48_2, store_at iT48, cells_agg, hst, load_aggp underlying48 rfl iT48]
    rw [← hdB]; exact ⟨_, _, by decide, rfl⟩
  · rw [if_pos ⟨hb1, .inr hb3⟩] at hdB
    have hb2' : ¬ n < 32 := by omega
    simp -implicitDefEqProofs [a4, a3, a5, a6, lz, uz, hlt, c50', hp, ux, hap, had, hld', h61n, hb1, hb2', hb3, b48_2, store_at iT48, cells_agg, hst, load_aggp underlying48 rfl iT48]
    rw [← hdB]; exact ⟨_, _, by decide, rfl⟩
end Go.Proofs.Tryz

/- Walks: the reference's Bare and tail. -/
namespace Go.Proofs.Tryz
open Go Go.SL
set_option linter.unusedVariables false
set_option linter.unusedSimpArgs false
attribute [local congr] WX_stop WC_stop W_stop
section
theorem append_id {P : Program} {t tx : TypeId} {x y x2 : CV} {H H2 : Hp} (h : dAppend P t tx x y H = some (x2, H2)) {id ver off len s : Nat} (hx : x2 = .sl id ver off len s) : (∃ ver off len s, x = .sl id ver off len s) ∨ id = H.length := by
  unfold dAppend at h
  split at h
  · obtain ⟨i, _, h⟩ := Option.bind_eq_some_iff.1 h
    obtain ⟨zs, _, h⟩ := Option.bind_eq_some_iff.1 h
    obtain ⟨xn, _, h⟩ := Option.bind_eq_some_iff.1 h
    split at h
    · split at h
      · split at h
        · cases h; cases hx
        · split at h
          · cases h; cases hx; exact .inr rfl
          · cases h
      · split at h
        · split at h
          · split at h
            · cases h; cases hx; exact .inl ⟨_, _, _, _, rfl⟩
            · split at h
              · cases h; cases hx; exact .inl ⟨_, _, _, _, rfl⟩
              · cases h
          · cases h
        · cases h
      · split at h
        · cases h; cases hx
        · cases h
      · cases h
    · cases h
  · cases h
/-- Not the same object. -/
def Apart (x x' : CV) : Prop := ∀ id ver off len s ver' off' len' s', x = .sl id ver off len s → x' = .sl id ver' off' len' s' → False
theorem Apart.symm {x x' : CV} (h : Apart x x') : Apart x' x := fun id _ _ _ _ _ _ _ _ h1 h2 => h id _ _ _ _ _ _ _ _ h2 h1
theorem Grow.other {m : Nat} {H H2 : Hp} {x x2 x' y : CV} {cs' : List CV} {n' sz' : Nat} {e' : TypeId} {P : Program} {t tx : TypeId} (h' : Grow m H x' cs' n' sz' e') (ha : Apart x x') (hd : dAppend P t tx x y H = some (x2, H2)) (hk : ∀ i, (∀ ver off len s, x ≠ .sl i ver off len s) → i < H.length → H2[i]? = H[i]?) : Grow m H2 x' cs' n' sz' e' ∧ Apart x2 x' := by
  rcases h' with ⟨h1, h2, rfl⟩ | ⟨hl, id, ver, hm, rfl, hc⟩
  · exact ⟨.inl ⟨h1, h2, rfl⟩, fun _ _ _ _ _ _ _ _ _ _ h => by cases h⟩
  · have hlt := (List.getElem?_eq_some_iff.1 hc).1
    refine ⟨.inr ⟨hl, id, ver, hm, rfl, ?_⟩, fun i _ _ _ _ _ _ _ _ h1 h2 => ?_⟩
    · rw [hk id (fun v o l s h => ha id v o l s _ _ _ _ h rfl) hlt]; exact hc
    · cases h2
      rcases append_id hd h1 with ⟨_, _, _, _, h3⟩ | h3
      · exact ha _ _ _ _ _ _ _ _ _ h3 rfl
      · omega
/-- Numbers. -/
def ints (l : List Nat) : List CV := l.map fun n => .v (.int .i64 (n : Nat))
theorem ints_flat (l : List Nat) : (l.map fun n => [CV.v (.int .i64 (n : Nat))]).flatten = ints l := by
  induction l with
  | nil => rfl
  | cons a l ih => rw [List.map_cons, List.flatten_cons, ih]; rfl
theorem intCh (l : List Nat) : Chunks (l.map fun n => [CV.v (.int .i64 (n : Nat))]) 1 := by
  intro c hc; obtain ⟨p, _, rfl⟩ := List.mem_map.1 hc; rfl
def GI (m : Nat) (H : Hp) (x : CV) (l : List Nat) : Prop := Grow m H x (ints l) l.length 1 3
theorem ints_clB (l : List Nat) : (ints l).all clB = true := by
  induction l with
  | nil => rfl
  | cons a l ih => simp only [ints, List.map_cons, List.all_cons] at ih ⊢; rw [ih]; rfl
abbrev intR (l : List Nat) : List (List CV) := l.map fun n => [CV.v (.int .i64 (n : Nat))]
theorem GI.rs {m : Nat} {H : Hp} {x : CV} {l : List Nat} (h : GI m H x l) : RS H x (intR l) 1 := by
  refine Grow.rs (m := m) (e := 3) ?_ (intCh l)
  rw [ints_flat, List.length_map]; exact h
theorem Cls.ints {x : CV} {l : List Nat} (h : Cls x (ints l) l.length 1) (H : Hp) : RS H x (intR l) 1 := by
  refine Cls.rs ?_ (intCh l) H
  rw [ints_flat, List.length_map]; exact h
theorem mkI1 (n : Int) (H : Hp) : dBuildSlice prog 81 1 [(0, .v (.int .i64 n))] H false = some (.im [.v (.int .i64 n)] 1 1, H) := by
  simp [dBuildSlice, underlying81, underlying3, fillC, zerosC, isU8, clB]
theorem srcI (n : Int) (H : Hp) : dSrc prog H 81 1 (.im [.v (.int .i64 n)] 1 1) = some ([.v (.int .i64 n)], 1) := by
  simp [dSrc, underlying81, atS]
theorem GI.add {m : Nat} {H : Hp} {x : CV} {l : List Nat} (h : GI m H x l) (n : Nat) (hm : m ≤ H.length) (hb : l.length + 1 ≤ 10000000000) :
    ∃ x2 H2, dAppend prog 81 81 x (.im [.v (.int .i64 (n : Nat))] 1 1) H = some (x2, H2) ∧ unlit x2 = x2 ∧ GI m H2 x2 (l ++ [n]) ∧ H2.take m = H.take m ∧ H.length ≤ H2.length ∧ (∀ i, (∀ ver off len s, x ≠ .sl i ver off len s) → i < H.length → H2[i]? = H[i]?) := by
  obtain ⟨x2, H2, e1, e2, e3, e4, e5⟩ := Grow.append (P := prog) (t := 81) (tx := 81) (y := .im [.v (.int .i64 (n : Nat))] 1 1) underlying81 iT3 zT3 (by simp) sT3 (by omega) hm h (srcI n H) (by simp) (by simp; omega) (by omega)
  refine ⟨x2, H2, e1, e2.unl, ?_, e3, e4, e5⟩
  unfold GI
  rw [show Tryz.ints (l ++ [n]) = Tryz.ints l ++ [.v (.int .i64 (n : Nat))] by simp [Tryz.ints], List.length_append]
  exact e2
/-- Lines' ends are left out. -/
def bareL : Bs → Bs
  | [] => []
  | [c] => [c]
  | c :: d :: r => if c = 13 ∧ d = 10 then bareL r else c :: bareL (d :: r)
theorem bareL_cons (c : UInt8) (r : Bs) : bareL (c :: r) = if c = 13 ∧ r.head? = some 10 then bareL (r.drop 1) else c :: bareL r := by
  cases r with
  | nil => simp [bareL]
  | cons d r => simp [bareL]
theorem bareL_len : ∀ (n : Nat) (s : Bs), s.length ≤ n → (bareL s).length ≤ s.length := by
  intro n
  induction n with
  | zero => intro s h; rw [List.eq_nil_of_length_eq_zero (Nat.le_zero.1 h)]; exact Nat.le_refl _
  | succ n ih =>
    intro s h
    cases s with
    | nil => exact Nat.le_refl _
    | cons c r =>
      rw [bareL_cons]
      simp only [List.length_cons] at h ⊢
      split
      · have := ih (r.drop 1) (by simp; omega)
        rw [List.length_drop] at this; omega
      · have := ih r (by omega)
        simp; omega
end
variable [LayerC]
set_option maxRecDepth 100000 in
set_option maxHeartbeats 1000000 in
theorem c47 (m : Nat) (s : Bs) (H : Hp) (hbig : s.length ≤ 1000000) : WC prog cs0 m (.f 47) [str s] H fun y H' => H' = H ∧ ∃ z1 z2 ps, y = .tup [z1, z2] ∧ CB z1 (bareL s) ∧ Cls z2 (ints ps) ps.length 1 ∧ ps.length = (bareL s).length := by
  rw [WC_drop rfl func47 rfl rfl]
  obtain ⟨R, hR⟩ : ∃ R, R = bareL s := ⟨_, rfl⟩
  rw [← hR]
  simp -implicitDefEqProofs [f47]
  obtain ⟨I, hI⟩ : ∃ I : Nat → Fr → Hp → Prop, ∀ j fr H', I j fr H' ↔ ∃ i x1 x2 out ps, j = s.length - i ∧ i ≤ s.length ∧ R = out ++ bareL (s.drop i) ∧ ps.length = out.length ∧ out.length ≤ i ∧ H'.take H.length = H ∧ H.length ≤ H'.length ∧ GB H.length H' x1 out ∧ GI H.length H' x2 ps ∧ Apart x1 x2 ∧ fr 0 = str s ∧ fr 4 = x1 ∧ fr 5 = x2 ∧ fr 6 = .v (.int .i64 (i : Nat)) := ⟨_, fun _ _ _ => Iff.rfl⟩
  refine W_rounds I ?_ (s.length - 0) _ _ ((hI _ _ _).2 ⟨0, nilC, nilC, [], [], rfl, by omega, by simp [hR], rfl, by simp, by simp, by omega, GB.nil _ _, Grow.nil _ _ _ _, (fun _ _ _ _ _ _ _ _ _ h => by cases h), by simp⟩)
  intro j fr H' h
  obtain ⟨i, x1, x2, out, ps, rfl, hi, hRi, hps, hol, htk, hle, hg1, hg2, hap, a0, a4, a5, a6⟩ := (hI _ _ _).1 h
  have u1 := hg1.unl
  have u2 := hg2.unl
  by_cases hlt : i < s.length
  case neg =>
    obtain rfl : i = s.length := by omega
    have hRo : R = out := by rw [hRi]; simp [bareL]
    obtain ⟨y1, _, hz1, _, hc1⟩ := Grow.frzV hg1 (Nat.le_refl _) (u8s_clB out)
    obtain ⟨y2, _, hz2, _, hc2⟩ := Grow.frzV hg2 (Nat.le_refl _) (ints_clB ps)
    simp -implicitDefEqProofs [a0, a4, a5, a6, len_str underlying9, u1, u2, hz1, hz2, htk]
    exact ⟨y1, y2, ⟨rfl, rfl⟩, by rw [hRo]; exact hc1, ps, hc2, by rw [hRo]; exact hps⟩
  have hdr : s.drop i = s[i] :: s.drop (i + 1) := List.drop_eq_getElem_cons hlt
  rw [hdr, bareL_cons] at hRi
  have hhd : (s.drop (i + 1)).head? = s[i + 1]? := by rw [List.head?_drop]
  rw [hhd] at hRi
  have hw := up64 (i := i) (n := s.length) hlt (by omega)
  have ht1 : ((i : Int) + 1).toNat = i + 1 := by omega
  have hge : (0 : Int) ≤ (i : Int) + 1 := by omega
  have hw11 : IntKind.i64.wrap ((i : Int) + 1 + 1) = ((i + 2 : Nat) : Int) := wrN (by omega) (by omega)
  by_cases hpair : s[i] = 13 ∧ s[i + 1]? = some 10
  · rw [if_pos hpair, List.drop_drop] at hRi
    obtain ⟨h13, hix1⟩ := hpair
    have hlt1 : i + 1 < s.length := (List.getElem?_eq_some_iff.1 hix1).1
    have h10 : s[i + 1].toNat = 10 := by rw [List.getElem?_eq_getElem hlt1] at hix1; rw [Option.some.inj hix1]; rfl
    have h13' : s[i].toNat = 13 := by rw [h13]; rfl
    have hlt1' : (i : Int) + 1 < (s.length : Nat) := by omega
    simp -implicitDefEqProofs [a0, a4, a5, a6, len_str underlying9, u1, u2, hlt, index_str underlying9, h13', h10, hlt1, hlt1', hw, hw11, u8, ht1, hge]
    exact ⟨_, by omega, (hI _ _ _).2 ⟨i + 2, x1, x2, out, ps, rfl, by omega, hRi, hps, by omega, htk, hle, hg1, hg2, hap, by simp [a0, a4, a5]⟩⟩
  rw [if_neg hpair] at hRi
  obtain ⟨x1', H1, e1, e2, e4, e5, e6⟩ := Grow.append (P := prog) (t := 23) (tx := 23) (y := .lit (u8s [s[i]]) 1 1) (cs' := u8s [s[i]]) (n' := 1) underlying23 iT5 zT5 (by simp) sT5 (by omega) hle hg1 (by simp [dSrc, underlying23, atS]) (by simp) (by simp; omega) (by omega)
  have hg1' : GB H.length H1 x1' (out ++ [s[i]]) := by unfold GB; rw [u8s_append, List.length_append]; exact e2
  have u1' := e2.unl
  obtain ⟨hg2a, hap2⟩ := Grow.other hg2 hap e1 e6
  obtain ⟨x2', H2, i1, i2, i3, i4, i5, i6⟩ := GI.add hg2a i (by omega) (by omega)
  obtain ⟨hg1b, hap3⟩ := Grow.other hg1' hap2.symm i1 i6
  have apq1 : ∀ y, apQ H.length x1 y = true := fun y => Grow.ap hg1 (Nat.le_refl _) y
  have apq2 : ∀ y, apQ H.length x2 y = true := fun y => Grow.ap hg2 (Nat.le_refl _) y
  have fin : ∀ fr2 : Fr, fr2 0 = str s → fr2 4 = x1' → fr2 5 = x2' → fr2 6 = .v (.int .i64 ((i + 1 : Nat) : Int)) → ∃ j', j' < s.length - i ∧ I j' fr2 H2 := fun fr2 b0 b4 b5 b6 =>
    ⟨_, by omega, (hI _ _ _).2 ⟨i + 1, x1', x2', out ++ [s[i]], ps ++ [i], rfl, hlt, by rw [hRi]; simp, by simp [hps], by simp; omega, by rw [i4, e4, htk], by omega, hg1b, i3, hap3.symm, b0, b4, b5, b6⟩⟩
  have hB : ¬ (s[i].toNat = 13) ∨ (s[i].toNat = 13 ∧ ¬ ((i : Int) + 1 < (s.length : Nat))) ∨ (s[i].toNat = 13 ∧ ((i : Int) + 1 < (s.length : Nat)) ∧ ∃ h : i + 1 < s.length, ¬ s[i + 1].toNat = 10) := by
    by_cases h1 : s[i].toNat = 13
    · by_cases h2 : (i : Int) + 1 < (s.length : Nat)
      · have h3 : i + 1 < s.length := by omega
        refine .inr (.inr ⟨h1, h2, h3, fun h4 => hpair ⟨?_, ?_⟩⟩)
        · exact UInt8.toNat_inj.1 h1
        · rw [List.getElem?_eq_getElem h3]; exact congrArg some (UInt8.toNat_inj.1 h4)
      · exact .inr (.inl ⟨h1, h2⟩)
    · exact .inl h1
  rcases hB with h1 | ⟨h1, h2⟩ | ⟨h1, h2, h3, h4⟩
  · simp -implicitDefEqProofs [a0, a4, a5, a6, len_str underlying9, u1, u2, u1', i2, hlt, index_str underlying9, h1, hw, u8, ht1, hge, mkB1, mkI1, apq1, apq2, e1, i1]
    exact fin _ (by simp [a0]) (by simp) (by simp) (by simp)
  · have h1' := eq_true h1
    simp -implicitDefEqProofs [a0, a4, a5, a6, len_str underlying9, u1, u2, u1', i2, hlt, index_str underlying9, h1', h2, hw, u8, ht1, hge, mkB1, mkI1, apq1, apq2, e1, i1]
    exact fin _ (by simp [a0]) (by simp) (by simp) (by simp)
  · have h1' := eq_true h1
    simp -implicitDefEqProofs [a0, a4, a5, a6, len_str underlying9, u1, u2, u1', i2, hlt, index_str underlying9, h1', h2, h3, h4, hw, u8, ht1, hge, mkB1, mkI1, apq1, apq2, e1, i1]
    exact fin _ (by simp [a0]) (by simp) (by simp) (by simp)
/-- Bits that are left over. -/
theorem c49 (m : Nat) (x : CV) (l : List Nat) (H : Hp) (hx : RS H x (intR l) 1) (hb : l.length ≤ 100000000) : Ret prog cs0 m 49 [x] H (.v (.bool ((l.drop (l.length / 8 * 8)).any fun b => decide (0 < b)))) H := by
  unfold Ret
  rw [WC_drop rfl func49 rfl rfl]
  have ux := hx.unl
  have hlen := hx.len (P := prog) underlying81
  rw [List.length_map] at hlen
  have hq := fun H => quo_nat (P := prog) (t := 3) l.length 8 H (by omega) (by omega)
  have h8c : ((8 : Nat) : Int) = 8 := rfl
  rw [h8c] at hq
  obtain ⟨q, hqq⟩ : ∃ q, q = l.length / 8 := ⟨_, rfl⟩
  rw [← hqq] at hq ⊢
  have hm : IntKind.i64.wrap ((q : Int) * 8) = ((q * 8 : Nat) : Int) := wrN (by omega) (by omega)
  have had : ∀ k, k < l.length → dIndexAddr prog 81 x (.v (.int .i64 (k : Nat))) H = some (adrC x k) := fun k hk => by rw [hx.addr underlying81 iT3 sT3]; simp [hk]
  have hld : ∀ k (hk : k < l.length), dLoad prog 3 (adrC x k) H = some (.v (.int .i64 (l[k] : Nat))) := fun k hk => by rw [hx.load1 underlying3 rfl iT3 (by simpa using hk) (by omega)]; simp
  simp -implicitDefEqProofs [f49, ux, hlen, hq, binA_mul, hm]
  refine W_up l.length (fun k fr H' => H' = H ∧ fr 0 = x ∧ fr 3 = .v (.int .i64 (k : Nat)) ∧ q * 8 ≤ k ∧ (l.drop (q * 8)).any (fun b => decide (0 < b)) = (l.drop k).any fun b => decide (0 < b)) ?_ (q * 8) _ _ (by omega) (by simp)
  rintro k fr H' hk ⟨rfl, a0, a3, hqk, hd⟩
  by_cases hlt : k < l.length
  · have hw := up64 (i := k) (n := l.length) hlt (by omega)
    have hdr : l.drop k = l[k] :: l.drop (k + 1) := List.drop_eq_getElem_cons hlt
    have had' := had k hlt
    have hld' := hld k hlt
    obtain ⟨b, hbb⟩ : ∃ b, b = l[k] := ⟨_, rfl⟩
    rw [← hbb] at hld' hdr
    by_cases h0 : 0 < b
    · rw [hd, hdr, List.any_cons]
      simp -implicitDefEqProofs [a0, a3, ux, hlen, hlt, had', hld', h0]
    · simp -implicitDefEqProofs [a0, a3, ux, hlen, hlt, had', hld', h0, hw]
      refine ⟨by omega, ?_⟩
      rw [hd, hdr, List.any_cons]
      simp [h0]
  · obtain rfl : k = l.length := by omega
    rw [hd, List.drop_length, List.any_nil]
    simp -implicitDefEqProofs [a0, a3, ux, hlen]
end Go.Proofs.Tryz

/- Walks: the reference's bits.Decode. -/
namespace Go.Proofs.Tryz
open Go Go.SL
set_option linter.unusedVariables false
set_option linter.unusedSimpArgs false
attribute [local congr] WX_stop WC_stop W_stop
section
def bitsP (d k : Nat) : List Nat := (List.range k).map fun j => d / (32 / 2 ^ j) % 2
def tailB (l : List Nat) : Bool := (l.drop (l.length / 8 * 8)).any fun b => decide (0 < b)
/-- The bits of the signs. -/
def rB : Bs → Nat → List Nat → Option Nat → Option (List Nat)
  | [], n, bits, _ => if 0 < n % 4 then none else some bits
  | c :: r, n, bits, en =>
    match sv c with
    | none =>
      if c ≠ 61 then none
      else if n % 4 < 2 ∨ en.isSome = true ∧ n % 4 = 2 then none
      else if n % 4 = 3 ∧ tailB bits = true then none
      else rB r (n + 1) bits (some (en.getD n))
    | some d => if en.isSome = true then none else rB r (n + 1) (bits ++ bitsP d 6) none
def val8 (l : List Nat) : Nat := l.foldl (fun a b => 2 * a + b) 0
def pack : Nat → List Nat → Bs
  | 0, _ => []
  | k + 1, l => if 8 ≤ l.length then (val8 (l.take 8)).toUInt8 :: pack k (l.drop 8) else []
def rbits (s : Bs) : Option Bs := (rB (bareL s) 0 [] none).map fun l => pack (l.length + 1) l
def endV (en : Option Nat) : Int := match en with | none => -1 | some e => (e : Int)
theorem RS.other {H H2 : Hp} {x x2 x' y : CV} {ch : List (List CV)} {sz : Nat} {P : Program} {t tx : TypeId} (h' : RS H x' ch sz) (ha : Apart x x') (hd : dAppend P t tx x y H = some (x2, H2)) (hk : ∀ i, (∀ ver off len s, x ≠ .sl i ver off len s) → i < H.length → H2[i]? = H[i]?) : RS H2 x' ch sz ∧ Apart x2 x' := by
  obtain ⟨ok, h⟩ := h'
  rcases h with rfl | ⟨rfl, rfl⟩ | ⟨id, ver, off, cc, rfl, hc, h1, h2⟩
  · exact ⟨⟨ok, .inl rfl⟩, fun _ _ _ _ _ _ _ _ _ _ h => by cases h⟩
  · exact ⟨⟨ok, .inr (.inl ⟨rfl, rfl⟩)⟩, fun _ _ _ _ _ _ _ _ _ _ h => by cases h⟩
  · have hlt : id < H.length := by
      unfold cellsAt at hc
      cases hh : H[id]? with
      | none => rw [hh] at hc; cases hc
      | some o => exact (List.getElem?_eq_some_iff.1 hh).1
    refine ⟨⟨ok, .inr (.inr ⟨id, ver, off, cc, rfl, ?_, h1, h2⟩)⟩, fun i _ _ _ _ _ _ _ _ h1 h2 => ?_⟩
    · unfold cellsAt at hc ⊢
      rw [hk id (fun v o l s h => ha id v o l s _ _ _ _ h rfl) hlt]; exact hc
    · cases h2
      rcases append_id hd h1 with ⟨_, _, _, _, h3⟩ | h3
      · exact ha _ _ _ _ _ _ _ _ _ h3 rfl
      · omega
theorem pack_fuel : ∀ (k k' : Nat) (l : List Nat), l.length < k → l.length < k' → pack k l = pack k' l := by
  intro k
  induction k with
  | zero => intro k' l h; omega
  | succ k ih =>
    intro k' l h h'
    obtain ⟨k', rfl⟩ : ∃ j, k' = j + 1 := ⟨k' - 1, by omega⟩
    rw [pack, pack]
    by_cases h8 : 8 ≤ l.length
    · rw [if_pos h8, if_pos h8, ih k' (l.drop 8) (by rw [List.length_drop]; omega) (by rw [List.length_drop]; omega)]
    · rw [if_neg h8, if_neg h8]
theorem bitsP_snoc (d k : Nat) : bitsP d (k + 1) = bitsP d k ++ [d / (32 / 2 ^ k) % 2] := by
  unfold bitsP; rw [List.range_succ, List.map_append]; rfl
@[simp] theorem bitsP_len (d k : Nat) : (bitsP d k).length = k := by simp [bitsP]
theorem bitsP_le (d k : Nat) : ∀ b ∈ bitsP d k, b ≤ 1 := by
  intro b hb
  obtain ⟨j, _, rfl⟩ := List.mem_map.1 hb
  omega
theorem val8_lt : ∀ (l : List Nat) (a : Nat), (∀ b ∈ l, b ≤ 1) → l.foldl (fun a b => 2 * a + b) a < (a + 1) * 2 ^ l.length := by
  intro l
  induction l with
  | nil => intro a _; simp
  | cons b l ih =>
    intro a h
    have h1 := h b (by simp)
    have h2 := ih (2 * a + b) fun c hc => h c (by simp [hc])
    rw [List.foldl_cons, List.length_cons, Nat.pow_succ]
    refine Nat.lt_of_lt_of_le h2 ?_
    have : 2 * a + b + 1 ≤ (a + 1) * 2 := by omega
    calc (2 * a + b + 1) * 2 ^ l.length ≤ (a + 1) * 2 * 2 ^ l.length := Nat.mul_le_mul_right _ this
      _ = (a + 1) * (2 ^ l.length * 2) := by rw [Nat.mul_assoc, Nat.mul_comm 2]
end
variable [LayerC]
set_option maxRecDepth 100000 in
set_option maxHeartbeats 2000000 in
theorem c28 (m : Nat) (s : Bs) (H : Hp) (hbig : s.length ≤ 1000000) : WC prog cs0 m (.f 28) [str s] H fun y H' => H' = H ∧ rV (rbits s) y := by
  rw [WC_drop rfl func28 rfl rfl]
  obtain ⟨R, hR⟩ : ∃ R, R = rbits s := ⟨_, rfl⟩
  rw [← hR]
  unfold rbits at hR
  have hst : ∀ x, stQ H.length (.ptr H.length 0 0) x = true := fun x => by simp [stQ]
  have hb : ¬ 2097152 < s.length := by omega
  simp -implicitDefEqProofs [f28, len_str underlying9, hb, dAlloc, aQ]
  refine WC_mono (c47 _ s _ hbig) ?_
  rintro y H2 ⟨rfl, z1, z2, ps, rfl, cz1, cz2, hpl⟩
  have hbl := bareL_len s.length s (Nat.le_refl _)
  obtain ⟨bs, hbs⟩ : ∃ bs, bs = bareL s := ⟨_, rfl⟩
  rw [← hbs] at hR cz1 hpl hbl
  have u1 := cz1.unl
  have u2 := cz2.unl
  have l1 := fun H => (cz1.rb H).len (P := prog) underlying23
  have ad1 : ∀ (j : Nat) H, j < bs.length → dIndexAddr prog 23 z1 (.v (.int .i64 (j : Nat))) H = some (adrC z1 j) := fun j H hj => by rw [(cz1.rb H).addr underlying23 iT5 sT5]; simp [hj]
  have ld1 : ∀ (j : Nat) (hj : j < bs.length) H, dLoad prog 5 (adrC z1 j) H = some (.v (.int .u8 bs[j].toNat)) := fun j hj H => (cz1.rb H).load underlying5 rfl iT5 j hj
  have ad2 : ∀ (j : Nat) H, j < ps.length → dIndexAddr prog 81 z2 (.v (.int .i64 (j : Nat))) H = some (adrC z2 j) := fun j H hj => by rw [(Cls.ints cz2 H).addr underlying81 iT3 sT3]; simp [hj]
  have ld2 : ∀ (j : Nat) (hj : j < ps.length) H, dLoad prog 3 (adrC z2 j) H = some (.v (.int .i64 (ps[j] : Nat))) := fun j hj H => by rw [(Cls.ints cz2 H).load1 underlying3 rfl iT3 (by simpa using hj) (by omega)]; simp
  simp -implicitDefEqProofs [f28, dExtract, u1, u2]
  obtain ⟨I, hI⟩ : ∃ I : Nat → Fr → Hp → Prop, ∀ j fr H', I j fr H' ↔ ∃ n x bits en L, j = bs.length - n ∧ n ≤ bs.length ∧ R = (rB (bs.drop n) n bits en).map (fun l => pack (l.length + 1) l) ∧ bits.length ≤ 6 * n ∧ (∀ b ∈ bits, b ≤ 1) ∧ (∀ e, en = some e → 2 ≤ e ∧ e ≤ n) ∧ H' = H ++ zFc :: L ∧ GI (H.length + 1) H' x bits ∧ fr 0 = str s ∧ fr 3 = .ptr H.length 0 0 ∧ fr 4 = z1 ∧ fr 5 = z2 ∧ fr 6 = x ∧ fr 7 = .v (.int .i64 (endV en)) ∧ fr 8 = .v (.int .i64 (n : Nat)) := ⟨_, fun _ _ _ => Iff.rfl⟩
  refine W_rounds I ?_ (bs.length - 0) _ _ ((hI _ _ _).2 ⟨0, nilC, [], none, [], rfl, by omega, hR, by simp, by simp, by simp, rfl, Grow.nil _ _ _ _, by simp [endV]⟩)
  intro j fr H' h
  obtain ⟨n, x, bits, en, L, rfl, hn, hRn, hbl6, hb1, hen, rfl, hg, a0, a3, a4, a5, a6, a7, a8⟩ := (hI _ _ _).1 h
  have hrs := hg.rs
  have ux := hrs.unl
  have hap : ∀ y, apQ H.length x y = true := fun y => Grow.ap hg (by omega) y
  have hrem := fun H => rem_nat (P := prog) (t := 3) n 4 H (by omega)
  have h4 : ((4 : Nat) : Int) = 4 := rfl
  rw [h4] at hrem
  obtain ⟨q, hq⟩ : ∃ q, q = n % 4 := ⟨_, rfl⟩
  rw [← hq] at hrem
  by_cases hlt : n < bs.length
  case neg =>
    obtain rfl : n = bs.length := by omega
    rw [List.drop_length, rB, ← hq] at hRn
    by_cases hq0 : 0 < q
    · rw [if_pos hq0] at hRn
      have hq0' : (0 : Int) < (q : Int) := by omega
      simp -implicitDefEqProofs [a0, a3, a4, a5, a6, a7, a8, u1, u2, ux, l1, hrem, hq0, len_str underlying9, b48_2, store_at iT48, cells_agg, hst, load_aggp underlying48 rfl iT48]
      replace hRn : R = none := hRn
      rw [show R = none from hRn]; exact ⟨_, _, by decide, rfl⟩
    rw [if_neg hq0] at hRn
    simp -implicitDefEqProofs [a0, a3, a4, a5, a6, a7, a8, u1, u2, ux, l1, hrem, hq0]
    obtain ⟨J, hJ⟩ : ∃ J : Nat → Fr → Hp → Prop, ∀ j fr H', J j fr H' ↔ ∃ (l : List Nat) (x o : CV) (out : Bs) (L' : Hp), j = l.length ∧ R = some (out ++ pack (l.length + 1) l) ∧ (∀ b ∈ l, b ≤ 1) ∧ out.length + l.length ≤ 6 * bs.length ∧ H' = H ++ zFc :: L' ∧ RS H' x (intR l) 1 ∧ GB (H.length + 1) H' o out ∧ Apart o x ∧ fr 3 = .ptr H.length 0 0 ∧ fr 6 = x ∧ fr 11 = o := ⟨_, fun _ _ _ => Iff.rfl⟩
    refine W_rounds J ?_ bits.length _ _ ((hJ _ _ _).2 ⟨bits, x, nilC, [], L, rfl, by simpa using hRn, hb1, by simpa using hbl6, rfl, hrs, GB.nil _ _, (fun _ _ _ _ _ _ _ _ _ h => by cases h), by simp [a3, a6]⟩)
    intro j fr H' h
    obtain ⟨l, x, o, out, L, rfl, hRn, hb1, hol, rfl, hrs, hg, hapt, a3, a6, a11⟩ := (hJ _ _ _).1 h
    have ux := hrs.unl
    have lx := hrs.len (P := prog) underlying81
    rw [List.length_map] at lx
    have uo := hg.unl
    have hap : ∀ y, apQ H.length o y = true := fun y => Grow.ap hg (by omega) y
    by_cases h8 : 8 ≤ l.length
    case neg =>
      have hpk : pack (l.length + 1) l = [] := by rw [pack, if_neg h8]
      rw [hpk, List.append_nil] at hRn
      have h8' : ¬ (8 : Int) ≤ (l.length : Nat) := by omega
      obtain ⟨y, hy1, hy2⟩ := frz_new (m := H.length) hg.rb (fun id ver off len sz h => by have := hg.ids h; omega)
      simp -implicitDefEqProofs [a3, a6, a11, ux, lx, uo, h8', b48_0, store_at iT48, cells_agg, hst, load_aggp underlying48 rfl iT48, hy1]
      rw [hRn]; exact ⟨y, hy2, rfl⟩
    have hpk : pack (l.length + 1) l = (val8 (l.take 8)).toUInt8 :: pack ((l.drop 8).length + 1) (l.drop 8) := by
      rw [pack, if_pos h8, pack_fuel (l.length) ((l.drop 8).length + 1) (l.drop 8) (by rw [List.length_drop]; omega) (by omega)]
    rw [hpk] at hRn
    have h8' : (8 : Int) ≤ (l.length : Nat) := by omega
    simp -implicitDefEqProofs [a3, a6, a11, ux, lx, h8']
    refine W_up 8 (fun k fr H' => H' = H ++ zFc :: L ∧ fr 3 = .ptr H.length 0 0 ∧ fr 6 = x ∧ fr 11 = o ∧ fr 12 = .v (.int .i64 (val8 (l.take k) : Nat)) ∧ fr 13 = .v (.int .i64 (k : Nat))) ?_ 0 _ _ (by omega) (by simp [a3, a6, a11, val8])
    rintro k fr H' hk ⟨rfl, a3, a6, a11, a12, a13⟩
    have hvl : val8 (l.take k) < 2 ^ k := by
      have := val8_lt (l.take k) 0 fun b hb => hb1 b (List.mem_of_mem_take hb)
      rw [List.length_take_of_le (by omega)] at this
      simpa [val8] using this
    have hvl2 : val8 (l.take k) < 256 := Nat.lt_of_lt_of_le hvl (Nat.pow_le_pow_right (n := 2) (by omega) hk)
    obtain ⟨v, hv⟩ : ∃ v, v = val8 (l.take k) := ⟨_, rfl⟩
    rw [← hv] at a12 hvl2
    by_cases hk8 : k < 8
    · have hkl : k < l.length := by omega
      have had : dIndexAddr prog 81 x (.v (.int .i64 (k : Nat))) (H ++ zFc :: L) = some (adrC x k) := by rw [hrs.addr underlying81 iT3 sT3]; simp [hkl]
      have hld : dLoad prog 3 (adrC x k) (H ++ zFc :: L) = some (.v (.int .i64 (l[k] : Nat))) := by rw [hrs.load1 underlying3 rfl iT3 (by simpa using hkl) (by omega)]; simp
      have hlk1 := hb1 l[k] (List.getElem_mem hkl)
      have hts : l.take (k + 1) = l.take k ++ [l[k]] := take_snoc hkl
      have hv1 : val8 (l.take (k + 1)) = 2 * v + l[k] := by rw [hts, hv]; unfold val8; rw [List.foldl_append]; rfl
      obtain ⟨b, hbb⟩ : ∃ b, b = l[k] := ⟨_, rfl⟩
      rw [← hbb] at hld hv1 hlk1
      rw [hv1]
      have hw1 : IntKind.i64.wrap (2 * (v : Int)) = ((2 * v : Nat) : Int) := wrN (by omega) (by omega)
      have hw2 : IntKind.i64.wrap (2 * (v : Int) + (b : Int)) = ((2 * v + b : Nat) : Int) := wrN (by omega) (by omega)
      have hw3 := up64 (i := k) (n := 8) hk8 (by omega)
      simp -implicitDefEqProofs [a3, a6, a11, a12, a13, hk8, ux, had, hld, binA_mul, hw1, hw2, hw3]
    · obtain rfl : k = 8 := by omega
      obtain ⟨p, hp⟩ : ∃ p, p = v.toUInt8 := ⟨_, rfl⟩
      have hcv : ∀ H, cvt prog false 3 5 (.v (.int .i64 (v : Nat))) H = some (.v (.int .u8 (p.toNat : Nat)), H) := fun H => by
        have : p.toNat = v := by rw [hp]; simp; omega
        rw [this]; simp only [cvt, dConv, underlying3, underlying5, wrapU8 v hvl2]
      rw [← hv, ← hp] at hRn
      obtain ⟨x2, H2, e1, e2, e3, e4, e5⟩ := Grow.append (P := prog) (t := 23) (tx := 23) (y := .lit (u8s [p]) 1 1) (cs' := u8s [p]) (n' := 1) underlying23 iT5 zT5 (by simp) sT5 (by omega) (by simp) hg (by simp [dSrc, underlying23, atS]) (by simp) (by simp; omega) (by omega)
      obtain ⟨L2, rfl⟩ := take_pre e3
      have hg' : GB (H.length + 1) (H ++ zFc :: L2) x2 (out ++ [p]) := by unfold GB; rw [u8s_append, List.length_append]; exact e2
      obtain ⟨hrs2, hap2⟩ := RS.other hrs hapt e1 e5
      have u2' := e2.unl
      have hsl : dSlice prog 81 x (some (.v (.int .i64 8))) none (H ++ zFc :: L2) = some (cutC x 8 l.length) := by
        rw [RS.slice (P := prog) underlying81 iT3 sT3 hrs2, List.length_map]
        simp [h8']
      have hcut : RS (H ++ zFc :: L2) (cutC x 8 l.length) (intR (l.drop 8)) 1 := by
        have := hrs2.cut (o := 8) (h := l.length) h8 (by simp)
        rw [List.take_of_length_le (by simp)] at this
        unfold intR; rw [List.map_drop]; exact this
      simp -implicitDefEqProofs [a3, a6, a11, a12, a13, ux, uo, hcv, mkB1, hap, e1, u2', hsl, h8', -List.length_map]
      refine ⟨(l.drop 8).length, by rw [List.length_drop]; omega, (hJ _ _ _).2 ⟨l.drop 8, cutC x 8 l.length, x2, out ++ [p], L2, rfl, by rw [hRn]; simp, fun b hb => hb1 b (List.mem_of_mem_drop hb), by simp; omega, rfl, hcut, hg', fun id _ _ _ _ _ _ _ _ h1 h2 => ?_, by simp [a3], by simp [hcut.unl], by simp⟩⟩
      obtain ⟨_, _, _, h3⟩ := cut_ids h2
      exact hap2 _ _ _ _ _ _ _ _ _ h1 h3
  have hdr : bs.drop n = bs[n] :: bs.drop (n + 1) := List.drop_eq_getElem_cons hlt
  rw [hdr, rB, ← hq] at hRn
  have hw := up64 (i := n) (n := bs.length) hlt (by omega)
  have had := fun H => ad1 n H hlt
  have hld := fun H => ld1 n hlt H
  have hnp : n < ps.length := by omega
  have hadp := fun H => ad2 n H hnp
  have hldp := fun H => ld2 n hnp H
  have c48' := fun m H => (c48 m bs[n] H).wc
  obtain ⟨c, hc⟩ : ∃ c, c = bs[n] := ⟨_, rfl⟩
  rw [← hc] at hRn hld c48'
  have hlx := hrs.len (P := prog) underlying81
  rw [List.length_map] at hlx
  have c49' := fun m => (c49 m x bits (H ++ zFc :: L) hrs (by omega)).wc
  obtain ⟨tb, htb⟩ : ∃ tb, tb = tailB bits := ⟨_, rfl⟩
  have htb2 : ((bits.drop (bits.length / 8 * 8)).any fun b => decide (0 < b)) = tb := htb.symm
  rw [htb2] at c49'
  rw [← htb] at hRn
  have err : ∀ (a c : Int), c ≠ 0 → R = none → rV R (.tup [nilC, .agg [.v (.int .i64 a), .v (.int .i64 c)]]) := fun a c h1 h2 => by rw [h2]; exact ⟨a, c, h1, rfl⟩
  cases hsv : sv c with
  | none =>
    rw [hsv] at hRn
    simp only [] at hRn
    have hx0 := sv_none hsv
    have hx1 : Lib.indexByte sgn c < 0 := by omega
    by_cases h61 : c = 61
    case neg =>
      rw [if_pos h61] at hRn
      have h61' : ¬ c.toNat = 61 := fun h => h61 (UInt8.toNat_inj.1 h)
      simp -implicitDefEqProofs [a0, a3, a4, a5, a6, a7, a8, u1, u2, ux, l1, hlt, had, hld, c48', hx1, h61']
      rw [W_draw _ _ _ _ _ _ followsT (by rfl)]
      simp -implicitDefEqProofs [a0, a3, a4, a5, a6, a7, a8, u1, u2, ux, hadp, hldp, b48_2, store_at iT48, cells_agg, hst, load_aggp underlying48 rfl iT48]
      exact err _ _ (by decide) hRn
    have h61e := eq_true (show c.toNat = 61 by rw [h61]; rfl)
    rw [if_neg (by simp [h61])] at hRn
    have hq4 : q < 4 := by rw [hq]; exact Nat.mod_lt _ (by omega)
    by_cases hq2 : q < 2
    · rw [if_pos (.inl hq2)] at hRn
      simp -implicitDefEqProofs [a0, a3, a4, a5, a6, a7, a8, u1, u2, ux, l1, hlt, had, hld, c48', hx1, h61e, hrem, hq2]
      rw [W_draw _ _ _ _ _ _ followsT (by rfl)]
      simp -implicitDefEqProofs [a0, a3, a4, a5, a6, a7, a8, u1, u2, ux, hadp, hldp, b48_2, store_at iT48, cells_agg, hst, load_aggp underlying48 rfl iT48]
      exact err _ _ (by decide) hRn
    have next : ∀ (e : Nat) fr2, 2 ≤ e → e ≤ n → R = (rB (bs.drop (n + 1)) (n + 1) bits (some e)).map (fun l => pack (l.length + 1) l) → fr2 0 = str s → fr2 3 = .ptr H.length 0 0 → fr2 4 = z1 → fr2 5 = z2 → fr2 6 = x → fr2 7 = .v (.int .i64 (e : Nat)) → fr2 8 = .v (.int .i64 ((n + 1 : Nat) : Int)) → ∃ j', j' < bs.length - n ∧ I j' fr2 (H ++ zFc :: L) :=
      fun e fr2 h1 h2 h3 b0 b3 b4 b5 b6 b7 b8 => ⟨_, by omega, (hI _ _ _).2 ⟨n + 1, x, bits, some e, L, rfl, hlt, h3, by omega, hb1, fun e' he => by cases he; omega, rfl, hg, b0, b3, b4, b5, b6, b7, b8⟩⟩
    cases en with
    | some e =>
      obtain ⟨he2, hen'⟩ := hen e rfl
      have a7' : fr 7 = .v (.int .i64 (e : Nat)) := a7
      by_cases hq2' : q = 2
      · rw [if_pos (.inr ⟨rfl, hq2'⟩)] at hRn
        simp -implicitDefEqProofs [a0, a3, a4, a5, a6, a7', a8, u1, u2, ux, l1, hlt, had, hld, c48', hx1, h61e, hrem, hq2']
        rw [W_draw _ _ _ _ _ _ followsT (by rfl)]
        simp -implicitDefEqProofs [a0, a3, a4, a5, a6, a7', a8, u1, u2, ux, hadp, hldp, b48_2, store_at iT48, cells_agg, hst, load_aggp underlying48 rfl iT48]
        exact err _ _ (by decide) hRn
      have hq3 : q = 3 := by omega
      rw [if_neg (by rintro (h | ⟨_, h⟩) <;> omega)] at hRn
      have hee : e - 1 < ps.length := by omega
      have hade := fun H => ad2 (e - 1) H hee
      have hlde := fun H => ld2 (e - 1) hee H
      have hwe : IntKind.i64.wrap ((e : Int) - 1) = ((e - 1 : Nat) : Int) := wrN (by omega) (by omega)
      simp -implicitDefEqProofs [a0, a3, a4, a5, a6, a7', a8, u1, u2, ux, l1, hlt, had, hld, c48', hx1, h61e, hrem, hq3]
      refine W_rounds (fun j fr2 H2 => H2 = H ++ zFc :: L ∧ fr2 0 = str s ∧ fr2 3 = .ptr H.length 0 0 ∧ fr2 4 = z1 ∧ fr2 5 = z2 ∧ fr2 6 = x ∧ fr2 7 = .v (.int .i64 (e : Nat)) ∧ fr2 8 = .v (.int .i64 (n : Nat)) ∧ fr2 10 = .v (.int .i64 32)) ?_ 0 _ _ (by simp [a0, a3, a4, a5, a6, a7', a8])
      rintro j fr2 H2 ⟨rfl, b0, b3, b4, b5, b6, b7, b8, b10⟩
      cases tb with
      | true =>
        rw [if_pos ⟨hq3, rfl⟩] at hRn
        simp -implicitDefEqProofs [b0, b3, b4, b5, b6, b7, b8, b10, ux, u2, hrem, hq3, c49', hwe]
        rw [W_draw _ _ _ _ _ _ followsT (by rfl)]
        simp -implicitDefEqProofs [b0, b3, b4, b5, b6, b7, b8, b10, ux, u2, hwe, hade, hlde, b48_2, store_at iT48, cells_agg, hst, load_aggp underlying48 rfl iT48]
        exact err _ _ (by decide) hRn
      | false =>
        rw [if_neg (by simp)] at hRn
        simp -implicitDefEqProofs [b0, b3, b4, b5, b6, b7, b8, b10, ux, u2, hrem, hq3, c49', hw]
        exact next e _ he2 hen' hRn (by simp [b0]) (by simp [b3]) (by simp [b4]) (by simp [b5]) (by simp [b6]) (by simp [b7]) (by simp)
    | none =>
      have a7' : fr 7 = .v (.int .i64 (-1)) := a7
      have hq2' : 2 ≤ q := by omega
      rw [if_neg (by rintro (h | ⟨h, _⟩); exact hq2 h; cases h)] at hRn
      have hee : n - 1 < ps.length := by omega
      have hn2 : 2 ≤ n := by omega
      have hade := fun H => ad2 (n - 1) H hee
      have hlde := fun H => ld2 (n - 1) hee H
      have hwe : IntKind.i64.wrap ((n : Int) - 1) = ((n - 1 : Nat) : Int) := wrN (by omega) (by omega)
      simp -implicitDefEqProofs [a0, a3, a4, a5, a6, a7', a8, u1, u2, ux, l1, hlt, had, hld, c48', hx1, h61e, hrem, hq2]
      refine W_rounds (fun j fr2 H2 => H2 = H ++ zFc :: L ∧ fr2 0 = str s ∧ fr2 3 = .ptr H.length 0 0 ∧ fr2 4 = z1 ∧ fr2 5 = z2 ∧ fr2 6 = x ∧ fr2 7 = .v (.int .i64 (n : Nat)) ∧ fr2 8 = .v (.int .i64 (n : Nat)) ∧ fr2 10 = .v (.int .i64 32)) ?_ 0 _ _ (by simp [a0, a3, a4, a5, a6, a7', a8])
      rintro j fr2 H2 ⟨rfl, b0, b3, b4, b5, b6, b7, b8, b10⟩
      by_cases hq3 : q = 3
      · cases tb with
        | true =>
          rw [if_pos ⟨hq3, rfl⟩] at hRn
          simp -implicitDefEqProofs [b0, b3, b4, b5, b6, b7, b8, b10, ux, u2, hrem, hq3, c49', hwe]
          rw [W_draw _ _ _ _ _ _ followsT (by rfl)]
          simp -implicitDefEqProofs [b0, b3, b4, b5, b6, b7, b8, b10, ux, u2, hwe, hade, hlde, b48_2, store_at iT48, cells_agg, hst, load_aggp underlying48 rfl iT48]
          exact err _ _ (by decide) hRn
        | false =>
          rw [if_neg (by simp)] at hRn
          simp -implicitDefEqProofs [b0, b3, b4, b5, b6, b7, b8, b10, ux, u2, hrem, hq3, c49', hw]
          exact next n _ hn2 (Nat.le_refl _) hRn (by simp [b0]) (by simp [b3]) (by simp [b4]) (by simp [b5]) (by simp [b6]) (by simp [b7]) (by simp)
      · rw [if_neg (by rintro ⟨h, _⟩; exact hq3 h)] at hRn
        simp -implicitDefEqProofs [b0, b3, b4, b5, b6, b7, b8, b10, ux, u2, hrem, hq3, hw]
        exact next n _ hn2 (Nat.le_refl _) hRn (by simp [b0]) (by simp [b3]) (by simp [b4]) (by simp [b5]) (by simp [b6]) (by simp [b7]) (by simp)
  | some d =>
    rw [hsv] at hRn
    obtain ⟨hd64, hdi⟩ := sv_lt hsv
    have h61 : ¬ c = 61 := fun h => by rw [h, sv61] at hsv; cases hsv
    have h61' : ¬ c.toNat = 61 := fun h => h61 (UInt8.toNat_inj.1 h)
    simp only [] at hRn
    rw [hdi] at c48'
    cases en with
    | some e =>
      obtain ⟨he2, hen'⟩ := hen e rfl
      have a7' : fr 7 = .v (.int .i64 (e : Nat)) := a7
      rw [if_pos (show (some e).isSome = true from rfl)] at hRn
      simp -implicitDefEqProofs [a0, a3, a4, a5, a6, a7', a8, u1, u2, ux, l1, hlt, had, hld, c48', h61', hrem]
      rw [W_draw _ _ _ _ _ _ followsT (by rfl)]
      simp -implicitDefEqProofs [a0, a3, a4, a5, a6, a7', a8, u1, u2, ux, hadp, hldp, b48_2, store_at iT48, cells_agg, hst, load_aggp underlying48 rfl iT48]
      exact err _ _ (by decide) hRn
    | none =>
      have a7' : fr 7 = .v (.int .i64 (-1)) := a7
      rw [if_neg (by simp)] at hRn
      simp -implicitDefEqProofs [a0, a3, a4, a5, a6, a7', a8, u1, u2, ux, l1, hlt, had, hld, c48', h61', hrem]
      obtain ⟨K, hK⟩ : ∃ K : Nat → Fr → Hp → Prop, ∀ j fr2 H2, K j fr2 H2 ↔ ∃ k x2 L2, j = 6 - k ∧ k ≤ 6 ∧ H2 = H ++ zFc :: L2 ∧ GI (H.length + 1) H2 x2 (bits ++ bitsP d k) ∧ fr2 0 = str s ∧ fr2 3 = .ptr H.length 0 0 ∧ fr2 4 = z1 ∧ fr2 5 = z2 ∧ fr2 6 = x2 ∧ fr2 7 = .v (.int .i64 (-1)) ∧ fr2 8 = .v (.int .i64 (n : Nat)) ∧ fr2 9 = .v (.int .i64 (d : Nat)) ∧ fr2 10 = .v (.int .i64 ((32 / 2 ^ k : Nat) : Int)) := ⟨_, fun _ _ _ => Iff.rfl⟩
      refine W_rounds K ?_ 6 _ _ ((hK _ _ _).2 ⟨0, x, L, rfl, by omega, rfl, by simpa [bitsP] using hg, by simp [a0, a3, a4, a5, a6, a7', a8]⟩)
      intro j fr2 H2 h
      obtain ⟨k, x2, L2, rfl, hk, rfl, hg2, b0, b3, b4, b5, b6, b7, b8, b9, b10⟩ := (hK _ _ _).1 h
      have ux2 := hg2.unl
      have hap2 : ∀ y, apQ H.length x2 y = true := fun y => Grow.ap hg2 (by omega) y
      obtain ⟨w, hww⟩ : ∃ w, w = 32 / 2 ^ k := ⟨_, rfl⟩
      rw [← hww] at b10
      have hw32 : w ≤ 32 := by rw [hww]; exact Nat.div_le_self _ _
      by_cases hk6 : k < 6
      · have hw0 : 0 < w := by
          rw [hww]; exact Nat.div_pos (Nat.le_trans (Nat.pow_le_pow_right (n := 2) (by omega) (show k ≤ 5 by omega)) (by decide)) (Nat.pow_pos (by omega))
        have hq1 := fun H => quo_nat (P := prog) (t := 3) d w H (by omega) (by omega)
        obtain ⟨dw, hdw⟩ : ∃ dw, dw = d / w := ⟨_, rfl⟩
        rw [← hdw] at hq1
        have hr1 := fun H => rem_nat (P := prog) (t := 3) dw 2 H (by omega)
        have hq2 := fun H => quo_nat (P := prog) (t := 3) w 2 H (by omega) (by omega)
        have h2c : ((2 : Nat) : Int) = 2 := rfl
        rw [h2c] at hr1 hq2
        obtain ⟨bt, hbt⟩ : ∃ bt, bt = dw % 2 := ⟨_, rfl⟩
        rw [← hbt] at hr1
        obtain ⟨w2, hw2⟩ : ∃ w2, w2 = w / 2 := ⟨_, rfl⟩
        rw [← hw2] at hq2
        have hwn : w2 = 32 / 2 ^ (k + 1) := by rw [hw2, hww, Nat.div_div_eq_div_mul, Nat.pow_succ]
        have hbp : bitsP d (k + 1) = bitsP d k ++ [bt] := by rw [bitsP_snoc, hbt, hdw, hww]
        obtain ⟨x3, H3, i1, i2, i3, i4, i5, i6⟩ := GI.add hg2 bt (by simp) (by simp; omega)
        obtain ⟨L3, rfl⟩ := take_pre i4
        simp -implicitDefEqProofs [b0, b3, b4, b5, b6, b7, b8, b9, b10, ux2, hw0, hq1, hr1, hq2, mkI1, hap2, i1, i2]
        exact ⟨_, by omega, (hK _ _ _).2 ⟨k + 1, x3, L3, rfl, hk6, rfl, by rw [hbp, ← List.append_assoc]; exact i3, by simp [b0, b3, b4, b5, b7, b8, b9, hwn]⟩⟩
      · obtain rfl : k = 6 := by omega
        have hw0 : w = 0 := by rw [hww]
        have fin : ∀ fr3, fr3 0 = str s → fr3 3 = .ptr H.length 0 0 → fr3 4 = z1 → fr3 5 = z2 → fr3 6 = x2 → fr3 7 = .v (.int .i64 (-1)) → fr3 8 = .v (.int .i64 ((n + 1 : Nat) : Int)) → ∃ j', j' < bs.length - n ∧ I j' fr3 (H ++ zFc :: L2) := fun fr3 d0 d3 d4 d5 d6 d7 d8 =>
          ⟨_, by omega, (hI _ _ _).2 ⟨n + 1, x2, bits ++ bitsP d 6, none, L2, rfl, hlt, hRn, by simp; omega, fun b hb => by
            rcases List.mem_append.1 hb with hb | hb
            · exact hb1 b hb
            · exact bitsP_le d 6 b hb, by simp, rfl, hg2, d0, d3, d4, d5, d6, d7, d8⟩⟩
        by_cases hq3 : q = 3
        · simp -implicitDefEqProofs [b0, b3, b4, b5, b6, b7, b8, b9, b10, ux2, hw0, hrem, hw, hq3]
          exact fin _ (by simp [b0]) (by simp [b3]) (by simp [b4]) (by simp [b5]) (by simp [b6]) (by simp [b7]) (by simp)
        · simp -implicitDefEqProofs [b0, b3, b4, b5, b6, b7, b8, b9, b10, ux2, hw0, hrem, hw, hq3]
          exact fin _ (by simp [b0]) (by simp [b3]) (by simp [b4]) (by simp [b5]) (by simp [b6]) (by simp [b7]) (by simp)
end Go.Proofs.Tryz

/- Walks: parts.Content. -/
namespace Go.Proofs.Tryz
open Go Go.SL
set_option linter.unusedVariables false
set_option linter.unusedSimpArgs false
attribute [local congr] WX_stop WC_stop W_stop
def cteName : Bs := [67, 111, 110, 116, 101, 110, 116, 45, 84, 114, 97, 110, 115, 102, 101, 114, 45, 69, 110, 99, 111, 100, 105, 110, 103]
def tB7 : Bs := [55, 98, 105, 116]
def tB8 : Bs := [56, 98, 105, 116]
def tBin : Bs := [98, 105, 110, 97, 114, 121]
def tB64 : Bs := [98, 97, 115, 101, 54, 52]
def tQP : Bs := [113, 117, 111, 116, 101, 100, 45, 112, 114, 105, 110, 116, 97, 98, 108, 101]
def okO (r : (Nat × Nat) ⊕ Bs) : Option Bs := match r with | .inl _ => none | .inr o => some o
/-- What a body stands for. -/
def contR (p : Prt) : Option Bs :=
  let vs := fall p.fs cteName
  let how := low (vs.headD [])
  if how = tB7 ∨ how = tB8 ∨ how = tBin then some p.b
  else if how = tB64 then okO (decB p.b)
  else if how = tQP then okO (qdec p.b)
  else if 0 < vs.length then none else some p.b
def contV (o : Option Bs) (y : CV) : Prop :=
  match o with
  | none => y = .tup [nilC, .v (.int .i64 82)]
  | some b => ∃ z, CB z b ∧ y = .tup [z, .v (.int .i64 0)]
theorem nameE : str [67, 111, 110, 116, 101, 110, 116, 45, 84, 114, 97, 110, 115, 102, 101, 114, 45, 69, 110, 99, 111, 100, 105, 110, 103] = str cteName := rfl
theorem t7E : str [55, 98, 105, 116] = str tB7 := rfl
theorem t8E : str [56, 98, 105, 116] = str tB8 := rfl
theorem tbE : str [98, 105, 110, 97, 114, 121] = str tBin := rfl
theorem t64E : str [98, 97, 115, 101, 54, 52] = str tB64 := rfl
theorem tqE : str [113, 117, 111, 116, 101, 100, 45, 112, 114, 105, 110, 116, 97, 98, 108, 101] = str tQP := rfl
/-- What reading answers: never 0 as an error's number. -/
def okN (r : (Nat × Nat) ⊕ Bs) : Prop := ∀ a c, r = .inl (a, c) → c ≠ 0
theorem dPut_ok {d pads last : Nat} {s : DS} : ∀ a c, dPut d pads last s = .inl (a, c) → c ≠ 0 := by
  intro a c h
  unfold dPut at h
  split at h
  · split at h
    · cases h; omega
    · cases h
  · cases h
theorem dStep_ok {i : Nat} {b : UInt8} {s : DS} : ∀ a c, dStep i b s = .inl (a, c) → c ≠ 0 := by
  intro a c h
  unfold dStep at h
  split at h
  · split at h
    · cases h; omega
    · split at h
      · cases h; omega
      · exact dPut_ok a c h
  · split at h
    · cases h; omega
    · exact dPut_ok a c h
theorem dB_ok (L : Nat) : ∀ (k : Nat) (s : Bs) (i : Nat) (z : DS), okN (dB L k s i z) := by
  intro k
  induction k with
  | zero => intro s i z a c h; cases h
  | succ k ih =>
    intro s i z a c h
    cases s with
    | nil =>
      rw [dB] at h
      split at h
      · cases h
      · cases h; omega
    | cons b r =>
      rw [dB] at h
      split at h
      · exact ih _ _ _ a c h
      · split at h
        · rename_i e he
          obtain ⟨e1, e2⟩ := e
          cases h
          exact dStep_ok _ _ he
        · exact ih _ _ _ a c h
theorem decB_ok (s : Bs) : okN (decB s) := by
  intro a c h
  unfold decB at h
  split at h
  · cases h; omega
  · exact dB_ok _ _ _ _ _ a c h
theorem qD_ok : ∀ (k : Nat) (s : Bs) (i : Nat) (out : Bs), okN (qD k s i out) := by
  intro k
  induction k with
  | zero => intro s i z a c h; cases h
  | succ k ih =>
    intro s i z a c h
    cases s with
    | nil => cases h
    | cons b r =>
      rw [qD] at h
      repeat' split at h
      all_goals first | exact ih _ _ _ a c h | (cases h; omega)
theorem qdec_ok (s : Bs) : okN (qdec s) := by
  intro a c h
  unfold qdec at h
  split at h
  · cases h; omega
  · exact qD_ok _ _ _ _ a c h
variable [LayerC]
set_option maxRecDepth 100000 in
set_option maxHeartbeats 2000000 in
theorem e14 (m : Nat) (p : Prt) (cs : List CV) (H : Hp) (hp : PV p cs) (hlim : Lim p) : WC prog cs0 m (.f 7) [.agg cs] H fun y H' => H' = H ∧ contV (contR p) y := by
  rw [WC_drop rfl func7 rfl rfl]
  obtain ⟨f, x, q, ch, rfl, hf, hb, hcl, hch1, hrs, hq, hch⟩ := hp.inv
  have of := hf.one
  have ob := hb.one
  have oq := hq.one
  have uf := hf.unl
  have ub := hb.unl
  obtain ⟨lf, ln, lb, lp, lq⟩ : p.fs.length ≤ 1000000 ∧ (∀ g ∈ p.fs, g.n.length ≤ 1000000 ∧ g.v.length ≤ 1000000) ∧ p.b.length ≤ 1000000 ∧ True ∧ True := by
    cases hlim with
    | mk l1 l2 l3 l4 l5 => exact ⟨l1, l2, l3, trivial, trivial⟩
  have c30 := fun m H => (w27 m f p.fs cteName H (PV.fld hf H) (by omega) (by decide) (fun g hg => by have := (ln g hg).1; omega)).wc
  obtain ⟨r, hr, h31⟩ := w35 H.length x p.b (H ++ [CO.cells 0 [f, x, q] 26]) (hb.rb _) (by omega)
  obtain ⟨how, hhow⟩ : ∃ how, how = (fall p.fs cteName).headD [] := ⟨_, rfl⟩
  have hhl : how.length ≤ 1000000 := by
    rw [hhow]
    cases hfa : fall p.fs cteName with
    | nil => simp
    | cons a t =>
      have : a ∈ fall p.fs cteName := by rw [hfa]; simp
      unfold fall at this
      obtain ⟨g, hg, rfl⟩ := List.mem_map.1 this
      exact (ln g (List.mem_filter.1 hg).1).2
  have c32 := fun m H => (e32 m how H (by omega)).wc
  have hcv : ∀ H, cvt prog false 23 9 x H = some (str p.b, H) := fun H => (hb.rb H).str false underlying23 underlying9 underlying5
  obtain ⟨o, ho⟩ : ∃ o, o = contR p := ⟨_, rfl⟩
  rw [← ho]
  unfold contR at ho
  simp only [← hhow] at ho
  unfold fgetV at c30
  rw [← hhow] at c30
  obtain ⟨n, hn⟩ : ∃ n, n = (fall p.fs cteName).length := ⟨_, rfl⟩
  rw [← hn] at c30 ho
  have c31 := h31.wc
  have ur := hr.unl
  have hfz : ∀ (H2 : Hp) (m2 : Nat), frz2 H2 m2 r = some r := fun H2 m2 => (hr.frz H2 m2).2.1
  obtain ⟨L7, hL7⟩ : ∃ L7, L7 = low how := ⟨_, rfl⟩
  rw [← hL7] at c32 ho
  have fin : o = some p.b → contV o (.tup [r, .v (.int .i64 0)]) := fun h => by rw [h]; exact ⟨r, hr, rfl⟩
  by_cases h7 : L7 = tB7
  · rw [if_pos (.inl h7)] at ho
    simp -implicitDefEqProofs [f7, cells_agg, of, ob, oq, uf, ub, ur, faddr_ptr, underlying26, underlying48, atP, load_one underlying22 rfl iT22, load_one underlying23 rfl iT23, load_one underlying30 rfl iT30, nameE, t7E, t8E, tbE, t64E, tqE, c30, c31, c32, dExtract, b48_0, dAlloc, aQ, store_at iT48, stQ, h7, hfz]
    exact fin ho
  by_cases h8 : L7 = tB8
  · rw [if_pos (.inr (.inl h8))] at ho
    have h87 : ¬ tB8 = tB7 := by decide
    simp -implicitDefEqProofs [f7, cells_agg, of, ob, oq, uf, ub, ur, faddr_ptr, underlying26, underlying48, atP, load_one underlying22 rfl iT22, load_one underlying23 rfl iT23, load_one underlying30 rfl iT30, nameE, t7E, t8E, tbE, t64E, tqE, c30, c31, c32, dExtract, b48_0, dAlloc, aQ, store_at iT48, stQ, h8, h87, hfz]
    exact fin ho
  by_cases hbi : L7 = tBin
  · rw [if_pos (.inr (.inr hbi))] at ho
    have h87 : ¬ tBin = tB7 := by decide
    have h88 : ¬ tBin = tB8 := by decide
    simp -implicitDefEqProofs [f7, cells_agg, of, ob, oq, uf, ub, ur, faddr_ptr, underlying26, underlying48, atP, load_one underlying22 rfl iT22, load_one underlying23 rfl iT23, load_one underlying30 rfl iT30, nameE, t7E, t8E, tbE, t64E, tqE, c30, c31, c32, dExtract, b48_0, dAlloc, aQ, store_at iT48, stQ, hbi, h87, h88, hfz]
    exact fin ho
  rw [if_neg (by rintro (h | h | h) <;> contradiction)] at ho
  by_cases h64 : L7 = tB64
  · rw [if_pos h64] at ho
    have k1 := eq_true h64
    simp -implicitDefEqProofs [f7, cells_agg, of, ob, oq, uf, ub, ur, faddr_ptr, underlying26, underlying48, atP, load_one underlying22 rfl iT22, load_one underlying23 rfl iT23, load_one underlying30 rfl iT30, nameE, t7E, t8E, tbE, t64E, tqE, c30, c31, c32, dExtract, b48_0, dAlloc, aQ, store_at iT48, stQ, h7, h8, hbi, k1, hfz, hcv]
    refine WC_mono (e33 _ p.b _) ?_
    rintro y H2 ⟨rfl, hy⟩
    have hok := decB_ok p.b
    cases hd : decB p.b with
    | inl e =>
      obtain ⟨ea, ec⟩ := e
      have he := hok ea ec hd
      rw [hd] at hy ho
      unfold decV at hy
      simp only [] at hy
      subst hy
      simp -implicitDefEqProofs [f7, cells_agg, of, ob, oq, uf, ub, ur, faddr_ptr, underlying26, underlying48, atP, load_one underlying22 rfl iT22, load_one underlying23 rfl iT23, load_one underlying30 rfl iT30, nameE, t7E, t8E, tbE, t64E, tqE, c30, c31, c32, dExtract, b48_0, dAlloc, aQ, store_at iT48, stQ, he]
      rw [ho]; rfl
    | inr b =>
      rw [hd] at hy ho
      obtain ⟨z, hz, rfl⟩ := hy
      have uz := hz.unl
      have hzf : ∀ (H2 : Hp) (m2 : Nat), frz2 H2 m2 z = some z := fun H2 m2 => (hz.frz H2 m2).2.1
      simp -implicitDefEqProofs [f7, cells_agg, of, ob, oq, uf, ub, ur, faddr_ptr, underlying26, underlying48, atP, load_one underlying22 rfl iT22, load_one underlying23 rfl iT23, load_one underlying30 rfl iT30, nameE, t7E, t8E, tbE, t64E, tqE, c30, c31, c32, dExtract, b48_0, dAlloc, aQ, store_at iT48, stQ, uz, hzf]
      rw [ho]; exact ⟨z, hz, rfl⟩
  rw [if_neg h64] at ho
  by_cases hqp : L7 = tQP
  · rw [if_pos hqp] at ho
    have k1 := eq_true hqp
    simp -implicitDefEqProofs [f7, cells_agg, of, ob, oq, uf, ub, ur, faddr_ptr, underlying26, underlying48, atP, load_one underlying22 rfl iT22, load_one underlying23 rfl iT23, load_one underlying30 rfl iT30, nameE, t7E, t8E, tbE, t64E, tqE, c30, c31, c32, dExtract, b48_0, dAlloc, aQ, store_at iT48, stQ, h7, h8, hbi, h64, k1, hfz, hcv]
    refine WC_mono (e34 _ p.b _) ?_
    rintro y H2 ⟨rfl, hy⟩
    have hok := qdec_ok p.b
    cases hd : qdec p.b with
    | inl e =>
      obtain ⟨ea, ec⟩ := e
      have he := hok ea ec hd
      rw [hd] at hy ho
      unfold decV at hy
      simp only [] at hy
      subst hy
      simp -implicitDefEqProofs [f7, cells_agg, of, ob, oq, uf, ub, ur, faddr_ptr, underlying26, underlying48, atP, load_one underlying22 rfl iT22, load_one underlying23 rfl iT23, load_one underlying30 rfl iT30, nameE, t7E, t8E, tbE, t64E, tqE, c30, c31, c32, dExtract, b48_0, dAlloc, aQ, store_at iT48, stQ, he]
      rw [ho]; rfl
    | inr b =>
      rw [hd] at hy ho
      obtain ⟨z, hz, rfl⟩ := hy
      have uz := hz.unl
      have hzf : ∀ (H2 : Hp) (m2 : Nat), frz2 H2 m2 z = some z := fun H2 m2 => (hz.frz H2 m2).2.1
      simp -implicitDefEqProofs [f7, cells_agg, of, ob, oq, uf, ub, ur, faddr_ptr, underlying26, underlying48, atP, load_one underlying22 rfl iT22, load_one underlying23 rfl iT23, load_one underlying30 rfl iT30, nameE, t7E, t8E, tbE, t64E, tqE, c30, c31, c32, dExtract, b48_0, dAlloc, aQ, store_at iT48, stQ, uz, hzf]
      rw [ho]; exact ⟨z, hz, rfl⟩
  rw [if_neg hqp] at ho
  by_cases hn0 : 0 < n
  · rw [if_pos hn0] at ho
    simp -implicitDefEqProofs [f7, cells_agg, of, ob, oq, uf, ub, ur, faddr_ptr, underlying26, underlying48, atP, load_one underlying22 rfl iT22, load_one underlying23 rfl iT23, load_one underlying30 rfl iT30, nameE, t7E, t8E, tbE, t64E, tqE, c30, c31, c32, dExtract, b48_0, dAlloc, aQ, store_at iT48, stQ, h7, h8, hbi, h64, hqp, hn0]
    rw [ho]; rfl
  · rw [if_neg hn0] at ho
    simp -implicitDefEqProofs [f7, cells_agg, of, ob, oq, uf, ub, ur, faddr_ptr, underlying26, underlying48, atP, load_one underlying22 rfl iT22, load_one underlying23 rfl iT23, load_one underlying30 rfl iT30, nameE, t7E, t8E, tbE, t64E, tqE, c30, c31, c32, dExtract, b48_0, dAlloc, aQ, store_at iT48, stQ, h7, h8, hbi, h64, hqp, hn0, hfz]
    exact fin ho
end Go.Proofs.Tryz

/- Plain laws: both readers of quoted lines answer alike; both readers of signs answer alike. -/
namespace Go.Proofs.Tryz
open Go Go.SL
set_option linter.unusedVariables false
set_option linter.unusedSimpArgs false
theorem blank_cases {c : UInt8} (h : blankC c = true) : c.toNat = 32 ∨ c.toNat = 9 := by simpa [blankC] using h
theorem crlf_blank {c : UInt8} {r : Bs} (h : blankC c = true) : ¬ [13, 10] <+: c :: r := by
  rintro ⟨t, ht⟩
  have : (13 : UInt8) = c := by injection ht
  subst this
  exact absurd h (by decide)
theorem drop_bl {bl t : Bs} (hb : ∀ c ∈ bl, blankC c = true) (ht : ∀ c, t.head? = some c → blankC c = false) : (bl ++ t).dropWhile blankC = t := by
  induction bl with
  | nil =>
    cases t with
    | nil => rfl
    | cons c t => rw [List.nil_append, List.dropWhile_cons, if_neg (by rw [ht c rfl]; simp)]
  | cons c bl ih => rw [List.cons_append, List.dropWhile_cons, if_pos (hb c (by simp))]; exact ih fun d hd => hb d (by simp [hd])
theorem rq_blank (t : Bs) (ht : ∀ c, t.head? = some c → blankC c = false) : ∀ (bl : Bs) (k : Nat) (out : Bs), (∀ c ∈ bl, blankC c = true) → bl.length + t.length < k → rq k (bl ++ t) out = rq (k - bl.length) t (out ++ if t = [] ∨ [13, 10] <+: t then [] else bl) := by
  intro bl
  induction bl with
  | nil => intro k out _ _; simp
  | cons c bl ih =>
    intro k out hb hk
    obtain ⟨k, rfl⟩ : ∃ k', k = k' + 1 := ⟨k - 1, by simp at hk; omega⟩
    have hc := hb c (by simp)
    have hcc := blank_cases hc
    have h61 : ¬ c = 61 := by rintro rfl; exact absurd hc (by decide)
    have htr : trailS (c :: (bl ++ t)) = decide (t = [] ∨ [13, 10] <+: t) := by
      unfold trailS
      rw [← List.cons_append, drop_bl hb ht]
    rw [List.cons_append, rq, if_neg (crlf_blank hc), if_neg h61, if_neg (by omega), htr, ih k _ (fun d hd => hb d (by simp [hd])) (by simp at hk; omega)]
    have hl : k + 1 - (c :: bl).length = k - bl.length := by simp
    rw [hl]
    by_cases hq : t = [] ∨ [13, 10] <+: t
    · simp [hq]
    · simp [hq]
theorem mem_tw {p : UInt8 → Bool} : ∀ (l : Bs) (d : UInt8), d ∈ l.takeWhile p → p d = true := by
  intro l
  induction l with
  | nil => intro d h; cases h
  | cons a l ih =>
    intro d h
    rw [List.takeWhile_cons] at h
    split at h
    · rename_i ha
      rcases List.mem_cons.1 h with rfl | h
      · exact ha
      · exact ih d h
    · cases h
theorem rq_qD : ∀ (n : Nat) (s : Bs), s.length ≤ n → ∀ k k' i out, s.length < k → s.length < k' → okO (qD k s i out) = rq k' s out := by
  intro n
  induction n with
  | zero =>
    intro s h k k' i out hk hk'
    obtain rfl := List.eq_nil_of_length_eq_zero (Nat.le_zero.1 h)
    obtain ⟨k, rfl⟩ : ∃ j, k = j + 1 := ⟨k - 1, by omega⟩
    obtain ⟨k', rfl⟩ : ∃ j, k' = j + 1 := ⟨k' - 1, by omega⟩
    rfl
  | succ n ih =>
    intro s h k k' i out hk hk'
    obtain ⟨k, rfl⟩ : ∃ j, k = j + 1 := ⟨k - 1, by omega⟩
    obtain ⟨k', rfl⟩ : ∃ j, k' = j + 1 := ⟨k' - 1, by omega⟩
    cases s with
    | nil => rfl
    | cons c r =>
      simp only [List.length_cons] at h hk hk'
      by_cases hbl : blankC c = true
      · have hcc := blank_cases hbl
        have h61 : ¬ c = 61 := by rintro rfl; exact absurd hbl (by decide)
        rw [qD, if_neg (crlf_blank hbl), if_neg h61, if_pos hbl]
        obtain ⟨bl, hbl0⟩ : ∃ bl, bl = (c :: r).takeWhile blankC := ⟨_, rfl⟩
        obtain ⟨t, ht0⟩ : ∃ t, t = (c :: r).dropWhile blankC := ⟨_, rfl⟩
        have hsp : c :: r = bl ++ t := by rw [hbl0, ht0, List.takeWhile_append_dropWhile]
        have hb : ∀ d ∈ bl, blankC d = true := fun d hd => by rw [hbl0] at hd; exact mem_tw _ _ hd
        have hth : ∀ d, t.head? = some d → blankC d = false := fun d hd => by
          rw [ht0] at hd
          have := List.head?_dropWhile_not blankC (c :: r)
          rw [hd] at this
          simpa using this
        have hlen : bl.length + t.length = r.length + 1 := by rw [← List.length_append, ← hsp]; rfl
        have hb1 : 0 < bl.length := by rw [hbl0, List.takeWhile_cons, if_pos hbl]; simp
        rw [hsp, rq_blank t hth bl (k' + 1) out hb (by omega), ← hsp, ← hbl0, ← ht0]
        by_cases hq : t = [] ∨ [13, 10] <+: t
        · rw [if_neg (by rintro ⟨h1, h2⟩; exact hq.elim h1 h2), if_pos hq, List.append_nil]
          exact ih t (by omega) _ _ _ _ (by omega) (by omega)
        · rw [if_pos ⟨fun h1 => hq (.inl h1), fun h2 => hq (.inr h2)⟩, if_neg hq]
          exact ih t (by omega) _ _ _ _ (by omega) (by omega)
      · have hbl' : ¬ (c.toNat = 32 ∨ c.toNat = 9) := by simpa [blankC] using hbl
        rw [qD, rq]
        by_cases hp : [13, 10] <+: c :: r
        · rw [if_pos hp, if_pos hp]
          exact ih _ (by rw [List.length_drop]; omega) _ _ _ _ (by rw [List.length_drop]; omega) (by rw [List.length_drop]; omega)
        rw [if_neg hp, if_neg hp]
        by_cases h61 : c = 61
        · rw [if_pos h61, if_pos h61]
          by_cases hp2 : [13, 10] <+: r
          · rw [if_pos hp2, if_pos hp2]
            exact ih _ (by rw [List.length_drop]; omega) _ _ _ _ (by rw [List.length_drop]; omega) (by rw [List.length_drop]; omega)
          rw [if_neg hp2, if_neg hp2]
          split
          · exact ih _ (by rw [List.length_drop]; omega) _ _ _ _ (by rw [List.length_drop]; omega) (by rw [List.length_drop]; omega)
          · rfl
        rw [if_neg h61, if_neg h61, if_neg hbl]
        by_cases ho : c.toNat < 32 ∨ 126 < c.toNat
        · rw [if_pos ho, if_pos ⟨by omega, ho⟩]; rfl
        rw [if_neg ho, if_neg (fun h => ho h.2)]
        have htr : trailS (c :: r) = false := by
          unfold trailS
          rw [List.dropWhile_cons, if_neg hbl, decide_eq_false_iff_not]
          rintro (h1 | h1)
          · cases h1
          · exact hp h1
        rw [htr, if_neg (by simp)]
        exact ih _ (by omega) _ _ _ _ (by omega) (by omega)
theorem rdec_eq (s : Bs) (h : s.length ≤ 1000000) : rdec s = okO (qdec s) := by
  unfold qdec rdec
  rw [if_neg (by omega)]
  exact (rq_qD s.length s (Nat.le_refl _) _ _ _ _ (by omega) (by omega)).symm
/-- Bits of a number, the last one last. -/
def bitsN (v : Nat) : Nat → List Nat
  | 0 => []
  | w + 1 => bitsN (v / 2) w ++ [v % 2]
theorem bitsN_len (w : Nat) : ∀ v, (bitsN v w).length = w := by
  induction w with
  | zero => intro v; rfl
  | succ w ih => intro v; rw [bitsN, List.length_append, ih]; rfl
theorem bitsN_app (w : Nat) : ∀ (k v d : Nat), d < 2 ^ k → bitsN v w ++ bitsN d k = bitsN (v * 2 ^ k + d) (w + k) := by
  intro k
  induction k with
  | zero => intro v d h; simp [bitsN] at h ⊢; rw [h]; simp
  | succ k ih =>
    intro v d h
    rw [Nat.pow_succ] at h
    have h1 : (v * 2 ^ (k + 1) + d) / 2 = v * 2 ^ k + d / 2 := by rw [Nat.pow_succ, ← Nat.mul_assoc]; omega
    have h2 : (v * 2 ^ (k + 1) + d) % 2 = d % 2 := by rw [Nat.pow_succ, ← Nat.mul_assoc]; omega
    rw [bitsN, ← List.append_assoc, ih v (d / 2) (by omega), ← Nat.add_assoc, bitsN, h1, h2]
theorem bitsP_eq (d : Nat) : bitsP d 6 = bitsN d 6 := by
  have : bitsP d 6 = [d / 32 % 2, d / 16 % 2, d / 8 % 2, d / 4 % 2, d / 2 % 2, d / 1 % 2] := rfl
  rw [this]
  have : bitsN d 6 = [d / 2 / 2 / 2 / 2 / 2 % 2, d / 2 / 2 / 2 / 2 % 2, d / 2 / 2 / 2 % 2, d / 2 / 2 % 2, d / 2 % 2, d % 2] := rfl
  rw [this]
  simp only [Nat.div_div_eq_div_mul, Nat.div_one, Nat.reduceMul]
def B8 (l : Bs) : List Nat := l.flatMap fun b => bitsN b.toNat 8
theorem B8_app (a b : Bs) : B8 (a ++ b) = B8 a ++ B8 b := by simp [B8]
theorem B8_len (a : Bs) : (B8 a).length = a.length * 8 := by
  induction a with
  | nil => rfl
  | cons c a ih => rw [show B8 (c :: a) = bitsN c.toNat 8 ++ B8 a from rfl, List.length_append, ih, bitsN_len, List.length_cons]; omega
theorem val8_bits : ∀ v, v < 256 → val8 (bitsN v 8) = v := by
  intro v h
  have : bitsN v 8 = [v / 2 / 2 / 2 / 2 / 2 / 2 / 2 % 2, v / 2 / 2 / 2 / 2 / 2 / 2 % 2, v / 2 / 2 / 2 / 2 / 2 % 2, v / 2 / 2 / 2 / 2 % 2, v / 2 / 2 / 2 % 2, v / 2 / 2 % 2, v / 2 % 2, v % 2] := rfl
  rw [this]
  simp only [val8, List.foldl_cons, List.foldl_nil]
  omega
theorem pack_B8 : ∀ (out : Bs) (rest : List Nat) (k : Nat), rest.length < 8 → (B8 out ++ rest).length < k → pack k (B8 out ++ rest) = out := by
  intro out
  induction out with
  | nil =>
    intro rest k h hk
    obtain ⟨k, rfl⟩ : ∃ j, k = j + 1 := ⟨k - 1, by omega⟩
    rw [pack, if_neg (by simp [B8]; omega)]
  | cons c out ih =>
    intro rest k h hk
    obtain ⟨k, rfl⟩ : ∃ j, k = j + 1 := ⟨k - 1, by omega⟩
    have hc : B8 (c :: out) ++ rest = bitsN c.toNat 8 ++ (B8 out ++ rest) := by rw [show B8 (c :: out) = bitsN c.toNat 8 ++ B8 out from rfl, List.append_assoc]
    rw [hc] at hk ⊢
    have hl : (bitsN c.toNat 8).length = 8 := bitsN_len _ _
    rw [List.length_append, hl] at hk
    rw [pack, if_pos (by rw [List.length_append, hl]; omega), List.take_left' hl, List.drop_left' hl, val8_bits _ c.toNat_lt, ih rest k h (by omega)]
    simp
theorem tail_B8 (out : Bs) (a b : List Nat) (ha : a.length % 8 = 0) (hb : b.length < 8) : tailB (B8 out ++ (a ++ b)) = b.any fun x => decide (0 < x) := by
  unfold tailB
  have h1 : (B8 out ++ (a ++ b)).length / 8 * 8 = (B8 out ++ a).length := by
    simp only [List.length_append, B8_len]; omega
  rw [h1, ← List.append_assoc, List.drop_left]
theorem any2 : ∀ x : Fin 4, ((bitsN x.val 2).any fun b => decide (0 < b)) = decide (x.val ≠ 0) := by decide
theorem any4 : ∀ x : Fin 16, ((bitsN x.val 4).any fun b => decide (0 < b)) = decide (x.val ≠ 0) := by decide
/-- What both have read so far. -/
def Rel (z : DS) (bits : List Nat) (en : Option Nat) : Prop :=
  (z.pads = 0 ∧ en = none ∧ bits = B8 z.out ++ bitsN z.v (6 * (z.n % 4)) ∧ z.v < 64 ^ (z.n % 4)) ∨
  (z.pads = 1 ∧ en.isSome = true ∧ z.n % 4 = 3 ∧ ∃ u, u < 4096 ∧ z.v = u * 64 ∧ bits = B8 z.out ++ bitsN u 12) ∨
  (0 < z.pads ∧ en.isSome = true ∧ z.n % 4 = 0 ∧ ∃ rest, rest.length < 8 ∧ bits = B8 z.out ++ rest)
theorem tri_B8 (w : Nat) (h : w < 16777216) : B8 (tri w) = bitsN w 24 := by
  have h1 : (w / 65536).toUInt8.toNat = w / 65536 := by simp; omega
  have h2 : (w / 256).toUInt8.toNat = w / 256 % 256 := by simp
  have h3 : w.toUInt8.toNat = w % 256 := by simp
  have : B8 (tri w) = bitsN (w / 65536) 8 ++ (bitsN (w / 256 % 256) 8 ++ bitsN (w % 256) 8) := by
    unfold B8 tri
    simp only [List.flatMap_cons, List.flatMap_nil, List.append_nil, h1, h2, h3]
  rw [this, ← List.append_assoc, bitsN_app _ 8 _ _ (Nat.mod_lt _ (by decide)), bitsN_app _ 8 _ _ (Nat.mod_lt _ (by decide))]
  congr 1
  omega
def okB (r : Option (List Nat)) : Option Bs := r.map fun l => pack (l.length + 1) l
theorem sim_nil {L k i : Nat} {z : DS} {bits : List Nat} {en : Option Nat} (hr : Rel z bits en) : okO (dB L (k + 1) [] i z) = okB (rB [] z.n bits en) := by
  rw [dB, rB]
  by_cases hn : z.n % 4 = 0
  · rw [if_pos hn, if_neg (by omega)]
    have hb : ∃ rest, rest.length < 8 ∧ bits = B8 z.out ++ rest := by
      rcases hr with ⟨_, _, h, _⟩ | ⟨_, _, h, _⟩ | ⟨_, _, _, h⟩
      · exact ⟨[], by simp, by rw [h, hn]; rfl⟩
      · omega
      · exact h
    obtain ⟨rest, h1, rfl⟩ := hb
    show some z.out = some (pack ((B8 z.out ++ rest).length + 1) (B8 z.out ++ rest))
    rw [pack_B8 _ _ _ h1 (by omega)]
  · rw [if_neg hn, if_pos (by omega)]; rfl
theorem drop_len {r : Bs} {n k : Nat} (h : r.length + 1 ≤ n + 1) : (r.drop 1).length ≤ n := by rw [List.length_drop]; omega
theorem sim : ∀ (n : Nat) (s : Bs), s.length ≤ n → ∀ L k i z bits en, s.length < k → Rel z bits en → okO (dB L k s i z) = okB (rB (bareL s) z.n bits en) := by
  intro n
  induction n with
  | zero =>
    intro s h L k i z bits en hk hr
    obtain rfl := List.eq_nil_of_length_eq_zero (Nat.le_zero.1 h)
    obtain ⟨k, rfl⟩ : ∃ j, k = j + 1 := ⟨k - 1, by omega⟩
    exact sim_nil hr
  | succ n ih =>
    intro s h L k i z bits en hk hr
    obtain ⟨k, rfl⟩ : ∃ j, k = j + 1 := ⟨k - 1, by omega⟩
    cases s with
    | nil => exact sim_nil hr
    | cons c r =>
      simp only [List.length_cons] at h hk
      rw [dB, bareL_cons]
      by_cases hp : c = 13 ∧ r.head? = some 10
      · rw [if_pos hp, if_pos hp]
        exact ih _ (by rw [List.length_drop]; omega) _ _ _ _ _ _ (by rw [List.length_drop]; omega) hr
      rw [if_neg hp, if_neg hp, rB]
      unfold dStep
      cases hsv : sv c with
      | none =>
        simp only []
        by_cases h61 : c = 61
        case neg => rw [if_pos h61, if_pos h61]; rfl
        rw [if_neg (show ¬ c ≠ 61 by simp [h61]), if_neg (show ¬ c ≠ 61 by simp [h61])]
        by_cases hq : z.n % 4 < 2
        · rw [if_pos hq, if_pos (.inl hq)]; rfl
        rw [if_neg hq]
        unfold dPut
        rcases hr with ⟨hp0, he, hbits, hv⟩ | ⟨hp1, he, hn, u, hu, hvu, hbits⟩ | ⟨hp1, he, hn, rest, hrest, hbits⟩
        · rw [if_neg (show ¬ (z.n % 4 < 2 ∨ en.isSome = true ∧ z.n % 4 = 2) by rw [he]; rintro (h | ⟨h, _⟩); exact hq h; cases h)]
          by_cases hn3 : z.n % 4 = 3
          · rw [if_pos (show (z.n + 1) % 4 = 0 by omega)]
            rw [hn3] at hbits hv
            have hv' : z.v < 262144 := hv
            have htl : tailB bits = decide (z.v % 4 ≠ 0) := by
              have e : bitsN z.v 18 = bitsN (z.v / 4) 16 ++ bitsN (z.v % 4) 2 := by
                rw [bitsN_app 16 2 _ _ (Nat.mod_lt _ (by decide))]; congr 1; omega
              rw [hbits, show 6 * 3 = 18 from rfl, e, tail_B8 _ _ _ (by rw [bitsN_len]) (by rw [bitsN_len]; omega)]
              exact any2 ⟨z.v % 4, Nat.mod_lt _ (by decide)⟩
            have hget : (z.out ++ tri (z.v * 64 + 0)).getD (z.out.length + 3 - (z.pads + 1)) 0 = (z.v * 64).toUInt8 := by
              rw [hp0]
              have : z.out.length + 3 - (0 + 1) = z.out.length + 2 := by omega
              rw [this]; simp [List.getD, tri]
            have hz : (z.v * 64).toUInt8 ≠ 0 ↔ z.v % 4 ≠ 0 := by
              refine not_congr ?_
              rw [← UInt8.toNat_inj]
              simp; omega
            rw [hget]
            by_cases h4 : z.v % 4 = 0
            case neg =>
              rw [if_pos ⟨by omega, hz.2 h4⟩, if_pos ⟨hn3, by rw [htl]; simpa using h4⟩]; rfl
            rw [if_neg (fun h => hz.1 h.2 h4), if_neg (by rw [htl]; rintro ⟨_, h⟩; simp [h4] at h)]
            simp only []
            have htake : (z.out ++ tri (z.v * 64 + 0)).take (z.out.length + 3 - (z.pads + 1)) = z.out ++ [(z.v / 1024).toUInt8, (z.v / 4).toUInt8] := by
              rw [hp0]
              have : z.out.length + 3 - (0 + 1) = z.out.length + 2 := by omega
              have h1 : z.v * 64 / 65536 = z.v / 1024 := by omega
              have h2 : z.v * 64 / 256 = z.v / 4 := by omega
              rw [this, List.take_length_add_append]; simp [tri, h1, h2]
            rw [htake]
            have hb2 : bits = B8 (z.out ++ [(z.v / 1024).toUInt8, (z.v / 4).toUInt8]) ++ bitsN 0 2 := by
              have h1 : (z.v / 1024).toUInt8.toNat = z.v / 1024 := by simp; omega
              have h2 : (z.v / 4).toUInt8.toNat = z.v / 4 % 256 := by simp
              have e : B8 [(z.v / 1024).toUInt8, (z.v / 4).toUInt8] = bitsN (z.v / 4) 16 := by
                have : B8 [(z.v / 1024).toUInt8, (z.v / 4).toUInt8] = bitsN (z.v / 1024) 8 ++ bitsN (z.v / 4 % 256) 8 := by
                  unfold B8; simp only [List.flatMap_cons, List.flatMap_nil, List.append_nil, h1, h2]
                rw [this, bitsN_app 8 8 _ _ (Nat.mod_lt _ (by decide))]; congr 1; omega
              rw [hbits, B8_app, e, List.append_assoc, bitsN_app 16 2 _ _ (by decide)]
              congr 2; omega
            exact ih _ (by omega) _ _ _ ⟨0, z.n + 1, z.pads + 1, z.last, _⟩ _ _ (by omega) (.inr (.inr ⟨by simp, rfl, by simp; omega, bitsN 0 2, by rw [bitsN_len]; omega, hb2⟩))
          · have hn2 : z.n % 4 = 2 := by omega
            rw [hn2] at hbits hv
            rw [if_neg (show ¬ (z.n + 1) % 4 = 0 by omega), if_neg (fun h => hn3 h.1)]
            exact ih _ (by omega) _ _ _ ⟨z.v * 64 + 0, z.n + 1, z.pads + 1, z.last, z.out⟩ _ _ (by omega) (.inr (.inl ⟨by simp [hp0], rfl, by simp; omega, z.v, hv, by simp, hbits⟩))
        · rw [if_neg (show ¬ (z.n % 4 < 2 ∨ en.isSome = true ∧ z.n % 4 = 2) by rintro (h | ⟨_, h⟩) <;> omega), if_pos (show (z.n + 1) % 4 = 0 by omega)]
          have htl : tailB bits = decide (u % 16 ≠ 0) := by
            have e : bitsN u 12 = bitsN (u / 16) 8 ++ bitsN (u % 16) 4 := by
              rw [bitsN_app 8 4 _ _ (Nat.mod_lt _ (by decide))]; congr 1; omega
            rw [hbits, e, tail_B8 _ _ _ (by rw [bitsN_len]) (by rw [bitsN_len]; omega)]
            exact any4 ⟨u % 16, Nat.mod_lt _ (by decide)⟩
          have hw : z.v * 64 + 0 = u * 4096 := by rw [hvu]; omega
          rw [hw]
          have hget : (z.out ++ tri (u * 4096)).getD (z.out.length + 3 - (z.pads + 1)) 0 = (u * 4096 / 256).toUInt8 := by
            rw [hp1]
            have : z.out.length + 3 - (1 + 1) = z.out.length + 1 := by omega
            rw [this]; simp [List.getD, tri]
          have hz : (u * 4096 / 256).toUInt8 ≠ 0 ↔ u % 16 ≠ 0 := by
            refine not_congr ?_
            rw [← UInt8.toNat_inj]
            simp; omega
          rw [hget]
          by_cases h4 : u % 16 = 0
          case neg =>
            rw [if_pos ⟨by omega, hz.2 h4⟩, if_pos ⟨hn, by rw [htl]; simpa using h4⟩]; rfl
          rw [if_neg (fun h => hz.1 h.2 h4), if_neg (by rw [htl]; rintro ⟨_, h⟩; simp [h4] at h)]
          simp only []
          have htake : (z.out ++ tri (u * 4096)).take (z.out.length + 3 - (z.pads + 1)) = z.out ++ [(u / 16).toUInt8] := by
            rw [hp1]
            have : z.out.length + 3 - (1 + 1) = z.out.length + 1 := by omega
            have h1 : u * 4096 / 65536 = u / 16 := by omega
            rw [this, List.take_length_add_append]; simp [tri, h1]
          rw [htake]
          have hb2 : bits = B8 (z.out ++ [(u / 16).toUInt8]) ++ bitsN 0 4 := by
            have h1 : (u / 16).toUInt8.toNat = u / 16 := by simp; omega
            have e : B8 [(u / 16).toUInt8] = bitsN (u / 16) 8 := by
              unfold B8; simp only [List.flatMap_cons, List.flatMap_nil, List.append_nil, h1]
            rw [hbits, B8_app, e, List.append_assoc, bitsN_app 8 4 _ _ (by decide)]
            congr 2; omega
          exact ih _ (by omega) _ _ _ ⟨0, z.n + 1, z.pads + 1, z.last, _⟩ _ _ (by omega) (.inr (.inr ⟨by simp, rfl, by simp; omega, bitsN 0 4, by rw [bitsN_len]; omega, hb2⟩))
        · omega
      | some d =>
        simp only []
        obtain ⟨hd64, _⟩ := sv_lt hsv
        rcases hr with ⟨hp0, he, hbits, hv⟩ | ⟨hp1, he, hn, u, hu, hvu, hbits⟩ | ⟨hp1, he, hn, rest, hrest, hbits⟩
        · rw [if_neg (show ¬ 0 < z.pads by omega), he, if_neg (by simp)]
          have hb2 : bits ++ bitsP d 6 = B8 z.out ++ bitsN (z.v * 64 + d) (6 * (z.n % 4) + 6) := by
            rw [hbits, bitsP_eq, List.append_assoc, bitsN_app _ 6 _ _ hd64]
          unfold dPut
          by_cases hn3 : z.n % 4 = 3
          · rw [if_pos (show (z.n + 1) % 4 = 0 by omega), if_neg (by omega)]
            simp only []
            rw [hn3] at hb2 hv
            have hv' : z.v < 262144 := hv
            have htake : (z.out ++ tri (z.v * 64 + d)).take (z.out.length + 3 - z.pads) = z.out ++ tri (z.v * 64 + d) := by
              rw [hp0]; exact List.take_of_length_le (by simp [tri])
            rw [htake]
            exact ih _ (by omega) _ _ _ ⟨0, z.n + 1, z.pads, i, _⟩ _ _ (by omega) (.inl ⟨hp0, rfl, by
              have : (z.n + 1) % 4 = 0 := by omega
              simp only [this]
              rw [B8_app, tri_B8 _ (by omega), hb2]
              simp [bitsN], Nat.pow_pos (by omega)⟩)
          · rw [if_neg (show ¬ (z.n + 1) % 4 = 0 by omega)]
            have h5 : (z.n + 1) % 4 = z.n % 4 + 1 := by omega
            exact ih _ (by omega) _ _ _ ⟨z.v * 64 + d, z.n + 1, z.pads, i, z.out⟩ _ _ (by omega) (.inl ⟨hp0, rfl, by simp only [h5]; rw [hb2]; rfl, by simp only [h5]; rw [Nat.pow_succ]; omega⟩)
        · rw [if_pos (show 0 < z.pads by omega), if_pos he]; rfl
        · rw [if_pos hp1, if_pos he]; rfl
theorem rbits_eq (s : Bs) (h : s.length ≤ 1000000) : rbits s = okO (decB s) := by
  unfold decB rbits
  rw [if_neg (by omega)]
  exact (sim s.length s (Nat.le_refl _) _ _ 0 ⟨0, 0, 0, 0, []⟩ [] none (by omega) (.inl ⟨rfl, rfl, rfl, by simp⟩)).symm
end Go.Proofs.Tryz

/- Walks: the reference's Content. -/
namespace Go.Proofs.Tryz
open Go Go.SL
set_option linter.unusedVariables false
set_option linter.unusedSimpArgs false
attribute [local congr] WX_stop WC_stop W_stop
section
def cteLow : Bs := [99, 111, 110, 116, 101, 110, 116, 45, 116, 114, 97, 110, 115, 102, 101, 114, 45, 101, 110, 99, 111, 100, 105, 110, 103]
theorem nameL : str [99, 111, 110, 116, 101, 110, 116, 45, 116, 114, 97, 110, 115, 102, 101, 114, 45, 101, 110, 99, 111, 100, 105, 110, 103] = str cteLow := rfl
theorem fall_cte (l : List Fld) : fall l cteLow = fall l cteName := by
  have : low cteLow = low cteName := by decide
  unfold fall; rw [this]
end
variable [LayerC]
set_option maxRecDepth 100000 in
set_option maxHeartbeats 2000000 in
theorem c8 (m : Nat) (p : Prt) (cs : List CV) (H : Hp) (hp : PV p cs) (hlim : Lim p) : WC prog cs0 m (.f 8) [.agg cs] H fun y H' => H' = H ∧ contV (contR p) y := by
  rw [WC_drop rfl func8 rfl rfl]
  obtain ⟨f, x, q, ch, rfl, hf, hb, hcl, hch1, hrs, hq, hch⟩ := hp.inv
  have of := hf.one
  have ob := hb.one
  have oq := hq.one
  have uf := hf.unl
  have ub := hb.unl
  obtain ⟨lf, ln, lb, lp, lq⟩ : p.fs.length ≤ 1000000 ∧ (∀ g ∈ p.fs, g.n.length ≤ 1000000 ∧ g.v.length ≤ 1000000) ∧ p.b.length ≤ 1000000 ∧ True ∧ True := by
    cases hlim with
    | mk l1 l2 l3 l4 l5 => exact ⟨l1, l2, l3, trivial, trivial⟩
  have c30 := fun m H => (w29 m f p.fs cteLow H (PV.fld hf H) (by omega) (by decide) (fun g hg => by have := (ln g hg).1; omega)).wc
  obtain ⟨r, H2, hacc, h31⟩ := w6 H.length x p.b (H ++ [CO.cells 0 [f, x, q] 26]) (hb.rb _) (by omega)
  obtain ⟨how, hhow⟩ : ∃ how, how = (fall p.fs cteName).headD [] := ⟨_, rfl⟩
  have hhl : how.length ≤ 1000000 := by
    rw [hhow]
    cases hfa : fall p.fs cteName with
    | nil => simp
    | cons a t =>
      have : a ∈ fall p.fs cteName := by rw [hfa]; simp
      unfold fall at this
      obtain ⟨g, hg, rfl⟩ := List.mem_map.1 this
      exact (ln g (List.mem_filter.1 hg).1).2
  have c32 := fun m H => (w54 m how H (by omega)).wc
  have hcv : ∀ H, cvt prog false 23 9 x H = some (str p.b, H) := fun H => (hb.rb H).str false underlying23 underlying9 underlying5
  obtain ⟨o, ho⟩ : ∃ o, o = contR p := ⟨_, rfl⟩
  rw [← ho]
  unfold contR at ho
  simp only [← hhow, ← rbits_eq p.b lb, ← rdec_eq p.b lb] at ho
  unfold fgetV at c30
  rw [fall_cte, ← hhow] at c30
  have hempty : (fall p.fs cteName).length = 0 → low how = [] := fun h => by
    rw [hhow, List.eq_nil_of_length_eq_zero h]; rfl
  obtain ⟨n, hn⟩ : ∃ n, n = (fall p.fs cteName).length := ⟨_, rfl⟩
  rw [← hn] at c30 ho hempty
  have c31 := h31.wc
  have ur := hacc.unl
  obtain ⟨y, hfy, hcy⟩ := hacc.frz (m := H.length) (by simp) (u8s_clB p.b)
  have htk : H2.take H.length = H := by rw [hacc.take' (by simp)]; simp
  have hfz : frz2 H2 H.length r = some y := by
    rw [← hfy]
    rcases hacc with ⟨_, _, rfl, _⟩ | ⟨_, _, rfl, _⟩ <;> rfl
  obtain ⟨L7, hL7⟩ : ∃ L7, L7 = low how := ⟨_, rfl⟩
  rw [← hL7] at c32 ho hempty
  have fin : o = some p.b → contV o (.tup [y, .v (.int .i64 0)]) := fun h => by rw [h]; exact ⟨y, hcy, rfl⟩
  have oP : o = some p.b ∨ n ≠ 0 ∧ ¬ (L7 = tB7 ∨ L7 = tB8 ∨ L7 = tBin) := by
    by_cases h1 : L7 = tB7 ∨ L7 = tB8 ∨ L7 = tBin
    · rw [if_pos h1] at ho; exact .inl ho
    · by_cases h0 : n = 0
      · have := hempty h0
        subst this
        rw [if_neg h1, if_neg (by decide), if_neg (by decide), if_neg (by omega)] at ho
        exact .inl ho
      · exact .inr ⟨h0, h1⟩
  by_cases h0 : n = 0
  · have hoo : o = some p.b := by
      rcases oP with h | ⟨h, _⟩
      · exact h
      · exact absurd h0 h
    simp -implicitDefEqProofs [f8, cells_agg, of, ob, oq, uf, ub, ur, faddr_ptr, underlying26, underlying48, atP, load_one underlying22 rfl iT22, load_one underlying23 rfl iT23, load_one underlying30 rfl iT30, nameL, t7E, t8E, tbE, t64E, tqE, c30, c31, c32, dExtract, h0, hfz, htk]
    exact fin hoo
  by_cases h7 : L7 = tB7
  · rw [if_pos (.inl h7)] at ho
    simp -implicitDefEqProofs [f8, cells_agg, of, ob, oq, uf, ub, ur, faddr_ptr, underlying26, underlying48, atP, load_one underlying22 rfl iT22, load_one underlying23 rfl iT23, load_one underlying30 rfl iT30, nameL, t7E, t8E, tbE, t64E, tqE, c30, c31, c32, dExtract, h0, h7, hfz, htk]
    exact fin ho
  by_cases h8 : L7 = tB8
  · rw [if_pos (.inr (.inl h8))] at ho
    have h87 : ¬ tB8 = tB7 := by decide
    simp -implicitDefEqProofs [f8, cells_agg, of, ob, oq, uf, ub, ur, faddr_ptr, underlying26, underlying48, atP, load_one underlying22 rfl iT22, load_one underlying23 rfl iT23, load_one underlying30 rfl iT30, nameL, t7E, t8E, tbE, t64E, tqE, c30, c31, c32, dExtract, h0, h8, h87, hfz, htk]
    exact fin ho
  by_cases hbi : L7 = tBin
  · rw [if_pos (.inr (.inr hbi))] at ho
    have h87 : ¬ tBin = tB7 := by decide
    have h88 : ¬ tBin = tB8 := by decide
    simp -implicitDefEqProofs [f8, cells_agg, of, ob, oq, uf, ub, ur, faddr_ptr, underlying26, underlying48, atP, load_one underlying22 rfl iT22, load_one underlying23 rfl iT23, load_one underlying30 rfl iT30, nameL, t7E, t8E, tbE, t64E, tqE, c30, c31, c32, dExtract, h0, hbi, h87, h88, hfz, htk]
    exact fin ho
  rw [if_neg (show ¬ (L7 = tB7 ∨ L7 = tB8 ∨ L7 = tBin) by rintro (h | h | h) <;> contradiction)] at ho
  by_cases h64 : L7 = tB64
  · rw [if_pos h64] at ho
    have k1 := eq_true h64
    have hnq : ¬ L7 = tQP := by rw [h64]; decide
    simp -implicitDefEqProofs [f8, cells_agg, of, ob, oq, uf, ub, ur, faddr_ptr, underlying26, underlying48, atP, load_one underlying22 rfl iT22, load_one underlying23 rfl iT23, load_one underlying30 rfl iT30, nameL, t7E, t8E, tbE, t64E, tqE, c30, c31, c32, dExtract, b48_1, dAlloc, aQ, store_at iT48, stQ, h0, h7, h8, hbi, k1, hcv]
    refine WC_mono (c28 _ p.b _ lb) ?_
    rintro y2 H3 ⟨rfl, hy⟩
    cases hd : rbits p.b with
    | none =>
      rw [hd] at hy ho
      obtain ⟨a, c, hc0, rfl⟩ := hy
      simp -implicitDefEqProofs [f8, cells_agg, of, ob, oq, uf, ub, ur, faddr_ptr, underlying26, underlying48, atP, load_one underlying22 rfl iT22, load_one underlying23 rfl iT23, load_one underlying30 rfl iT30, nameL, t7E, t8E, tbE, t64E, tqE, c30, c31, c32, dExtract, b48_1, dAlloc, aQ, store_at iT48, stQ, h7, h8, hbi, k1, hnq, hc0]
      rw [ho]; rfl
    | some b =>
      rw [hd] at hy ho
      obtain ⟨z, hz, rfl⟩ := hy
      have uz := hz.unl
      have hzf : ∀ (H2 : Hp) (m2 : Nat), frz2 H2 m2 z = some z := fun H2 m2 => (hz.frz H2 m2).2.1
      simp -implicitDefEqProofs [f8, cells_agg, of, ob, oq, uf, ub, ur, faddr_ptr, underlying26, underlying48, atP, load_one underlying22 rfl iT22, load_one underlying23 rfl iT23, load_one underlying30 rfl iT30, nameL, t7E, t8E, tbE, t64E, tqE, c30, c31, c32, dExtract, b48_1, dAlloc, aQ, store_at iT48, stQ, h7, h8, hbi, k1, hnq, uz, hzf]
      rw [ho]; exact ⟨z, hz, rfl⟩
  rw [if_neg h64] at ho
  by_cases hqp : L7 = tQP
  · rw [if_pos hqp] at ho
    have k1 := eq_true hqp
    simp -implicitDefEqProofs [f8, cells_agg, of, ob, oq, uf, ub, ur, faddr_ptr, underlying26, underlying48, atP, load_one underlying22 rfl iT22, load_one underlying23 rfl iT23, load_one underlying30 rfl iT30, nameL, t7E, t8E, tbE, t64E, tqE, c30, c31, c32, dExtract, b48_1, dAlloc, aQ, store_at iT48, stQ, h0, h7, h8, hbi, h64, k1, hcv]
    refine WC_mono (c29 _ p.b _ lb) ?_
    rintro y2 H3 ⟨rfl, hy⟩
    cases hd : rdec p.b with
    | none =>
      rw [hd] at hy ho
      obtain ⟨a, c, hc0, rfl⟩ := hy
      simp -implicitDefEqProofs [f8, cells_agg, of, ob, oq, uf, ub, ur, faddr_ptr, underlying26, underlying48, atP, load_one underlying22 rfl iT22, load_one underlying23 rfl iT23, load_one underlying30 rfl iT30, nameL, t7E, t8E, tbE, t64E, tqE, c30, c31, c32, dExtract, b48_1, dAlloc, aQ, store_at iT48, stQ, h7, h8, hbi, h64, k1, hc0]
      rw [ho]; rfl
    | some b =>
      rw [hd] at hy ho
      obtain ⟨z, hz, rfl⟩ := hy
      have uz := hz.unl
      have hzf : ∀ (H2 : Hp) (m2 : Nat), frz2 H2 m2 z = some z := fun H2 m2 => (hz.frz H2 m2).2.1
      simp -implicitDefEqProofs [f8, cells_agg, of, ob, oq, uf, ub, ur, faddr_ptr, underlying26, underlying48, atP, load_one underlying22 rfl iT22, load_one underlying23 rfl iT23, load_one underlying30 rfl iT30, nameL, t7E, t8E, tbE, t64E, tqE, c30, c31, c32, dExtract, b48_1, dAlloc, aQ, store_at iT48, stQ, h7, h8, hbi, h64, k1, uz, hzf]
      rw [ho]; exact ⟨z, hz, rfl⟩
  rw [if_neg hqp, if_pos (by omega)] at ho
  simp -implicitDefEqProofs [f8, cells_agg, of, ob, oq, uf, ub, ur, faddr_ptr, underlying26, underlying48, atP, load_one underlying22 rfl iT22, load_one underlying23 rfl iT23, load_one underlying30 rfl iT30, nameL, t7E, t8E, tbE, t64E, tqE, c30, c31, c32, dExtract, b48_1, dAlloc, aQ, store_at iT48, stQ, h0, h7, h8, hbi, h64, hqp]
  rw [ho]; rfl
end Go.Proofs.Tryz

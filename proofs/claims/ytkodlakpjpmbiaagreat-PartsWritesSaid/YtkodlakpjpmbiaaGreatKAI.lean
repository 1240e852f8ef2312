/- Walks: a kind is read, by the reference. -/
import Derived.Test.YtkodlakpjpmbiaaGreatKAH
import Derived.Test.YtkodlakpjpmbiaaGreatKAF

set_option linter.all false

namespace Go.Proofs.Tryz
open Go Go.SL
set_option linter.unusedVariables false
set_option linter.unusedSimpArgs false
theorem tr_init (s : Bs) : CO.cells 0 [str s, .v (.int .i64 0)] 93 = TR s s := by simp [TR]
@[simp] theorem tr_zero (s r : Bs) (L : Hp) : cellsAt (TR s r :: L) 0 0 = some [str s, .v (.int .i64 ((s.length - r.length : Nat) : Int))] := by simp [TR]
theorem trimL_trim (r : Bs) : trimL (trimL r) = trimL r := by
  unfold trimL
  cases h : r.dropWhile blankC with
  | nil => rfl
  | cons c r' =>
    have := List.head_dropWhile_not blankC (l := r) (by rw [h]; simp)
    simp only [h, List.head_cons] at this
    rw [List.dropWhile_cons, this]; simp
theorem qS_sfx : ∀ n (r : Bs) o q, r.length ≤ n → qS r = some (o, q) → q <:+ r := by
  intro n
  induction n with
  | zero => intro r o q hn h; cases r with
    | nil => cases h
    | cons a r => simp at hn
  | succ n ih =>
    intro r o q hn h
    cases r with
    | nil => cases h
    | cons c r =>
      simp only [List.length_cons] at hn
      by_cases h1 : c = 34
      · subst h1; rw [qS_q] at h; cases h; exact List.suffix_cons _ _
      by_cases h2 : c = 92
      · subst h2
        cases r with
        | nil => rw [qS_b0] at h; cases h
        | cons d r =>
          rw [qS_b] at h
          obtain ⟨⟨o', q'⟩, h3, h4⟩ := Option.map_eq_some_iff.1 h
          simp only [Prod.mk.injEq] at h4
          obtain ⟨rfl, rfl⟩ := h4
          simp only [List.length_cons] at hn
          exact ((ih r o' q' (by omega) h3).trans (List.suffix_cons _ _)).trans (List.suffix_cons _ _)
      · rw [qS_c _ h1 h2] at h
        obtain ⟨⟨o', q'⟩, h3, h4⟩ := Option.map_eq_some_iff.1 h
        simp only [Prod.mk.injEq] at h4
        obtain ⟨rfl, rfl⟩ := h4
        exact (ih r o' q' (by omega) h3).trans (List.suffix_cons _ _)
theorem valR_sfx (r : Bs) : (valR r).1 <:+ r := by
  unfold valR
  split
  · rename_i hh
    cases r with
    | nil => simp at hh
    | cons c r =>
      simp only [List.tail_cons]
      split
      · rename_i q h; exact (qS_sfx _ _ q.1 q.2 (Nat.le_refl _) h).trans (List.suffix_cons _ _)
      · exact List.nil_suffix
  · exact tokR_sfx r
variable [LayerC]
theorem w30 (hL : LayerC.b = true) (m : Nat) (s : Bs) (H : Hp) (hs : s.length ≤ 4294967280) : WC prog cs0 m (.f 30) [str s] H fun y H2 => H2 = H ∧ rdK (readK s) y := by
  rw [WC_drop rfl func30 rfl rfl]
  have s1 := trimL_sfx s
  have s2 := (tokR_sfx (trimL s)).trans s1
  have h1 := s1.length_le
  have h3 : (tokF (trimL s)).length ≤ (trimL s).length := (List.takeWhile_sublist _).length_le
  have c54 := fun m a H' (h : a.length ≤ s.length) => (w54 m a H' (by omega)).wc
  have c53 : ∀ m a b r L, r <:+ s → ∀ K, WC prog cs0 m (.f 53) [.ptr (H.length + 2) 0 0] (H ++ a :: b :: TR s r :: L) K ↔ K (.tup []) (H ++ a :: b :: TR s (trimL r) :: L) := fun m a b r L h K => by
    have := (w53 m s r (H ++ a :: b :: TR s r :: L) (H.length + 2) (by simp) h hs).wc K
    simpa using this
  have c55 : ∀ m a b r L, r <:+ s → ∀ K, WC prog cs0 m (.f 55) [.ptr (H.length + 2) 0 0] (H ++ a :: b :: TR s r :: L) K ↔ K (str (tokF r)) (H ++ a :: b :: TR s (tokR r) :: L) := fun m a b r L h K => by
    have := (w55 m s r (H ++ a :: b :: TR s r :: L) (H.length + 2) (by simp) h hs).wc K
    simpa using this
  have c56 : ∀ (c : UInt8) (n : Int), n = c.toNat → ∀ m a b r L, r <:+ s → ∀ K, WC prog cs0 m (.f 56) [.ptr (H.length + 2) 0 0, .v (.int .u8 n)] (H ++ a :: b :: TR s r :: L) K ↔ K (.v (.bool (decide (r.head? = some c)))) (H ++ a :: b :: TR s (if r.head? = some c then r.tail else r) :: L) := fun c n hn m a b r L h K => by
    subst hn
    have := (w56 m s r c (H ++ a :: b :: TR s r :: L) (H.length + 2) (by simp) h hs).wc K
    simpa using this
  have c47 := c56 47 47 rfl
  have c59 := c56 59 59 rfl
  have c61 := c56 61 61 rfl
  have hkv : KV (.agg [str [], str [], nilC]) ⟨[], [], []⟩ := ⟨nilC, rfl, .inr ⟨rfl, rfl, rfl⟩⟩
  have l1 := fun m H' => c54 m (tokF (trimL s)) H' (by omega)
  simp -implicitDefEqProofs [f30, aQ, dAlloc, b39_0, b93_1, store_at iT39, cells_agg, tr_init, c53, c55, s1, List.suffix_refl, l1, faddr_ptr, underlying39, store_at iT9, c47, s2]
  cases hq : tokR (trimL s) with
  | nil =>
    simp -implicitDefEqProofs [load_aggp underlying39 rfl iT39, store_at iT39, cells_agg]
    have : readK s = none := by unfold readK; rw [hq]
    rw [this]; exact ⟨_, hkv, rfl⟩
  | cons c r1 =>
    by_cases h47 : c = 47
    case neg =>
      simp -implicitDefEqProofs [h47, load_aggp underlying39 rfl iT39, store_at iT39, cells_agg]
      have : readK s = none := by unfold readK; rw [hq]; simp [h47]
      rw [this]; exact ⟨_, hkv, rfl⟩
    subst h47
    rw [hq] at s2
    have s3 := sfx_cons s2
    have s4 := (tokR_sfx r1).trans s3
    have s5 := (trimL_sfx (tokR r1)).trans s4
    have h5 : (tokF r1).length ≤ r1.length := (List.takeWhile_sublist _).length_le
    have h6 := s3.length_le
    have l2 := fun m H' => c54 m (tokF r1) H' (by omega)
    simp -implicitDefEqProofs [c53, c55, s3, s4, l2, faddr_ptr, underlying39, store_at iT9]
    have hrk : readK s = (parsS (tokR r1)).bind fun ps => if kOK (low (tokF (trimL s))) (low (tokF r1)) ps then some ⟨low (tokF (trimL s)), low (tokF r1), ps⟩ else none := by unfold readK; rw [hq]; simp
    generalize hT : low (tokF (trimL s)) = T at hrk ⊢
    generalize hS : low (tokF r1) = S at hrk ⊢
    obtain ⟨Z, hZ⟩ : ∃ Z, Z = parsS (tokR r1) := ⟨_, rfl⟩
    rw [← hZ] at hrk
    obtain ⟨E, hE⟩ : ∃ E, E = CO.cells 0 [str [], str [], nilC] 39 := ⟨_, rfl⟩
    rw [← hE]
    have hEa : ∀ L, cellsAt (E :: L) 0 0 = some [str [], str [], nilC] := fun L => by rw [hE]; rfl
    have hEp : ∀ L xs, putH (E :: L) 0 0 xs = CO.cells 0 (xs ++ [str [], str [], nilC].drop xs.length) 39 :: L := fun L xs => by rw [hE]; simp
    obtain ⟨R, hR⟩ : ∃ R : Fr → Hp → Prop, ∀ fr H', R fr H' ↔ ∃ r' ps q L, fr 2 = .ptr H.length 0 0 ∧ fr 4 = .ptr (H.length + 1) 0 0 ∧ fr 6 = .ptr (H.length + 3) 0 0 ∧ H' = H ++ E :: E :: TR s r' :: CO.cells 0 [str T, str S, q] 39 :: L ∧ Grow (H.length + 4) H' q (ps.map Par.c).flatten ps.length 2 86 ∧ ps.length ≤ s.length ∧ (∀ p ∈ ps, p.n.length ≤ s.length ∧ p.v.length ≤ s.length) ∧ Z = some ps := ⟨_, fun _ _ => Iff.rfl⟩
    obtain ⟨RR, hRR⟩ : ∃ R : Fr → Hp → Prop, ∀ fr H', R fr H' ↔ ∃ L, fr 2 = .ptr H.length 0 0 ∧ fr 3 = .v (.int .i64 70) ∧ H' = H ++ E :: L ∧ Z = none := ⟨_, fun _ _ => Iff.rfl⟩
    obtain ⟨I, hI⟩ : ∃ I : Nat → Fr → Hp → Prop, ∀ j fr H', I j fr H' ↔ ∃ x ps q L, j = (trimL x).length ∧ trimL x <:+ s ∧ fr 0 = str s ∧ fr 2 = .ptr H.length 0 0 ∧ fr 4 = .ptr (H.length + 1) 0 0 ∧ fr 5 = .ptr (H.length + 2) 0 0 ∧ fr 6 = .ptr (H.length + 3) 0 0 ∧ H' = H ++ E :: E :: TR s (trimL x) :: CO.cells 0 [str T, str S, q] 39 :: L ∧ Grow (H.length + 4) H' q (ps.map Par.c).flatten ps.length 2 86 ∧ ps.length + (trimL x).length ≤ s.length ∧ (∀ p ∈ ps, p.n.length ≤ s.length ∧ p.v.length ≤ s.length) ∧ Z = (parsS x).map (ps ++ ·) := ⟨_, fun _ _ _ => Iff.rfl⟩
    refine W_mono (W_rounds (Q := fun e fr H' => (e = .exit 0 ∧ R fr H') ∨ (e = .ret ∧ RR fr H')) I ?_ _ _ _ ((hI _ _ _).2
      ⟨tokR r1, [], nilC, [], rfl, s5, by simp, by simp, by simp, by simp, by simp, rfl, Grow.nil _ _ _ _, by have := s5.length_le; simp; omega, by simp, by rw [hZ]; cases parsS (tokR r1) <;> simp⟩)) ?_
    · rintro j fr H' hi
      obtain ⟨x, ps, q, L, rfl, hsf, a0, a2, a4, a5, a6, rfl, hg, hn, hp, hz⟩ := (hI _ _ _).1 hi
      have bad : ∀ (fr' : Fr) (H' : Hp), fr' 2 = .ptr H.length 0 0 → fr' 3 = .v (.int .i64 70) → (∃ L, H' = H ++ E :: L) → Z = none → RR fr' H' := fun fr' H' b2 b3 ⟨L, hL⟩ hz => (hRR _ _).2 ⟨L, b2, b3, hL, hz⟩
      cases hx : trimL x with
      | nil =>
        simp -implicitDefEqProofs [a0, a5, atP, faddr_ptr, underlying93, load_one underlying3 rfl iT3, len_str underlying9]
        rw [hx] at hg
        exact (hR _ _).2 ⟨[], ps, q, L, by simp [a2], by simp [a4], by simp [a6], rfl, hg, by omega, hp, by rw [hz, parsS_nil hx]; simp⟩
      | cons c r2 =>
        rw [hx] at hsf hn hg
        have hl := hsf.length_le
        simp only [List.length_cons] at hl hn
        have hlt : s.length - (r2.length + 1) < s.length := by omega
        by_cases q59 : c = 59
        case neg =>
          simp -implicitDefEqProofs [a0, a2, a4, a5, a6, atP, faddr_ptr, underlying93, load_one underlying3 rfl iT3, len_str underlying9, hlt, c59, hsf, q59, hEa, hEp, load_aggp underlying39 rfl iT39, store_at iT39, cells_agg]
          exact bad _ _ (by simp [a2]) (by simp) ⟨_, by rw [hE]⟩ (by rw [hz, parsS_no hx q59]; rfl)
        subst q59
        have sf2 := sfx_cons hsf
        have sf3 := (trimL_sfx r2).trans sf2
        cases hr3 : trimL r2 with
        | nil =>
          simp -implicitDefEqProofs [a0, a2, a4, a5, a6, atP, faddr_ptr, underlying93, load_one underlying3 rfl iT3, len_str underlying9, hlt, c59, hsf, c53, sf2, hr3]
          refine (hR _ _).2 ⟨[], ps, q, L, by simp [a2], by simp [a4], by simp [a6], rfl, ?_, by omega, hp, by rw [hz, parsS_end hx hr3]; simp⟩
          have := Grow.pre (A := H ++ [E, E, TR s (59 :: r2), CO.cells 0 [str T, str S, q] 39]) (A' := H ++ [E, E, TR s [], CO.cells 0 [str T, str S, q] 39]) (L := L) (by simpa using hg) (by simp) (by simp)
          simpa using this
        | cons d r4 =>
          have hr3n : trimL r2 ≠ [] := by rw [hr3]; simp
          have hpp := parsS_par hx hr3n
          have t3 := (trimL_sfx r2).length_le
          rw [hr3] at sf3 hpp t3
          simp only [List.length_cons] at t3
          have hl4 := sf3.length_le
          simp only [List.length_cons] at hl4
          have hne : ¬ s.length - (r4.length + 1) = s.length := by omega
          have hk : (tokF (d :: r4)).length ≤ (d :: r4).length := (List.takeWhile_sublist _).length_le
          simp only [List.length_cons] at hk
          have l3 := fun m H' => c54 m (tokF (d :: r4)) H' (by omega)
          have sf5 := (tokR_sfx (d :: r4)).trans sf3
          have t5 := (tokR_sfx (d :: r4)).length_le
          cases ht : tokR (d :: r4) with
          | nil =>
            have hpn : parR (d :: r4) = none := by unfold parR; rw [ht]
            simp -implicitDefEqProofs [a0, a2, a4, a5, a6, atP, faddr_ptr, underlying93, load_one underlying3 rfl iT3, len_str underlying9, hlt, c59, hsf, c53, sf2, hr3, hne, c55, sf3, l3, ht, c61, sf5, hEa, hEp, load_aggp underlying39 rfl iT39, store_at iT39, cells_agg]
            exact bad _ _ (by simp [a2]) (by simp) ⟨_, by rw [hE]⟩ (by rw [hz, hpp, hpn]; rfl)
          | cons g r5 =>
            rw [ht] at sf5 t5
            simp only [List.length_cons] at t5
            by_cases q61 : g = 61
            case neg =>
              have hpn : parR (d :: r4) = none := by unfold parR; rw [ht]; simp [q61]
              simp -implicitDefEqProofs [a0, a2, a4, a5, a6, atP, faddr_ptr, underlying93, load_one underlying3 rfl iT3, len_str underlying9, hlt, c59, hsf, c53, sf2, hr3, hne, c55, sf3, l3, ht, c61, sf5, q61, hEa, hEp, load_aggp underlying39 rfl iT39, store_at iT39, cells_agg]
              exact bad _ _ (by simp [a2]) (by simp) ⟨_, by rw [hE]⟩ (by rw [hz, hpp, hpn]; rfl)
            subst q61
            have sf6 := sfx_cons sf5
            have hpr : parR (d :: r4) = (valR r5).2.map fun v => (⟨low (tokF (d :: r4)), v⟩, (valR r5).1) := by unfold parR; rw [ht]; simp
            simp -implicitDefEqProofs [a0, a2, a4, a5, a6, atP, faddr_ptr, underlying93, load_one underlying3 rfl iT3, len_str underlying9, hlt, c59, hsf, c53, sf2, hr3, hne, c55, sf3, l3, ht, c61, sf5]
            refine WC_mono (w57 _ s r5 _ (H.length + 2) (by simp) sf6 hs) ?_
            rintro y H2 (⟨rfl, hsome, rfl⟩ | ⟨hnone, ⟨v, rfl, hv⟩, r'', rfl⟩)
            · obtain ⟨v, hv⟩ := Option.isSome_iff_exists.1 hsome
              have t6 := valR_len r5
              have t7 := valR_val r5 v hv
              have sf7 := (valR_sfx r5).trans sf6
              rw [hv] at hpr ⊢
              generalize (valR r5).1 = q' at *
              have t8 := (trimL_sfx q').length_le
              have hg0 : Grow (H.length + 4) (H ++ E :: E :: TR s q' :: CO.cells 0 [str T, str S, q] 39 :: L) q (ps.map Par.c).flatten ps.length 2 86 := by
                have := Grow.pre (A := H ++ [E, E, TR s (59 :: r2), CO.cells 0 [str T, str S, q] 39]) (A' := H ++ [E, E, TR s q', CO.cells 0 [str T, str S, q] 39]) (L := L) (by simpa using hg) (by simp) (by simp)
                simpa using this
              obtain ⟨x2, H3, e1, e2, e3, e4, e5⟩ := Grow.append (P := prog) (tx := 37) (y := .im [str (low (tokF (d :: r4))), str v] 1 2) underlying37 iT86 zT86 (by simp) sT86 (by omega) (by simp) hg0 (src_clo (n := 1) underlying37 (.inl rfl) rfl _) rfl (by simp; omega) (by omega)
              have hap : ∀ y, apQ H.length q y = true := hg.ap (by omega)
              have mk := fun H => mkA1 (P := prog) (t := 37) (e := 86) (cs := [str (low (tokF (d :: r4))), str v]) underlying37 (by rw [underlying86]; rfl) iT86 zT86 (by simp) sT86 (by omega) (by omega) rfl rfl rfl H
              simp -implicitDefEqProofs [valV, dExtract, a2, a4, a5, a6, faddr_ptr, underlying39, load_one underlying37 rfl iT37, b86_2, mk, hap, e1]
              obtain ⟨L3, rfl⟩ : ∃ L3, H3 = H ++ E :: E :: TR s q' :: CO.cells 0 [str T, str S, q] 39 :: L3 := by
                refine ⟨H3.drop (H.length + 4), ?_⟩
                have := split_at e3
                rw [this]
                simp [List.take_length_add_append]
              have hg3 : Grow (H.length + 4) (H ++ E :: E :: TR s (trimL q') :: CO.cells 0 [str T, str S, x2] 39 :: L3) x2 ((ps ++ [Par.mk (low (tokF (d :: r4))) v]).map Par.c).flatten (ps ++ [Par.mk (low (tokF (d :: r4))) v]).length 2 86 := by
                have := Grow.pre (A := H ++ [E, E, TR s q', CO.cells 0 [str T, str S, q] 39]) (A' := H ++ [E, E, TR s (trimL q'), CO.cells 0 [str T, str S, x2] 39]) (L := L3) (by simpa using e2) (by simp) (by simp)
                rw [par_snoc]
                simpa [Par.c] using this
              have hcx : cvCells x2 = some [x2] := by rcases e2 with ⟨_, _, rfl⟩ | ⟨_, _, _, _, rfl, _⟩ <;> rfl
              have hst : ∀ y, stQ H.length (.ptr (H.length + 3) 0 2) y = true := fun y => by simp [stQ]
              have u2 : unlit x2 = x2 := e2.unl
              simp -implicitDefEqProofs [store_at iT37, hcx, hst, u2, a5, c53, sf7]
              refine ⟨(trimL q').length, by omega, (hI _ _ _).2 ⟨q', ps ++ [⟨low (tokF (d :: r4)), v⟩], x2, L3, rfl, (trimL_sfx q').trans sf7, by simp [a0], by simp [a2], by simp [a4], by simp [a5], by simp [a6], rfl, hg3, by simp; omega, ?_, ?_⟩⟩
              · intro p' hp'
                rcases List.mem_append.1 hp' with h1 | h1
                · exact hp _ h1
                · simp only [List.mem_singleton] at h1; subst h1
                  exact ⟨by simp only [low_length]; omega, by simp only []; omega⟩
              · rw [hz, hpp, hpr]
                simp only [Option.map_some]
                cases parsS q' <;> simp
            · simp -implicitDefEqProofs [dExtract, a2, a4, hv, hEa, hEp, load_aggp underlying39 rfl iT39, store_at iT39, cells_agg]
              exact bad _ _ (by simp [a2]) (by simp) ⟨_, by rw [hE]⟩ (by rw [hz, hpp, hpr, hnone]; rfl)
    · rintro e fr H' (⟨rfl, hr⟩ | ⟨rfl, hr⟩)
      · obtain ⟨r', ps, q, L, a2, a4, a6, rfl, hg, hn, hp, hz⟩ := (hR _ _).1 hr
        have hu := hg.unl
        have hrs : RS (H ++ E :: E :: TR s r' :: CO.cells 0 [str T, str S, q] 39 :: L) q (ps.map Par.c) 2 := by
          refine Grow.rs (m := H.length + 4) (e := 86) ?_ (parCh ps)
          simpa using hg
        have hT1 : T.length ≤ 4294967280 := by rw [← hT]; simp; omega
        have hS1 : S.length ≤ 4294967280 := by rw [← hS]; simp; omega
        have c58 := fun m => (w58 hL m T S ps q _ hrs (by omega) hT1 hS1 (fun p hpm => ⟨by have := (hp p hpm).1; omega, by have := (hp p hpm).2; omega⟩)).wc
        have hone := hrs.one
        by_cases hk : kOK T S ps
        · have hg' : Grow (H.length + 4) (H ++ CO.cells 0 [str T, str S, q] 39 :: E :: TR s r' :: CO.cells 0 [str T, str S, q] 39 :: L) q (ps.map Par.c).flatten ps.length 2 86 := by
            have := Grow.pre (A := H ++ [E, E, TR s r', CO.cells 0 [str T, str S, q] 39]) (A' := H ++ [CO.cells 0 [str T, str S, q] 39, E, TR s r', CO.cells 0 [str T, str S, q] 39]) (L := L) (by simpa using hg) (by simp) (by simp)
            simpa using this
          obtain ⟨y, f1, f2, f3, f4⟩ := hg'.frzV (k := H.length) (by omega) (par_clB ps)
          simp -implicitDefEqProofs [a2, a4, a6, hEa, hEp, cells_agg, store_at iT39, load_aggp underlying39 rfl iT39, c58, hk, hu, hone, f3]
          rw [hrk, hz]
          simp only [Option.bind_some, if_pos hk]
          exact ⟨_, ⟨y, rfl, f4⟩, rfl⟩
        · simp -implicitDefEqProofs [a2, a4, a6, hEa, hEp, store_at iT39, cells_agg, load_aggp underlying39 rfl iT39, c58, hk]
          rw [hrk, hz]
          simp only [Option.bind_some, if_neg hk]
          exact ⟨_, hkv, rfl⟩
      · obtain ⟨L, a2, a3, rfl, hz⟩ := (hRR _ _).1 hr
        simp -implicitDefEqProofs [a2, a3, hEa, load_aggp underlying39 rfl iT39]
        rw [hrk, hz]
        exact ⟨_, hkv, rfl⟩
end Go.Proofs.Tryz

/- Walks: fields of a name; fields that are the same. -/
namespace Go.Proofs.Tryz
open Go Go.SL
set_option linter.unusedVariables false
set_option linter.unusedSimpArgs false

/-- A field. -/
structure Fld where
  n : Bs
  v : Bs
deriving DecidableEq
def Fld.c (f : Fld) : List CV := [str f.n, str f.v]
theorem fldCh (l : List Fld) : Chunks (l.map Fld.c) 2 := by
  intro c hc; obtain ⟨p, _, rfl⟩ := List.mem_map.1 hc; rfl
/-- The values of a name. -/
def fall (l : List Fld) (n : Bs) : List Bs := (l.filter fun f => low f.n == low n).map Fld.v
theorem fall_snoc (l : List Fld) (f : Fld) (n : Bs) : fall (l ++ [f]) n = fall l n ++ (if low f.n = low n then [f.v] else []) := by
  unfold fall
  rw [List.filter_append, List.map_append]
  by_cases h : low f.n = low n
  · simp [h]
  · simp [h]
theorem fall_len (l : List Fld) (n : Bs) : (fall l n).length ≤ l.length := by
  unfold fall; rw [List.length_map]; exact List.length_filter_le _ _
def fgetV (l : List Fld) (n : Bs) : CV := .tup [str ((fall l n).headD []), .v (.int .i64 ((fall l n).length : Nat))]
theorem mkS1 (a : Bs) (H : Hp) : dBuildSlice prog 90 1 [(0, str a)] H false = some (.im [str a] 1 1, H) := by
  simp [dBuildSlice, underlying90, fillC, zerosC, isU8, clB, underlying9]

variable [LayerC]
theorem w27 (m : Nat) (x : CV) (l : List Fld) (n : Bs) (H : Hp) (hx : RS H x (l.map Fld.c) 2) (hl : l.length ≤ 4294967280) (hn : n.length ≤ 4294967280) (hf : ∀ f ∈ l, f.n.length ≤ 4294967280) : Ret prog cs0 m 27 [x, str n] H (fgetV l n) H := by
  unfold Ret
  rw [WC_drop rfl func27 rfl rfl]
  have ux := hx.unl
  have hln : ∀ L, dLenS prog 25 x (H ++ L) = some (.v (.int .i64 l.length)) := fun L => by rw [(hx.app L).len underlying25, List.length_map]
  have hln0 := hln []
  rw [List.append_nil] at hln0
  simp -implicitDefEqProofs [f27, ux, hln0]
  obtain ⟨I, hI⟩ : ∃ I : Nat → Fr → Hp → Prop, ∀ i fr H', I i fr H' ↔ ((∃ L, H' = H ++ L) ∧ fr 1 = str n ∧ fr 10 = x ∧ fr 11 = .v (.int .i64 l.length) ∧ fr 12 = .v (.int .i64 i) ∧ fr 6 = str ((fall (l.take i) n).headD []) ∧ fr 7 = .v (.int .i64 ((fall (l.take i) n).length : Nat))) := ⟨_, fun _ _ _ => Iff.rfl⟩
  refine W_up l.length I ?_ 0 _ _ (by omega) ((hI _ _ _).2 ⟨⟨[], by simp⟩, by simp, by simp, by simp, by simp, by simp [fall], by simp [fall]⟩)
  intro i fr H' hi hinv
  obtain ⟨⟨L, rfl⟩, a1, a10, a11, a12, a6, a7⟩ := (hI _ _ _).1 hinv
  by_cases hlt : i < l.length
  · have hw := up64 hlt (by omega)
    have hlt2 : i < (l.map Fld.c).length := by simpa using hlt
    have hla : dLoad prog 67 (adrC x i) (H ++ L) = some (.agg [str l[i].n, str l[i].v]) := by rw [(hx.app L).loadAgg underlying67 rfl iT67 sT67 hlt2]; simp [Fld.c]
    have had : dIndexAddr prog 25 x (.v (.int .i64 i)) (H ++ L) = some (adrC x i) := by rw [(hx.app L).addr underlying25 iT67 sT67]; simp [hlt]
    have hfn := hf _ (List.getElem_mem hlt)
    have hfl := fall_len (l.take i) n
    have hfl2 : (fall (l.take i) n).length ≤ i := by rw [List.length_take] at hfl; omega
    obtain ⟨q, hq⟩ : ∃ q, q = (fall (l.take i) n).length := ⟨_, rfl⟩
    rw [← hq] at a7 hfl2
    obtain ⟨k, hk, hw2⟩ := upJ (i := q) (n := l.length) (by omega) (by omega)
    have hsn := fall_snoc (l.take i) l[i] n
    rw [← take_snoc hlt] at hsn
    have c45 := fun m H' => (w45 m l[i].n n H' hfn hn).wc
    by_cases hc : low l[i].n = low n
    · rw [if_pos hc] at hsn
      have hlen : (fall (l.take (i + 1)) n).length = k := by rw [hsn, List.length_append, ← hq, hk]; rfl
      by_cases q0 : q = 0
      · have h0 : fall (l.take i) n = [] := List.eq_nil_of_length_eq_zero (by omega)
        rw [h0, List.nil_append] at hsn
        simp -implicitDefEqProofs [a1, a10, a11, a12, a6, a7, hlt, hw, had, hla, aQ, dAlloc, store_at iT67, cells_agg, faddr_ptr, underlying67, load_one underlying9 rfl iT9, c45, hc, q0]
        exact (hI _ _ _).2 ⟨⟨_, rfl⟩, by simp [a1], by simp [a10], by simp [a11], by simp, by simp [hsn], by rw [hlen, hk, q0]; rfl⟩
      · have hh : (fall (l.take (i + 1)) n).headD [] = (fall (l.take i) n).headD [] := by
          rw [hsn]
          cases h5 : fall (l.take i) n with
          | nil => rw [h5] at hq; simp at hq; omega
          | cons y ys => rfl
        simp -implicitDefEqProofs [a1, a10, a11, a12, a6, a7, hlt, hw, had, hla, aQ, dAlloc, store_at iT67, cells_agg, faddr_ptr, underlying67, load_one underlying9 rfl iT9, c45, hc, q0, hw2]
        exact (hI _ _ _).2 ⟨⟨_, rfl⟩, by simp [a1], by simp [a10], by simp [a11], by simp, by rw [hh]; simp [a6], by rw [hlen]; simp⟩
    · rw [if_neg hc, List.append_nil] at hsn
      simp -implicitDefEqProofs [a1, a10, a11, a12, a6, a7, hlt, hw, had, hla, aQ, dAlloc, store_at iT67, cells_agg, faddr_ptr, underlying67, load_one underlying9 rfl iT9, c45, hc]
      exact (hI _ _ _).2 ⟨⟨_, rfl⟩, by simp [a1], by simp [a10], by simp [a11], by simp, by simp [a6, hsn], by rw [hsn, ← hq]; simp [a7]⟩
  · obtain rfl : i = l.length := by omega
    rw [List.take_length] at a6 a7
    simp -implicitDefEqProofs [a6, a7, a11, a12, fgetV]
end Go.Proofs.Tryz

/- Walks: fields, by the reference. -/
namespace Go.Proofs.Tryz
open Go Go.SL
set_option linter.unusedVariables false
set_option linter.unusedSimpArgs false
variable [LayerC]

theorem w29 (m : Nat) (x : CV) (l : List Fld) (n : Bs) (H : Hp) (hx : RS H x (l.map Fld.c) 2) (hl : l.length ≤ 4294967280) (hn : n.length ≤ 4294967280) (hf : ∀ f ∈ l, f.n.length ≤ 4294967280) : Ret prog cs0 m 29 [x, str n] H (fgetV l n) H := by
  unfold Ret
  rw [WC_drop rfl func29 rfl rfl]
  have ux := hx.unl
  simp -implicitDefEqProofs [f29]
  obtain ⟨I, hI⟩ : ∃ I : Nat → Fr → Hp → Prop, ∀ i fr H', I i fr H' ↔ (fr 0 = x ∧ fr 1 = str n ∧ fr 7 = .v (.int .i64 i) ∧ Acc H H' (fr 6) (strS (fall (l.take i) n)) (fall (l.take i) n).length 1 9) := ⟨_, fun _ _ _ => Iff.rfl⟩
  refine W_up l.length I ?_ 0 _ _ (by omega) ((hI _ _ _).2 ⟨by simp, by simp, by simp, Acc.nil H 1 9⟩)
  intro i fr H' hi hinv
  obtain ⟨a0, a1, a7, ha⟩ := (hI _ _ _).1 hinv
  obtain ⟨L, hL⟩ : ∃ L, H' = H ++ L := by
    rcases ha with ⟨_, _, _, rfl⟩ | ⟨_, ver, _, rfl⟩
    · exact ⟨[], by simp⟩
    · exact ⟨_, rfl⟩
  have hxL : RS H' x (l.map Fld.c) 2 := by rw [hL]; exact hx.app L
  have hln : dLenS prog 25 x H' = some (.v (.int .i64 l.length)) := by rw [hxL.len underlying25, List.length_map]
  have u6 := ha.unl
  have hfl := fall_len (l.take i) n
  have hfl2 : (fall (l.take i) n).length ≤ i := by rw [List.length_take] at hfl; omega
  by_cases hlt : i < l.length
  · have hw := up64 hlt (by omega)
    have hlt2 : i < (l.map Fld.c).length := by simpa using hlt
    have had : dIndexAddr prog 25 x (.v (.int .i64 i)) H' = some (adrC x i) := by rw [hxL.addr underlying25 iT67 sT67]; simp [hlt]
    have hf0 := hxL.fieldAddr (P := prog) (f := 0) underlying67 rfl iT9 (by simp) hlt2 (by simp)
    have hf1 := hxL.fieldAddr (P := prog) (f := 1) underlying67 rfl iT9 (by simp) hlt2 (by simp)
    have hl0 := hxL.loadPart (P := prog) (k := 0) underlying9 rfl iT9 hlt2 (by omega)
    have hl1 := hxL.loadPart (P := prog) (k := 1) underlying9 rfl iT9 hlt2 (by omega)
    simp [Fld.c] at hl0 hl1
    simp at hf0 hf1
    have hfn := hf _ (List.getElem_mem hlt)
    have c52 := fun m H' => (w52 m l[i].n n H' hfn hn).wc
    have hsn := fall_snoc (l.take i) l[i] n
    rw [← take_snoc hlt] at hsn
    by_cases hc : low l[i].n = low n
    · rw [if_pos hc] at hsn
      obtain ⟨x2, H2, e1, e2⟩ := Acc.append (P := prog) (t := 90) (tx := 90) (y := .im [str l[i].v] 1 1) underlying90 iT9 zT9 (by simp) sT9 (by omega) ha (src_clo (n := 1) underlying90 (.inl rfl) rfl _) rfl (by simp; omega) (by omega)
      have hap : ∀ y, apQ H.length (fr 6) y = true := ha.ap (Nat.le_refl _)
      have u2 := e2.unl
      simp -implicitDefEqProofs [a0, a1, a7, ux, hln, hlt, hw, had, hf0, hf1, hl0, hl1, c52, hc, u6, mkS1, hap, e1, u2]
      exact (hI _ _ _).2 ⟨by simp [a0], by simp [a1], by simp, by rw [hsn, strS_snoc, List.length_append]; simpa using e2⟩
    · rw [if_neg hc, List.append_nil] at hsn
      simp -implicitDefEqProofs [a0, a1, a7, ux, hln, hlt, hw, had, hf0, hf1, hl0, hl1, c52, hc, u6]
      exact (hI _ _ _).2 ⟨by simp [a0], by simp [a1], by simp, by rw [hsn]; simpa using ha⟩
  · obtain rfl : i = l.length := by omega
    rw [List.take_length] at ha hfl2
    have hrs := ha.grow.strs
    have hl6 := hrs.len (P := prog) underlying90
    rw [List.length_map] at hl6
    cases hq : fall l n with
    | nil =>
      rw [hq] at hl6
      simp at hl6
      simp -implicitDefEqProofs [a0, a7, ux, hln, u6, hl6, fgetV, hq, ha.take]
    | cons y ys =>
      have hlt3 : 0 < ((fall l n).map fun s => [str s]).length := by rw [hq]; simp
      have had := hrs.addr (P := prog) underlying90 iT9 sT9 .i64 0
      have hld := hrs.load1 (P := prog) underlying9 rfl iT9 hlt3 (by omega)
      simp [hq] at had hld
      obtain ⟨q, hqq⟩ : ∃ q, q = (fall l n).length := ⟨_, rfl⟩
      rw [← hqq] at hl6
      have q0 : ¬ q = 0 := by rw [hqq, hq]; simp
      simp -implicitDefEqProofs [a0, a7, ux, hln, u6, hl6, fgetV, ha.take, q0, had, hld]
      rw [hq] at hqq
      simp [hq, hqq]

theorem w21 (m : Nat) (x y : CV) (ps qs : List Fld) (H : Hp) (hx : RS H x (ps.map Fld.c) 2) (hy : RS H y (qs.map Fld.c) 2) (hb : ps.length ≤ 4294967280) : Ret prog cs0 m 21 [x, y] H (.v (.bool (decide (ps = qs)))) H := by
  unfold Ret
  rw [WC_drop rfl func21 rfl rfl]
  have ux := hx.unl
  have uy := hy.unl
  have lx := hx.len (P := prog) underlying25
  have ly := hy.len (P := prog) underlying25
  rw [List.length_map] at lx ly
  by_cases hl : ps.length = qs.length
  · simp -implicitDefEqProofs [f21, ux, uy, lx, ly, hl]
    refine W_up ps.length (fun i fr H' => H' = H ∧ fr 0 = x ∧ fr 1 = y ∧ fr 5 = .v (.int .i64 i) ∧ ps.take i = qs.take i) ?_ 0 _ _ (by omega) (by simp)
    rintro i fr H' hi ⟨rfl, a0, a1, a5, hk⟩
    by_cases hlt : i < ps.length
    · have hw := up64 hlt (by omega)
      have h1 : i < (ps.map Fld.c).length := by simpa using hlt
      have h2 : i < (qs.map Fld.c).length := by simpa [← hl] using hlt
      have hq : i < qs.length := by omega
      have l1 := hx.loadAgg (P := prog) underlying67 rfl iT67 sT67 h1
      have l2 := hy.loadAgg (P := prog) underlying67 rfl iT67 sT67 h2
      simp [Fld.c] at l1 l2
      simp -implicitDefEqProofs [a0, a1, a5, hlt, hw, lx, ux, uy]
      rw [W_draw _ _ _ _ _ _ followsT (by rfl)]
      simp -implicitDefEqProofs [a0, a1, a5, hlt, hw, ux, uy, hx.addr underlying25 iT67 sT67, hy.addr underlying25 iT67 sT67, hq, l1, l2, neq67]
      split
      · rename_i h
        rintro rfl
        simp at h
      · rename_i h
        rw [take_snoc hlt, take_snoc hq, hk]
        have e : ps[i] = qs[i] := by
          cases h3 : ps[i]; cases h4 : qs[i]
          simp [h3, h4] at h; simp [h]
        rw [e]
    · obtain rfl : i = ps.length := by omega
      rw [List.take_length, hl, List.take_length] at hk
      simp -implicitDefEqProofs [a0, a1, a5, lx, ux, hk]
  · have hne : ¬ ps = qs := fun h => hl (by rw [h])
    simp -implicitDefEqProofs [f21, ux, uy, lx, ly, hl, hne]
end Go.Proofs.Tryz

/- Walks: where lines are folded. -/
namespace Go.Proofs.Tryz
open Go Go.SL
set_option linter.unusedVariables false
set_option linter.unusedSimpArgs false

/-- Of the places from f on and below n: where a line is folded. -/
def PLn (s : Bs) (f n : Nat) : Option Nat → Prop
  | none => ∀ j, f ≤ j → j < n → s[j]? ≠ some 32
  | some k => f ≤ k ∧ k < n ∧ s[k]? = some 32 ∧ ((k ≤ 76 ∧ ∀ j, k < j → j < n → j ≤ 76 → s[j]? ≠ some 32) ∨ (76 < k ∧ ∀ j, f ≤ j → j < k → s[j]? ≠ some 32))
def PL (s : Bs) (f : Nat) (r : Option Nat) : Prop := PLn s f s.length r
theorem PL_uniq {s : Bs} {f : Nat} {a b : Option Nat} (ha : PL s f a) (hb : PL s f b) : a = b := by
  unfold PL PLn at *
  cases a with
  | none =>
    cases b with
    | none => rfl
    | some k => exact absurd hb.2.2.1 (ha k hb.1 hb.2.1)
  | some k =>
    cases b with
    | none => exact absurd ha.2.2.1 (hb k ha.1 ha.2.1)
    | some j =>
      obtain ⟨a1, a2, a3, a4⟩ := ha
      obtain ⟨b1, b2, b3, b4⟩ := hb
      congr 1
      rcases Nat.lt_trichotomy k j with h | h | h
      · rcases a4 with ⟨a5, a6⟩ | ⟨a5, a6⟩
        · rcases b4 with ⟨b5, b6⟩ | ⟨b5, b6⟩
          · exact absurd b3 (a6 j h b2 b5)
          · exact absurd a3 (b6 k a1 h)
        · rcases b4 with ⟨b5, b6⟩ | ⟨b5, b6⟩
          · omega
          · exact absurd a3 (b6 k a1 h)
      · exact h
      · rcases b4 with ⟨b5, b6⟩ | ⟨b5, b6⟩
        · rcases a4 with ⟨a5, a6⟩ | ⟨a5, a6⟩
          · exact absurd a3 (b6 k h a2 a5)
          · exact absurd b3 (a6 j b1 h)
        · rcases a4 with ⟨a5, a6⟩ | ⟨a5, a6⟩
          · omega
          · exact absurd b3 (a6 j b1 h)
def plV : Option Nat → CV
  | none => .v (.int .i64 (-1))
  | some k => .v (.int .i64 (k : Nat))
@[simp] theorem unlit_plV (r : Option Nat) : unlit (plV r) = plV r := by cases r <;> rfl
@[simp] theorem frz_plV (H : Hp) (m : Nat) (r : Option Nat) : frz H m (plV r) = some (plV r) := by cases r <;> rfl
variable [LayerC]
theorem w77 (m : Nat) (s : Bs) (f : Nat) (H : Hp) (hs : s.length ≤ 4294967280) (hf : f ≤ 4294967280) : ∃ r, PL s f r ∧ Ret prog cs0 m 77 [str s, .v (.int .i64 (f : Nat))] H (plV r) H := by
  suffices hsuf : WC prog cs0 m (.f 77) [str s, .v (.int .i64 (f : Nat))] H fun y H' => H' = H ∧ ∃ r, PL s f r ∧ y = plV r by
    obtain ⟨k, ⟨y, H'⟩, h1, h2, r, h3, h4⟩ := hsuf
    simp only at h2 h4
    subst h2 h4
    exact ⟨r, h3, k, _, h1, rfl, rfl⟩
  rw [WC_drop rfl func77 rfl rfl]
  simp -implicitDefEqProofs [f77]
  obtain ⟨I, hI⟩ : ∃ I : Nat → Fr → Hp → Prop, ∀ j fr H', I j fr H' ↔ ∃ i r, j = s.length - i ∧ f ≤ i ∧ H' = H ∧ fr 0 = str s ∧ fr 5 = plV r ∧ fr 6 = .v (.int .i64 (i : Nat)) ∧ PLn s f i r := ⟨_, fun _ _ _ => Iff.rfl⟩
  refine W_rounds I ?_ _ _ _ ((hI _ _ _).2 ⟨f, none, rfl, Nat.le_refl _, rfl, by simp, by simp [plV], by simp, by intro j h1 h2; omega⟩)
  intro j fr H' hi
  obtain ⟨i, r, rfl, hfi, rfl, a0, a5, a6, hp⟩ := (hI _ _ _).1 hi
  by_cases hlt : i < s.length
  case neg =>
    simp -implicitDefEqProofs [a0, a6, len_str underlying9, hlt, a5]
    refine ⟨r, ?_, rfl⟩
    · unfold PL
      cases r with
      | none => exact fun j h1 h2 => hp j h1 (by omega)
      | some k =>
        obtain ⟨b1, b2, b3, b4⟩ := hp
        have : k < s.length := by
          rcases Nat.lt_or_ge k s.length with h' | h'
          · exact h'
          · rw [List.getElem?_eq_none h'] at b3; cases b3
        refine ⟨b1, this, b3, ?_⟩
        rcases b4 with ⟨b5, b6⟩ | b4
        · exact .inl ⟨b5, fun j h1 h2 h3 => b6 j h1 (by omega) h3⟩
        · exact .inr b4
  have hw := up64 hlt (by omega)
  have hci : s[i]? = some s[i] := List.getElem?_eq_getElem hlt
  have e32 : s[i].toNat = 32 ↔ s[i] = 32 := u8_eq _ 32
  by_cases hc : s[i] = 32
  · have hcn : s[i].toNat = 32 := e32.2 hc
    have hci2 : s[i]? = some 32 := by rw [hci, hc]
    by_cases h76 : i ≤ 76
    · simp -implicitDefEqProofs [a0, a6, len_str underlying9, index_str underlying9, hlt, hcn, h76, hw]
      refine ⟨s.length - (i + 1), by omega, (hI _ _ _).2 ⟨i + 1, some i, rfl, by omega, rfl, by simp [a0], by simp [plV], by simp, ⟨hfi, by omega, hci2, .inl ⟨h76, fun j h1 h2 => by omega⟩⟩⟩⟩
    · cases r with
      | none =>
        simp -implicitDefEqProofs [a0, a5, a6, len_str underlying9, index_str underlying9, hlt, hcn, h76, hw, plV]
        refine ⟨s.length - (i + 1), by omega, (hI _ _ _).2 ⟨i + 1, some i, rfl, by omega, rfl, by simp [a0], by simp [plV], by simp, ⟨hfi, by omega, hci2, .inr ⟨by omega, fun j h1 h2 => hp j h1 h2⟩⟩⟩⟩
      | some k =>
        have hk0 : ¬ ((k : Nat) : Int) < 0 := by omega
        simp -implicitDefEqProofs [a0, a5, a6, len_str underlying9, index_str underlying9, hlt, hcn, h76, hw, plV]
        refine ⟨s.length - (i + 1), by omega, (hI _ _ _).2 ⟨i + 1, some k, rfl, by omega, rfl, by simp [a0], by simp [a5, plV], by simp, ?_⟩⟩
        obtain ⟨b1, b2, b3, b4⟩ := hp
        refine ⟨b1, by omega, b3, ?_⟩
        rcases b4 with ⟨b5, b6⟩ | b4
        · exact .inl ⟨b5, fun j h1 h2 h3 => b6 j h1 (by omega) h3⟩
        · exact .inr b4
  · have hcn : ¬ s[i].toNat = 32 := fun h => hc (e32.1 h)
    have hci2 : s[i]? ≠ some 32 := by rw [hci]; intro h; exact hc (Option.some.inj h)
    simp -implicitDefEqProofs [a0, a6, len_str underlying9, index_str underlying9, hlt, hcn, hw]
    refine ⟨s.length - (i + 1), by omega, (hI _ _ _).2 ⟨i + 1, r, rfl, by omega, rfl, by simp [a0], by simp [a5], by simp, ?_⟩⟩
    cases r with
    | none =>
      intro j h1 h2
      by_cases e : j = i
      · subst e; exact hci2
      · exact hp j h1 (by omega)
    | some k =>
      obtain ⟨b1, b2, b3, b4⟩ := hp
      refine ⟨b1, by omega, b3, ?_⟩
      rcases b4 with ⟨b5, b6⟩ | b4
      · refine .inl ⟨b5, fun j h1 h2 h3 => ?_⟩
        by_cases e : j = i
        · subst e; exact hci2
        · exact b6 j h1 (by omega) h3
      · exact .inr b4
end Go.Proofs.Tryz

/- Walks: lines are folded. -/
namespace Go.Proofs.Tryz
open Go Go.SL
set_option linter.unusedVariables false
set_option linter.unusedSimpArgs false

/-- A line, folded. -/
inductive FoldR : Bs → Nat → List Bs → Prop
  | stop {s : Bs} {f : Nat} (h : s.length ≤ 76 ∨ PL s f none) : FoldR s f [s]
  | step {s : Bs} {f k : Nat} {out : List Bs} (h : 76 < s.length) (hp : PL s f (some k)) (ho : FoldR (s.drop k) 1 out) : FoldR s f (s.take k :: out)
theorem idb_first (l : Bs) (c : UInt8) : (Lib.indexByte l c = -1 ∧ ∀ j : Nat, l[j]? ≠ some c) ∨ ∃ q : Nat, Lib.indexByte l c = q ∧ q < l.length ∧ l[q]? = some c ∧ ∀ j, j < q → l[j]? ≠ some c := by
  induction l with
  | nil => left; simp [Lib.indexByte]
  | cons b l ih =>
    unfold Lib.indexByte
    by_cases e : b = c
    · right; exact ⟨0, by simp [e], by simp, by simp [e], fun j hj => by omega⟩
    · have h2 : (b == c) = false := by simp [e]
      rcases ih with ⟨h, h3⟩ | ⟨q, h, h3, h4, h5⟩
      · left
        refine ⟨by rw [h2, h]; rfl, fun j => ?_⟩
        cases j with
        | zero => simpa using e
        | succ j => simpa using h3 j
      · right
        refine ⟨q + 1, ?_, by simpa using h3, by simpa using h4, fun j hj => ?_⟩
        · rw [h2, h]
          have : ((q : Int) == -1) = false := by rw [beq_eq_false_iff_ne]; omega
          simp [this]
        · cases j with
          | zero => simpa using e
          | succ j => simpa using h5 j (by omega)
variable [LayerC]
theorem w74 (m : Nat) (s : Bs) (f : Nat) (H : Hp) (hs : s.length ≤ 100000) (hf : f ≤ 100000) (hf0 : 1 ≤ f) (hfs : 76 < s.length → f ≤ s.length) :
    ∃ y out, Cls y (strS out) out.length 1 ∧ FoldR s f out ∧ out.length ≤ s.length + 1 ∧ Ret prog cs0 m 74 [str s, .v (.int .i64 (f : Nat))] H y H := by
  suffices hsuf : WC prog cs0 m (.f 74) [str s, .v (.int .i64 (f : Nat))] H fun y H' => H' = H ∧ ∃ out, Cls y (strS out) out.length 1 ∧ FoldR s f out ∧ out.length ≤ s.length + 1 by
    obtain ⟨k, ⟨y, H'⟩, h1, h2, out, h3, h4, h5⟩ := hsuf
    simp only at h2 h3
    subst h2
    exact ⟨y, out, h3, h4, h5, k, _, h1, rfl, rfl⟩
  rw [WC_drop rfl func74 rfl rfl]
  simp -implicitDefEqProofs [f74]
  obtain ⟨I, hI⟩ : ∃ I : Nat → Fr → Hp → Prop, ∀ j fr H', I j fr H' ↔ ∃ a g out, j = a.length ∧ fr 0 = str a ∧ fr 1 = .v (.int .i64 (g : Nat)) ∧ Acc H H' (fr 5) (strS out) out.length 1 9 ∧ out.length + a.length ≤ s.length ∧ 1 ≤ g ∧ g ≤ 100000 ∧ (76 < a.length → g ≤ a.length) ∧ (∀ r, FoldR a g r → FoldR s f (out ++ r)) := ⟨_, fun _ _ _ => Iff.rfl⟩
  refine W_rounds I ?_ _ _ _ ((hI _ _ _).2 ⟨s, f, [], rfl, by simp, by simp, by simp; exact Acc.nil H 1 9, by simp, hf0, hf, hfs, fun r h => h⟩)
  intro j fr H' hi
  obtain ⟨a, g, out, rfl, a0, a1, ha, hol, hg1, hg2, hga, hfo⟩ := (hI _ _ _).1 hi
  have u5 := ha.unl
  have hap : ∀ y, apQ H.length (fr 5) y = true := ha.ap (Nat.le_refl _)
  have hlen : ∀ a : Bs, ∀ H, dLenS prog 9 (str a) H = some (.v (.int .i64 (a.length : Nat))) := fun a H => len_str underlying9 a H
  have hmk : ∀ (a : Bs) (H : Hp), dBuildSlice prog 90 1 [(0, str a)] H false = some (.im [str a] 1 1, H) := fun a H => by
    simp [dBuildSlice, underlying90, fillC, zerosC, isU8, underlying9]
  have hmk := hmk
  obtain ⟨x2, H2, e1, e2⟩ := Acc.append (P := prog) (t := 90) (tx := 90) (y := .im [str a] 1 1) underlying90 iT9 zT9 (by simp) sT9 (by omega) ha (src_clo (n := 1) underlying90 (.inl rfl) rfl _) rfl (by simp; omega) (by omega)
  obtain ⟨y, f1, f2⟩ := e2.frzV (Nat.le_refl _) (by rw [← strS_snoc]; exact strS_clB _)
  rw [← strS_snoc] at f2
  have u2 := e2.unl
  have ht2 := e2.take
  by_cases h76 : 76 < a.length
  case neg =>
    simp -implicitDefEqProofs [a0, a1, hlen, h76, u5, hmk, hap, e1, u2, f1, ht2]
    exact ⟨out ++ [a], by simpa using f2, hfo _ (.stop (.inl (by omega))), by simp; omega⟩
  have hga' := hga h76
  obtain ⟨r, hr, h98⟩ := w98 H.length (a.take 77) 32 H' (by simp; omega)
  have c98 := h98.wc
  simp at c98
  have hsl := fun H => slice_str (P := prog) (t := 9) underlying9 a none (some (.v (.int .i64 77))) H
  have h77 : 77 ≤ a.length := by omega
  simp [h77] at hsl
  have hkey : ∀ k : Nat, k < a.length → PL a g (some k) → ∃ x2 H2, dAppend prog 90 90 (fr 5) (.im [str (a.take k)] 1 1) H' = some (x2, H2) ∧ unlit x2 = x2 ∧ ∀ fr', fr' 0 = str (a.drop k) → fr' 1 = .v (.int .i64 1) → fr' 5 = x2 → ∃ j', j' < a.length ∧ I j' fr' H2 := by
    intro k hk hp
    obtain ⟨x2, H2, e1, e2⟩ := Acc.append (P := prog) (t := 90) (tx := 90) (y := .im [str (a.take k)] 1 1) underlying90 iT9 zT9 (by simp) sT9 (by omega) ha (src_clo (n := 1) underlying90 (.inl rfl) rfl _) rfl (by simp; omega) (by omega)
    refine ⟨x2, H2, e1, e2.unl, fun fr' b0 b1 b5 => ⟨(a.drop k).length, ?_, (hI _ _ _).2 ⟨a.drop k, 1, out ++ [a.take k], rfl, b0, b1, ?_, ?_, Nat.le_refl _, by omega, ?_, ?_⟩⟩⟩
    · have := hp.1; simp; omega
    · rw [b5, strS_snoc, List.length_append]; simpa using e2
    · have := hp.1; simp; omega
    · intro h; omega
    · intro r hr; rw [List.append_assoc]; exact hfo _ (.step h76 hp hr)
  have hu := fun k : Nat => slice_str (P := prog) (t := 9) underlying9 a none (some (.v (.int .i64 (k : Nat))))
  have hd := fun k : Nat => slice_str (P := prog) (t := 9) underlying9 a (some (.v (.int .i64 (k : Nat)))) none
  rcases Classical.em (∃ k : Nat, r = k ∧ g ≤ k) with ⟨k, rfl, hgk⟩ | hno
  · have hp : k < a.length ∧ PL a g (some k) := by
      rcases hr with ⟨h, _⟩ | ⟨k', h, h2, h3⟩
      · omega
      · obtain rfl : k = k' := by omega
        have hk : k < 77 := by
          rcases Nat.lt_or_ge k 77 with h' | h'
          · exact h'
          · rw [List.getElem?_eq_none (by simp; omega)] at h2; cases h2
        rw [List.getElem?_take_of_lt hk] at h2
        refine ⟨by omega, hgk, by omega, h2, .inl ⟨by omega, fun j h4 h5 h6 hc => h3 ?_⟩⟩
        have : (a.take 77)[j]? = some 32 := by rw [List.getElem?_take_of_lt (by omega)]; exact hc
        refine List.mem_of_getElem? (i := j - (k + 1)) ?_
        rw [List.getElem?_drop, show k + 1 + (j - (k + 1)) = j by omega]; exact this
    obtain ⟨x2, H2, e1, u2, hfin⟩ := hkey k hp.1 hp.2
    have hng : ¬ ((k : Int) < (g : Int)) := by omega
    have hka : k ≤ a.length := by omega
    have hu := hu k; have hd := hd k
    simp [hka] at hu hd
    simp -implicitDefEqProofs [a0, a1, hlen, h76, u5, hmk, hap, hsl, c98, hng, hu, hd, e1, u2]
    refine hfin _ ?_ ?_ ?_ <;> simp
  · have hrg : r < (g : Int) := by
      rcases Int.lt_or_le r g with h | h
      · exact h
      · exact absurd ⟨r.toNat, by omega, by omega⟩ hno
    obtain ⟨M, hM⟩ : ∃ M, M = max g 77 := ⟨_, rfl⟩
    have hMa : M ≤ a.length := by omega
    have hmx : dMax mx [.v (.int .i64 (g : Nat)), .v (.int .i64 77)] = some (.v (.int .i64 (M : Nat))) := by
      simp [dMax, mx]; split <;> omega
    have hdM := hd M
    simp [hMa] at hdM
    have c80 := fun m H => (w80 m (a.drop M) 32 H).wc
    simp at c80
    have hbet : ∀ j : Nat, g ≤ j → j < M → a[j]? ≠ some 32 := by
      intro j h1 h2 hc
      have h77' : M = 77 := by omega
      have hj : (a.take 77)[j]? = some 32 := by rw [List.getElem?_take_of_lt (by omega)]; exact hc
      rcases hr with ⟨h, h3⟩ | ⟨k', h, h3, h4⟩
      · exact h3 (List.mem_of_getElem? hj)
      · refine h4 (List.mem_of_getElem? (i := j - (k' + 1)) ?_)
        rw [List.getElem?_drop, show k' + 1 + (j - (k' + 1)) = j by omega]; exact hj
    rcases idb_first (a.drop M) 32 with ⟨hq, hq2⟩ | ⟨q, hq, hq1, hq2, hq3⟩
    · have hpl : PL a g none := by
        intro j h1 h2
        rcases Nat.lt_or_ge j M with h3 | h3
        · exact hbet j h1 h3
        · have := hq2 (j - M)
          rwa [List.getElem?_drop, show M + (j - M) = j by omega] at this
      have hw : IntKind.i64.wrap ((-1 : Int) + (M : Int)) = (M : Int) - 1 := by rw [wrap64 (by omega)]; omega
      have hlt : (M : Int) - 1 < (M : Int) := by omega
      simp -implicitDefEqProofs [a0, a1, hlen, h76, u5, hmk, hap, hsl, c98, hrg, hmx, hdM, c80, hq, hw, hlt, e1, u2, f1, ht2]
      exact ⟨out ++ [a], by simpa using f2, hfo _ (.stop (.inr hpl)), by simp; omega⟩
    · rw [List.getElem?_drop] at hq2
      have hqa : M + q < a.length := by simp at hq1; omega
      have hp : PL a g (some (M + q)) := by
        refine ⟨by omega, hqa, hq2, .inr ⟨by omega, fun j h1 h2 => ?_⟩⟩
        rcases Nat.lt_or_ge j M with h3 | h3
        · exact hbet j h1 h3
        · have := hq3 (j - M) (by omega)
          rwa [List.getElem?_drop, show M + (j - M) = j by omega] at this
      obtain ⟨x2, H2, e1, u2, hfin⟩ := hkey _ hqa hp
      obtain ⟨k, hk⟩ : ∃ k, k = M + q := ⟨_, rfl⟩
      rw [← hk] at hqa hp e1 hfin
      have hw : IntKind.i64.wrap ((q : Int) + (M : Int)) = (k : Int) := wrN (by omega) (by omega)
      have hng : ¬ ((k : Int) < (M : Int)) := by omega
      have hka : k ≤ a.length := by omega
      have hu := hu k; have hd := hd k
      simp [hka] at hu hd
      simp -implicitDefEqProofs [a0, a1, hlen, h76, u5, hmk, hap, hsl, c98, hrg, hmx, hdM, c80, hq, hw, hng, hu, hd, e1, u2]
      refine hfin _ ?_ ?_ ?_ <;> simp
end Go.Proofs.Tryz

/- Walks: a header is written. -/
namespace Go.Proofs.Tryz
open Go Go.SL
set_option linter.unusedVariables false
set_option linter.unusedSimpArgs false

theorem FoldR.flat {s : Bs} {f : Nat} {out : List Bs} (h : FoldR s f out) : out.flatten = s := by
  induction h with
  | stop => simp
  | step h hp ho ih => rw [List.flatten_cons, ih, List.take_append_drop]

def lineF (f : Fld) : Bs := f.n ++ [58] ++ (if f.v = [] then [] else 32 :: f.v)
/-- All folded lines of fields. -/
inductive FoldsR : List Fld → List Bs → Prop
  | nil : FoldsR [] []
  | snoc {l : List Fld} {f : Fld} {o os : List Bs} (h : FoldsR l os) (hf : FoldR (lineF f) (f.n.length + 3) o) : FoldsR (l ++ [f]) (os ++ o)
def emit (l : List Bs) : Bs := (l.map (· ++ crlf)).flatten
theorem emit_nil : emit [] = [] := rfl
theorem emit_snoc (l : List Bs) (s : Bs) : emit (l ++ [s]) = emit l ++ s ++ crlf := by simp [emit]
theorem emit_app (l k : List Bs) : emit (l ++ k) = emit l ++ emit k := by simp [emit]
theorem emit_len (l : List Bs) : (emit l).length = l.flatten.length + 2 * l.length := by
  induction l with
  | nil => rfl
  | cons a l ih => simp [emit, crlf] at ih ⊢; omega
/-- What writing a header answers. -/
inductive WrR (l : List Fld) : Option Bs → Nat → Prop
  | long (h : 128 < l.length) : WrR l none 2
  | field (h : l.length ≤ 128) (f : Fld) (hf : f ∈ l) (hb : ¬ (isName f.n ∧ isVal f.v)) : WrR l none 50
  | line (h : l.length ≤ 128) (hb : ∀ f ∈ l, isName f.n ∧ isVal f.v) (os : List Bs) (ho : FoldsR l os) (s : Bs) (hs : s ∈ os) (h9 : 998 < s.length) : WrR l none 40
  | ok (h : l.length ≤ 128) (hb : ∀ f ∈ l, isName f.n ∧ isVal f.v) (os : List Bs) (ho : FoldsR l os) (h9 : ∀ s ∈ os, s.length ≤ 998) : WrR l (some (emit os ++ crlf)) 0
/-- Bytes that grow. -/
def GB (m : Nat) (H : Hp) (x : CV) (l : Bs) : Prop := Grow m H x (u8s l) l.length 1 5
theorem GB.nil (m : Nat) (H : Hp) : GB m H nilC [] := Grow.nil m H 1 5
theorem GB.add {m : Nat} {H : Hp} {x y : CV} {l l' : Bs} {tx : TypeId} (h : GB m H x l) (hm : m ≤ H.length) (hs : dSrc prog H tx 1 y = some (u8s l', l'.length)) (hb : l.length + l'.length ≤ 140737488355328) :
    ∃ x2 H2, dAppend prog 22 tx x y H = some (x2, H2) ∧ unlit x2 = x2 ∧ GB m H2 x2 (l ++ l') ∧ H2.take m = H.take m ∧ m ≤ H2.length := by
  obtain ⟨x2, H2, e1, e2, e3, e4, _⟩ := Grow.append (P := prog) (t := 22) (tx := tx) (y := y) underlying22 iT5 zT5 (by simp) sT5 (by omega) hm h hs (by simp) (by simp; omega) (by omega)
  refine ⟨x2, H2, e1, e2.unl, ?_, e3, by omega⟩
  unfold GB
  rw [u8s_append, List.length_append]; exact e2
theorem GB.addS {m : Nat} {H : Hp} {x : CV} {l l' : Bs} (h : GB m H x l) (hm : m ≤ H.length) (hb : l.length + l'.length ≤ 140737488355328) :
    ∃ x2 H2, dAppend prog 22 9 x (str l') H = some (x2, H2) ∧ unlit x2 = x2 ∧ GB m H2 x2 (l ++ l') ∧ H2.take m = H.take m ∧ m ≤ H2.length := h.add hm (src_str underlying9 l' H) hb
/-- What is answered, as a value in a heap. -/
def wrV (m : Nat) (H : Hp) (o : Option Bs) (x : CV) : Prop :=
  match o with
  | none => x = nilC
  | some b => GB m H x b
@[simp] theorem stQ_ss (m id ver off : Nat) (s t : Bs) : stQ m (.ptr id ver off) (.agg [str s, str t]) = true := by
  unfold stQ; simp only []; rw [show topLe 0 (.agg [str s, str t]) = true from rfl, Bool.or_true]
variable [LayerC]
theorem FoldR_ex (n : Nat) : ∀ (s : Bs) (f : Nat), s.length ≤ n → n ≤ 100000 → 1 ≤ f → f ≤ 100000 → ∃ out, FoldR s f out := by
  induction n with
  | zero => intro s f hn _ _ _; exact ⟨_, .stop (.inl (by omega))⟩
  | succ n ih =>
    intro s f hn hn2 hf hf2
    by_cases h : 76 < s.length
    · obtain ⟨r, hr, _⟩ := w77 0 s f [] (by omega) (by omega)
      cases r with
      | none => exact ⟨_, .stop (.inr hr)⟩
      | some k =>
        obtain ⟨out, ho⟩ := ih (s.drop k) 1 (by have := hr.1; simp; omega) (by omega) (by omega) (by omega)
        exact ⟨_, .step h hr ho⟩
    · exact ⟨_, .stop (.inl (by omega))⟩
theorem lineF_len {f : Fld} (h : isName f.n ∧ isVal f.v) : (lineF f).length ≤ 4162 ∧ f.n.length ≤ 64 := by
  have gn := h.1.2.1
  have gv := h.2.2.1
  unfold lineF; split <;> simp <;> omega
theorem FoldsR_ext : ∀ (k l : List Fld) (os : List Bs), (∀ f ∈ k, isName f.n ∧ isVal f.v) → FoldsR l os → ∃ os', FoldsR (l ++ k) (os ++ os')
  | [], l, os, _, h => ⟨[], by simpa using h⟩
  | f :: k, l, os, hk, h => by
    have hl := lineF_len (hk f (by simp))
    obtain ⟨out, ho⟩ := FoldR_ex _ (lineF f) (f.n.length + 3) (Nat.le_refl _) (by omega) (by omega) (by omega)
    obtain ⟨os', h'⟩ := FoldsR_ext k (l ++ [f]) (os ++ out) (fun g hg => hk g (by simp [hg])) (.snoc h ho)
    exact ⟨out ++ os', by simpa [List.append_assoc] using h'⟩
theorem w41 (m : Nat) (x : CV) (l : List Fld) (H : Hp) (hx : RS H x (l.map Fld.c) 2) (hl : l.length ≤ 100000) (hf : ∀ f ∈ l, f.v.length ≤ 4294967280) (hm : m ≤ H.length) :
    WC prog cs0 m (.f 41) [x] H fun y H' => ∃ o e z, WrR l o e ∧ y = .tup [z, .v (.int .i64 (e : Nat))] ∧ wrV H.length H' o z ∧ H'.take H.length = H := by
  rw [WC_raw rfl func41 rfl rfl]
  have ux := hx.unl
  have hln : ∀ L, dLenS prog 25 x (H ++ L) = some (.v (.int .i64 l.length)) := fun L => by rw [(hx.app L).len underlying25, List.length_map]
  have hln0 := hln []
  rw [List.append_nil] at hln0
  obtain ⟨K, hK⟩ : ∃ K : CV → Hp → Prop, ∀ y H', K y H' ↔ ∃ o e z, WrR l o e ∧ y = .tup [z, .v (.int .i64 (e : Nat))] ∧ wrV H.length H' o z ∧ H'.take H.length = H := ⟨_, fun _ _ => Iff.rfl⟩
  simp only [← hK]
  by_cases h128 : 128 < l.length
  · simp -implicitDefEqProofs [f41, ux, hln0, h128]
    exact (hK _ _).2 ⟨none, 2, _, .long h128, rfl, rfl, by simp⟩
  simp -implicitDefEqProofs [f41, ux, hln0, h128]
  obtain ⟨I, hI⟩ : ∃ I : Nat → Fr → Hp → Prop, ∀ i fr H', I i fr H' ↔ ((∃ L, H' = H ++ L) ∧ fr 0 = x ∧ fr 15 = x ∧ fr 16 = .v (.int .i64 l.length) ∧ fr 17 = .v (.int .i64 i) ∧ ∀ f ∈ l.take i, isName f.n ∧ isVal f.v) := ⟨_, fun _ _ _ => Iff.rfl⟩
  refine W_mono (W_up (Q := fun e fr H' => (e = .exit 0 ∧ I l.length fr H') ∨ (e = .ret ∧ K (.tup [unlit (fr 2), unlit (fr 3)]) H')) l.length I ?_ 0 _ _ (by omega) ((hI _ _ _).2 ⟨⟨[], by simp⟩, by simp, by simp, by simp, by simp, by simp⟩)) ?_
  · intro i fr H' hi hinv
    obtain ⟨⟨L, rfl⟩, a0, a15, a16, a17, hg⟩ := (hI _ _ _).1 hinv
    by_cases hlt : i < l.length
    case neg =>
      obtain rfl : i = l.length := by omega
      simp -implicitDefEqProofs [a16, a17]
      exact (hI _ _ _).2 ⟨⟨L, rfl⟩, by simp [a0], by simp [a15], by simp [a16], by simp [a17], hg⟩
    have hw := up64 hlt (by omega)
    have hlt2 : i < (l.map Fld.c).length := by simpa using hlt
    have hla : dLoad prog 67 (adrC x i) (H ++ L) = some (.agg [str l[i].n, str l[i].v]) := by rw [(hx.app L).loadAgg underlying67 rfl iT67 sT67 hlt2]; simp [Fld.c]
    have had : dIndexAddr prog 25 x (.v (.int .i64 i)) (H ++ L) = some (adrC x i) := by rw [(hx.app L).addr underlying25 iT67 sT67]; simp [hlt]
    have c72 := fun m H' => (w72 m l[i].n H').wc
    have c73 := fun m H' => (w73 m l[i].v H' (hf _ (List.getElem_mem hlt))).wc
    by_cases hn : isName l[i].n
    case neg =>
      simp -implicitDefEqProofs [a0, a15, a16, a17, hlt, had, hla, aQ, dAlloc, store_at iT67, cells_agg, faddr_ptr, underlying67, load_one underlying9 rfl iT9, c72, hn]
      exact (hK _ _).2 ⟨none, 50, _, .field (by omega) _ (List.getElem_mem hlt) (fun h => hn h.1), rfl, rfl, by simp⟩
    by_cases hv : isVal l[i].v
    case neg =>
      simp -implicitDefEqProofs [a0, a15, a16, a17, hlt, had, hla, aQ, dAlloc, store_at iT67, cells_agg, faddr_ptr, underlying67, load_one underlying9 rfl iT9, c72, hn, c73, hv]
      exact (hK _ _).2 ⟨none, 50, _, .field (by omega) _ (List.getElem_mem hlt) (fun h => hv h.2), rfl, rfl, by simp⟩
    simp -implicitDefEqProofs [a0, a15, a16, a17, hlt, had, hla, aQ, dAlloc, store_at iT67, cells_agg, faddr_ptr, underlying67, load_one underlying9 rfl iT9, c72, hn, c73, hv, hw]
    exact (hI _ _ _).2 ⟨⟨_, rfl⟩, by simp [a0], by simp [a15], by simp [a16], by simp, take_all hg hlt ⟨hn, hv⟩⟩
  · rintro e fr H' (⟨rfl, hi⟩ | ⟨rfl, hr⟩)
    case inr => simpa -implicitDefEqProofs using hr
    obtain ⟨⟨L, rfl⟩, a0, -, -, -, hg⟩ := (hI _ _ _).1 hi
    rw [List.take_length] at hg
    simp -implicitDefEqProofs [a0, ux, hln]
    obtain ⟨J, hJ⟩ : ∃ J : Nat → Fr → Hp → Prop, ∀ i fr H', J i fr H' ↔ (H'.take H.length = H ∧ fr 32 = x ∧ fr 33 = .v (.int .i64 l.length) ∧ fr 34 = .v (.int .i64 i) ∧ ∃ os, FoldsR (l.take i) os ∧ (∀ s ∈ os, s.length ≤ 998) ∧ GB H.length H' (fr 6) (emit os) ∧ (emit os).length ≤ i * 13000) := ⟨_, fun _ _ _ => Iff.rfl⟩
    refine W_mono (W_up (Q := fun e fr H' => (e = .exit 2 ∧ J l.length fr H') ∨ (e = .ret ∧ K (.tup [unlit (fr 2), unlit (fr 3)]) H')) l.length J ?_ 0 _ _ (by omega) ((hJ _ _ _).2 ⟨by simp, by simp, by simp, by simp, [], .nil, by simp, by simp; exact GB.nil _ _, by simp [emit]⟩)) ?_
    · intro i fr H' hi hinv
      obtain ⟨hH, a32, a33, a34, os, ho, hs, hgb, hle⟩ := (hJ _ _ _).1 hinv
      by_cases hlt : i < l.length
      case neg =>
        obtain rfl : i = l.length := by omega
        simp -implicitDefEqProofs [a33, a34]
        exact (hJ _ _ _).2 ⟨hH, by simp [a32], by simp [a33], by simp [a34], os, ho, hs, by simpa using hgb, hle⟩
      obtain ⟨L', rfl⟩ : ∃ L', H' = H ++ L' := ⟨_, split_at hH⟩
      have hw := up64 hlt (by omega)
      have hlt2 : i < (l.map Fld.c).length := by simpa using hlt
      have hla : dLoad prog 67 (adrC x i) (H ++ L') = some (.agg [str l[i].n, str l[i].v]) := by rw [(hx.app L').loadAgg underlying67 rfl iT67 sT67 hlt2]; simp [Fld.c]
      have had : dIndexAddr prog 25 x (.v (.int .i64 i)) (H ++ L') = some (adrC x i) := by rw [(hx.app L').addr underlying25 iT67 sT67]; simp [hlt]
      obtain ⟨g1, g2⟩ := hg _ (List.getElem_mem hlt)
      have gn := g1.2.1
      have gv := g2.2.1
      have u6 : unlit (fr 6) = fr 6 := Grow.unl hgb
      have hln3 : (lineF l[i]).length ≤ 4162 ∧ (76 < (lineF l[i]).length → l[i].n.length + 3 ≤ (lineF l[i]).length) := by
        unfold lineF; split <;> simp <;> omega
      obtain ⟨k, hk⟩ : ∃ k, k = l[i].n.length + 3 := ⟨_, rfl⟩
      obtain ⟨q, out, hq, hfold, hol, w74'⟩ := w74 m (lineF l[i]) k (H ++ (L' ++ [CO.cells 0 [str l[i].n, str l[i].v] 67])) (by omega) (by omega) (by omega) (by rw [hk]; exact hln3.2)
      have c74 := w74'.wc
      have hfl := hfold.flat
      have hq3 : ∀ H, dLenS prog 90 q H = some (.v (.int .i64 out.length)) := fun H => by rw [(hq.strs H).len underlying90, List.length_map]
      have uq := hq.unl
      have hwl : IntKind.i64.wrap ((l[i].n.length : Int) + 3) = (k : Int) := wrN (by omega) (by omega)
      have hlen : ∀ a : Bs, ∀ H, dLenS prog 9 (str a) H = some (.v (.int .i64 (a.length : Nat))) := fun a H => len_str underlying9 a H
      have hla1 : l[i].n.length + 1 ≤ 9223372036854775807 := by omega
      have h58 : str [58] = CV.v (.string ⟨#[58]⟩) := rfl
      obtain ⟨N, hN⟩ : ∃ N : Nat → Fr → Hp → Prop, ∀ j fr H', N j fr H' ↔ (H'.take H.length = H ∧ fr 32 = x ∧ fr 33 = .v (.int .i64 l.length) ∧ fr 34 = .v (.int .i64 i) ∧ fr 54 = q ∧ fr 55 = .v (.int .i64 out.length) ∧ fr 56 = .v (.int .i64 j) ∧ (∀ s ∈ out.take j, s.length ≤ 998) ∧ GB H.length H' (fr 6) (emit (os ++ out.take j))) := ⟨_, fun _ _ _ => Iff.rfl⟩
      have hcase : (decide (l[i].v = []) = true ∧ lineF l[i] = l[i].n ++ [58]) ∨ (decide (l[i].v = []) = false ∧ lineF l[i] = l[i].n ++ 58 :: 32 :: l[i].v) := by
        by_cases hv0 : l[i].v = []
        · exact .inl ⟨by simpa using hv0, by simp [lineF, hv0]⟩
        · exact .inr ⟨by simpa using hv0, by simp [lineF, hv0]⟩
      have hb2 : 1 + l[i].v.length ≤ 9223372036854775807 := by omega
      have hb3 : l[i].n.length + 1 + (1 + l[i].v.length) ≤ 9223372036854775807 := by omega
      have hb4 : l[i].v.length + 1 ≤ 9223372036854775807 := by omega
      have hb5 : l[i].n.length + 1 + (l[i].v.length + 1) ≤ 9223372036854775807 := by omega
      have hg6 : GB H.length (H ++ (L' ++ [CO.cells 0 [str l[i].n, str l[i].v] 67])) (fr 6) (emit os) := by rw [← List.append_assoc]; exact Grow.app _ hgb
      have hfs : FoldsR (l.take (i + 1)) (os ++ out) := by rw [take_snoc hlt]; refine .snoc ho ?_; rw [← hk]; exact hfold
      have hlem : (emit (os ++ out)).length ≤ (i + 1) * 13000 := by
        rw [emit_app, List.length_append, emit_len out, hfl]
        omega
      rcases hcase with ⟨hvt, hl0⟩ | ⟨hvt, hl0⟩
      all_goals simp -implicitDefEqProofs [a32, a33, a34, hlt, had, hla, aQ, dAlloc, store_at iT67, cells_agg, faddr_ptr, underlying67, load_one underlying9 rfl iT9, hlen, hla1, hb2, hb3, hb4, hb5, hwl, c74, hvt, ← hl0, hq3, uq]
      all_goals
        refine W_mono (W_up (Q := fun e fr H' => (e = .exit 4 ∧ N out.length fr H') ∨ (e = .ret ∧ K (.tup [unlit (fr 2), unlit (fr 3)]) H')) out.length N ?_ 0 _ _ (by omega) ((hN _ _ _).2 ⟨by simp, by simp [a32], by simp [a33], by simp [a34], by simp, by simp, by simp, by simp, by simpa [GB] using hg6⟩)) ?_
        · intro j fr' H2 hj hn
          obtain ⟨b0, b32, b33, b34, b54, b55, b56, b9, b6⟩ := (hN _ _ _).1 hn
          have u6' : unlit (fr' 6) = fr' 6 := Grow.unl b6
          by_cases hjl : j < out.length
          case neg =>
            obtain rfl : j = out.length := by omega
            simp -implicitDefEqProofs [b55, b56]
            exact (hN _ _ _).2 ⟨b0, by simp [b32], by simp [b33], by simp [b34], by simp [b54], by simp [b55], by simp [b56], b9, by simpa using b6⟩
          have hj2 : j < (out.map fun s => [str s]).length := by simpa using hjl
          have hal := fun H => (hq.strs H).addr (P := prog) underlying90 iT9 sT9 .i64 j
          have hl1 := fun H => (hq.strs H).load1 (P := prog) underlying9 rfl iT9 hj2
          simp [hjl] at hal hl1
          have hwj := up64 hjl (by omega)
          by_cases h9 : 998 < out[j].length
          · simp -implicitDefEqProofs [b54, b55, b56, uq, hjl, hal, hl1, hlen, h9]
            obtain ⟨os', ho'⟩ := FoldsR_ext (l.drop (i + 1)) (l.take (i + 1)) (os ++ out) (fun f hf => hg f (List.mem_of_mem_drop hf)) hfs
            rw [List.take_append_drop] at ho'
            exact (hK _ _).2 ⟨none, 40, _, .line (by omega) hg _ ho' out[j] (by simp) h9, rfl, rfl, b0⟩
          · have hap : ∀ y, apQ m (fr' 6) y = true := Grow.ap b6 hm
            have hH2 : H.length ≤ H2.length := by have := congrArg List.length b0; simp at this; omega
            have hsz : (emit (os ++ out.take j)).length + 1000 ≤ 100000000000 := by
              have h1 : (emit (out.take j)).length ≤ (emit out).length := by
                conv => rhs; rw [← List.take_append_drop j out, emit_app, List.length_append]
                omega
              rw [emit_app, List.length_append, emit_len out, hfl] at hlem
              rw [emit_app, List.length_append]
              rw [emit_len out, hfl] at h1
              omega
            obtain ⟨x2, H3, e1, u2, e2, e3, e4⟩ := b6.addS (l' := out[j]) hH2 (by omega)
            obtain ⟨x3, H4, f1, u3, f2, f3, f4⟩ := e2.addS (l' := crlf) e4 (by simp [crlf]; omega)
            have hap2 : ∀ y, apQ m x2 y = true := Grow.ap e2 hm
            have hcr : str [13, 10] = str crlf := rfl
            simp -implicitDefEqProofs [b54, b55, b56, uq, hjl, hal, hl1, hlen, h9, u6', hap, e1, u2, hap2, hcr, f1, u3, hwj]
            refine (hN _ _ _).2 ⟨by rw [f3, e3]; exact b0, by simp [b32], by simp [b33], by simp [b34], by simp [b54], by simp [b55], by simp, take_all b9 hjl (by omega), ?_⟩
            rw [take_snoc hjl, ← List.append_assoc, emit_snoc]; simpa using f2
        · rintro e fr' H2 (⟨rfl, hn⟩ | ⟨rfl, hr⟩)
          case inr => simpa -implicitDefEqProofs using hr
          obtain ⟨b0, b32, b33, b34, b54, b55, b56, b9, b6⟩ := (hN _ _ _).1 hn
          rw [List.take_length] at b9 b6
          simp -implicitDefEqProofs [b34, hw]
          refine (hJ _ _ _).2 ⟨b0, by simp [b32], by simp [b33], by simp, os ++ out, hfs, ?_, by simpa using b6, hlem⟩
          intro s hs'
          rcases List.mem_append.1 hs' with h | h
          · exact hs s h
          · exact b9 s h
    · rintro e fr H' (⟨rfl, hi⟩ | ⟨rfl, hr⟩)
      case inr => simpa -implicitDefEqProofs using hr
      obtain ⟨hH, -, -, -, os, ho, hs, hgb, hle⟩ := (hJ _ _ _).1 hi
      rw [List.take_length] at ho
      obtain ⟨x2, H2, e1, u2, e2, e3, e4⟩ := hgb.addS (l' := crlf) (by have := congrArg List.length hH; simp at this; omega) (by simp [crlf]; omega)
      have u6 : unlit (fr 6) = fr 6 := Grow.unl hgb
      have hap : ∀ y, apQ m (fr 6) y = true := Grow.ap hgb hm
      have hcr : str [13, 10] = str crlf := rfl
      simp -implicitDefEqProofs [u6, hcr, e1, u2, hap]
      exact (hK _ _).2 ⟨some (emit os ++ crlf), 0, _, .ok (by omega) hg os ho hs, rfl, e2, by rw [e3]; exact hH⟩
end Go.Proofs.Tryz

/- Walks: the reference writes a header. -/
namespace Go.Proofs.Tryz
open Go Go.SL
set_option linter.unusedVariables false
set_option linter.unusedSimpArgs false

def lng (os : List Bs) : Bool := os.any fun s => decide (998 < s.length)
theorem lng_snoc (os : List Bs) (s : Bs) : lng (os ++ [s]) = (lng os || decide (998 < s.length)) := by simp [lng]
theorem lng_true {os : List Bs} (h : lng os = true) : ∃ s ∈ os, 998 < s.length := by simpa [lng] using h
theorem lng_false {os : List Bs} (h : lng os = false) : ∀ s ∈ os, s.length ≤ 998 := by simpa [lng] using h
def crC : CV := .lit [.v (.int .u8 13), .v (.int .u8 10)] 2 1
theorem mkCr (H : Hp) : dBuildSlice prog 22 2 [(0, .v (.int .u8 13)), (1, .v (.int .u8 10))] H false = some (crC, H) := mkB2 underlying22 underlying5 iT5 zT5 sT5 13 10 H
theorem GB.addCr {m : Nat} {H : Hp} {x : CV} {l : Bs} (h : GB m H x l) (hm : m ≤ H.length) (hb : l.length + 2 ≤ 140737488355328) :
    ∃ x2 H2, dAppend prog 22 22 x crC H = some (x2, H2) ∧ unlit x2 = x2 ∧ GB m H2 x2 (l ++ crlf) ∧ H2.take m = H.take m ∧ m ≤ H2.length :=
  h.add hm (l' := crlf) (src_lit underlying22 rfl H) (by simpa [crlf] using hb)
variable [LayerC]
theorem w43 (m : Nat) (x : CV) (l : List Fld) (H : Hp) (hx : RS H x (l.map Fld.c) 2) (hl : l.length ≤ 100000) (hf : ∀ f ∈ l, f.n.length ≤ 4294967280 ∧ f.v.length ≤ 4294967280) (hm : m ≤ H.length) :
    WC prog cs0 m (.f 43) [x] H fun y H' => ∃ o e z, WrR l o e ∧ y = .tup [z, .v (.int .i64 (e : Nat))] ∧ wrV H.length H' o z ∧ H'.take H.length = H := by
  rw [WC_raw rfl func43 rfl rfl]
  have ux := hx.unl
  have hln : ∀ L, dLenS prog 25 x (H ++ L) = some (.v (.int .i64 l.length)) := fun L => by rw [(hx.app L).len underlying25, List.length_map]
  have hln0 := hln []
  rw [List.append_nil] at hln0
  obtain ⟨K, hK⟩ : ∃ K : CV → Hp → Prop, ∀ y H', K y H' ↔ ∃ o e z, WrR l o e ∧ y = .tup [z, .v (.int .i64 (e : Nat))] ∧ wrV H.length H' o z ∧ H'.take H.length = H := ⟨_, fun _ _ => Iff.rfl⟩
  simp only [← hK]
  by_cases h128 : 128 < l.length
  · simp -implicitDefEqProofs [f43, ux, hln0, h128]
    exact (hK _ _).2 ⟨none, 2, _, .long h128, rfl, rfl, by simp⟩
  simp -implicitDefEqProofs [f43, ux, hln0, h128]
  obtain ⟨J, hJ⟩ : ∃ J : Nat → Fr → Hp → Prop, ∀ i fr H', J i fr H' ↔ (H'.take H.length = H ∧ fr 0 = x ∧ fr 6 = .v (.int .i64 i) ∧ (∀ f ∈ l.take i, isName f.n ∧ isVal f.v) ∧ ∃ os, FoldsR (l.take i) os ∧ fr 5 = .v (.bool (lng os)) ∧ GB H.length H' (fr 4) (emit os) ∧ (emit os).length ≤ i * 13000) := ⟨_, fun _ _ _ => Iff.rfl⟩
  refine W_mono (W_up (Q := fun e fr H' => (e = .exit 0 ∧ J l.length fr H') ∨ (e = .ret ∧ K (.tup [unlit (fr 2), unlit (fr 3)]) H')) l.length J ?_ 0 _ _ (by omega) ((hJ _ _ _).2 ⟨by simp, by simp, by simp, by simp, [], .nil, by simp [lng], by simp; exact GB.nil _ _, by simp [emit]⟩)) ?_
  · intro i fr H' hi hinv
    obtain ⟨hH, a0, a6, hg, os, ho, a5, hgb, hle⟩ := (hJ _ _ _).1 hinv
    obtain ⟨L, rfl⟩ : ∃ L, H' = H ++ L := ⟨_, split_at hH⟩
    by_cases hlt : i < l.length
    case neg =>
      obtain rfl : i = l.length := by omega
      simp -implicitDefEqProofs [a0, a6, ux, hln]
      exact (hJ _ _ _).2 ⟨hH, by simp [a0], by simp [a6], hg, os, ho, by simp [a5], by simpa using hgb, hle⟩
    have hw := up64 hlt (by omega)
    have hlt2 : i < (l.map Fld.c).length := by simpa using hlt
    have had := fun L => (hx.app L).addr (P := prog) underlying25 iT67 sT67 .i64 i
    have hf0 := fun L => (hx.app L).fieldAddr (P := prog) (f := 0) underlying67 rfl iT9 (by simp) hlt2 (by simp)
    have hf1 := fun L => (hx.app L).fieldAddr (P := prog) (f := 1) underlying67 rfl iT9 (by simp) hlt2 (by simp)
    have hd0 := fun L => (hx.app L).loadPart (P := prog) (k := 0) underlying9 rfl iT9 hlt2 (by omega)
    have hd1 := fun L => (hx.app L).loadPart (P := prog) (k := 1) underlying9 rfl iT9 hlt2 (by omega)
    simp [hlt, Fld.c] at had hd0 hd1
    simp at hf0 hf1
    obtain ⟨f1, f2⟩ := hf _ (List.getElem_mem hlt)
    have c69 := fun m H' => (w69 m l[i].n H' f1).wc
    have c76 := fun m H' => (w76 m l[i].v H' f2).wc
    have u4 : unlit (fr 4) = fr 4 := Grow.unl hgb
    by_cases hn : isName l[i].n
    case neg =>
      simp -implicitDefEqProofs [a0, a6, ux, hln, hlt, had, hf0, hd0, c69, hn]
      exact (hK _ _).2 ⟨none, 50, _, .field (by omega) _ (List.getElem_mem hlt) (fun h => hn h.1), rfl, rfl, by simp⟩
    by_cases hv : isVal l[i].v
    case neg =>
      simp -implicitDefEqProofs [a0, a6, ux, hln, hlt, had, hf0, hf1, hd0, hd1, c69, hn, c76, hv]
      exact (hK _ _).2 ⟨none, 50, _, .field (by omega) _ (List.getElem_mem hlt) (fun h => hv h.2), rfl, rfl, by simp⟩
    have gn := hn.2.1
    have gv := hv.2.1
    have hln3 : (lineF l[i]).length ≤ 4162 ∧ (76 < (lineF l[i]).length → l[i].n.length + 3 ≤ (lineF l[i]).length) := by
      unfold lineF; split <;> simp <;> omega
    obtain ⟨k, hk⟩ : ∃ k, k = l[i].n.length + 3 := ⟨_, rfl⟩
    have hwl : IntKind.i64.wrap ((l[i].n.length : Int) + 3) = (k : Int) := wrN (by omega) (by omega)
    have hlen : ∀ a : Bs, ∀ H, dLenS prog 9 (str a) H = some (.v (.int .i64 (a.length : Nat))) := fun a H => len_str underlying9 a H
    have hla1 : l[i].n.length + 1 ≤ 9223372036854775807 := by omega
    have hcase : (decide (l[i].v = []) = true ∧ lineF l[i] = l[i].n ++ [58]) ∨ (decide (l[i].v = []) = false ∧ lineF l[i] = l[i].n ++ 58 :: 32 :: l[i].v) := by
      by_cases hv0 : l[i].v = []
      · exact .inl ⟨by simpa using hv0, by simp [lineF, hv0]⟩
      · exact .inr ⟨by simpa using hv0, by simp [lineF, hv0]⟩
    have hb2 : l[i].n.length + 1 + 1 ≤ 9223372036854775807 := by omega
    have hb3 : l[i].n.length + 1 + 1 + l[i].v.length ≤ 9223372036854775807 := by omega
    obtain ⟨N, hN⟩ : ∃ N : Nat → Fr → Hp → Prop, ∀ j fr H', N j fr H' ↔ ∃ a g done, j = a.length ∧ (H'.take H.length = H ∧ fr 0 = x ∧ fr 6 = .v (.int .i64 i) ∧ fr 7 = str a ∧ fr 8 = .v (.int .i64 (g : Nat)) ∧ 1 ≤ g ∧ g ≤ 1000 ∧ (done.length + a.length ≤ (lineF l[i]).length ∧ done.flatten ++ a = lineF l[i]) ∧ (∀ r, FoldR a g r → FoldR (lineF l[i]) k (done ++ r)) ∧ fr 5 = .v (.bool (lng (os ++ done))) ∧ GB H.length H' (fr 4) (emit (os ++ done))) := ⟨_, fun _ _ _ => Iff.rfl⟩
    obtain ⟨X, hX⟩ : ∃ X : Fr → Hp → Prop, ∀ fr H', X fr H' ↔ ∃ a done, (H'.take H.length = H ∧ fr 0 = x ∧ fr 6 = .v (.int .i64 i) ∧ fr 7 = str a ∧ FoldR (lineF l[i]) k (done ++ [a]) ∧ done.length + a.length ≤ (lineF l[i]).length ∧ fr 5 = .v (.bool (lng (os ++ done))) ∧ GB H.length H' (fr 4) (emit (os ++ done))) := ⟨_, fun _ _ => Iff.rfl⟩
    rcases hcase with ⟨hvt, hl0⟩ | ⟨hvt, hl0⟩
    all_goals simp -implicitDefEqProofs [a0, a6, ux, hln, hlt, had, hf0, hf1, hd0, hd1, c69, hn, c76, hv, hlen, hla1, hb2, hb3, hwl, hvt, ← hl0]
    all_goals
      refine W_mono (W_rounds (Q := fun e fr H' => e = .exit 2 ∧ X fr H') N ?_ _ _ _ ((hN _ _ _).2 ⟨lineF l[i], k, [], rfl, by simp, by simp [a0], by simp [a6], by simp, by simp, by omega, by omega, ⟨by simp, by simp⟩, fun r h => h, by simp [a5], by simpa using hgb⟩)) ?_
      · intro j fr' H2 hn
        obtain ⟨a, g, done, rfl, b0, b00, b6, b7, b8, hg1, hg2, ⟨hdl, hfl⟩, hfo, b5, bgb⟩ := (hN _ _ _).1 hn
        by_cases h76 : 76 < a.length
        case neg =>
          simp -implicitDefEqProofs [b7, hlen, h76]
          exact (hX _ _).2 ⟨a, done, b0, by simp [b00], by simp [b6], by simp [b7], hfo _ (.stop (.inl (by omega))), hdl, by simp [b5], by simpa using bgb⟩
        obtain ⟨r, hr, w77'⟩ := w77 m a g H2 (by omega) (by omega)
        have c77 := w77'.wc
        cases r with
        | none =>
          simp -implicitDefEqProofs [b7, b8, hlen, h76, c77, plV]
          exact (hX _ _).2 ⟨a, done, b0, by simp [b00], by simp [b6], by simp [b7], hfo _ (.stop (.inr hr)), hdl, by simp [b5], by simpa using bgb⟩
        | some q =>
          have hq1 := hr.1
          have hq2 := hr.2.1
          have hqa : q ≤ a.length := by omega
          have hng : ¬ ((q : Int) < 0) := by omega
          have hu := slice_str (P := prog) (t := 9) underlying9 a none (some (.v (.int .i64 (q : Nat))))
          have hd := slice_str (P := prog) (t := 9) underlying9 a (some (.v (.int .i64 (q : Nat)))) none
          simp [hqa] at hu hd
          have b4u : unlit (fr' 4) = fr' 4 := Grow.unl bgb
          have hap : ∀ y, apQ m (fr' 4) y = true := Grow.ap bgb hm
          have hH2 : H.length ≤ H2.length := by have := congrArg List.length b0; simp at this; omega
          have hsz2 : (emit (os ++ done)).length ≤ 100000000 := by
            have h1 := congrArg List.length hfl
            rw [List.length_append] at h1
            rw [emit_app, List.length_append, emit_len done]
            omega
          obtain ⟨x2, H3, e1, u2, e2, e3, e4⟩ := bgb.addS (l' := a.take q) hH2 (by simp; omega)
          obtain ⟨x3, H4, f1, u3, f2, f3, f4⟩ := e2.addCr e4 (by simp; omega)
          have hap2 : ∀ y, apQ m x2 y = true := Grow.ap e2 hm
          have hfin : ∀ fr3, fr3 0 = x → fr3 6 = .v (.int .i64 i) → fr3 7 = str (a.drop q) → fr3 8 = .v (.int .i64 1) → fr3 5 = .v (.bool (lng (os ++ done) || decide (998 < q))) → fr3 4 = x3 → ∃ j', j' < a.length ∧ N j' fr3 H4 := by
            intro fr3 d0 d6 d7 d8 d5 d4
            refine ⟨(a.drop q).length, by simp; omega, (hN _ _ _).2 ⟨a.drop q, 1, done ++ [a.take q], rfl, by rw [f3, e3]; exact b0, d0, d6, d7, d8, Nat.le_refl _, by omega, ⟨by simp; omega, by rw [← hfl]; simp⟩, fun r hr' => ?_, ?_, ?_⟩⟩
            · rw [List.append_assoc]; exact hfo _ (.step h76 hr hr')
            · rw [d5, ← List.append_assoc, lng_snoc, List.length_take, Nat.min_eq_left hqa]
            · rw [d4, ← List.append_assoc, emit_snoc]; exact f2
          cases hb : lng (os ++ done) with
          | true =>
            simp -implicitDefEqProofs [b7, b8, hlen, h76, c77, plV, hng, b5, hb, hu, hd, b4u, hap, e1, u2, hap2, mkCr, f1, u3]
            refine hfin _ ?_ ?_ ?_ ?_ ?_ ?_ <;> simp [b00, b6, hb]
          | false =>
            simp -implicitDefEqProofs [b7, b8, hlen, h76, c77, plV, hng, b5, hb, hu, hd, b4u, hap, e1, u2, hap2, mkCr, f1, u3]
            refine hfin _ ?_ ?_ ?_ ?_ ?_ ?_ <;> simp [b00, b6, hb]
      · rintro e fr' H2 ⟨rfl, hX'⟩
        obtain ⟨a, done, b0, b00, b6, b7, hfo, hdl, b5, bgb⟩ := (hX _ _).1 hX'
        have b4u : unlit (fr' 4) = fr' 4 := Grow.unl bgb
        have hap : ∀ y, apQ m (fr' 4) y = true := Grow.ap bgb hm
        have hH2 : H.length ≤ H2.length := by have := congrArg List.length b0; simp at this; omega
        have hsz2 : (emit (os ++ done)).length ≤ 100000000 := by
          have h1 := congrArg List.length hfo.flat
          rw [List.flatten_append, List.length_append] at h1
          rw [emit_app, List.length_append, emit_len done]
          omega
        obtain ⟨x2, H3, e1, u2, e2, e3, e4⟩ := bgb.addS (l' := a) hH2 (by omega)
        obtain ⟨x3, H4, f1, u3, f2, f3, f4⟩ := e2.addCr e4 (by simp; omega)
        have hap2 : ∀ y, apQ m x2 y = true := Grow.ap e2 hm
        have hfin : ∀ fr3, fr3 0 = x → fr3 6 = .v (.int .i64 ((i + 1 : Nat) : Int)) → fr3 5 = .v (.bool (lng (os ++ done) || decide (998 < a.length))) → fr3 4 = x3 → J (i + 1) fr3 H4 := by
          intro fr3 d0 d6 d5 d4
          refine (hJ _ _ _).2 ⟨by rw [f3, e3]; exact b0, d0, d6, take_all hg hlt ⟨hn, hv⟩, os ++ (done ++ [a]), ?_, ?_, ?_, ?_⟩
          · rw [take_snoc hlt]; refine .snoc ho ?_; rw [← hk]; exact hfo
          · rw [d5, ← List.append_assoc, lng_snoc]
          · rw [d4, ← List.append_assoc, emit_snoc]; exact f2
          · rw [emit_app, List.length_append, emit_len (done ++ [a]), hfo.flat]
            simp; omega
        cases hb : lng (os ++ done) with
        | true =>
          simp -implicitDefEqProofs [b00, b6, b7, hlen, b5, hb, b4u, hap, e1, u2, hap2, mkCr, f1, u3, hw]
          refine hfin _ ?_ ?_ ?_ ?_ <;> simp [b00, b6, hb]
        | false =>
          simp -implicitDefEqProofs [b00, b6, b7, hlen, b5, hb, b4u, hap, e1, u2, hap2, mkCr, f1, u3, hw]
          refine hfin _ ?_ ?_ ?_ ?_ <;> simp [b00, b6, hb]
  · rintro e fr H' (⟨rfl, hi⟩ | ⟨rfl, hr⟩)
    case inr => simpa -implicitDefEqProofs using hr
    obtain ⟨hH, a0, a6, hg, os, ho, a5, hgb, hle⟩ := (hJ _ _ _).1 hi
    rw [List.take_length] at ho hg
    cases hb : lng os with
    | true =>
      obtain ⟨s, hs, h9⟩ := lng_true hb
      simp -implicitDefEqProofs [a5, hb]
      exact (hK _ _).2 ⟨none, 40, _, .line (by omega) hg _ ho s hs h9, rfl, rfl, hH⟩
    | false =>
      obtain ⟨x2, H2, e1, u2, e2, e3, e4⟩ := hgb.addCr (by have := congrArg List.length hH; simp at this; omega) (by omega)
      have u4 : unlit (fr 4) = fr 4 := Grow.unl hgb
      have hap : ∀ y, apQ m (fr 4) y = true := Grow.ap hgb hm
      simp -implicitDefEqProofs [a5, hb, u4, mkCr, e1, u2, hap]
      exact (hK _ _).2 ⟨some (emit os ++ crlf), 0, _, .ok (by omega) hg os ho (lng_false hb), rfl, e2, by rw [e3]; exact hH⟩
end Go.Proofs.Tryz

/- Walks: a text's parts; a field is shut. -/
namespace Go.Proofs.Tryz
open Go Go.SL
set_option linter.unusedVariables false
set_option linter.unusedSimpArgs false

/-- The text ahead of a byte. -/
def headT (s : Bs) (c : UInt8) : Bs := s.takeWhile (· != c)
theorem headT_at {s : Bs} {c : UInt8} {i : Nat} (h : ∀ d ∈ s.take i, d ≠ c) (hc : i = s.length ∨ s[i]? = some c) : headT s c = s.take i := by
  unfold headT
  rcases hc with rfl | hc
  · rw [List.take_length] at h ⊢
    have := List.takeWhile_append_of_pos (l₁ := s) (l₂ := []) (p := (· != c)) (fun d hd => by simpa using h d hd)
    simpa using this
  · have hi : i < s.length := (List.getElem?_eq_some_iff.1 hc).1
    have hs : s[i] = c := (List.getElem?_eq_some_iff.1 hc).2
    conv => lhs; rw [← List.take_append_drop i s, List.drop_eq_getElem_cons hi, hs]
    rw [List.takeWhile_append_of_pos (fun d hd => by simpa using h d hd)]
    simp
variable [LayerC]
theorem w68 (m : Nat) (s : Bs) (c : UInt8) (H : Hp) (hs : s.length ≤ 4294967280) : ∃ y rest, Cls y (strS (headT s c :: rest)) (rest.length + 1) 1 ∧ Ret prog cs0 m 68 [str s, .v (.int .u8 c.toNat)] H y H := by
  suffices hsuf : WC prog cs0 m (.f 68) [str s, .v (.int .u8 c.toNat)] H fun y H' => H' = H ∧ ∃ rest, Cls y (strS (headT s c :: rest)) (rest.length + 1) 1 by
    obtain ⟨k, ⟨y, H'⟩, h1, h2, rest, h3⟩ := hsuf
    simp only at h2 h3
    subst h2
    exact ⟨y, rest, h3, k, _, h1, rfl, rfl⟩
  rw [WC_drop rfl func68 rfl rfl]
  simp -implicitDefEqProofs [f68]
  obtain ⟨I, hI⟩ : ∃ I : Nat → Fr → Hp → Prop, ∀ i fr H', I i fr H' ↔ ∃ out f, fr 0 = str s ∧ fr 1 = .v (.int .u8 c.toNat) ∧ fr 6 = .v (.int .i64 (f : Nat)) ∧ fr 7 = .v (.int .i64 (i : Nat)) ∧ Acc H H' (fr 5) (strS out) out.length 1 9 ∧ out.length ≤ i ∧ f ≤ i ∧ ((out = [] ∧ f = 0 ∧ ∀ d ∈ s.take i, d ≠ c) ∨ ∃ rest, out = headT s c :: rest) ∧ (i = s.length + 1 → out ≠ []) := ⟨_, fun _ _ _ => Iff.rfl⟩
  refine W_up (s.length + 1) I ?_ 0 _ _ (by omega) ((hI _ _ _).2 ⟨[], 0, by simp, by simp, by simp, by simp, by simp; exact Acc.nil H 1 9, by simp, by simp, by simp, by omega⟩)
  intro i fr H' hi hinv
  obtain ⟨out, f, a0, a1, a6, a7, ha, hol, hfi, ho, hne⟩ := (hI _ _ _).1 hinv
  have u5 := ha.unl
  have hap : ∀ y, apQ H.length (fr 5) y = true := ha.ap (Nat.le_refl _)
  have hlen : ∀ a : Bs, ∀ H, dLenS prog 9 (str a) H = some (.v (.int .i64 (a.length : Nat))) := fun a H => len_str underlying9 a H
  by_cases hlt : i ≤ s.length
  case neg =>
    obtain rfl : i = s.length + 1 := by omega
    obtain ⟨y, f1, f2⟩ := ha.frzV (Nat.le_refl _) (strS_clB out)
    rcases ho with ⟨rfl, _⟩ | ⟨rest, rfl⟩
    · exact absurd rfl (hne rfl)
    have hn : ¬ ((s.length : Int) + 1 ≤ s.length) := by omega
    simp -implicitDefEqProofs [a0, a7, hlen, hn, u5, f1, ha.take]
    exact ⟨rest, f2⟩
  have hw := up64 (i := i) (n := s.length + 1) (by omega) (by omega)
  have hsl := slice_str (P := prog) (t := 9) underlying9 s (some (.v (.int .i64 (f : Nat)))) (some (.v (.int .i64 (i : Nat))))
  simp [hfi, hlt] at hsl
  obtain ⟨x2, H2, e1, e2⟩ := Acc.append (P := prog) (t := 90) (tx := 90) (y := .im [str ((s.take i).drop f)] 1 1) underlying90 iT9 zT9 (by simp) sT9 (by omega) ha (src_clo (n := 1) underlying90 (.inl rfl) rfl _) rfl (by simp; omega) (by omega)
  have u2 := e2.unl
  have hcut : (i = s.length ∨ s[i]? = some c) → ∀ fr', fr' 0 = str s → fr' 1 = .v (.int .u8 c.toNat) → fr' 6 = .v (.int .i64 ((i + 1 : Nat) : Int)) → fr' 7 = .v (.int .i64 ((i + 1 : Nat) : Int)) → fr' 5 = x2 → I (i + 1) fr' H2 := by
    intro hc fr' b0 b1 b6 b7 b5
    refine (hI _ _ _).2 ⟨out ++ [(s.take i).drop f], i + 1, b0, b1, b6, b7, ?_, by simp; omega, Nat.le_refl _, .inr ?_, by simp⟩
    · rw [b5, strS_snoc, List.length_append]; simpa using e2
    · rcases ho with ⟨rfl, rfl, hd⟩ | ⟨rest, rfl⟩
      · exact ⟨[], by rw [headT_at hd hc]; simp⟩
      · exact ⟨_, rfl⟩
  by_cases hie : i = s.length
  · simp -implicitDefEqProofs [a0, a1, a6, a7, hlen, hlt, hie, u5, hap]
    subst hie
    simp only [List.take_length] at hsl e1
    simp -implicitDefEqProofs [hsl, mkS1, e1, u2, hw, hap]
    refine hcut (.inl rfl) _ ?_ ?_ ?_ ?_ ?_ <;> simp [a0, a1]
  have hlt2 : i < s.length := by omega
  have hlt3 : i < s.length + 1 := by omega
  by_cases hc : s[i] = c
  · simp -implicitDefEqProofs [a0, a1, a6, a7, hlen, hlt, hie, u5, hap, index_str underlying9, hlt2, hlt3, hc, hsl, mkS1, e1, u2, hw]
    refine hcut (.inr (by rw [List.getElem?_eq_getElem hlt2, hc])) _ ?_ ?_ ?_ ?_ ?_ <;> simp [a0, a1]
  · have hcn : ¬ s[i].toNat = c.toNat := fun h => hc (UInt8.toNat_inj.1 h)
    simp -implicitDefEqProofs [a0, a1, a6, a7, hlen, hlt, hie, u5, hap, index_str underlying9, hlt2, hlt3, hcn, hsl, mkS1, e1, u2, hw]
    refine (hI _ _ _).2 ⟨out, f, by simp [a0], by simp [a1], by simp [a6], by simp, by simpa using ha, by omega, by omega, ?_, by omega⟩
    rcases ho with ⟨h1, h2, hd⟩ | h
    · exact .inl ⟨h1, h2, take_all hd hlt2 hc⟩
    · exact .inr h

/-- A field that is open. -/
structure Opn where
  a : Nat
  n : Bs
  x : Bs
def shutG (l : List Fld) : Option Opn → Option (List Fld)
  | none => some l
  | some o => if isVal (trim o.x) ∧ l.length < 128 then some (l ++ [⟨o.n, trim o.x⟩]) else none
def opnC : Option Opn → List CV
  | none => [.v (.int .i64 (-1)), str [], str []]
  | some o => [.v (.int .i64 (o.a : Nat)), str o.n, str o.x]
def fldS (l : List Fld) : List CV := (l.map Fld.c).flatten
theorem fldS_snoc (l : List Fld) (f : Fld) : fldS (l ++ [f]) = fldS l ++ f.c := by simp [fldS]
theorem fldS_clB (l : List Fld) : (fldS l).all clB = true := by
  induction l with
  | nil => rfl
  | cons a l ih => simp only [fldS, List.map_cons, List.flatten_cons, List.all_append] at ih ⊢; rw [ih]; rfl
/-- A list of fields that grows. -/
def GF (m : Nat) (H : Hp) (x : CV) (l : List Fld) : Prop := Grow m H x (fldS l) l.length 2 67
theorem mkF1 (a b : Bs) (H : Hp) : dBuildSlice prog 25 1 [(0, .agg [str a, str b])] H false = some (.im [str a, str b] 1 2, H) :=
  mkA1 (cs := [str a, str b]) underlying25 (by simp [isU8, underlying67]) iT67 zT67 rfl sT67 (by omega) (by omega) rfl (by simp) (by simp) H
theorem GF.add {m : Nat} {H : Hp} {x : CV} {l : List Fld} {f : Fld} (h : GF m H x l) (hm : m ≤ H.length) (hb : l.length ≤ 100000) :
    ∃ x2 H2, dAppend prog 25 25 x (.im [str f.n, str f.v] 1 2) H = some (x2, H2) ∧ unlit x2 = x2 ∧ GF m H2 x2 (l ++ [f]) ∧ H2.take m = H.take m ∧ m ≤ H2.length := by
  obtain ⟨x2, H2, e1, e2, e3, e4, _⟩ := Grow.append (P := prog) (t := 25) (tx := 25) (y := .im [str f.n, str f.v] 1 2) underlying25 iT67 zT67 rfl sT67 (by omega) hm h (src_clo (n := 1) underlying25 (.inl rfl) rfl _) rfl (by simp; omega) (by omega)
  refine ⟨x2, H2, e1, e2.unl, ?_, e3, by omega⟩
  unfold GF
  rw [fldS_snoc, List.length_append]; exact e2
theorem trim_le (s : Bs) : (trim s).length ≤ s.length := by
  have h : ∀ s : Bs, (trimL s).length ≤ s.length := fun s => (trimL_sfx s).length_le
  unfold trim
  have h1 := h s; have h2 := h (trimL s).reverse
  simp at h2 ⊢; omega
theorem opn_one (o : Option Opn) : (opnC o).all oneB = true := by cases o <;> rfl
theorem w67 (m k : Nat) (x : CV) (l : List Fld) (o : Option Opn) (H : Hp) (hx : GF k H x l) (hk : k ≤ H.length) (hm : m ≤ k) (hl : l.length ≤ 128) (ho : ∀ q, o = some q → q.x.length ≤ 4294967280) :
    WC prog cs0 m (.f 67) [x, .agg (opnC o)] H fun y H' => H'.take k = H.take k ∧ k ≤ H'.length ∧ ∃ z l', GF k H' z l' ∧ y = .tup [z, .v (.bool (shutG l o).isSome)] ∧ (∀ l2, shutG l o = some l2 → l' = l2 ∧ l2.length ≤ 128) := by
  rw [WC_raw rfl func67 rfl rfl]
  obtain ⟨K, hK⟩ : ∃ K : CV → Hp → Prop, ∀ y H', K y H' ↔ H'.take k = H.take k ∧ k ≤ H'.length ∧ ∃ z l', GF k H' z l' ∧ y = .tup [z, .v (.bool (shutG l o).isSome)] ∧ (∀ l2, shutG l o = some l2 → l' = l2 ∧ l2.length ≤ 128) := ⟨_, fun _ _ => Iff.rfl⟩
  simp only [← hK]
  have ux : unlit x = x := Grow.unl hx
  have hlen : ∀ H, GF k H x l → dLenS prog 25 x H = some (.v (.int .i64 l.length)) := fun H h => by
    have := (Grow.rs (ch := l.map Fld.c) (by rw [List.length_map]; exact h) (fldCh l)).len underlying25
    rw [List.length_map] at this; exact this
  have hx1 : ∀ L, GF k (H ++ L) x l := fun L => Grow.app L hx
  have htk : ∀ L : Hp, (H ++ L).take k = H.take k := fun L => List.take_append_of_le_length hk
  cases o with
  | none =>
    simp -implicitDefEqProofs [f67, opnC, cells_agg, faddr_ptr, underlying110, load_one underlying3 rfl iT3, ux]
    exact (hK _ _).2 ⟨htk _, by simp; omega, x, l, hx1 _, rfl, fun l2 h => by cases h; exact ⟨rfl, hl⟩⟩
  | some o =>
    have hox := ho o rfl
    have c97 := fun m H => (w97 m o.x H hox).wc
    have htl := trim_le o.x
    have c76 := fun m H => (w76 m (trim o.x) H (by omega)).wc
    have hln := hlen _ (hx1 [CO.cells 0 [.v (.int .i64 (o.a : Nat)), str o.n, str o.x] 110])
    have hap : ∀ y, apQ m x y = true := Grow.ap hx hm
    by_cases hv : isVal (trim o.x)
    case neg =>
      have hsh : shutG l (some o) = none := by simp [shutG, hv]
      simp -implicitDefEqProofs [f67, opnC, cells_agg, faddr_ptr, underlying110, load_one underlying3 rfl iT3, load_one underlying9 rfl iT9, ux, c97, c76, hv]
      exact (hK _ _).2 ⟨htk _, by simp; omega, x, l, hx1 _, by rw [hsh]; rfl, fun l2 h => by rw [hsh] at h; cases h⟩
    by_cases hll : l.length < 128
    case neg =>
      have hsh : shutG l (some o) = none := by simp [shutG, hll]
      have h128 : 128 ≤ l.length := by omega
      simp -implicitDefEqProofs [f67, opnC, cells_agg, faddr_ptr, underlying110, load_one underlying3 rfl iT3, load_one underlying9 rfl iT9, ux, c97, c76, hv, hln, h128]
      exact (hK _ _).2 ⟨htk _, by simp; omega, x, l, hx1 _, by rw [hsh]; rfl, fun l2 h => by rw [hsh] at h; cases h⟩
    have hsh : shutG l (some o) = some (l ++ [⟨o.n, trim o.x⟩]) := by simp [shutG, hv, hll]
    have h128 : ¬ 128 ≤ l.length := by omega
    obtain ⟨x2, H2, e1, u2, e2, e3, e4⟩ := (hx1 [CO.cells 0 [.v (.int .i64 (o.a : Nat)), str o.n, str o.x] 110]).add (f := ⟨o.n, trim o.x⟩) (by simp; omega) (by omega)
    simp -implicitDefEqProofs [f67, opnC, cells_agg, faddr_ptr, underlying110, load_one underlying3 rfl iT3, load_one underlying9 rfl iT9, ux, c97, c76, hv, hln, h128, b67_2, mkF1, hap, e1, u2]
    exact (hK _ _).2 ⟨by rw [e3]; exact htk _, e4, x2, _, e2, by rw [hsh]; rfl, fun l2 h => by rw [hsh] at h; cases h; exact ⟨rfl, by simp; omega⟩⟩
end Go.Proofs.Tryz

/- Walks: the reference reads a header. -/
namespace Go.Proofs.Tryz
open Go Go.SL
set_option linter.unusedVariables false
set_option linter.unusedSimpArgs false

/-- What reading a header answers. -/
inductive PR
  | ok (l : List Fld) (n : Nat)
  | bad (a c : Nat)
def hdrG (n : Nat) : List Ln → List Fld → Option Opn → PR
  | [], _, _ => .bad n 42
  | x :: xs, l, o =>
    if x.w = false then .bad x.a 42 else
    if 998 < x.s.length then .bad x.a 40 else
    if (x.s.head?.map blankC) = some true then
      match o with
      | none => .bad x.a 50
      | some o => hdrG n xs l (some ⟨o.a, o.n, o.x ++ x.s⟩)
    else
      match shutG l o with
      | none => .bad (match o with | none => 0 | some o => o.a) 50
      | some l' =>
        if x.s = [] then .ok l' (x.a + 2) else
        if (headT x.s 58).length = x.s.length ∨ ¬ isName (headT x.s 58) then .bad x.a 50 else
          hdrG n xs l' (some ⟨x.a, headT x.s 58, x.s.drop ((headT x.s 58).length + 1)⟩)
theorem hdrG_nil (n : Nat) (l : List Fld) (o : Option Opn) : hdrG n [] l o = .bad n 42 := by rw [hdrG.eq_def]
section
variable {n : Nat} {x : Ln} {xs : List Ln} {l : List Fld} {o : Option Opn}
theorem hdrG_short (h : x.w = false) : hdrG n (x :: xs) l o = .bad x.a 42 := by rw [hdrG.eq_def]; simp [h]
theorem hdrG_long (h : x.w = true) (h2 : 998 < x.s.length) : hdrG n (x :: xs) l o = .bad x.a 40 := by rw [hdrG.eq_def]; simp [h, h2]
theorem hdrG_b0 (h : x.w = true) (h2 : ¬ 998 < x.s.length) (h3 : (x.s.head?.map blankC) = some true) : hdrG n (x :: xs) l none = .bad x.a 50 := by rw [hdrG.eq_def]; simp only [h, h2, h3, if_true, if_false]; rfl
theorem hdrG_b1 {o : Opn} (h : x.w = true) (h2 : ¬ 998 < x.s.length) (h3 : (x.s.head?.map blankC) = some true) : hdrG n (x :: xs) l (some o) = hdrG n xs l (some ⟨o.a, o.n, o.x ++ x.s⟩) := by
  conv => lhs; rw [hdrG.eq_def]
  simp only [h, h2, h3, if_true, if_false]; rfl
theorem hdrG_sh {o : Opn} (h : x.w = true) (h2 : ¬ 998 < x.s.length) (h3 : ¬ (x.s.head?.map blankC) = some true) (h4 : shutG l (some o) = none) : hdrG n (x :: xs) l (some o) = .bad o.a 50 := by
  conv => lhs; rw [hdrG.eq_def]
  simp only [h, h2, h3, h4, if_false]; rfl
theorem hdrG_end {l' : List Fld} (h : x.w = true) (h3 : x.s = []) (h4 : shutG l o = some l') : hdrG n (x :: xs) l o = .ok l' (x.a + 2) := by
  conv => lhs; rw [hdrG.eq_def]
  simp [h, h3, h4]
theorem hdrG_bad {l' : List Fld} (h : x.w = true) (h2 : ¬ 998 < x.s.length) (h3 : ¬ (x.s.head?.map blankC) = some true) (h4 : shutG l o = some l') (h5 : x.s ≠ []) (h6 : (headT x.s 58).length = x.s.length ∨ ¬ isName (headT x.s 58)) : hdrG n (x :: xs) l o = .bad x.a 50 := by
  conv => lhs; rw [hdrG.eq_def]
  simp only [h, h2, h3, h4, h5, h6, if_false]; rfl
theorem hdrG_open {l' : List Fld} (h : x.w = true) (h2 : ¬ 998 < x.s.length) (h3 : ¬ (x.s.head?.map blankC) = some true) (h4 : shutG l o = some l') (h5 : x.s ≠ []) (h6 : ¬ ((headT x.s 58).length = x.s.length ∨ ¬ isName (headT x.s 58))) : hdrG n (x :: xs) l o = hdrG n xs l' (some ⟨x.a, headT x.s 58, x.s.drop ((headT x.s 58).length + 1)⟩) := by
  conv => lhs; rw [hdrG.eq_def]
  simp only [h, h2, h3, h4, h5, h6, if_false]; rfl
end
theorem lnS_last_only (a : Nat) (l : Bs) : ∀ (j : Nat) (h : j < (lnS a l).length), (lnS a l)[j].w = false → j + 1 = (lnS a l).length := by
  have key : ∀ n (l : Bs) a, l.length ≤ n → ∀ (j : Nat) (h : j < (lnS a l).length), (lnS a l)[j].w = false → j + 1 = (lnS a l).length := by
    intro n
    induction n with
    | zero =>
      intro l a hn j h
      obtain rfl := List.eq_nil_of_length_eq_zero (by omega : l.length = 0)
      rw [lnS_nil] at h; simp at h
    | succ n ih =>
      intro l a hn j h hw
      by_cases hl : l = []
      · subst hl; rw [lnS_nil] at h; simp at h
      · by_cases hc : crIdx l < 0
        · simp only [lnS_last hl hc, List.length_singleton] at h ⊢; omega
        · have hp := lineN_pos hl
          have e := lnS_whole (a := a) (r := l) (by omega)
          simp only [e] at hw h ⊢
          cases j with
          | zero => simp at hw
          | succ j =>
            simp at h hw
            have := ih (l.drop (lineN l)) (a + lineN l) (by simp; omega) j h hw
            simp; omega
  exact key _ l a (Nat.le_refl _)
def zF : List CV := [.v (.int .i64 0), .v (.int .i64 0)]
def hdrR (r : PR) (y : CV) : Prop :=
  match r with
  | .bad a c => y = .tup [nilC, .v (.int .i64 0), .agg [.v (.int .i64 (a : Nat)), .v (.int .i64 (c : Nat))]]
  | .ok l n => ∃ q, Cls q (fldS l) l.length 2 ∧ y = .tup [q, .v (.int .i64 (n : Nat)), .agg zF]
@[simp] theorem stQ_str (m id ver off : Nat) (s : Bs) : stQ m (.ptr id ver off) (str s) = true := by
  unfold stQ; simp only []; rw [show topLe 0 (str s) = true from rfl, Bool.or_true]
theorem GF.pre2 {H L : Hp} {a b a' b' : CO} {x : CV} {l : List Fld} (h : GF (H.length + 2) (H ++ a :: b :: L) x l) : GF (H.length + 2) (H ++ a' :: b' :: L) x l := by
  have := Grow.pre (A := H ++ [a, b]) (A' := H ++ [a', b']) (L := L) (by simpa [GF] using h) (by simp) (by simp)
  simpa [GF] using this
theorem headT_len (s : Bs) (c : UInt8) : (headT s c).length ≤ s.length := (List.takeWhile_sublist _).length_le
variable [LayerC]
theorem w38 (m : Nat) (x : CV) (b : Bs) (H : Hp) (hx : CB x b) (hb : b.length ≤ 2000000) : WC prog cs0 m (.f 38) [x] H fun y H2 => H2 = H ∧ hdrR (hdrG b.length (lnS 0 b) [] none) y := by
  rw [WC_drop rfl func38 rfl rfl]
  obtain ⟨q, hq, hw65⟩ := w65c H.length x b (H ++ [CO.cells 0 zF 71]) hx (by omega)
  have uq := hq.unl
  have ux := hx.unl
  have c65 := hw65.wc
  have hll := lnS_len 0 b
  have hroom := lnS_room 0 b
  have hlo := lnS_last_only 0 b
  generalize hz : lnS 0 b = ls at *
  have hrs := fun H => ln_at (P := prog) hq H
  have hlen : ∀ H, dLenS prog 107 q H = some (.v (.int .i64 ls.length)) := fun H => by rw [(hrs H).len underlying107, List.length_map]
  have hbl : ∀ H, dLenS prog 22 x H = some (.v (.int .i64 b.length)) := fun H => (hx.rb H).len underlying22
  obtain ⟨Z, hZ⟩ : ∃ Z, Z = hdrG b.length ls [] none := ⟨_, rfl⟩
  rw [← hZ]
  obtain ⟨FB, hFB⟩ : ∃ FB : CO, FB = CO.cells 0 zF 71 := ⟨_, rfl⟩
  have hFB' : CO.cells 0 [.v (.int .i64 0), .v (.int .i64 0)] 71 = FB := by rw [hFB]; rfl
  simp only [zF] at c65
  simp -implicitDefEqProofs [f38, aQ, dAlloc, c65, uq, ux, b110_1, store_at iT110, cells_agg]
  obtain ⟨I, hI⟩ : ∃ I : Nat → Fr → Hp → Prop, ∀ i fr H', I i fr H' ↔ ∃ o l L, fr 0 = x ∧ fr 4 = .ptr H.length 0 0 ∧ fr 5 = q ∧ fr 7 = .ptr (H.length + 1) 0 0 ∧ fr 8 = .v (.int .i64 (i : Nat)) ∧ H' = H ++ CO.cells 0 [.v (.int .i64 0), .v (.int .i64 0)] 71 :: CO.cells 0 (opnC o) 110 :: L ∧ GF (H.length + 2) H' (fr 6) l ∧ l.length ≤ 128 ∧ (∀ p, o = some p → p.x.length ≤ i * 1000) ∧ (∀ j, ∀ h : j < ls.length, j < i → ls[j].w = true) ∧ Z = hdrG b.length (ls.drop i) l o := ⟨_, fun _ _ _ => Iff.rfl⟩
  obtain ⟨RR, hRR⟩ : ∃ R : Fr → Hp → Prop, ∀ fr H', R fr H' ↔ fr 4 = .ptr H.length 0 0 ∧ ∃ L, ((∃ a c : Nat, Z = .bad a c ∧ H' = H ++ CO.cells 0 [.v (.int .i64 (a : Nat)), .v (.int .i64 (c : Nat))] 71 :: L ∧ fr 2 = nilC ∧ fr 3 = .v (.int .i64 0)) ∨ ∃ l n, Z = .ok l n ∧ H' = H ++ CO.cells 0 [.v (.int .i64 0), .v (.int .i64 0)] 71 :: L ∧ GF (H.length + 2) H' (fr 2) l ∧ fr 3 = .v (.int .i64 (n : Nat))) := ⟨_, fun _ _ => Iff.rfl⟩
  obtain ⟨XX, hXX⟩ : ∃ R : Fr → Hp → Prop, ∀ fr H', R fr H' ↔ ∃ i, I i fr H' ∧ (i = ls.length ∨ ∃ h : i < ls.length, ls[i].w = false) := ⟨_, fun _ _ => Iff.rfl⟩
  refine W_mono (W_up (Q := fun e fr H' => (e = .exit 0 ∧ XX fr H') ∨ (e = .ret ∧ RR fr H')) ls.length I ?_ 0 _ _ (by omega) ((hI _ _ _).2 ⟨none, [], [], by simp, by simp, by simp, by simp, by simp, by simp [opnC], by simp; exact Grow.nil _ _ 2 67, by simp, by simp, by simp, by rw [hZ]; simp⟩)) ?_
  · intro i fr H' hi hinv
    obtain ⟨o, l, L, a0, a4, a5, a7, a8, hH, hg, hl, ho, hwh, hz2⟩ := (hI _ _ _).1 hinv
    have hX : ∀ fr3, fr3 0 = fr 0 → fr3 4 = fr 4 → fr3 5 = fr 5 → fr3 6 = fr 6 → fr3 7 = fr 7 → fr3 8 = fr 8 → (i = ls.length ∨ ∃ h : i < ls.length, ls[i].w = false) → XX fr3 H' := by
      intro fr3 d0 d4 d5 d6 d7 d8 h
      exact (hXX _ _).2 ⟨i, (hI _ _ _).2 ⟨o, l, L, by rw [d0, a0], by rw [d4, a4], by rw [d5, a5], by rw [d7, a7], by rw [d8, a8], hH, by rw [d6]; exact hg, hl, ho, hwh, hz2⟩, h⟩
    by_cases hlt : i < ls.length
    case neg =>
      obtain rfl : i = ls.length := by omega
      simp -implicitDefEqProofs [a5, a8, uq, hlen]
      refine hX _ ?_ ?_ ?_ ?_ ?_ ?_ (.inl rfl) <;> simp
    subst hH
    have hw := up64 hlt (by omega)
    have hlt2 : i < (ls.map Ln.c).length := by simpa using hlt
    have had := fun H => (hrs H).addr (P := prog) underlying107 iT112 sT112 .i64 i
    have hf0 := fun H => (hrs H).fieldAddr (P := prog) (f := 0) underlying112 rfl iT3 (by simp) hlt2 (by simp)
    have hf1 := fun H => (hrs H).fieldAddr (P := prog) (f := 1) underlying112 rfl iT22 (by simp) hlt2 (by simp)
    have hf2 := fun H => (hrs H).fieldAddr (P := prog) (f := 2) underlying112 rfl iT4 (by simp) hlt2 (by simp)
    have hd0 := fun H => (hrs H).loadPart (P := prog) (k := 0) underlying3 rfl iT3 hlt2 (by omega)
    have hd1 := fun H => (hrs H).loadPart (P := prog) (k := 1) underlying22 rfl iT22 hlt2 (by omega)
    have hd2 := fun H => (hrs H).loadPart (P := prog) (k := 2) underlying4 rfl iT4 hlt2 (by omega)
    simp [Ln.c, hlt] at had hd0 hd1 hd2
    simp at hf0 hf1 hf2
    cases hww : ls[i].w with
    | false =>
      simp -implicitDefEqProofs [a5, a8, uq, hlen, hlt, had, hf2, hd2, hww]
      refine hX _ ?_ ?_ ?_ ?_ ?_ ?_ (.inr ⟨hlt, hww⟩) <;> simp
    | true =>
    have hrm := hroom _ (List.getElem_mem hlt)
    simp only [Nat.zero_add, Nat.zero_le, true_and, hww, if_true] at hrm
    have hdr := List.drop_eq_getElem_cons hlt
    rw [hdr] at hz2
    have hcv := fun H => cvt_byt (P := prog) (s := 22) (d := 9) (cs0.of 38).mu underlying22 underlying9 underlying5 ls[i].s H
    simp only [mu38] at hcv
    have hlen9 : ∀ a : Bs, ∀ H, dLenS prog 9 (str a) H = some (.v (.int .i64 (a.length : Nat))) := fun a H => len_str underlying9 a H
    generalize hx' : ls[i] = ln at *
    simp -implicitDefEqProofs [a5, a8, uq, hlen, hlt, had, hf2, hd2, hww]
    rw [W_draw _ _ _ _ _ _ followsT (by rfl)]
    by_cases h998 : 998 < ln.s.length
    · rw [hdrG_long hww h998] at hz2
      simp -implicitDefEqProofs [a4, a5, a8, uq, had, hf0, hf1, hd0, hd1, hcv, hlen9, h998, b71_2, store_at iT71, cells_agg]
      exact (hRR _ _).2 ⟨by simp [a4], _, .inl ⟨_, _, hz2, rfl, by simp, by simp⟩⟩
    have hop : (opnC o).length = 3 := by cases o <;> rfl
    have h110 : ∀ L, dLoad prog 110 (.ptr (H.length + 1) 0 0) (H ++ CO.cells 0 [.v (.int .i64 0), .v (.int .i64 0)] 71 :: CO.cells 0 (opnC o) 110 :: L) = some (.agg (opnC o)) := fun L => by
      rw [load_aggp underlying110 rfl iT110]; cases o <;> simp [opnC]
    have u6 : unlit (fr 6) = fr 6 := Grow.unl hg
    have h67 : ∀ L, dFieldAddr prog 110 (.ptr (H.length + 1) 0 0) 0 (H ++ CO.cells 0 [.v (.int .i64 0), .v (.int .i64 0)] 71 :: CO.cells 0 (opnC o) 110 :: L) = some (.ptr (H.length + 1) 0 0) := fun L => by
      rw [faddr_ptr]; cases o <;> simp [underlying110, opnC]
    have hcall : ∀ K : CV → Hp → Prop, (∀ z l' L2, GF (H.length + 2) (H ++ CO.cells 0 [.v (.int .i64 0), .v (.int .i64 0)] 71 :: CO.cells 0 (opnC o) 110 :: L2) z l' → (∀ l2, shutG l o = some l2 → l' = l2 ∧ l2.length ≤ 128) → K (.tup [z, .v (.bool (shutG l o).isSome)]) (H ++ CO.cells 0 [.v (.int .i64 0), .v (.int .i64 0)] 71 :: CO.cells 0 (opnC o) 110 :: L2)) → WC prog cs0 H.length (.f 67) [fr 6, .agg (opnC o)] (H ++ CO.cells 0 [.v (.int .i64 0), .v (.int .i64 0)] 71 :: CO.cells 0 (opnC o) 110 :: L) K := by
      intro K hK
      refine WC_mono (w67 H.length (H.length + 2) (fr 6) l o _ hg (by simp) (by omega) hl (fun q hq => by have := ho q hq; omega)) ?_
      rintro y H2 ⟨e1, e2, z, l', e3, rfl, e4⟩
      have e5 := split_at e1
      simp [List.take_length_add_append] at e5
      rw [e5] at e3 ⊢
      exact hK z l' _ e3 e4
    cases hs : ln.s with
    | nil =>
      rw [hs] at hcv
      simp -implicitDefEqProofs [a4, a5, a7, a8, uq, had, hf0, hf1, hd0, hd1, hcv, hs, hlen9, h110, u6]
      refine hcall _ ?_
      intro z l' L2 hg2 hl2
      have uz : unlit z = z := Grow.unl hg2
      cases hsh : shutG l o with
      | none =>
        simp -implicitDefEqProofs [dExtract, uz, a4, a7]
        rw [W_draw _ _ _ _ _ _ followsT (by rfl)]
        cases o with
        | none => simp [shutG] at hsh
        | some o =>
          rw [hdrG_sh hww h998 (by simp [hs]) hsh] at hz2
          simp [opnC] at h67
          simp -implicitDefEqProofs [a4, a7, h67, opnC, load_one underlying3 rfl iT3, b71_2, store_at iT71, cells_agg]
          exact (hRR _ _).2 ⟨by simp [a4], _, .inl ⟨_, _, hz2, rfl, by simp, by simp⟩⟩
      | some l2 =>
        obtain ⟨rfl, hl3⟩ := hl2 l2 hsh
        rw [hdrG_end hww hs hsh] at hz2
        obtain ⟨n2, hn2, hw2⟩ : ∃ n2, n2 = ln.a + 2 ∧ IntKind.i64.wrap ((ln.a : Int) + 2) = (n2 : Int) := ⟨_, rfl, wrN (by omega) (by omega)⟩
        rw [← hn2] at hz2
        simp -implicitDefEqProofs [dExtract, uz, a4, a7, hs, hlen9, hw2, b71_0, store_at iT71, cells_agg]
        exact (hRR _ _).2 ⟨by simp [a4], _, .inr ⟨_, _, hz2, rfl, by simpa using hg2, by simp⟩⟩
    | cons c t =>
    rw [hs] at hcv hrm h998
    simp only [List.length_cons] at hrm h998
    have hwx := fun k hk => up64 (i := k) (n := 100000000) hk (by omega)
    have c66 := fun m H => (w66 m H c).wc
    have hx0 : dIndex prog 9 (str (c :: t)) (.v (.int .i64 0)) = some (.v (.int .u8 c.toNat)) := by
      have := index_str (P := prog) underlying9 (c :: t) .i64 0
      simpa using this
    obtain ⟨k, hk⟩ : ∃ k, k = t.length + 1 := ⟨_, rfl⟩
    have hlk : ∀ H, dLenS prog 9 (str (c :: t)) H = some (.v (.int .i64 (k : Nat))) := fun H => by rw [len_str underlying9, hk]; rfl
    have h998' : ¬ 998 < k := by omega
    have hk0 : 0 < k := by omega
    have h998s : ¬ 998 < ln.s.length := by rw [hs]; simpa using h998
    by_cases hbl' : blankC c = true
    · have hb3 : (ln.s.head?.map blankC) = some true := by rw [hs]; simp [hbl']
      cases o with
      | none =>
        rw [hdrG_b0 hww h998s hb3] at hz2
        simp [opnC] at h67
        simp -implicitDefEqProofs [a4, a5, a7, a8, uq, had, hf0, hf1, hd0, hd1, hcv, hs, hlk, hk0, h998', hx0, c66, hbl', opnC, h67, load_one underlying3 rfl iT3, b71_2, store_at iT71, cells_agg]
        exact (hRR _ _).2 ⟨by simp [a4], _, .inl ⟨_, _, hz2, rfl, by simp, by simp⟩⟩
      | some o =>
        rw [hdrG_b1 hww h998s hb3] at hz2
        simp [opnC] at h67
        have hox := ho o rfl
        have hadd : o.x.length + (t.length + 1) ≤ 9223372036854775807 := by omega
        simp -implicitDefEqProofs [a4, a5, a7, a8, uq, had, hf0, hf1, hd0, hd1, hcv, hs, hlk, hk0, h998', hx0, c66, hbl', opnC, h67, load_one underlying3 rfl iT3, load_one underlying9 rfl iT9, faddr_ptr, underlying110, hadd, store_at iT9, hw]
        refine (hI _ _ _).2 ⟨some ⟨o.a, o.n, o.x ++ ln.s⟩, l, L, by simp [a0], by simp [a4], by simp [a5], by simp [a7], by simp, by rw [hs]; rfl, ?_, hl, ?_, ?_, hz2⟩
        · exact hg.pre2
        · rintro p hp; cases hp; rw [hs]; simp; omega
        · intro j hj hji
          by_cases e : j = i
          · subst e; rw [hx']; exact hww
          · exact hwh j hj (by omega)
    · have hnb : ¬ (ln.s.head?.map blankC) = some true := by rw [hs]; simpa using hbl'
      have hne : ln.s ≠ [] := by rw [hs]; simp
      have hbl2 : blankC c = false := by simpa using hbl'
      simp -implicitDefEqProofs [a4, a5, a7, a8, uq, had, hf0, hf1, hd0, hd1, hcv, hs, hlk, hk0, h998', hx0, c66, hbl2, h110, u6]
      refine hcall _ ?_
      intro z l' L2 hg2 hl2
      have uz : unlit z = z := Grow.unl hg2
      cases hsh : shutG l o with
      | none =>
        simp -implicitDefEqProofs [dExtract, uz, a4, a7]
        rw [W_draw _ _ _ _ _ _ followsT (by rfl)]
        cases o with
        | none => simp [shutG] at hsh
        | some o =>
          rw [hdrG_sh hww h998s hnb hsh] at hz2
          simp [opnC] at h67
          simp -implicitDefEqProofs [a4, a7, h67, opnC, load_one underlying3 rfl iT3, b71_2, store_at iT71, cells_agg]
          exact (hRR _ _).2 ⟨by simp [a4], _, .inl ⟨_, _, hz2, rfl, by simp, by simp⟩⟩
      | some l2 =>
        obtain ⟨rfl, hl3⟩ := hl2 l2 hsh
        obtain ⟨y8, rest, hy8, w8⟩ := w68 H.length (c :: t) 58 (H ++ CO.cells 0 [.v (.int .i64 0), .v (.int .i64 0)] 71 :: CO.cells 0 (opnC o) 110 :: L2) (by simp; omega)
        have c68 := w8.wc
        simp at c68
        have uy := hy8.unl
        have h0l : 0 < ((headT (c :: t) 58 :: rest).map fun s => [str s]).length := by simp
        have hrs8 : ∀ H, RS H y8 ((headT (c :: t) 58 :: rest).map fun s => [str s]) 1 := fun H => Cls.strs (by simpa using hy8) H
        have hal := fun H => (hrs8 H).addr (P := prog) underlying90 iT9 sT9 .i64 0
        have hl1 := fun H => (hrs8 H).load1 (P := prog) underlying9 rfl iT9 h0l
        simp at hal hl1
        obtain ⟨hd, hhd⟩ : ∃ hd, hd = headT (c :: t) 58 := ⟨_, rfl⟩
        have hdl := headT_len (c :: t) 58
        rw [← hhd] at hl1 hdl
        rw [List.length_cons, ← hk] at hdl
        have c69 := fun m H => (w69 m hd H (by omega)).wc
        have hbad : (hd.length = k ∨ ¬ isName hd) → Z = .bad ln.a 50 := fun h => by
          rw [hz2]; exact hdrG_bad hww h998s hnb hsh hne (by rw [hs, ← hhd, List.length_cons, ← hk]; exact h)
        by_cases h1 : hd.length = k
        · simp -implicitDefEqProofs [dExtract, uz, a4, a7, hlk, hs, c68, uy, hal, hl1, hlen9, h1, hk0, show ¬ k = 0 by omega, b71_2, store_at iT71, cells_agg]
          exact (hRR _ _).2 ⟨by simp [a4], _, .inl ⟨_, _, hbad (.inl h1), rfl, by simp, by simp⟩⟩
        by_cases h2 : isName hd
        case neg =>
          simp -implicitDefEqProofs [dExtract, uz, a4, a7, hlk, hs, c68, uy, hal, hl1, hlen9, h1, hk0, c69, h2, show ¬ k = 0 by omega, b71_2, store_at iT71, cells_agg]
          exact (hRR _ _).2 ⟨by simp [a4], _, .inl ⟨_, _, hbad (.inr h2), rfl, by simp, by simp⟩⟩
        rw [hdrG_open hww h998s hnb hsh hne (by rw [hs, ← hhd, List.length_cons, ← hk]; rintro (h | h); exact h1 h; exact h h2)] at hz2
        rw [hs, ← hhd] at hz2
        obtain ⟨p, hp, hwp⟩ : ∃ p, p = hd.length + 1 ∧ IntKind.i64.wrap ((hd.length : Int) + 1) = (p : Int) := ⟨_, rfl, wrN (by omega) (by omega)⟩
        have hsl := fun p => slice_str (P := prog) (t := 9) underlying9 (c :: t) (some (.v (.int .i64 (p : Nat)))) none
        have hsl2 := hsl p
        have hpk : (p : Int) ≤ (t.length : Int) + 1 := by omega
        simp [hpk] at hsl2
        rw [← hp] at hz2
        simp -implicitDefEqProofs [dExtract, uz, a4, a7, hlk, hs, c68, uy, hal, hl1, hlen9, h1, hk0, c69, h2, show ¬ k = 0 by omega, hwp, hsl2, b110_3, store_at iT110, cells_agg, a8, hw, hop]
        refine (hI _ _ _).2 ⟨some ⟨ln.a, hd, (c :: t).drop p⟩, l', L2, by simp [a0], by simp [a4], by simp [a5], by simp [a7], by simp, by simp [opnC, ← hop], by simpa using hg2.pre2, hl3, ?_, ?_, hz2⟩
        · rintro p hp; cases hp; simp; omega
        · intro j hj hji
          by_cases e : j = i
          · subst e; rw [hx']; exact hww
          · exact hwh j hj (by omega)
  · rintro e fr H' (⟨rfl, hr⟩ | ⟨rfl, hr⟩)
    · obtain ⟨i, hinv, hend⟩ := (hXX _ _).1 hr
      obtain ⟨o, l, L, a0, a4, a5, a7, a8, rfl, hg, hl, ho, hwh, hz2⟩ := (hI _ _ _).1 hinv
      have main : ∀ j (hj : j < ls.length), j + 1 = ls.length → (∀ H, dIndexAddr prog 107 q (.v (.int .i64 (j : Nat))) H = some (adrC q j)) ∧ (∀ H, dFieldAddr prog 112 (adrC q j) 0 H = some (partC (adrC q j) 0)) ∧ (∀ H, dFieldAddr prog 112 (adrC q j) 2 H = some (partC (adrC q j) 2)) ∧ (∀ H, dLoad prog 3 (partC (adrC q j) 0) H = some (.v (.int .i64 (ls[j].a : Nat)))) ∧ (∀ H, dLoad prog 4 (partC (adrC q j) 2) H = some (.v (.bool ls[j].w))) ∧ IntKind.i64.wrap ((ls.length : Int) - 1) = (j : Int) := by
        intro j hj hj1
        have hlt2 : j < (ls.map Ln.c).length := by simpa using hj
        have had := fun H => (hrs H).addr (P := prog) underlying107 iT112 sT112 .i64 j
        have hf0 := fun H => (hrs H).fieldAddr (P := prog) (f := 0) underlying112 rfl iT3 (by simp) hlt2 (by simp)
        have hf2 := fun H => (hrs H).fieldAddr (P := prog) (f := 2) underlying112 rfl iT4 (by simp) hlt2 (by simp)
        have hd0 := fun H => (hrs H).loadPart (P := prog) (k := 0) underlying3 rfl iT3 hlt2 (by omega)
        have hd2 := fun H => (hrs H).loadPart (P := prog) (k := 2) underlying4 rfl iT4 hlt2 (by omega)
        simp [Ln.c, hj] at had hd0 hd2
        simp at hf0 hf2
        exact ⟨had, hf0, hf2, hd0, hd2, wrN (by omega) (by omega)⟩
      have fin : ∀ (a : Nat) (L : Hp), Z = .bad a 42 → hdrR Z (.tup [nilC, .v (.int .i64 0), .agg [.v (.int .i64 (a : Nat)), .v (.int .i64 42)]]) := by
        intro a L h; rw [h]; rfl
      by_cases h0 : ls.length = 0
      · have hls : ls = [] := List.eq_nil_of_length_eq_zero h0
        rw [hls] at hz2
        simp [hdrG_nil] at hz2
        simp -implicitDefEqProofs [a0, a4, a5, uq, ux, hbl, hlen, h0, b71_2, store_at iT71, cells_agg, load_aggp underlying71 rfl iT71]
        exact fin _ L hz2
      obtain ⟨j, hj⟩ : ∃ j, j + 1 = ls.length := ⟨ls.length - 1, by omega⟩
      have hjl : j < ls.length := by omega
      have h0' : 0 < ls.length := by omega
      obtain ⟨m1, m2, m3, m4, m5, m6⟩ := main j hjl hj
      cases hww : ls[j].w with
      | true =>
        have hie : i = ls.length := by
          rcases hend with h | ⟨h, hw⟩
          · exact h
          · have := hlo i h hw
            obtain rfl : i = j := by omega
            rw [hww] at hw; cases hw
        rw [hie, List.drop_eq_nil_of_le (Nat.le_refl _), hdrG_nil] at hz2
        rw [hww] at m5
        simp -implicitDefEqProofs [a0, a4, a5, uq, ux, hbl, hlen, h0', m1, m2, m3, m4, m5, m6, b71_2, store_at iT71, cells_agg, load_aggp underlying71 rfl iT71]
        exact fin _ L hz2
      | false =>
        have hie : i = j := by
          rcases hend with h | ⟨h, hw⟩
          · have := hwh j hjl (by omega); rw [hww] at this; cases this
          · have := hlo i h hw; omega
        subst hie
        rw [List.drop_eq_getElem_cons hjl, hdrG_short hww] at hz2
        rw [hww] at m5
        simp -implicitDefEqProofs [a0, a4, a5, uq, ux, hbl, hlen, h0', m1, m2, m3, m4, m5, m6, b71_2, store_at iT71, cells_agg, load_aggp underlying71 rfl iT71]
        exact fin _ L hz2
    · obtain ⟨a4, L, ⟨a, c, hz2, rfl, a2, a3⟩ | ⟨l, n, hz2, rfl, hg, a3⟩⟩ := (hRR _ _).1 hr
      · simp -implicitDefEqProofs [a2, a3, a4, load_aggp underlying71 rfl iT71]
        rw [hz2]; rfl
      · obtain ⟨y, f1, f2, f3, f4⟩ := Grow.frzV hg (k := H.length) (by omega) (fldS_clB l)
        have u2 : unlit (fr 2) = fr 2 := Grow.unl hg
        simp -implicitDefEqProofs [a3, a4, u2, f1, f2, f3, load_aggp underlying71 rfl iT71]
        rw [hz2]; exact ⟨y, f4, rfl⟩
end Go.Proofs.Tryz

/- Walks: lines of a header, yielded. -/
namespace Go.Proofs.Tryz
open Go Go.SL
set_option linter.unusedVariables false
set_option linter.unusedSimpArgs false
variable [LayerC]
theorem w59 (m : Nat) (x : CV) (H : Hp) (hx : oneB x = true) (hu : unlit x = x) (hc : cvCells x = some [x]) : Ret prog cs0 m 59 [x] H (.fn (.func 89) [] [.ptr H.length 0 0]) (H ++ [.cells 0 [x] 22]) := by
  unfold Ret
  rw [WC_raw rfl func59 rfl rfl]
  simp -implicitDefEqProofs [f59, hu, hc]

/-- The lines, yielded one by one; behind the last pair the place, with none. -/
theorem w89 (m id ver bx : Nat) (x : CV) (l : Bs) (J : Nat → Hp → Prop) (D : Hp → Prop) (hl : l.length ≤ 4294967280)
    (hbox : ∀ p H, J p H → cellsAt H bx 0 = some [x] ∧ RB H x l)
    (hround : ∀ p H y, J p H → p ≤ l.length → 0 ≤ crIdx (l.drop p) → RB H y ((l.drop p).take (lineN (l.drop p))) → y ≠ nilC → WC prog cs0 m (.y id ver) [.v (.int .i64 p), y] H fun r H' => (r = .v (.bool true) ∧ J (p + lineN (l.drop p)) H') ∨ (r = .v (.bool false) ∧ D H'))
    (hlast : ∀ p H, J p H → p ≤ l.length → crIdx (l.drop p) < 0 → WC prog cs0 m (.y id ver) [.v (.int .i64 p), nilC] H fun r H' => D H')
    (H : Hp) (h0 : J 0 H) : WC prog cs0 m (.f 89) [.yl id ver, .ptr bx 0 0] H fun _ H' => D H' := by
  rw [WC_raw rfl func89 rfl rfl]
  simp -implicitDefEqProofs [f89]
  obtain ⟨I, hI⟩ : ∃ I : Nat → Fr → Hp → Prop, ∀ j fr H', I j fr H' ↔ ∃ p, j = l.length - p ∧ p ≤ l.length ∧ fr 0 = .yl id ver ∧ fr 1 = .ptr bx 0 0 ∧ fr 3 = .v (.int .i64 (p : Nat)) ∧ J p H' := ⟨_, fun _ _ _ => Iff.rfl⟩
  refine W_rounds I ?_ _ _ _ ((hI _ _ _).2 ⟨0, rfl, by omega, by simp, by simp, by simp, h0⟩)
  intro j fr H' hi
  obtain ⟨p, rfl, hp, a0, a1, a3, hJ⟩ := (hI _ _ _).1 hi
  obtain ⟨hb, hrb⟩ := hbox p H' hJ
  have hu := hrb.unl
  have hcut := hrb.cut hp (Nat.le_refl _)
  rw [List.take_length] at hcut
  have huc := hcut.unl
  have hsl := hrb.slice (P := prog) underlying22 iT5 sT5
  have c90 : ∀ m K, WC prog cs0 m (.f 90) [cutC x p l.length, .im [.v (.int .u8 13), .v (.int .u8 10)] 2 1] H' K ↔ K (.v (.int .i64 (crIdx (l.drop p)))) H' := fun m => (w90 m _ _ H' hcut (by simp; omega)).wc
  by_cases hc : crIdx (l.drop p) < 0
  · have hr := hlast p H' hJ hp hc
    simp -implicitDefEqProofs [a0, a1, a3, load_one underlying22 rfl iT22, hb, hsl, hp, huc, mkB2 underlying22 underlying5 iT5 zT5 sT5, cvt_l2 underlying22 underlying5, c90, hc]
    exact WC_mono hr fun r H'' h => h
  · have hroom := crIdx_room (l.drop p) (by omega)
    rw [List.length_drop] at hroom
    obtain ⟨n, hn⟩ : ∃ n, n = lineN (l.drop p) := ⟨_, rfl⟩
    have hn0 : crIdx (l.drop p) = ((n - 2 : Nat) : Int) := by
      have : n = (crIdx (l.drop p)).toNat + 2 := by rw [hn]; unfold lineN; rw [if_neg hc]
      omega
    have hn2' : 2 ≤ n := by rw [hn]; unfold lineN; rw [if_neg hc]; omega
    obtain ⟨k, hk⟩ : ∃ k, k = p + n := ⟨_, rfl⟩
    have hkl : k ≤ l.length := by omega
    have hline := hrb.cut (o := p) (h := k) (by omega) (by omega)
    have huL := hline.unl
    have hle : (l.take k).drop p = (l.drop p).take n := by rw [List.drop_take, show k - p = n by omega]
    rw [hle] at hline
    have hnn : cutC x p k ≠ nilC := by
      intro h
      rw [h] at hline
      rcases hline with h1 | ⟨h1, _⟩ | ⟨_, _, _, _, h1, _⟩
      · cases h1
      · have := congrArg List.length h1; simp at this; omega
      · cases h1
    have hr := hround p H' _ hJ hp (by omega) (by rw [← hn]; exact hline) hnn
    rw [← hn] at hr
    obtain ⟨q, hq⟩ : ∃ q, q = n - 2 := ⟨_, rfl⟩
    rw [← hq] at hn0
    obtain ⟨w, hw⟩ : ∃ w, w = p + q := ⟨_, rfl⟩
    have hw1 : IntKind.i64.wrap ((p : Int) + (q : Int)) = (w : Int) := wrN (by omega) (by omega)
    have hw2 : IntKind.i64.wrap ((w : Int) + 2) = (k : Int) := wrN (by omega) (by omega)
    have hw3 : IntKind.i64.wrap ((q : Int) + 2) = (n : Int) := wrN (by omega) (by omega)
    have hw4 : IntKind.i64.wrap ((p : Int) + (n : Int)) = (k : Int) := wrN (by omega) (by omega)
    have hpk : p ≤ k := by omega
    simp -implicitDefEqProofs [a0, a1, a3, load_one underlying22 rfl iT22, hb, hsl, hp, huc, mkB2 underlying22 underlying5 iT5 zT5 sT5, cvt_l2 underlying22 underlying5, c90, hn0, hw1, hw2, hw3, hw4, hpk, hkl, huL]
    refine WC_mono hr ?_
    rintro r H'' (⟨rfl, hJ'⟩ | ⟨rfl, hD⟩)
    · simp -implicitDefEqProofs
      exact ⟨l.length - k, by omega, (hI _ _ _).2 ⟨k, rfl, hkl, by simp [a0], by simp [a1], by simp, by rw [hk]; exact hJ'⟩⟩
    · simp -implicitDefEqProofs
      exact hD
end Go.Proofs.Tryz

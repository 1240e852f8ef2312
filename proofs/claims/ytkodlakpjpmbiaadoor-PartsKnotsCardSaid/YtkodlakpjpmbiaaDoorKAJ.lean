/- Walks: the program's Parse of a header. -/
import Derived.Test.YtkodlakpjpmbiaaDoorKAI
import Derived.Test.YtkodlakpjpmbiaaDoorKAG

set_option linter.all false

namespace Go.Proofs.Tryd
open Go Go.SL
set_option linter.unusedVariables false
set_option linter.unusedSimpArgs false

theorem cells_mid {X L : Hp} {v fn : Nat} {ts : List CV} {ps : Array Tmp} {a b : Code} {st : LoopState} {pe : Option Code} {id ver : Nat} {cs : List CV} (o : CO) (h : cellsAt (X ++ .loop v fn ts ps a b st pe :: L) id ver = some cs) : cellsAt (X ++ o :: L) id ver = some cs := by
  by_cases e : id = X.length
  · subst e; simp [cellsAt] at h
  · have : (X ++ o :: L)[id]? = (X ++ .loop v fn ts ps a b st pe :: L)[id]? := by
      by_cases hl : id < X.length
      · rw [List.getElem?_append_left hl, List.getElem?_append_left hl]
      · rw [List.getElem?_append_right (by omega), List.getElem?_append_right (by omega)]
        obtain ⟨k, hk⟩ : ∃ k, id - X.length = k + 1 := ⟨id - X.length - 1, by omega⟩
        rw [hk]; rfl
    unfold cellsAt at h ⊢; rw [this]; exact h
theorem hdrG_line {n : Nat} {x : Ln} {xs : List Ln} {l : List Fld} {o : Option Opn} (h : x.w = true) (h2 : ¬ 998 < x.s.length) (h5 : x.s ≠ []) : hdrG n (x :: xs) l o = match lineG l o x.a x.s with
    | .inl p => .bad p 50
    | .inr (l', o') => hdrG n xs l' (some o') := by
  unfold lineG
  by_cases h3 : (x.s.head?.map blankC) = some true
  · rw [if_pos h3]
    cases o with
    | none => exact hdrG_b0 h h2 h3
    | some o => exact hdrG_b1 h h2 h3
  · rw [if_neg h3]
    cases h4 : shutG l o with
    | none =>
      cases o with
      | none => simp [shutG] at h4
      | some o => exact hdrG_sh h h2 h3 h4
    | some l' =>
      simp only []
      by_cases h6 : (headT x.s 58).length = x.s.length ∨ ¬ isName (headT x.s 58)
      · rw [if_pos h6]; exact hdrG_bad h h2 h3 h4 h5 h6
      · rw [if_neg h6]; exact hdrG_open h h2 h3 h4 h5 h6
theorem lineG_len {l l' : List Fld} {o : Option Opn} {o' : Opn} {a : Nat} {s : Bs} (h : lineG l o a s = .inr (l', o')) : o'.x.length ≤ (o.elim 0 fun o => o.x.length) + s.length := by
  unfold lineG at h
  split at h
  · cases o with
    | none => cases h
    | some o => cases h; simp
  · split at h
    · cases h
    · split at h
      · cases h
      · cases h; simp; omega
theorem b86_0 : dBuild prog 86 [] = some (.agg [nilC, str [], str [], .v (.int .i64 0), .v (.bool false)]) := by
  simp [dBuild, underlying86, places, fillC]
theorem cells_ptr (a b c : Nat) : cvCells (.ptr a b c) = some [.ptr a b c] := rfl
theorem GF.mid {X L : Hp} {v fn k : Nat} {ts : List CV} {ps : Array Tmp} {a b : Code} {st : LoopState} {pe : Option Code} {x : CV} {l : List Fld} (o : CO) (h : GF k (X ++ .loop v fn ts ps a b st pe :: L) x l) : GF k (X ++ o :: L) x l := by
  refine Grow.of_obj h fun i v c _ hi => ?_
  by_cases e : i = X.length
  · subst e; simp at hi
  · by_cases hl : i < X.length
    · rw [List.getElem?_append_left hl, List.getElem?_append_left hl]
    · rw [List.getElem?_append_right (by omega), List.getElem?_append_right (by omega)]
      obtain ⟨k, hk⟩ : ∃ k, i - X.length = k + 1 := ⟨i - X.length - 1, by omega⟩
      rw [hk]; rfl
theorem GF.seven {H L : Hp} {a0 a1 a2 a3 a4 a5 a6 b0 b1 b2 b3 b4 b5 b6 : CO} {x : CV} {l : List Fld} (h : GF (H.length + 2) (H ++ a0 :: a1 :: a2 :: a3 :: a4 :: a5 :: a6 :: L) x l) (h2 : ∀ v c, a2 ≠ .cells v c 31) (h3 : ∀ v c, a3 ≠ .cells v c 31) (h4 : ∀ v c, a4 ≠ .cells v c 31) (h5 : ∀ v c, a5 ≠ .cells v c 31) (h6 : ∀ v c, a6 ≠ .cells v c 31) :
    GF (H.length + 2) (H ++ b0 :: b1 :: b2 :: b3 :: b4 :: b5 :: b6 :: L) x l := by
  refine Grow.of_obj h fun i v c hm hi => ?_
  obtain ⟨j, rfl⟩ : ∃ j, i = H.length + j := ⟨i - H.length, by omega⟩
  rw [get_own] at hi ⊢
  rw [get_own]
  rcases j with _ | _ | _ | _ | _ | _ | _ | j
  · omega
  · omega
  · simp at hi; exact absurd hi (h2 _ _)
  · simp at hi; exact absurd hi (h3 _ _)
  · simp at hi; exact absurd hi (h4 _ _)
  · simp at hi; exact absurd hi (h5 _ _)
  · simp at hi; exact absurd hi (h6 _ _)
  · simp
/-- A round, where the record's code is named. -/
theorem WC_round2 {P : Program} {cs : Cfgs} {m id ver n : Nat} {args : List CV} {H : Hp} {K : CV → Hp → Prop} {fn : FuncId} {ts : List CV} {ps : Array Tmp} {a b a' b' : Code} (h0 : H[id]? = some (.loop ver fn ts ps a b .ready none)) (ha : args.length = ps.size) (hn : ts.length = n) (hA : a = a') (hB : b = b') :
    WC P cs m (.y id ver) args H K ↔ W ⟨P, cs, { cs.of fn with inR := true }, m, n⟩ a' (roundFr ts ps args) H fun e fr1 H1 => e = .norm ∧ WX (busyR id ver H1) fun H1' =>
      W ⟨P, cs, { cs.of fn with inR := true }, m, n⟩ b' fr1 H1' fun e2 _ H3 => WX (doneR id ver e2 H3) fun H4 => K (.v (.bool e2.jump.isNone)) H4 := by
  subst hn hA hB; exact WC_round h0 ha
variable [LayerC]
theorem w34 (m : Nat) (x : CV) (b : Bs) (H : Hp) (hx : RB H x b) (hb : b.length ≤ 2000000) : WC prog cs0 m (.f 25) [x] H fun y H2 => H2 = H ∧ hdrR (hdrG b.length (lnS 0 b) [] none) y := by
  rw [WC_drop rfl func25 rfl rfl]
  have ux := hx.unl
  have c59 := fun m L => (w59 m x (H ++ L) hx.one ux hx.cells).wc
  obtain ⟨Z, hZ⟩ : ∃ Z, Z = hdrG b.length (lnS 0 b) [] none := ⟨_, rfl⟩
  rw [← hZ]
  have hle2 : H.length ≤ H.length + 1 + 1 := by omega
  simp -implicitDefEqProofs [f25, aQ, dAlloc, ux, c59, b86_0, store_at iT84, store_at iT3, cells_agg, stQ, topLe, hle2, cells_ptr]
  simp only [Nat.add_assoc, Nat.reduceAdd]
  refine W_range2 60 [.ptr (H.length + 5) 0 0] rfl (by simp) (by rw [func60]; rfl) ?_
  intro ts A B hA hB hn hts
  have hn : ts.length = 57 := hn
  have ts5 : ts[5]? = some (.ptr (H.length + 2) 0 0) := by simpa using hts 5 (show 5 < 57 by decide)
  have ts6 : ts[6]? = some (.ptr (H.length + 3) 0 0) := by simpa using hts 6 (show 6 < 57 by decide)
  have ts7 : ts[7]? = some (.ptr (H.length + 4) 0 0) := by simpa using hts 7 (show 7 < 57 by decide)
  clear hts
  obtain ⟨BX, hBX⟩ : ∃ BX : LoopState → Option Code → Hp → Hp, ∀ st pe L, BX st pe L = CO.cells 0 [x] 25 :: CO.loop 0 25 ts #[14, 15] A B st pe :: L := ⟨_, fun _ _ _ => rfl⟩
  obtain ⟨J, hJ⟩ : ∃ J : Nat → Hp → Prop, ∀ p H', J p H' ↔ ∃ q n v a op l L, H' = H ++ CO.cells 0 zF 67 :: rdC q n v a op :: CO.cells 0 [.ptr (H.length + 1) 0 0] 84 :: CO.cells 0 zF 67 :: CO.cells 0 [.v (.int .i64 0)] 3 :: CO.cells 0 [x] 25 :: CO.loop 0 25 ts #[14, 15] A B .ready none :: L ∧ GF (H.length + 2) H' q l ∧ l.length ≤ 128 ∧ v.length ≤ p ∧ p ≤ b.length ∧ Z = hdrG b.length (lnS p (b.drop p)) l (opO n v a op) := ⟨_, fun _ _ => Iff.rfl⟩
  obtain ⟨D, hD⟩ : ∃ D : Hp → Prop, ∀ H', D H' ↔ ∃ q n v a op f k L, H' = H ++ CO.cells 0 zF 67 :: rdC q n v a op :: CO.cells 0 [.ptr (H.length + 1) 0 0] 84 :: CO.cells 0 f 67 :: CO.cells 0 [.v (.int .i64 (k : Nat))] 3 :: CO.cells 0 [x] 25 :: CO.loop 0 25 ts #[14, 15] A B .done (some (.exit 0)) :: L ∧
      ((∃ p c : Nat, c ≠ 0 ∧ f = [.v (.int .i64 (p : Nat)), .v (.int .i64 (c : Nat))] ∧ Z = .bad p c) ∨ (∃ l, f = zF ∧ GF (H.length + 2) H' q l ∧ Z = .ok l k)) := ⟨_, fun _ => Iff.rfl⟩
  have hid0 : ∀ (c0 c1 c2 c3 c4 c5 : CO), (H ++ [c0, c1, c2, c3, c4, c5]).length = H.length + 6 := fun _ _ _ _ _ _ => by simp
  simp only [hid0, List.append_assoc, List.cons_append, List.nil_append]
  have h0 : J 0 (H ++ CO.cells 0 zF 67 :: rdC nilC [] [] 0 false :: CO.cells 0 [.ptr (H.length + 1) 0 0] 84 :: CO.cells 0 zF 67 :: CO.cells 0 [.v (.int .i64 0)] 3 :: CO.cells 0 [x] 25 :: CO.loop 0 25 ts #[14, 15] A B .ready none :: []) := (hJ _ _).2 ⟨nilC, [], [], 0, false, [], [], rfl, Grow.nil _ _ 2 31, by simp, by simp, by simp, by rw [hZ]; rfl⟩
  refine WC_mono (w89 _ _ _ (H.length + 5) x b J D (by omega) ?_ ?_ ?_ _ h0) ?_
  · intro p H' hj
    obtain ⟨q, n, v, a, op, l, L, rfl, _⟩ := (hJ _ _).1 hj
    exact ⟨by simp [rdC], hx.app _⟩
  · intro p H' y hj hp hc hy hyn
    obtain ⟨q, n, v, a, op, l, L, rfl, hg, hl, hv, _, hz⟩ := (hJ _ _).1 hj
    have hid : (H ++ CO.cells 0 zF 67 :: rdC q n v a op :: CO.cells 0 [.ptr (H.length + 1) 0 0] 84 :: CO.cells 0 zF 67 :: CO.cells 0 [.v (.int .i64 0)] 3 :: CO.cells 0 [x] 25 :: CO.loop 0 25 ts #[14, 15] A B .ready none :: L)[H.length + 6]? = some (.loop 0 25 ts #[14, 15] A B .ready none) := by simp
    rw [WC_round2 hid (by rfl) hn hA hB]
    have r5 : ∀ a b, roundFr ts #[14, 15] [a, b] 5 = .ptr (H.length + 2) 0 0 := fun a b => by simp [roundFr, ts5]
    have r6 : ∀ a b, roundFr ts #[14, 15] [a, b] 6 = .ptr (H.length + 3) 0 0 := fun a b => by simp [roundFr, ts6]
    have r7 : ∀ a b, roundFr ts #[14, 15] [a, b] 7 = .ptr (H.length + 4) 0 0 := fun a b => by simp [roundFr, ts7]
    have r14 : ∀ a b, roundFr ts #[14, 15] [a, b] 14 = a := fun a b => by simp [roundFr, hn]
    have r15 : ∀ a b, roundFr ts #[14, 15] [a, b] 15 = b := fun a b => by simp [roundFr, hn]
    have hroom := crIdx_room (b.drop p) hc
    rw [List.length_drop] at hroom
    obtain ⟨k, hk⟩ : ∃ k, k = (crIdx (b.drop p)).toNat := ⟨_, rfl⟩
    have hN : lineN (b.drop p) = k + 2 := by unfold lineN; rw [if_neg (by omega), hk]
    rw [lnS_whole hc, hN, ← hk, List.drop_drop] at hz
    rw [hN] at hy ⊢
    obtain ⟨s, hs⟩ : ∃ s, s = (b.drop p).take k := ⟨_, rfl⟩
    rw [← hs] at hz
    have hsk : s.length = k := by rw [hs]; simp; omega
    have hs2 : ((b.drop p).take (k + 2)).take k = s := by rw [List.take_take, hs]; congr 1; omega
    have hll : ((b.drop p).take (k + 2)).length = k + 2 := by simp; omega
    generalize (b.drop p).take (k + 2) = line at *
    have hyB : RB (H ++ CO.cells 0 zF 67 :: rdC q n v a op :: CO.cells 0 [.ptr (H.length + 1) 0 0] 84 :: CO.cells 0 zF 67 :: CO.cells 0 [.v (.int .i64 0)] 3 :: CO.cells 0 [x] 25 :: CO.loop 0 25 ts #[14, 15] A B .busy none :: L) y line := by
      refine RB.of_cells hy fun id ver cs h => ?_
      have := cells_mid (X := H ++ [CO.cells 0 zF 67, rdC q n v a op, CO.cells 0 [.ptr (H.length + 1) 0 0] 84, CO.cells 0 zF 67, CO.cells 0 [.v (.int .i64 0)] 3, CO.cells 0 [x] 25]) (L := L) (CO.loop 0 25 ts #[14, 15] A B .busy none) (by simpa using h)
      simpa using this
    have hgB : GF (H.length + 2) (H ++ CO.cells 0 zF 67 :: rdC q n v a op :: CO.cells 0 [.ptr (H.length + 1) 0 0] 84 :: CO.cells 0 zF 67 :: CO.cells 0 [.v (.int .i64 0)] 3 :: CO.cells 0 [x] 25 :: CO.loop 0 25 ts #[14, 15] A B .busy none :: L) q l := GF.seven hg (by simp) (by simp) (by simp) (by simp) (by simp)
    have hyu := hyB.unl
    have hey := hyB.eqnil (P := prog) underlying25 hyn
    have hlen := hyB.len (P := prog) underlying25
    rw [hll] at hlen
    have hlen2 : ((k + 2 : Nat) : Int) = (k : Int) + 2 := by omega
    have hbz : b.length ≤ 2000000 := hb
    by_cases hk0 : k = 0
    · subst hk0
      have hs0 : s = [] := List.eq_nil_of_length_eq_zero hsk
      simp -implicitDefEqProofs [r5, r6, r7, r14, r15, busyR, hyu, hey, hlen, load_one underlying84 rfl iT84]
      have h60 := w60 H.length (H ++ [CO.cells 0 zF 67]) (CO.cells 0 [.ptr (H.length + 1) 0 0] 84 :: CO.cells 0 zF 67 :: CO.cells 0 [.v (.int .i64 0)] 3 :: CO.cells 0 [x] 25 :: CO.loop 0 25 ts #[14, 15] A B .busy none :: L) q n v a op l (by simp) (by simpa using hgB) hl (by omega)
      simp only [List.append_assoc, List.cons_append, List.nil_append, List.length_append, List.length_cons, List.length_nil, Nat.zero_add, Nat.add_assoc, Nat.reduceAdd] at h60
      refine WC_mono h60 ?_
      rintro y' H2 ⟨L2, x', v', hkp, rfl, hres⟩
      obtain ⟨L3, rfl, _⟩ := Kp.pre (Q := [CO.cells 0 [.ptr (H.length + 1) 0 0] 84, CO.cells 0 zF 67, CO.cells 0 [.v (.int .i64 0)] 3, CO.cells 0 [x] 25, CO.loop 0 25 ts #[14, 15] A B .busy none]) hkp (by simp)
      obtain ⟨p2, hp2, hwp⟩ : ∃ p2, p2 = p + 2 ∧ IntKind.i64.wrap ((p : Int) + 2) = (p2 : Int) := ⟨_, rfl, wrN (by omega) (by omega)⟩
      rcases hres with ⟨l', hsh, hl', hg', rfl⟩ | ⟨hsh, rfl⟩
      · rw [hdrG_end rfl hs0 hsh, ← hp2] at hz
        simp -implicitDefEqProofs [store_at iT67, store_at iT3, cells_agg, zF, doneR, Ex.jump, hwp]
        refine (hD _).2 ⟨x', n, v', a, false, _, p2, L3, rfl, .inr ⟨l', rfl, ?_, hz⟩⟩
        exact GF.seven hg' (by simp) (by simp) (by simp) (by simp) (by simp)
      · have ho : ∃ o, opO n v a op = some o ∧ o.a = a := by
          cases op with
          | true => exact ⟨_, rfl, rfl⟩
          | false => simp [opO, shutG] at hsh
        obtain ⟨o, ho, hoa⟩ := ho
        rw [ho] at hz hsh
        rw [hdrG_sh rfl (by rw [hs0]; simp) (by rw [hs0]; simp) hsh, hoa] at hz
        simp -implicitDefEqProofs [store_at iT67, store_at iT3, cells_agg, zF, doneR, Ex.jump, hwp]
        exact (hD _).2 ⟨x', n, v', a, false, _, p2, L3, rfl, .inl ⟨a, 50, by omega, rfl, hz⟩⟩
    obtain ⟨kk, hkk⟩ : ∃ kk, kk = k + 2 := ⟨_, rfl⟩
    have hk2 : ¬ kk = 2 := by omega
    have zl : zF.length = 2 := rfl
    have zd : zF.drop 2 = [] := rfl
    rw [← hkk] at hlen
    have hs0 : s ≠ [] := by rintro rfl; exact hk0 hsk.symm
    by_cases h998 : 998 < k
    · have h9' : 998 < (k : Int) := by omega
      rw [hdrG_long rfl (by simp only []; omega)] at hz
      have hk1000 : 1000 < kk := by omega
      simp -implicitDefEqProofs [r5, r6, r7, r14, r15, busyR, hyu, hey, hlen, hk2, hk1000, b67_2, store_at iT67, cells_agg, faddr_ptr, underlying67, load_one underlying32 rfl iT32, doneR, Ex.jump, zl, zd]
      exact (hD _).2 ⟨q, n, v, a, op, _, 0, L, rfl, .inl ⟨p, 40, by omega, rfl, hz⟩⟩
    have hk1000 : ¬ 1000 < kk := by omega
    have hwk : IntKind.i64.wrap ((kk : Int) - 2) = (k : Int) := wrN (by omega) (by omega)
    have hsl : dSlice prog 25 y none (some (.v (.int .i64 (k : Nat)))) (H ++ CO.cells 0 zF 67 :: rdC q n v a op :: CO.cells 0 [.ptr (H.length + 1) 0 0] 84 :: CO.cells 0 zF 67 :: CO.cells 0 [.v (.int .i64 0)] 3 :: CO.cells 0 [x] 25 :: CO.loop 0 25 ts #[14, 15] A B .busy none :: L) = some (cutC y 0 k) := by
      have := hyB.slice (P := prog) underlying25 iT5 sT5 none (some (.v (.int .i64 (k : Nat))))
      rw [this]
      have h1 : (k : Int) ≤ (line.length : Nat) := by rw [hll]; omega
      simp [h1]
    have hcut := hyB.cut (o := 0) (h := k) (by omega) (by omega)
    rw [List.drop_zero, hs2] at hcut
    have hcv := hcut.str (P := prog) (s := 25) (d := 9) false underlying25 underlying9 underlying5
    have hcu := hcut.unl
    simp -implicitDefEqProofs [r5, r6, r7, r14, r15, busyR, hyu, hey, hlen, hk2, hk1000]
    rw [W_draw _ _ _ _ _ _ followsT (by rfl)]
    simp -implicitDefEqProofs [r5, r6, r7, r14, r15, hyu, hlen, hwk, hsl, hcv, hcu, load_one underlying84 rfl iT84]
    have h61 := w61 H.length (H ++ [CO.cells 0 zF 67]) (CO.cells 0 [.ptr (H.length + 1) 0 0] 84 :: CO.cells 0 zF 67 :: CO.cells 0 [.v (.int .i64 0)] 3 :: CO.cells 0 [x] 25 :: CO.loop 0 25 ts #[14, 15] A B .busy none :: L) q n v a op l p s (by simp) (by simpa using hgB) hl (by omega) (by omega) hs0
    simp only [List.append_assoc, List.cons_append, List.nil_append, List.length_append, List.length_cons, List.length_nil, Nat.zero_add, Nat.add_assoc, Nat.reduceAdd] at h61
    refine WC_mono h61 ?_
    rintro y' H2 ⟨L2, x', n', v', a', op', hkp, rfl, hres⟩
    obtain ⟨L3, rfl, _⟩ := Kp.pre (Q := [CO.cells 0 [.ptr (H.length + 1) 0 0] 84, CO.cells 0 zF 67, CO.cells 0 [.v (.int .i64 0)] 3, CO.cells 0 [x] 25, CO.loop 0 25 ts #[14, 15] A B .busy none]) hkp (by simp)
    rw [hdrG_line rfl (by simp only []; omega) hs0] at hz
    simp only [] at hz
    rcases hres with ⟨p', hln, rfl⟩ | ⟨l', hln, rfl, hl', hg', rfl⟩
    · rw [hln] at hz
      simp -implicitDefEqProofs [store_at iT67, cells_agg, faddr_ptr, underlying67, load_one underlying32 rfl iT32, zF, doneR, Ex.jump]
      exact (hD _).2 ⟨x', n', v', a', op', _, 0, L3, rfl, .inl ⟨p', 50, by omega, rfl, hz⟩⟩
    · have hvl := lineG_len hln
      rw [hln] at hz
      simp only [] at hz
      have hol : ((opO n v a op).elim 0 fun o => o.x.length) ≤ v.length := by cases op <;> simp [opO]
      simp -implicitDefEqProofs [store_at iT67, cells_agg, faddr_ptr, underlying67, load_one underlying32 rfl iT32, zF, doneR, Ex.jump]
      refine (hJ _ _).2 ⟨x', n', v', a', true, l', L3, rfl, ?_, hl', by simp only [] at hvl; omega, by omega, hz⟩
      exact GF.seven hg' (by simp) (by simp) (by simp) (by simp) (by simp)
  · intro p H' hj hp hc
    obtain ⟨q, n, v, a, op, l, L, rfl, hg, hl, hv, _, hz⟩ := (hJ _ _).1 hj
    have hid : (H ++ CO.cells 0 zF 67 :: rdC q n v a op :: CO.cells 0 [.ptr (H.length + 1) 0 0] 84 :: CO.cells 0 zF 67 :: CO.cells 0 [.v (.int .i64 0)] 3 :: CO.cells 0 [x] 25 :: CO.loop 0 25 ts #[14, 15] A B .ready none :: L)[H.length + 6]? = some (.loop 0 25 ts #[14, 15] A B .ready none) := by simp
    rw [WC_round2 hid (by rfl) hn hA hB]
    have r6 : ∀ a b, roundFr ts #[14, 15] [a, b] 6 = .ptr (H.length + 3) 0 0 := fun a b => by simp [roundFr, ts6]
    have r14 : ∀ a b, roundFr ts #[14, 15] [a, b] 14 = a := fun a b => by simp [roundFr, hn]
    have r15 : ∀ a b, roundFr ts #[14, 15] [a, b] 15 = b := fun a b => by simp [roundFr, hn]
    have hzz : Z = .bad p 42 := by
      rw [hz]
      by_cases hr : b.drop p = []
      · rw [hr, lnS_nil, hdrG_nil]
        have := congrArg List.length hr; simp at this
        rw [show p = b.length by omega]
      · rw [lnS_last hr hc, hdrG_short rfl]
    simp -implicitDefEqProofs [r6, r14, r15, busyR, zF, rdC, eqnil_nil underlying25, b67_2, store_at iT67, cells_agg, faddr_ptr, underlying67, load_one underlying32 rfl iT32, doneR, Ex.jump]
    exact (hD _).2 ⟨q, n, v, a, op, _, 0, L, rfl, .inl ⟨p, 42, by omega, rfl, hzz⟩⟩
  · intro r H' hd
    obtain ⟨q, n, v, a, op, f, k, L, rfl, hcase⟩ := (hD _).1 hd
    rcases hcase with ⟨p, c, hc, rfl, hz⟩ | ⟨l, rfl, hg, hz⟩
    · have hc' : ¬ ((c : Int) = 0) := by omega
      simp -implicitDefEqProofs [afterR, jumpEx, zF, rdC, faddr_ptr, underlying67, load_one underlying32 rfl iT32, hc]
      rw [W_draw _ _ _ _ _ _ followsT (by rfl)]
      simp -implicitDefEqProofs [store_at iT67, cells_agg, load_aggp underlying67 rfl iT67, zF]
      rw [hz]; rfl
    · simp -implicitDefEqProofs [afterR, jumpEx, zF, rdC, faddr_ptr, underlying67, load_one underlying32 rfl iT32]
      rw [W_draw _ _ _ _ _ _ followsT (by rfl)]
      have hu := Grow.unl hg
      have hg2 : GF (H.length + 2) (H ++ CO.cells 0 [.v (.int .i64 0), .v (.int .i64 0)] 67 :: CO.cells 0 [q, str n, str v, .v (.int .i64 (a : Nat)), .v (.bool op)] 86 :: CO.cells 0 [.ptr (H.length + 1) 0 0] 84 :: CO.cells 0 [.v (.int .i64 0), .v (.int .i64 0)] 67 :: CO.cells 0 [.v (.int .i64 (k : Nat))] 3 :: CO.cells 0 [x] 25 :: CO.loop 0 25 ts #[14, 15] A B .exhausted (some (.exit 0)) :: L) q l := by
        have := GF.mid (X := H ++ [CO.cells 0 zF 67, rdC q n v a op, CO.cells 0 [.ptr (H.length + 1) 0 0] 84, CO.cells 0 zF 67, CO.cells 0 [.v (.int .i64 (k : Nat))] 3, CO.cells 0 [x] 25]) (L := L) (CO.loop 0 25 ts #[14, 15] A B .exhausted (some (.exit 0))) (by simpa using hg)
        simpa [rdC, zF] using this
      obtain ⟨y, g1, g2, g3, g4⟩ := Grow.frzV hg2 (k := H.length) (by omega) (fldS_clB l)
      simp -implicitDefEqProofs [store_at iT67, cells_agg, load_aggp underlying67 rfl iT67, load_one underlying84 rfl iT84, atP, faddr_ptr, underlying86, load_one underlying24 rfl iT24, load_one underlying3 rfl iT3, hu, g1, g2, g3]
      rw [hz]; exact ⟨y, g4, rfl⟩
end Go.Proofs.Tryd

/- Walks: the program's cut. -/
namespace Go.Proofs.Tryd
open Go Go.SL
set_option linter.unusedVariables false
set_option linter.unusedSimpArgs false

/-- What a border's line adds. -/
def outP (l : Bs) (p : Nat) (fr : Option Nat) (out : List Bs) : List Bs :=
  match fr with
  | some f => out ++ [(l.take (max (p - 2) f)).drop f]
  | none => out
/-- The texts between the borders' lines, as the program finds them. -/
def cutP (l b : Bs) : List Bs → Nat → Option Nat → List Bs → Option (List Bs)
  | [], _, _, _ => none
  | x :: xs, p, fr, out =>
    if edgeP x b = 0 then cutP l b xs (p + x.length) fr out else
    if edgeP x b = 2 then some (outP l p fr out) else cutP l b xs (p + x.length) (some (p + x.length)) (outP l p fr out)
theorem cutP_nil (l b : Bs) (p : Nat) (fr : Option Nat) (out : List Bs) : cutP l b [] p fr out = none := rfl
theorem cutP_cons (l b x : Bs) (xs : List Bs) (p : Nat) (fr : Option Nat) (out : List Bs) : cutP l b (x :: xs) p fr out =
    if edgeP x b = 0 then cutP l b xs (p + x.length) fr out else
    if edgeP x b = 2 then some (outP l p fr out) else cutP l b xs (p + x.length) (some (p + x.length)) (outP l p fr out) := rfl
/-- A slice of slices that grows. -/
def GY (m : Nat) (H : Hp) (x : CV) (ys : List CV) : Prop := Grow m H x ys ys.length 1 25
/-- Values read as these bytes. -/
def RBs (H : Hp) (ys : List CV) (l : List Bs) : Prop := ys.length = l.length ∧ ∀ i (h1 : i < ys.length) (h2 : i < l.length), RB H ys[i] l[i]
theorem RBs.nil (H : Hp) : RBs H [] [] := ⟨rfl, fun i h1 => by simp at h1⟩
theorem RBs.snoc {H : Hp} {ys : List CV} {l : List Bs} {y : CV} {s : Bs} (h : RBs H ys l) (hy : RB H y s) : RBs H (ys ++ [y]) (l ++ [s]) := by
  refine ⟨by simp [h.1], fun i h1 h2 => ?_⟩
  by_cases hi : i < ys.length
  · rw [List.getElem_append_left hi, List.getElem_append_left (by have := h.1; omega)]
    exact h.2 i hi _
  · have e : i = ys.length := by simp at h1; omega
    have e2 : i = l.length := by have := h.1; omega
    subst e
    rw [List.getElem_append_right (by omega), List.getElem_append_right (by omega)]
    simpa using hy
theorem oneCh (ys : List CV) : Chunks (ys.map fun y => [y]) 1 := by
  intro c hc; obtain ⟨p, _, rfl⟩ := List.mem_map.1 hc; rfl
theorem oneFlat (ys : List CV) : (ys.map fun y => [y]).flatten = ys := by
  induction ys with
  | nil => rfl
  | cons a l ih => rw [List.map_cons, List.flatten_cons, ih]; rfl
theorem GY.rs {m : Nat} {H : Hp} {x : CV} {ys : List CV} (h : GY m H x ys) : RS H x (ys.map fun y => [y]) 1 := by
  refine Grow.rs (m := m) (e := 25) ?_ (oneCh ys)
  rw [oneFlat, List.length_map]; exact h
theorem mkY (v : CV) (hc : cvCells v = some [v]) (H : Hp) : ∃ w M, dBuildSlice prog 22 1 [(0, v)] H false = some (w, H ++ M) ∧ dSrc prog (H ++ M) 22 1 w = some ([v], 1) ∧ unlit w = w := by
  cases hb : clB v with
  | true =>
    refine ⟨.im [v] 1 1, [], ?_, ?_, rfl⟩
    · simp [dBuildSlice, underlying22, fillC, zerosC, isU8, underlying25, hc, hb]
    · simp [dSrc, underlying22, atS]
  | false =>
    refine ⟨.sl H.length 0 0 1 1, [.cells 0 [v] 25], ?_, ?_, rfl⟩
    · simp [dBuildSlice, underlying22, fillC, zerosC, isU8, underlying25, hc, hb]
    · simp [dSrc, underlying22, atS]
/-- What cutting answers. -/
def cutQ (H : Hp) (k : Nat) (H' : Hp) (o : Option (List Bs)) (y : CV) : Prop :=
  match o with
  | some out => ∃ q ys, y = .tup [q, .v (.bool (decide (0 < out.length)))] ∧ RBs H ys out ∧ GY k H' q ys
  | none => y = .tup [nilC, .v (.bool false)]
theorem Grow.cells {m : Nat} {H : Hp} {x : CV} {cs : List CV} {n sz : Nat} {e : TypeId} (h : Grow m H x cs n sz e) : cvCells x = some [x] := by
  rcases h with ⟨_, _, rfl⟩ | ⟨_, _, _, _, rfl, _⟩ <;> rfl
theorem Grow.weaken {m k : Nat} {H : Hp} {x : CV} {cs : List CV} {n sz : Nat} {e : TypeId} (hk : k ≤ m) (h : Grow m H x cs n sz e) : Grow k H x cs n sz e := by
  rcases h with h | ⟨h1, id, ver, h2, h3⟩
  · exact .inl h
  · exact .inr ⟨h1, id, ver, by omega, h3⟩
theorem stQ_nil (m id ver off a b : Nat) : stQ m (.ptr id ver off) (.v (.slice none a b)) = true := by unfold stQ; simp only []; rw [show topLe 0 (.v (.slice none a b)) = true from rfl, Bool.or_true]
theorem cells_nil (a b : Nat) : cvCells (.v (.slice none a b)) = some [.v (.slice none a b)] := rfl
theorem Grow.mid {X L : Hp} {v fn k n sz : Nat} {e : TypeId} {cs : List CV} {ts : List CV} {ps : Array Tmp} {a b : Code} {st : LoopState} {pe : Option Code} {x : CV} (o : CO) (h : Grow k (X ++ .loop v fn ts ps a b st pe :: L) x cs n sz e) : Grow k (X ++ o :: L) x cs n sz e := by
  refine Grow.of_obj h fun i v c _ hi => ?_
  by_cases e : i = X.length
  · subst e; simp at hi
  · by_cases hl : i < X.length
    · rw [List.getElem?_append_left hl, List.getElem?_append_left hl]
    · rw [List.getElem?_append_right (by omega), List.getElem?_append_right (by omega)]
      obtain ⟨k, hk⟩ : ∃ k, i - X.length = k + 1 := ⟨i - X.length - 1, by omega⟩
      rw [hk]; rfl
/-- Objects ahead of those that grow have no bearing. -/
theorem GF8 {H L : Hp} {n sz : Nat} {e : TypeId} {cs : List CV} {a0 a1 a2 a3 a4 a5 a6 a7 b0 b1 b2 b3 b4 b5 b6 b7 : CO} {x : CV} (h : Grow (H.length + 8) (H ++ a0 :: a1 :: a2 :: a3 :: a4 :: a5 :: a6 :: a7 :: L) x cs n sz e) : Grow (H.length + 8) (H ++ b0 :: b1 :: b2 :: b3 :: b4 :: b5 :: b6 :: b7 :: L) x cs n sz e := by
  refine Grow.of_obj h fun i v c hm hi => ?_
  obtain ⟨j, rfl⟩ : ∃ j, i = H.length + (j + 8) := ⟨i - H.length - 8, by omega⟩
  rw [get_own, get_own]; rfl
variable [LayerC]
theorem w37 (m : Nat) (x : CV) (l b : Bs) (H H0 : Hp) (hm : m ≤ H.length) (hx0 : RB H0 x l) (hsub : ∀ y s, RB H0 y s → RB H y s) (hl : l.length ≤ 4294967280) (hb : b.length ≤ 4294967200) : WC prog cs0 m (.f 27) [x, str b] H fun y H' => (∃ L, H' = H ++ L) ∧ cutQ H0 H.length H' (cutP l b (linesS l) 0 none []) y := by
  have hx := hsub _ _ hx0
  rw [WC_raw rfl func27 rfl rfl]
  have ux := hx.unl
  have c63 := fun m L => (w63 m x (H ++ L) hx.one ux hx.cells).wc
  obtain ⟨Z, hZ⟩ : ∃ Z, Z = cutP l b (linesS l) 0 none [] := ⟨_, rfl⟩
  rw [← hZ]
  obtain ⟨K, hK⟩ : ∃ K : CV → Hp → Prop, ∀ y H', K y H' ↔ (∃ L, H' = H ++ L) ∧ cutQ H0 H.length H' Z y := ⟨_, fun _ _ => Iff.rfl⟩
  simp only [← hK]
  have hms : ∀ k, m ≤ H.length + k := fun k => by omega
  simp -implicitDefEqProofs [f27, aQ, dAlloc, ux, c63, hx.cells, store_at iT3, load_one underlying25 rfl iT25, Nat.add_assoc]
  refine W_range2 31 [.ptr (H.length + 6) 0 0] rfl (by simp) (by rw [func31]; rfl) ?_
  intro ts A B hA hB hn hts
  have hn : ts.length = 42 := hn
  have ts2 : ts[2]? = some (.ptr H.length 0 0) := by simpa using hts 2 (show 2 < 42 by decide)
  have ts3 : ts[3]? = some (.ptr (H.length + 1) 0 0) := by simpa using hts 3 (show 3 < 42 by decide)
  have ts4 : ts[4]? = some (.ptr (H.length + 2) 0 0) := by simpa using hts 4 (show 4 < 42 by decide)
  have ts5 : ts[5]? = some (.ptr (H.length + 3) 0 0) := by simpa using hts 5 (show 5 < 42 by decide)
  have ts6 : ts[6]? = some (.ptr (H.length + 4) 0 0) := by simpa using hts 6 (show 6 < 42 by decide)
  have ts7 : ts[7]? = some (.ptr (H.length + 5) 0 0) := by simpa using hts 7 (show 7 < 42 by decide)
  clear hts
  obtain ⟨HP, hHP⟩ : ∃ HP : CV → Bool → CV → Option Nat → LoopState → Option Code → Hp → Hp, ∀ r r2 q fo st pe L, HP r r2 q fo st pe L = H ++ CO.cells 0 [x] 25 :: CO.cells 0 [str b] 9 :: CO.cells 0 [r] 22 :: CO.cells 0 [.v (.bool r2)] 4 :: CO.cells 0 [q] 22 :: CO.cells 0 [fromV fo] 3 :: CO.cells 0 [x] 25 :: CO.loop 0 27 ts #[13, 14] A B st pe :: L := ⟨_, fun _ _ _ _ _ _ _ => rfl⟩
  obtain ⟨J, hJ⟩ : ∃ J : Nat → Hp → Prop, ∀ p H', J p H' ↔ ∃ q ys out fo L, H' = HP nilC false q fo .ready none L ∧ GY (H.length + 8) H' q ys ∧ RBs H0 ys out ∧ (∀ f, fo = some f → f ≤ p) ∧ out.length ≤ p ∧ p ≤ l.length ∧ Z = cutP l b (linesS (l.drop p)) p fo out := ⟨_, fun _ _ => Iff.rfl⟩
  obtain ⟨D, hD⟩ : ∃ D : Hp → Prop, ∀ H', D H' ↔ ∃ q ys, ∃ out : List Bs, ∃ fo L, H' = HP q (decide (0 < out.length)) q fo .done (some .ret) L ∧ GY (H.length + 8) H' q ys ∧ RBs H0 ys out ∧ Z = some out := ⟨_, fun _ => Iff.rfl⟩
  have hid0 : ∀ (c0 c1 c2 c3 c4 c5 c6 : CO), (H ++ [c0, c1, c2, c3, c4, c5, c6]).length = H.length + 7 := fun _ _ _ _ _ _ _ => by simp
  simp only [hid0, List.append_assoc, List.cons_append, List.nil_append]
  have h0 : J 0 (HP nilC false nilC none .ready none []) := (hJ _ _).2 ⟨nilC, [], [], none, [], rfl, Grow.nil _ _ 1 25, RBs.nil H0, by simp, by simp, by simp, by simpa using hZ⟩
  rw [hHP] at h0
  refine WC_mono (w93 _ _ _ (H.length + 6) x l J D (by omega) ?_ ?_ _ h0) ?_
  · intro p H' hj
    obtain ⟨q, ys, out, fo, L, rfl, _⟩ := (hJ _ _).1 hj
    rw [hHP]
    exact ⟨by simp, hx.app _⟩
  · intro p H' y hj hp hyc hy
    obtain ⟨q, ys, out, fo, L, rfl, hg, hr, hfo, hol, _, hz⟩ := (hJ _ _).1 hj
    have hid : (HP nilC false q fo .ready none L)[H.length + 7]? = some (.loop 0 27 ts #[13, 14] A B .ready none) := by rw [hHP]; simp
    rw [WC_round2 hid (by rfl) hn hA hB]
    have r2 : ∀ a b, roundFr ts #[13, 14] [a, b] 2 = .ptr H.length 0 0 := fun a b => by simp [roundFr, ts2]
    have r3 : ∀ a b, roundFr ts #[13, 14] [a, b] 3 = .ptr (H.length + 1) 0 0 := fun a b => by simp [roundFr, ts3]
    have r4 : ∀ a b, roundFr ts #[13, 14] [a, b] 4 = .ptr (H.length + 2) 0 0 := fun a b => by simp [roundFr, ts4]
    have r5 : ∀ a b, roundFr ts #[13, 14] [a, b] 5 = .ptr (H.length + 3) 0 0 := fun a b => by simp [roundFr, ts5]
    have r6 : ∀ a b, roundFr ts #[13, 14] [a, b] 6 = .ptr (H.length + 4) 0 0 := fun a b => by simp [roundFr, ts6]
    have r7 : ∀ a b, roundFr ts #[13, 14] [a, b] 7 = .ptr (H.length + 5) 0 0 := fun a b => by simp [roundFr, ts7]
    have r13 : ∀ a b, roundFr ts #[13, 14] [a, b] 13 = a := fun a b => by simp [roundFr, hn]
    have r14 : ∀ a b, roundFr ts #[13, 14] [a, b] 14 = b := fun a b => by simp [roundFr, hn]
    have hne : l.drop p ≠ [] := by intro h; have := congrArg List.length h; simp at this; omega
    have hn1 := lineN_le (l.drop p)
    rw [List.length_drop] at hn1
    have hn0 := lineN_pos hne
    rw [linesS_cons hne, List.drop_drop] at hz
    have hll : ((l.drop p).take (lineN (l.drop p))).length = lineN (l.drop p) := by simp; omega
    obtain ⟨line, hline⟩ : ∃ line, line = (l.drop p).take (lineN (l.drop p)) := ⟨_, rfl⟩
    rw [← hline] at hz hy hll
    have hlineE := hline
    rw [← hll] at hz hn1 hn0 hyc hlineE ⊢
    clear hline hy
    have hyH : RB H y line := by
      have := hx.cut (o := p) (h := p + line.length) (by omega) (by omega)
      rw [← hyc, List.drop_take, show p + line.length - p = line.length by omega, ← hlineE] at this
      exact this
    have hyB : RB (HP nilC false q fo .busy none L) y line := by rw [hHP]; exact hyH.app _
    have hgB : GY (H.length + 8) (HP nilC false q fo .busy none L) q ys := by
      rw [hHP] at hg ⊢
      have := Grow.mid (X := H ++ [CO.cells 0 [x] 25, CO.cells 0 [str b] 9, CO.cells 0 [nilC] 22, CO.cells 0 [.v (.bool false)] 4, CO.cells 0 [q] 22, CO.cells 0 [fromV fo] 3, CO.cells 0 [x] 25]) (L := L) (CO.loop 0 27 ts #[13, 14] A B .busy none) (by simpa [GY] using hg)
      simpa [GY] using this
    have hyu := hyB.unl
    have hlen := hyB.len (P := prog) underlying25
    have c64 := fun m => (w64 m y line b _ hyB (by omega) hb).wc
    rw [hHP] at hlen c64 hgB ⊢
    rw [cutP_cons] at hz
    by_cases h0 : edgeP line b = 0
    · rw [if_pos h0] at hz
      simp -implicitDefEqProofs [r2, r3, r4, r5, r6, r7, r13, r14, busyR, hyu, hlen, load_one underlying9 rfl iT9, c64, h0, doneR, Ex.jump]
      refine (hJ _ _).2 ⟨q, ys, out, fo, L, by rw [hHP], ?_, hr, fun f hf => by have := hfo f hf; omega, by omega, by omega, hz⟩
      exact GF8 hgB
    rw [if_neg h0] at hz
    obtain ⟨out2, ho2⟩ : ∃ out2, out2 = outP l p fo out := ⟨_, rfl⟩
    rw [← ho2] at hz
    obtain ⟨k, hk, hwp⟩ : ∃ k, k = p + line.length ∧ IntKind.i64.wrap ((p : Int) + (line.length : Int)) = (k : Int) := ⟨_, rfl, wrN (by omega) (by omega)⟩
    rw [← hk] at hz ⊢
    have hst : ∀ k x, stQ m (.ptr (H.length + k) 0 0) x = true := fun k x => by simp [stQ, hms]
    cases fo with
    | none =>
      obtain rfl : out2 = out := ho2
      have hgeq : ∀ H, dBin prog .geq 3 (fromV none) (.v (.int .i64 0)) H = some (.v (.bool false)) := fun H => by simp [fromV]
      simp -implicitDefEqProofs [r2, r3, r4, r5, r6, r7, r13, r14, busyR, hyu, hlen, load_one underlying9 rfl iT9, c64, h0, load_one underlying3 rfl iT3, hgeq, store_at iT3, hwp]
      have hcq := Grow.cells hgB
      have hlq := fun b4 b5 b6 b7 => (GY.rs (m := H.length + 8) (GF8 (b0 := CO.cells 0 [x] 25) (b1 := CO.cells 0 [str b] 9) (b2 := CO.cells 0 [nilC] 22) (b3 := CO.cells 0 [.v (.bool false)] 4) (b4 := b4) (b5 := b5) (b6 := b6) (b7 := b7) hgB)).len (P := prog) underlying22
      rw [List.length_map, hr.1] at hlq
      have huq := Grow.unl hgB
      by_cases h2 : edgeP line b = 2
      · rw [if_pos h2] at hz
        simp -implicitDefEqProofs [h2]
        rw [W_drawJ (SlotJ [(4, .ptr (H.length + 2) 0 0), (6, .ptr (H.length + 4) 0 0)]) [(1, 4), (2, 4)] _ _ _ _ _ _ followsT (by simp [SlotJ, r4, r6]) (by rfl) (fun _ => keep_slots (by rfl)) (by
          intro k j i oj oi hm h1 h2
          simp at hm
          rcases hm with ⟨rfl, rfl⟩ | ⟨rfl, rfl⟩ <;> simp at h1 h2 <;> subst h1 h2
          · exact cmt_ls (by rfl) rfl rfl rfl rfl rfl (List.mem_cons_of_mem _ (List.mem_singleton.2 rfl)) List.mem_cons_self (by omega)
          · exact cmt_lens (by rfl) rfl rfl rfl rfl rfl List.mem_cons_self)]
        simp -implicitDefEqProofs [r2, r3, r4, r5, r6, r7, load_one underlying22 rfl iT22, huq, hlq, hst, store_at iT22, store_at iT4, hcq, doneR, Ex.jump]
        exact (hD _).2 ⟨q, ys, out2, some k, L, by rw [hHP]; rfl, GF8 hgB, hr, hz⟩
      · rw [if_neg h2] at hz
        simp -implicitDefEqProofs [h2, doneR, Ex.jump]
        exact (hJ _ _).2 ⟨q, ys, out2, some k, L, by rw [hHP]; rfl, GF8 hgB, hr, fun f hf => by cases hf; omega, by omega, by omega, hz⟩
    | some f =>
      have hgeq : ∀ H, dBin prog .geq 3 (fromV (some f)) (.v (.int .i64 0)) H = some (.v (.bool true)) := fun H => by simp [fromV]
      simp -implicitDefEqProofs [r2, r3, r4, r5, r6, r7, r13, r14, busyR, hyu, hlen, load_one underlying9 rfl iT9, c64, h0, load_one underlying3 rfl iT3, hgeq]
      rw [W_drawJ TJ [(0, 6), (1, 6), (2, 6), (0, 8)] _ _ _ _ _ _ followsT trivial (by rfl) (fun _ _ _ => keep_T) (by
        intro k j i oj oi hm h1 h2
        simp at hm
        rcases hm with ⟨rfl, rfl⟩ | ⟨rfl, rfl⟩ | ⟨rfl, rfl⟩ | ⟨rfl, rfl⟩ <;> simp at h1 h2 <;> subst h1 h2
        · exact (cmt_of (by rfl) (.inr (.inl (pur_max rfl)))).j
        · exact (cmt_of (by rfl) (.inr (.inl (pur_max rfl)))).j
        · exact (cmt_of (by rfl) (.inr (.inl (pur_max rfl)))).j
        · exact cmt_grow (by rfl) (mon_load rfl) (gro_buildSlice rfl) _)]
      have hfp := hfo f rfl
      have hwA : IntKind.i64.wrap ((p : Int) - 2) = (p : Int) - 2 := wrap64 (by omega)
      obtain ⟨g, hg0⟩ : ∃ g, g = max (p - 2) f := ⟨_, rfl⟩
      have hmx : mx ((p : Int) - 2) (f : Nat) = (g : Int) := by unfold mx; split <;> omega
      have hcut := hx0.cut (o := f) (h := g) (by omega) (by omega)
      have hou : out2 = out ++ [(l.take g).drop f] := by rw [ho2, hg0]; rfl
      have hsl := fun L => (hx.app L).slice (P := prog) underlying25 iT5 sT5 (some (.v (.int .i64 (f : Nat)))) (some (.v (.int .i64 (g : Nat))))
      have hfg : f ≤ g := by omega
      have hgl : g ≤ l.length := by omega
      simp [hfg, hgl] at hsl
      simp -implicitDefEqProofs [r2, r3, r4, r5, r6, r7, r13, r14, load_one underlying22 rfl iT22, load_one underlying25 rfl iT25, load_one underlying3 rfl iT3, ux, hwA, fromV]
      obtain ⟨v, hv⟩ : ∃ v, v = cutC x f g := ⟨_, rfl⟩
      rw [← hv] at hcut hsl
      have hr2 : RBs H0 (ys ++ [v]) out2 := by rw [hou]; exact hr.snoc hcut
      have hd : dMax mx [.v (.int .i64 ((p : Int) - 2)), .v (.int .i64 (f : Nat))] = some (.v (.int .i64 (g : Nat))) := by rw [← hmx]; rfl
      obtain ⟨w, M, e1, e2, e3⟩ := mkY v hcut.cells (H ++ CO.cells 0 [x] 25 :: CO.cells 0 [str b] 9 :: CO.cells 0 [nilC] 22 :: CO.cells 0 [.v (.bool false)] 4 :: CO.cells 0 [q] 22 :: CO.cells 0 [fromV (some f)] 3 :: CO.cells 0 [x] 25 :: CO.loop 0 27 ts #[13, 14] A B .busy none :: L)
      obtain ⟨q2, H2, f1, f2, f3, f4, _⟩ := Grow.append (P := prog) (t := 22) (tx := 22) (y := w) underlying22 iT25 zT25 (by simp) sT25 (by omega) (by simp) (hgB.app M) e2 rfl (by have := hr.1; simp; omega) (by have := hr.1; omega)
      obtain ⟨L2, rfl⟩ : ∃ L2, H2 = H ++ CO.cells 0 [x] 25 :: CO.cells 0 [str b] 9 :: CO.cells 0 [nilC] 22 :: CO.cells 0 [.v (.bool false)] 4 :: CO.cells 0 [q] 22 :: CO.cells 0 [fromV (some f)] 3 :: CO.cells 0 [x] 25 :: CO.loop 0 27 ts #[13, 14] A B .busy none :: L2 := by
        refine ⟨H2.drop (H.length + 8), ?_⟩
        have := split_at f3
        rw [List.append_assoc, List.take_length_add_append] at this
        simpa using this
      have hg2 : GY (H.length + 8) (H ++ CO.cells 0 [x] 25 :: CO.cells 0 [str b] 9 :: CO.cells 0 [nilC] 22 :: CO.cells 0 [.v (.bool false)] 4 :: CO.cells 0 [q] 22 :: CO.cells 0 [fromV (some f)] 3 :: CO.cells 0 [x] 25 :: CO.loop 0 27 ts #[13, 14] A B .busy none :: L2) q2 (ys ++ [v]) := by
        unfold GY; rw [List.length_append]; exact f2
      have hap : ∀ y, apQ m q y = true := Grow.ap hgB (by omega)
      have hol2 : out2.length = out.length + 1 := by rw [hou]; simp
      have huq2 := Grow.unl hg2
      have hcq2 := Grow.cells hg2
      have hlen2 : ∀ L' c4 c5, dLenS prog 25 y (H ++ CO.cells 0 [x] 25 :: CO.cells 0 [str b] 9 :: CO.cells 0 [nilC] 22 :: CO.cells 0 [.v (.bool false)] 4 :: c4 :: c5 :: L') = some (.v (.int .i64 (line.length : Nat))) := fun L' c4 c5 => (hyH.app _).len underlying25
      simp only [fromV, List.append_assoc, List.cons_append] at e1 f1 hg2
      simp -implicitDefEqProofs [hd, hsl, e1, hap, f1, hst, store_at iT22, store_at iT3, hcq2, hlen2, hyu, hwp]
      have hcq := Grow.cells hg2
      have hlq := fun b4 b5 b6 b7 => (GY.rs (m := H.length + 8) (GF8 (b0 := CO.cells 0 [x] 25) (b1 := CO.cells 0 [str b] 9) (b2 := CO.cells 0 [nilC] 22) (b3 := CO.cells 0 [.v (.bool false)] 4) (b4 := b4) (b5 := b5) (b6 := b6) (b7 := b7) hg2)).len (P := prog) underlying22
      rw [List.length_map, hr2.1] at hlq
      have huq := Grow.unl hg2
      by_cases h2 : edgeP line b = 2
      · rw [if_pos h2] at hz
        simp -implicitDefEqProofs [h2]
        rw [W_drawJ (SlotJ [(4, .ptr (H.length + 2) 0 0), (6, .ptr (H.length + 4) 0 0)]) [(1, 4), (2, 4)] _ _ _ _ _ _ followsT (by simp [SlotJ, r4, r6]) (by rfl) (fun _ => keep_slots (by rfl)) (by
          intro k j i oj oi hm h1 h2
          simp at hm
          rcases hm with ⟨rfl, rfl⟩ | ⟨rfl, rfl⟩ <;> simp at h1 h2 <;> subst h1 h2
          · exact cmt_ls (by rfl) rfl rfl rfl rfl rfl (List.mem_cons_of_mem _ (List.mem_singleton.2 rfl)) List.mem_cons_self (by omega)
          · exact cmt_lens (by rfl) rfl rfl rfl rfl rfl List.mem_cons_self)]
        simp -implicitDefEqProofs [r2, r3, r4, r5, r6, r7, load_one underlying22 rfl iT22, huq, hlq, hst, store_at iT22, store_at iT4, hcq, doneR, Ex.jump]
        exact (hD _).2 ⟨q2, ys ++ [v], out2, some k, L2, by rw [hHP]; rfl, GF8 hg2, hr2, hz⟩
      · rw [if_neg h2] at hz
        simp -implicitDefEqProofs [h2, doneR, Ex.jump]
        exact (hJ _ _).2 ⟨q2, ys ++ [v], out2, some k, L2, by rw [hHP]; rfl, GF8 hg2, hr2, fun f hf => by cases hf; omega, by omega, by omega, hz⟩
  · intro r H' hd
    rcases hd with hj | hd
    · obtain ⟨q, ys, out, fo, L, rfl, hg, hr, hfo, hol, _, hz⟩ := (hJ _ _).1 hj
      rw [List.drop_length, linesS_nil, cutP_nil] at hz
      rw [hHP]
      simp -implicitDefEqProofs [afterR, jumpEx, store_at iT22, store_at iT4, stQ_nil, cells_nil, load_one underlying22 rfl iT22, load_one underlying4 rfl iT4]
      refine (hK _ _).2 ⟨⟨_, rfl⟩, ?_⟩
      rw [hz]; rfl
    · obtain ⟨q, ys, out, fo, L, rfl, hg, hr, hz⟩ := (hD _).1 hd
      have hu := Grow.unl hg
      have hrs := hg.rs
      rw [hHP] at hrs ⊢
      simp -implicitDefEqProofs [afterR, jumpEx, load_one underlying22 rfl iT22, load_one underlying4 rfl iT4, hu]
      refine (hK _ _).2 ⟨⟨_, rfl⟩, ?_⟩
      rw [hz]; refine ⟨q, ys, rfl, hr, ?_⟩
      rw [hHP] at hg
      have := Grow.mid (X := H ++ [CO.cells 0 [x] 25, CO.cells 0 [str b] 9, CO.cells 0 [q] 22, CO.cells 0 [.v (.bool (decide (0 < out.length)))] 4, CO.cells 0 [q] 22, CO.cells 0 [fromV fo] 3, CO.cells 0 [x] 25]) (L := L) (CO.loop 0 27 ts #[13, 14] A B .exhausted (some .ret)) (by simpa [GY] using hg)
      have := Grow.weaken (k := H.length) (by omega) this
      simpa [GY] using this
end Go.Proofs.Tryd

/- Trees of parts; walks: a part's kind, a kind's border. -/
namespace Go.Proofs.Tryd
open Go Go.SL
set_option linter.unusedVariables false
set_option linter.unusedSimpArgs false

/-- A tree of parts. -/
inductive Prt where
  | mk (fs : List Fld) (b : Bs) (ps : List Prt)
def Prt.fs : Prt → List Fld | .mk f _ _ => f
def Prt.b : Prt → Bs | .mk _ b _ => b
def Prt.ps : Prt → List Prt | .mk _ _ p => p
theorem Prt.ind {C : Prt → Prop} (h : ∀ fs b ps, (∀ p ∈ ps, C p) → C (.mk fs b ps)) (p : Prt) : C p :=
  Prt.rec (motive_1 := C) (motive_2 := fun ps => ∀ p ∈ ps, C p) (fun fs b ps ih => h fs b ps ih) (fun p hp => by cases hp) (fun p ps ih1 ih2 q hq => by
    rcases List.mem_cons.1 hq with rfl | hq
    · exact ih1
    · exact ih2 q hq) p
/-- A tree's value, closed. -/
inductive PV : Prt → List CV → Prop
  | mk {fs : List Fld} {b : Bs} {ps : List Prt} {f x q : CV} {ch : List (List CV)} (hf : Cls f (fs.map Fld.c).flatten fs.length 2) (hb : CB x b) (hl : ch.length = ps.length) (hc : Chunks ch 3) (hq : Cls q ch.flatten ps.length 3)
      (h : ∀ i (h1 : i < ps.length) (h2 : i < ch.length), PV ps[i] ch[i]) : PV (.mk fs b ps) [f, x, q]

def ctName : Bs := [99, 111, 110, 116, 101, 110, 116, 45, 116, 121, 112, 101]
def ctName2 : Bs := [67, 111, 110, 116, 101, 110, 116, 45, 84, 121, 112, 101]
theorem ct_low : low ctName2 = low ctName := by decide
theorem fall_low (l : List Fld) {a b : Bs} (h : low a = low b) : fall l a = fall l b := by unfold fall; rw [h]
def kText : Kd := ⟨[116, 101, 120, 116], [112, 108, 97, 105, 110], []⟩
/-- The kind of a part with these fields, and the error's number. -/
def kindO (fs : List Fld) : Kd × Int :=
  match fall fs ctName with
  | [] => (kText, 0)
  | [v] => match readK v with
    | some k => (k, 0)
    | none => (⟨[], [], []⟩, 70)
  | _ => (⟨[], [], []⟩, 81)
def kdR (fs : List Fld) (y : CV) : Prop := ∃ x, KV x (kindO fs).1 ∧ y = .tup [x, .v (.int .i64 (kindO fs).2)]
theorem rdK_val {o : Option Kd} {y : CV} (h : rdK o y) : ∃ t s q k e, y = .tup [.agg [str t, str s, q], .v (.int .i64 e)] ∧ KV (.agg [str t, str s, q]) k ∧ (k, e) = o.elim ((⟨[], [], []⟩ : Kd), (70 : Int)) (fun k' => (k', 0)) := by
  unfold rdK at h
  cases o with
  | some k => obtain ⟨x, ⟨q, rfl, hq⟩, rfl⟩ := h; exact ⟨_, _, q, k, 0, rfl, ⟨q, rfl, hq⟩, rfl⟩
  | none => obtain ⟨x, ⟨q, rfl, hq⟩, rfl⟩ := h; exact ⟨_, _, q, _, 70, rfl, ⟨q, rfl, hq⟩, rfl⟩

variable [LayerC]
theorem w14 (m : Nat) (f x q : CV) (fs : List Fld) (H : Hp) (hf : RS H f (fs.map Fld.c) 2) (hx : oneB x = true) (hq : oneB q = true) (hl : fs.length ≤ 4294967280) (hs : ∀ g ∈ fs, g.n.length ≤ 4294967280 ∧ g.v.length ≤ 4294967280) :
    WC prog cs0 m (.f 18) [.agg [f, x, q]] H fun y H2 => H2 = H ∧ kdR fs y := by
  rw [WC_drop rfl func18 rfl rfl]
  have hone := hf.one
  have hu := hf.unl
  have c27 := fun m L => (w27 m f fs ctName2 (H ++ L) (hf.app L) hl (by decide) (fun g hg => (hs g hg).1)).wc
  have hct : fall fs ctName2 = fall fs ctName := fall_low fs ct_low
  have hn2 : str [67, 111, 110, 116, 101, 110, 116, 45, 84, 121, 112, 101] = str ctName2 := rfl
  simp -implicitDefEqProofs [f18, aQ, dAlloc, cells_agg, hone, hx, hq, faddr_ptr, underlying28, load_one underlying24 rfl iT24, hu, hn2, c27, fgetV, hct, dExtract]
  cases ha : fall fs ctName with
  | nil =>
    simp -implicitDefEqProofs [b56_2, store_at iT56, cells_agg, load_aggp underlying56 rfl iT56]
    have hk : kindO fs = (kText, 0) := by unfold kindO; rw [ha]
    unfold kdR; rw [hk]
    exact ⟨_, ⟨nilC, rfl, .inr ⟨rfl, rfl, rfl⟩⟩, rfl⟩
  | cons v vs =>
    cases vs with
    | nil =>
      have hv : v.length ≤ 4294967280 := by
        have : v ∈ fall fs ctName := by rw [ha]; simp
        unfold fall at this
        obtain ⟨g, hg, rfl⟩ := List.mem_map.1 this
        exact (hs g (List.mem_filter.1 hg).1).2
      simp -implicitDefEqProofs
      refine WC_mono (w28 _ v _ hv) ?_
      rintro y H2 ⟨rfl, hy⟩
      obtain ⟨t, s, q', k, e, rfl, hkv, he⟩ := rdK_val hy
      obtain ⟨q2, hq2, hcl⟩ := hkv
      have : q' = q2 := by cases hq2; rfl
      subst this
      have hq1 := hcl.one
      obtain ⟨_, _, fz⟩ := hcl.frz (H ++ [CO.cells 0 [f, x, q] 28, CO.cells 0 [str t, str s, q'] 56]) H.length
      simp -implicitDefEqProofs [dExtract, store_at iT56, cells_agg, hq1, load_aggp underlying56 rfl iT56, fz]
      have hk : kindO fs = (k, e) := by
        unfold kindO; rw [ha, he]
        simp only []
        cases readK v <;> rfl
      unfold kdR; rw [hk]
      exact ⟨_, ⟨q', hq2, hcl⟩, rfl⟩
    | cons w vs =>
      have h1 : ¬ ((vs.length + 1 + 1 : Nat) : Int) = 0 := by omega
      simp -implicitDefEqProofs [b56_0, store_at iT56, cells_agg, load_aggp underlying56 rfl iT56]
      have hk : kindO fs = (⟨[], [], []⟩, 81) := by unfold kindO; rw [ha]
      unfold kdR; rw [hk]
      exact ⟨_, ⟨nilC, rfl, .inr ⟨rfl, rfl, rfl⟩⟩, rfl⟩
/-- A border's signs. -/
def borC (c : UInt8) : Prop := (48 ≤ c.toNat ∧ c.toNat ≤ 57) ∨ (65 ≤ c.toNat ∧ c.toNat ≤ 90) ∨ (97 ≤ c.toNat ∧ c.toNat ≤ 122) ∨ c.toNat = 46 ∨ c.toNat = 45 ∨ c.toNat = 95
instance (c : UInt8) : Decidable (borC c) := by unfold borC; infer_instance
def boName : Bs := [98, 111, 117, 110, 100, 97, 114, 121]
/-- A kind's border. -/
def bord (ps : List Par) : Bs := if (∀ c ∈ (kget ps boName).getD [], borC c) ∧ ((kget ps boName).getD []).length ≤ 70 then (kget ps boName).getD [] else []
set_option maxHeartbeats 1600000 in
theorem w36 (m : Nat) (t s : Bs) (ps : List Par) (q : CV) (H : Hp) (hq : RS H q (ps.map Par.c) 2) (hb : ps.length ≤ 4294967280) (hv : ∀ p ∈ ps, p.v.length ≤ 4294967280) : Ret prog cs0 m 24 [.agg [str t, str s, q]] H (str (bord ps)) H := by
  unfold Ret
  rw [WC_drop rfl func24 rfl rfl]
  have hu := hq.unl
  have hone := hq.one
  have c62 := fun m L => (w62 m t s ps q boName (H ++ L) (hq.app L) hb).wc
  have hn2 : str [98, 111, 117, 110, 100, 97, 114, 121] = str boName := rfl
  generalize hz : (kget ps boName).getD [] = b
  have hbl : b.length ≤ 4294967280 := by
    subst hz
    unfold kget
    cases hf : ps.find? (fun p => p.n == boName) with
    | none => simp
    | some p => exact hv p (List.mem_of_find?_eq_some hf)
  have hbo : bord ps = if (∀ c ∈ b, borC c) ∧ b.length ≤ 70 then b else [] := by unfold bord; rw [hz]
  rw [hbo]
  simp -implicitDefEqProofs [f24, cells_agg, hone, load_aggp underlying56 rfl iT56, hn2, c62, kgetV, dExtract, hz, len_str underlying9]
  refine W_up b.length (fun i fr H' => H'.take H.length = H ∧ fr 3 = str b ∧ fr 13 = .v (.int .i64 b.length) ∧ fr 14 = .v (.int .i64 i) ∧ ∀ c ∈ b.take i, borC c) ?_ 0 _ _ (by omega) (by simp)
  rintro i fr H' hi ⟨hH, a3, a13, a14, hk⟩
  by_cases hlt : i < b.length
  · have hw := up64 hlt (by omega)
    have hy := take_all hk hlt
    have hno : ¬ borC b[i] → ¬ ((∀ c ∈ b, borC c) ∧ b.length ≤ 70) := fun h q => h (q.1 _ (List.getElem_mem hlt))
    obtain ⟨n, hn⟩ : ∃ n, n = b[i].toNat := ⟨_, rfl⟩
    have hcases : n < 45 ∨ n = 45 ∨ n = 46 ∨ n = 47 ∨ (48 ≤ n ∧ n ≤ 57) ∨ (58 ≤ n ∧ n ≤ 64) ∨ (65 ≤ n ∧ n ≤ 90) ∨ (91 ≤ n ∧ n ≤ 94) ∨ n = 95 ∨ n = 96 ∨ (97 ≤ n ∧ n ≤ 122) ∨ 122 < n := by omega
    rcases hcases with hh | hh | hh | hh | hh | hh | hh | hh | hh | hh | hh | hh <;> (
      first | have f1 : 97 ≤ b[i].toNat := by omega | have f1 : ¬ 97 ≤ b[i].toNat := by omega
      first | have f2 : 65 ≤ b[i].toNat := by omega | have f2 : ¬ 65 ≤ b[i].toNat := by omega
      first | have f3 : 48 ≤ b[i].toNat := by omega | have f3 : ¬ 48 ≤ b[i].toNat := by omega
      first | have f4 : 122 < b[i].toNat := by omega | have f4 : ¬ 122 < b[i].toNat := by omega
      first | have f5 : 90 < b[i].toNat := by omega | have f5 : ¬ 90 < b[i].toNat := by omega
      first | have f6 : 57 < b[i].toNat := by omega | have f6 : ¬ 57 < b[i].toNat := by omega
      first | have f7 : b[i].toNat = 46 := by omega | have f7 : ¬ b[i].toNat = 46 := by omega
      first | have f8 : b[i].toNat = 45 := by omega | have f8 : ¬ b[i].toNat = 45 := by omega
      first | have f9 : b[i].toNat = 95 := by omega | have f9 : ¬ b[i].toNat = 95 := by omega
      first | have g1 : b[i].toNat ≤ 122 := by omega | have g1 : ¬ b[i].toNat ≤ 122 := by omega
      first | have g2 : b[i].toNat ≤ 90 := by omega | have g2 : ¬ b[i].toNat ≤ 90 := by omega
      first | have g3 : b[i].toNat ≤ 57 := by omega | have g3 : ¬ b[i].toNat ≤ 57 := by omega
      first | have hc : borC b[i] := by unfold borC; omega | have hc : ¬ borC b[i] := by unfold borC; omega
      simp -implicitDefEqProofs [a3, a13, a14, hlt, hw, hH, index_str underlying9, f1, f2, f3, f4, f5, f6, f7, f8, f9, g1, g2, g3]
      first
        | exact hy hc
        | rw [if_neg (hno hc)])
  · obtain rfl : i = b.length := by omega
    rw [List.take_length] at hk
    simp -implicitDefEqProofs [a3, a13, a14, len_str underlying9, hH]
    by_cases h70 : b.length ≤ 70
    · have : ¬ 70 < b.length := by omega
      rw [if_neg this, if_pos ⟨hk, h70⟩]
    · have : 70 < b.length := by omega
      rw [if_pos this, if_neg (fun h => h70 h.2)]
end Go.Proofs.Tryd

/- Walks: trees are counted. -/
namespace Go.Proofs.Tryd
open Go Go.SL
set_option linter.unusedVariables false
set_option linter.unusedSimpArgs false

mutual
/-- How many parts, as an int counts; how deep. -/
def cntW : Prt → Int
  | .mk _ _ ps => cntL ps 1
def cntL : List Prt → Int → Int
  | [], n => n
  | p :: ps, n => cntL ps (IntKind.i64.wrap (n + cntW p))
end
mutual
def dep : Prt → Nat
  | .mk _ _ ps => depL ps 1
def depL : List Prt → Nat → Nat
  | [], d => d
  | p :: ps, d => depL ps (max d (dep p + 1))
end
theorem depL_ge (ps : List Prt) (d : Nat) : d ≤ depL ps d := by
  induction ps generalizing d with
  | nil => exact Nat.le_refl _
  | cons p ps ih => rw [depL]; exact Nat.le_trans (Nat.le_max_left _ _) (ih _)
theorem depL_mem {ps : List Prt} {p : Prt} (h : p ∈ ps) (d : Nat) : dep p + 1 ≤ depL ps d := by
  induction ps generalizing d with
  | nil => cases h
  | cons q ps ih =>
    rw [depL]
    rcases List.mem_cons.1 h with rfl | h
    · exact Nat.le_trans (Nat.le_max_right _ _) (depL_ge _ _)
    · exact ih h _
/-- The value of a part in a box. -/
theorem PV.inv {p : Prt} {cs : List CV} (h : PV p cs) : ∃ f x q ch, cs = [f, x, q] ∧ Cls f (p.fs.map Fld.c).flatten p.fs.length 2 ∧ CB x p.b ∧ ch.length = p.ps.length ∧ Chunks ch 3 ∧ (∀ H, RS H q ch 3) ∧ Cls q ch.flatten p.ps.length 3 ∧ ∀ i (h1 : i < p.ps.length) (h2 : i < ch.length), PV p.ps[i] ch[i] := by
  cases h with
  | mk hf hb hl hc hq h =>
    refine ⟨_, _, _, _, rfl, hf, hb, hl, hc, fun H => ?_, hq, h⟩
    refine Cls.rs ?_ hc H
    rw [hl]; exact hq
theorem PV.fld {f : CV} {fs : List Fld} (h : Cls f (fs.map Fld.c).flatten fs.length 2) (H : Hp) : RS H f (fs.map Fld.c) 2 := by
  refine Cls.rs ?_ (fldCh fs) H
  rw [List.length_map]; exact h

/-- Nothing in it is too long. -/
inductive Lim : Prt → Prop
  | mk {fs : List Fld} {b : Bs} {ps : List Prt} (hf : fs.length ≤ 1000000) (hn : ∀ f ∈ fs, f.n.length ≤ 1000000 ∧ f.v.length ≤ 1000000) (hb : b.length ≤ 1000000) (hp : ps.length ≤ 1000000) (h : ∀ q ∈ ps, Lim q) : Lim (.mk fs b ps)

variable [LayerC]
/-- Are fields too many for a statement, or too long? -/
def grF (l : List Fld) : Prop := 200 < l.length ∨ ∃ i, ∃ h : i < l.length, 200 < l[i].n.length ∨ 5000 < l[i].v.length ∨ (20 < i ∧ 100 < l[i].v.length)
end Go.Proofs.Tryd

/- Walks: trees too great, trees that are the same. -/
namespace Go.Proofs.Tryd
open Go Go.SL
set_option linter.unusedVariables false
set_option linter.unusedSimpArgs false
/-- Is a tree too great for a statement? -/
def grT : Nat → Prt → Prop
  | 0, _ => True
  | n + 1, .mk fs b ps => grF fs ∨ 3000 < b.length ∨ 70 < ps.length ∨ ∃ q ∈ ps, grT n q
variable [LayerC]
end Go.Proofs.Tryd

/- Walks: trees that are the same; a copy. -/
namespace Go.Proofs.Tryd
open Go Go.SL
set_option linter.unusedVariables false
set_option linter.unusedSimpArgs false
/-- Of p it is known when another tree is the same. -/
def SameOK [LayerC] (p : Prt) : Prop := Lim p → ∀ (r : Prt) (m : Nat) (cs ds : List CV) (H : Hp), PV p cs → PV r ds → ∃ b : Bool, (b = true ↔ p = r) ∧ Ret prog cs0 m 8 [.agg cs, .agg ds] H (.v (.bool b)) H
variable [LayerC]
theorem w22 (ps rs : List Prt) (ih : ∀ p ∈ ps, SameOK p) (hlim : ∀ p ∈ ps, Lim p) (hpl : ps.length ≤ 1000000) (m : Nat) (x y : CV) (ch dh : List (List CV)) (H : Hp) (hx : ∀ H, RS H x ch 3) (hy : ∀ H, RS H y dh 3) (hl : ch.length = ps.length) (hl2 : dh.length = rs.length)
    (h1 : ∀ i (h1 : i < ps.length) (h2 : i < ch.length), PV ps[i] ch[i]) (h2 : ∀ i (h1 : i < rs.length) (h2 : i < dh.length), PV rs[i] dh[i]) : ∃ b : Bool, (b = true ↔ ps = rs) ∧ Ret prog cs0 m 16 [x, y] H (.v (.bool b)) H := by
  refine ⟨@decide (ps = rs) (Classical.propDecidable _), by simp, ?_⟩
  unfold Ret
  rw [WC_drop rfl func16 rfl rfl]
  have ux := (hx H).unl
  have uy := (hy H).unl
  have lx := fun H => (hx H).len (P := prog) underlying26
  have ly := fun H => (hy H).len (P := prog) underlying26
  rw [hl] at lx
  rw [hl2] at ly
  by_cases hll : ps.length = rs.length
  · simp -implicitDefEqProofs [f16, ux, uy, lx, ly, hll]
    refine W_up ps.length (fun i fr H' => H' = H ∧ fr 0 = x ∧ fr 1 = y ∧ fr 5 = .v (.int .i64 (i : Nat)) ∧ ps.take i = rs.take i) ?_ 0 _ _ (by omega) (by simp)
    rintro i fr H' hi ⟨rfl, a0, a1, a5, hk⟩
    by_cases hlt : i < ps.length
    · have hw := up64 hlt (by omega)
      have q1 : i < ch.length := by omega
      have q2 : i < dh.length := by omega
      have q3 : i < rs.length := by omega
      have ad1 := fun H => (hx H).addr (P := prog) underlying26 iT28 sT28 .i64 i
      have ad2 := fun H => (hy H).addr (P := prog) underlying26 iT28 sT28 .i64 i
      have la1 := fun H => (hx H).loadAgg (P := prog) underlying28 rfl iT28 sT28 q1
      have la2 := fun H => (hy H).loadAgg (P := prog) underlying28 rfl iT28 sT28 q2
      simp [q1] at ad1
      simp [q2] at ad2
      obtain ⟨b, hb, hw9⟩ := ih _ (List.getElem_mem hlt) (hlim _ (List.getElem_mem hlt)) rs[i] H'.length ch[i] dh[i] H' (h1 i hlt q1) (h2 i q3 q2)
      have c9 := hw9.wc
      simp -implicitDefEqProofs [a0, a1, a5, lx, ux, hlt]
      rw [W_draw _ _ _ _ _ _ followsT (by rfl)]
      cases b with
      | true =>
        simp -implicitDefEqProofs [a0, a1, a5, ux, uy, ad1, ad2, la1, la2, c9, hw]
        rw [take_snoc hlt, take_snoc q3, hk, hb.1 rfl]
      | false =>
        have hne : ¬ ps = rs := by
          rintro rfl
          have := hb.2 rfl
          cases this
        simp -implicitDefEqProofs [a0, a1, a5, ux, uy, ad1, ad2, la1, la2, c9, hne]
    · obtain rfl : i = ps.length := by omega
      rw [List.take_length, hll, List.take_length] at hk
      simp -implicitDefEqProofs [a0, a1, a5, lx, ux, hk]
  · have hne : ¬ ps = rs := fun h => hll (by rw [h])
    simp -implicitDefEqProofs [f16, ux, uy, lx, ly, hll, hne]

theorem w9 (p : Prt) : SameOK p := by
  refine Prt.ind (C := SameOK) ?_ p
  intro fs b ps ih hlim r m cs ds H hp hr
  obtain ⟨f, x, q, ch, rfl, hf, hb, hl, hc, hrs, hq, hch⟩ := hp.inv
  obtain ⟨f2, x2, q2, ch2, rfl, hf2, hb2, hl2, hc2, hrs2, hq2, hch2⟩ := hr.inv
  obtain ⟨gs, d, rs⟩ := r
  simp only [Prt.fs, Prt.b, Prt.ps] at hf hb hl hq hch hf2 hb2 hl2 hq2 hch2
  cases hlim with
  | mk l1 l2 l3 l4 l5 =>
  refine ⟨@decide (Prt.mk fs b ps = Prt.mk gs d rs) (Classical.propDecidable _), by simp, ?_⟩
  unfold Ret
  rw [WC_drop rfl func8 rfl rfl]
  have o1 := hf.one
  have o2 := hb.one
  have o3 := hq.one
  have o4 := hf2.one
  have o5 := hb2.one
  have o6 := hq2.one
  have u1 := hf.unl
  have u2 := hb.unl
  have u3 := hq.unl
  have u4 := hf2.unl
  have u5 := hb2.unl
  have u6 := hq2.unl
  have c21 := fun m H => (w21 m f f2 fs gs H (PV.fld hf _) (PV.fld hf2 _) (by omega)).wc
  have hs1 := fun H => (hb.rb H).str (P := prog) (s := 25) (d := 9) (cs0.of 8).mu underlying25 underlying9 underlying5
  have hs2 := fun H => (hb2.rb H).str (P := prog) (s := 25) (d := 9) (cs0.of 8).mu underlying25 underlying9 underlying5
  rw [mu9] at hs1 hs2
  obtain ⟨bb, hbb, hw22⟩ := w22 ps rs ih l5 l4 H.length q q2 ch ch2 (H ++ [CO.cells 0 [f, x, q] 28, CO.cells 0 [f2, x2, q2] 28]) hrs hrs2 hl hl2 hch hch2
  have c22 := hw22.wc
  by_cases e1 : fs = gs
  · by_cases e2 : b = d
    · cases bb with
      | true =>
        have e3 := hbb.1 rfl
        simp -implicitDefEqProofs [f8, cells_agg, o1, o2, o3, o4, o5, o6, faddr_ptr, underlying28, load_one underlying24 rfl iT24, load_one underlying25 rfl iT25, load_one underlying26 rfl iT26, u1, u2, u3, u4, u5, u6, c21, hs1, hs2, c22, e1, e2, e3]
      | false =>
        have e3 : ¬ ps = rs := fun h => by have := hbb.2 h; cases this
        simp -implicitDefEqProofs [f8, cells_agg, o1, o2, o3, o4, o5, o6, faddr_ptr, underlying28, load_one underlying24 rfl iT24, load_one underlying25 rfl iT25, load_one underlying26 rfl iT26, u1, u2, u3, u4, u5, u6, c21, hs1, hs2, c22, e1, e2, e3]
    · simp -implicitDefEqProofs [f8, cells_agg, o1, o2, o3, o4, o5, o6, faddr_ptr, underlying28, load_one underlying24 rfl iT24, load_one underlying25 rfl iT25, load_one underlying26 rfl iT26, u1, u2, u3, u4, u5, u6, c21, hs1, hs2, e1, e2]
  · simp -implicitDefEqProofs [f8, cells_agg, o1, o2, o3, o4, o5, o6, faddr_ptr, underlying28, load_one underlying24 rfl iT24, load_one underlying25 rfl iT25, load_one underlying26 rfl iT26, u1, u2, u3, u4, u5, u6, c21, hs1, hs2, e1]

end Go.Proofs.Tryd

/- Laws: what a header is written to is one alone; trees of small size; what writing a tree comes to. -/
namespace Go.Proofs.Tryd
open Go Go.SL
set_option linter.unusedVariables false
set_option linter.unusedSimpArgs false

theorem FoldR.det {s : Bs} {f : Nat} {a : List Bs} (h : FoldR s f a) : ∀ {b : List Bs}, FoldR s f b → a = b := by
  induction h with
  | @stop s f h =>
    intro b hb
    cases hb with
    | stop h2 => rfl
    | step h2 hp ho =>
      rcases h with h | h
      · omega
      · exact absurd (PL_uniq h hp) (by simp)
  | @step s f k out h hp ho ih =>
    intro b hb
    cases hb with
    | stop h2 =>
      rcases h2 with h2 | h2
      · omega
      · exact absurd (PL_uniq h2 hp) (by simp)
    | step h2 hp2 ho2 =>
      have := PL_uniq hp hp2
      cases this
      rw [ih ho2]
theorem FoldsR.det {l : List Fld} {a : List Bs} (h : FoldsR l a) : ∀ {b : List Bs}, FoldsR l b → a = b := by
  have key : ∀ {l : List Fld} {b : List Bs}, FoldsR l b → (l = [] ∧ b = []) ∨ ∃ l' f os o, l = l' ++ [f] ∧ b = os ++ o ∧ FoldsR l' os ∧ FoldR (lineF f) (f.n.length + 3) o := by
    intro l b h
    cases h with
    | nil => exact .inl ⟨rfl, rfl⟩
    | snoc h hf => exact .inr ⟨_, _, _, _, rfl, rfl, h, hf⟩
  induction h with
  | nil =>
    intro b hb
    rcases key hb with ⟨_, h⟩ | ⟨l', f, os, o, h, _⟩
    · exact h.symm
    · simp at h
  | @snoc l f o os h hf ih =>
    intro b hb
    rcases key hb with ⟨h, _⟩ | ⟨l', f', os', o', h1, rfl, h2, h3⟩
    · simp at h
    · obtain ⟨rfl, h4⟩ := List.append_inj' h1 rfl
      cases h4
      rw [ih h2, hf.det h3]
theorem WrR.det {l : List Fld} {a b : Option Bs} {e e' : Nat} (h : WrR l a e) (h' : WrR l b e') : a = b ∧ e = e' := by
  cases h with
  | long h =>
    cases h' with
    | long _ => exact ⟨rfl, rfl⟩
    | _ => omega
  | field h f hf hb =>
    cases h' with
    | long _ => omega
    | field => exact ⟨rfl, rfl⟩
    | line _ hb2 => exact absurd (hb2 f hf) hb
    | ok _ hb2 => exact absurd (hb2 f hf) hb
  | line h hb os ho s hs h9 =>
    cases h' with
    | long _ => omega
    | field _ f hf hb2 => exact absurd (hb f hf) hb2
    | line => exact ⟨rfl, rfl⟩
    | ok _ _ os2 ho2 h92 =>
      rw [ho.det ho2] at hs
      have := h92 s hs; omega
  | ok h hb os ho h9 =>
    cases h' with
    | long _ => omega
    | field _ f hf hb2 => exact absurd (hb f hf) hb2
    | line _ _ os2 ho2 s hs h92 =>
      rw [← ho.det ho2] at hs
      have := h9 s hs; omega
    | ok _ _ os2 ho2 => rw [ho.det ho2]; exact ⟨rfl, rfl⟩
open Classical in
/-- A header's text, if it may be written. -/
noncomputable def hdO (l : List Fld) : Option Bs := if h : ∃ b, WrR l (some b) 0 then some h.choose else none
theorem hd_of {l : List Fld} {o : Option Bs} {e : Nat} (h : WrR l o e) : hdO l = o ∧ (e = 0 ↔ o.isSome = true) := by
  have h2 : (e = 0 ↔ o.isSome = true) := by cases h <;> simp
  refine ⟨?_, h2⟩
  unfold hdO
  cases o with
  | some b =>
    have he : e = 0 := h2.2 rfl
    subst he
    have hex : ∃ b, WrR l (some b) 0 := ⟨b, h⟩
    rw [dif_pos hex]
    exact (WrR.det hex.choose_spec h).1
  | none =>
    rw [dif_neg]
    rintro ⟨b, hb⟩
    exact absurd (WrR.det h hb).1 (by simp)
theorem FoldR.len {s : Bs} {f : Nat} {a : List Bs} (h : FoldR s f a) : 1 ≤ f → a.length ≤ s.length + 1 := by
  induction h with
  | stop => intro _; simp
  | @step s f k out h hp ho ih =>
    intro hf
    have := ih (Nat.le_refl 1)
    have h1 := hp.1
    have h2 := hp.2.1
    simp at this ⊢; omega
section
variable [LayerC]
theorem FoldsR.len {l : List Fld} {a : List Bs} (h : FoldsR l a) : (∀ f ∈ l, isName f.n ∧ isVal f.v) → (emit a).length ≤ l.length * 13000 := by
  induction h with
  | nil => intro _; simp [emit]
  | @snoc l f o os h hf ih =>
    intro hb
    have h1 := ih fun g hg => hb g (by simp [hg])
    have h2 := (lineF_len (hb f (by simp))).1
    have h3 := hf.len (by omega)
    have h4 := hf.flat
    rw [emit_app, List.length_append, emit_len o, h4]
    simp only [List.length_append, List.length_singleton]
    omega
theorem hd_len {l : List Fld} {b : Bs} {e : Nat} (h : WrR l (some b) e) : b.length ≤ 2000000 := by
  cases h with
  | ok h hb os ho h9 =>
    have := ho.len hb
    simp [crlf]; omega

end
/-- Trees of small size. -/
inductive Lin : Prt → Prop
  | mk {fs : List Fld} {b : Bs} {ps : List Prt} (hf : fs.length ≤ 1000) (hn : ∀ f ∈ fs, f.n.length ≤ 100000 ∧ f.v.length ≤ 100000) (hb : b.length ≤ 1000000) (hp : ps.length ≤ 100) (h : ∀ q ∈ ps, Lin q) : Lin (.mk fs b ps)
theorem Lin.lim {p : Prt} : Lin p → Lim p := by
  refine Prt.ind (C := fun p => Lin p → Lim p) ?_ p
  intro fs b ps ih h
  cases h with
  | mk h1 h2 h3 h4 h5 => exact .mk (by omega) (fun f hf => ⟨by have := h2 f hf; omega, by have := h2 f hf; omega⟩) (by omega) (by omega) fun q hq => ih q hq (h5 q hq)
def mpart : Bs := [109, 117, 108, 116, 105, 112, 97, 114, 116]
theorem bord_len (ps : List Par) : (bord ps).length ≤ 70 := by
  unfold bord
  split
  · rename_i h; exact h.2
  · simp
noncomputable section
open Classical
mutual
/-- A part's text, as the program writes it, and how many parts were counted. -/
def wrPt : Prt → Nat → Nat → Option Bs × Nat
  | .mk fs b ps, d, c =>
    match hdO fs with
    | none => (none, c + 1)
    | some hd =>
      if (kindO fs).2 ≠ 0 ∨ 8 < d ∨ 64 < c + 1 then (none, c + 1)
      else if (kindO fs).1.t ≠ mpart then (if ps.length = 0 then some (hd ++ b) else none, c + 1)
      else if bord (kindO fs).1.ps = [] ∨ ps.length = 0 ∨ 0 < b.length then (none, c + 1)
      else wrLp ps (bord (kindO fs).1.ps) hd d (c + 1)
def wrLp : List Prt → Bs → Bs → Nat → Nat → Option Bs × Nat
  | [], bo, hd, d, c => (some (hd ++ (dash2 ++ bo ++ dash2 ++ crlf)), c)
  | p :: ps, bo, hd, d, c =>
    match wrPt p (d + 1) c with
    | (none, c2) => (none, c2)
    | (some t, c2) => if begL t (dash2 ++ bo) ∨ 1048576 < hd.length + t.length then (none, c2) else wrLp ps bo (hd ++ (dash2 ++ bo ++ crlf) ++ t ++ crlf) d c2
end
end
end Go.Proofs.Tryd

/- Walks: a tree is written. -/
namespace Go.SL
theorem getL0 {A L : Hp} {n : Nat} (h : A.length = n) : (A ++ L)[n]? = L[0]? := by subst h; simp
theorem getL {A L : Hp} {n i : Nat} (h : A.length = n) : (A ++ L)[n + i]? = L[i]? := by subst h; simp
theorem atL0 {A L : Hp} {n ver : Nat} (h : A.length = n) : cellsAt (A ++ L) n ver = cellsAt L 0 ver := by subst h; simp
theorem atL {A L : Hp} {n i ver : Nat} (h : A.length = n) : cellsAt (A ++ L) (n + i) ver = cellsAt L i ver := by subst h; simp
theorem putL0 {A L : Hp} {n off : Nat} {xs : List CV} (h : A.length = n) : putH (A ++ L) n off xs = A ++ putH L 0 off xs := by subst h; simp
theorem putL {A L : Hp} {n i off : Nat} {xs : List CV} (h : A.length = n) : putH (A ++ L) (n + i) off xs = A ++ putH L i off xs := by subst h; simp
theorem takeL {A L : Hp} {n : Nat} (h : A.length = n) : (A ++ L).take n = A := by subst h; simp
theorem takeLi {A L : Hp} {n i : Nat} (h : A.length = n) : (A ++ L).take (n + i) = A ++ L.take i := by subst h; rw [List.take_length_add_append]
/-- A heap that differs in an old object alone. -/
structure Base (G : Int → Hp) (w n : Nat) (t : TypeId) : Prop where
  lt : w < n
  len : ∀ c, (G c).length = n
  get : ∀ c, (G c)[w]? = some (.cells 0 [.v (.int .i64 c)] t)
  set : ∀ c v, (G c).set w (.cells 0 [.v (.int .i64 v)] t) = G v
theorem Base.mk' {H : Hp} {w : Nat} {t : TypeId} {c : Int} (h : H[w]? = some (.cells 0 [.v (.int .i64 c)] t)) : ∃ G, Base G w H.length t ∧ H = G c := by
  have hl := (List.getElem?_eq_some_iff.1 h).1
  refine ⟨fun v => H.set w (.cells 0 [.v (.int .i64 v)] t), ⟨hl, fun c => by simp, fun c => by simp [hl], fun c v => by simp⟩, ?_⟩
  have := (List.getElem?_eq_some_iff.1 h).2
  simp only [← this]; simp
variable {G : Int → Hp} {w n : Nat} {t : TypeId}
theorem Base.at (b : Base G w n t) (c : Int) (L : Hp) : cellsAt (G c ++ L) w 0 = some [.v (.int .i64 c)] := by
  rw [at_old (by rw [b.len]; exact b.lt)]
  unfold cellsAt; rw [b.get]; simp
theorem Base.put (b : Base G w n t) (c v : Int) (L : Hp) : putH (G c ++ L) w 0 [.v (.int .i64 v)] = G v ++ L := by
  have h1 : w < (G c).length := by rw [b.len]; exact b.lt
  rw [← b.set c v]
  unfold putH
  apply List.ext_getElem?
  intro j
  rw [List.getElem?_modify]
  by_cases e : w = j
  · subst e
    rw [List.getElem?_append_left h1, List.getElem?_append_left (by simpa using h1), b.get, List.getElem?_set_self h1]; simp
  · by_cases hj : j < (G c).length
    · rw [List.getElem?_append_left hj, List.getElem?_append_left (by simpa using hj), List.getElem?_set_ne e]; simp [e]
    · rw [List.getElem?_append_right (by omega), List.getElem?_append_right (by simp; omega)]; simp [e]
theorem Base.get' (b : Base G w n t) (c : Int) (L : Hp) : (G c ++ L)[w]? = some (.cells 0 [.v (.int .i64 c)] t) := by
  rw [List.getElem?_append_left (by rw [b.len]; exact b.lt)]; exact b.get c
theorem Base.set' (b : Base G w n t) (c v : Int) (L : Hp) : (G c ++ L).set w (.cells 0 [.v (.int .i64 v)] t) = G v ++ L := by
  rw [List.set_append_left _ _ (by rw [b.len]; exact b.lt), b.set]
end Go.SL
namespace Go.Proofs.Tryd
open Go Go.SL
set_option linter.unusedVariables false
set_option linter.unusedSimpArgs false

attribute [local congr] WX_stop WC_stop W_stop
/-- What writing a part answers. -/
def wrA (o : Option Bs) (y : CV) : Prop :=
  match o with
  | some t => t.length ≤ 3000000 ∧ ∃ z, CB z t ∧ y = .tup [z, .v (.bool true)]
  | none => ∃ z t, CB z t ∧ y = .tup [z, .v (.bool false)]
theorem kind_par (fs : List Fld) : (kindO fs).1.ps.length ≤ 16 ∧ ∀ p ∈ (kindO fs).1.ps, p.v.length ≤ 256 := by
  have hr : ∀ s k, readK s = some k → k.ps.length ≤ 16 ∧ ∀ p ∈ k.ps, p.v.length ≤ 256 := by
    intro s k h
    unfold readK at h
    split at h
    · split at h
      · obtain ⟨ps, h1, h2⟩ := Option.bind_eq_some_iff.1 h
        split at h2
        · rename_i hk
          cases h2
          exact ⟨hk.2.2.1, fun p hp => ((hk.2.2.2.1 p hp).2).2⟩
        · cases h2
      · cases h
    · cases h
  unfold kindO
  split
  · simp [kText]
  · split
    · rename_i h; exact hr _ _ h
    · simp
  · simp
theorem wrPt_c (p : Prt) : ∀ (d c : Nat) (t : Bs) (c2 : Nat), wrPt p d c = (some t, c2) → c2 ≤ 64 := by
  refine Prt.ind (C := fun p => ∀ (d c : Nat) (t : Bs) (c2 : Nat), wrPt p d c = (some t, c2) → c2 ≤ 64) ?_ p
  intro fs b ps ih d c t c2 h
  have key : ∀ (l : List Prt), (∀ q ∈ l, q ∈ ps) → ∀ (bo hd : Bs) (c : Nat), c ≤ 64 → wrLp l bo hd d c = (some t, c2) → c2 ≤ 64 := by
    intro l
    induction l with
    | nil => intro _ bo hd c hc h; rw [wrLp] at h; cases h; exact hc
    | cons q l ihl =>
      intro hq bo hd c hc h
      rw [wrLp] at h
      split at h
      · cases h
      · rename_i t' c' he
        have hc' := ih q (hq q (by simp)) _ _ _ _ he
        split at h
        · cases h
        · exact ihl (fun r hr => hq r (by simp [hr])) _ _ _ hc' h
  rw [wrPt] at h
  split at h
  · cases h
  · split at h
    · cases h
    · rename_i hn
      have hc : c + 1 ≤ 64 := by omega
      split at h
      · split at h
        · cases h; exact hc
        · cases h
      · split at h
        · cases h
        · exact key ps (fun _ h => h) _ _ _ hc h
theorem u8s_clB (l : Bs) : (u8s l).all clB = true := by simp [u8s]; exact fun _ _ => rfl
variable [LayerC]
set_option maxRecDepth 100000 in
theorem w25 (p : Prt) : Lin p → ∀ (m : Nat) (cs : List CV) (H : Hp) (w d c : Nat), PV p cs → H[w]? = some (.cells 0 [.v (.int .i64 (c : Nat))] 45) → d ≤ 1000 → c ≤ 1000 →
    WC prog cs0 m (.f 13) [.ptr w 0 0, .agg cs, .v (.int .i64 (d : Nat))] H fun y H' => H' = H.set w (.cells 0 [.v (.int .i64 ((wrPt p d c).2 : Nat))] 45) ∧ wrA (wrPt p d c).1 y := by
  refine Prt.ind (C := fun p => Lin p → ∀ (m : Nat) (cs : List CV) (H : Hp) (w d c : Nat), PV p cs → H[w]? = some (.cells 0 [.v (.int .i64 (c : Nat))] 45) → d ≤ 1000 → c ≤ 1000 →
    WC prog cs0 m (.f 13) [.ptr w 0 0, .agg cs, .v (.int .i64 (d : Nat))] H fun y H' => H' = H.set w (.cells 0 [.v (.int .i64 ((wrPt p d c).2 : Nat))] 45) ∧ wrA (wrPt p d c).1 y) ?_ p
  intro fs b ps ih hlin m cs H w d c hpv hw hd hc
  obtain ⟨f, x, q, ch, rfl, hf, hb, hl, hch1, hrs, hq, hch⟩ := hpv.inv
  cases hlin with
  | mk l1 l2 l3 l4 l5 =>
  simp only [Prt.fs, Prt.b, Prt.ps] at hf hb hl hq hch
  obtain ⟨Z, hZ⟩ : ∃ Z, Z = wrPt (.mk fs b ps) d c := ⟨_, rfl⟩
  rw [← hZ]
  obtain ⟨G, hG, hH⟩ := Base.mk' hw
  obtain ⟨K, hK⟩ : ∃ K : CV → Hp → Prop, ∀ y H', K y H' ↔ H' = G (Z.2 : Nat) ∧ wrA Z.1 y := ⟨_, fun _ _ => Iff.rfl⟩
  have hset : ∀ v : Nat, H.set w (.cells 0 [.v (.int .i64 (v : Nat))] 45) = G (v : Nat) := fun v => by rw [hH, hG.set]
  simp only [hset, ← hK]
  rw [WC_drop rfl func13 rfl rfl]
  obtain ⟨n, hn⟩ : ∃ n, n = H.length := ⟨_, rfl⟩
  rw [← hn] at hG ⊢
  rw [hH] at hn ⊢
  clear hH hw hset
  have gl := hG.len
  have a0 := fun c L ver => atL0 (L := L) (ver := ver) (gl c)
  have ai := fun c L ver i => atL (L := L) (ver := ver) (i := i) (gl c)
  have p0 := fun c L off xs => putL0 (L := L) (off := off) (xs := xs) (gl c)
  have pi := fun c L off xs i => putL (L := L) (off := off) (xs := xs) (i := i) (gl c)
  have tk := fun c L => takeL (L := L) (gl c)
  have gat := hG.at
  have gput := hG.put
  have of := hf.one
  have ob := hb.one
  have oq := hq.one
  have uf := hf.unl
  obtain ⟨c1, hc1, hwc⟩ := upJ (i := c) (n := 2000) (by omega) (by omega)
  have h14 := fun L => w14 n f x q fs (G (c1 : Nat) ++ L) (PV.fld hf _) ob oq (by omega) (fun g hg => by have := l2 g hg; omega)
  obtain ⟨kd, hkd⟩ : ∃ kd, kd = kindO fs := ⟨_, rfl⟩
  simp -implicitDefEqProofs [f13, aQ, dAlloc, cells_agg, of, ob, oq, gl, a0, ai, p0, pi, gat, gput, atP, faddr_ptr, underlying45, load_one underlying3 rfl iT3, store_at iT3, hwc, load_aggp underlying28 rfl iT28]
  refine WC_mono (h14 _) ?_
  rintro y H2 ⟨rfl, x', ⟨q', rfl, hk⟩, rfl⟩
  rw [← hkd] at hk ⊢
  obtain ⟨kk, ke⟩ := kd
  obtain ⟨kt, ks, kp⟩ := kk
  simp only at hk
  have oq' := hk.one
  have uq' := hk.unl
  have h41 := fun L => w41 n f fs (G (c1 : Nat) ++ L) (PV.fld hf _) (by omega) (fun g hg => by have := l2 g hg; omega) (by rw [List.length_append, gl]; omega)
  have hkp := kind_par fs
  rw [← hkd] at hkp
  simp only at hkp
  have hz0 := hZ
  rw [wrPt, ← hkd] at hZ
  have hst : ∀ k x off, stQ n (.ptr (n + k) 0 off) x = true := fun k x off => by simp [stQ]
  simp -implicitDefEqProofs [aQ, dAlloc, dExtract, oq', cells_agg, store_at iT56, hst, gl, a0, ai, p0, pi, faddr_ptr, underlying28, underlying56, load_one underlying24 rfl iT24, uf]
  refine WC_mono (h41 _) ?_
  rintro y H2 ⟨o, e, z, hwr, rfl, hz, htk⟩
  obtain ⟨hdo, heo⟩ := hd_of hwr
  rw [hdo] at hZ
  obtain ⟨L, rfl⟩ : ∃ L, H2 = G (c1 : Nat) ++ CO.cells 0 [f, x, q] 28 :: CO.cells 0 [str kt, str ks, q'] 56 :: L := ⟨_, by have := split_at htk; simpa using this⟩
  have hbad : ∀ v, (Z = (none, c + 1)) → (∃ z t, CB z t ∧ v = .tup [z, .v (.bool false)]) → K v (G (c1 : Nat)) := fun v h1 h2 => (hK _ _).2 ⟨by rw [h1, ← hc1], by rw [h1]; exact h2⟩
  have hnil : ∃ z t, CB z t ∧ CV.tup [.v (.slice none 0 0), .v (.bool false)] = .tup [z, .v (.bool false)] := ⟨nilC, [], .inr ⟨rfl, rfl, rfl⟩, rfl⟩
  by_cases hke : ke = 0
  case neg =>
    have hZ1 : Z = (none, c + 1) := by
      rw [hZ]; cases o with
      | none => rfl
      | some hd => simp only []; rw [if_pos (.inl hke)]
    simp -implicitDefEqProofs [dExtract, hke, tk]
    exact hbad _ hZ1 hnil
  subst hke
  cases o with
  | none =>
    have he : ¬ e = 0 := fun h => by have := heo.1 h; cases this
    simp -implicitDefEqProofs [dExtract, he, tk]
    exact hbad _ hZ hnil
  | some hd =>
  obtain rfl : e = 0 := heo.2 rfl
  simp only [] at hZ
  by_cases h8 : 8 < d
  · rw [if_pos (.inr (.inl h8))] at hZ
    simp -implicitDefEqProofs [dExtract, h8, tk]
    exact hbad _ hZ hnil
  by_cases h64 : 64 < c1
  · rw [if_pos (.inr (.inr (by omega)))] at hZ
    simp -implicitDefEqProofs [dExtract, h8, h64, tk, atP, gat, faddr_ptr, underlying45, load_one underlying3 rfl iT3]
    exact hbad _ hZ hnil
  rw [if_neg (by omega)] at hZ
  have hhd := hd_len hwr
  have hgz : GB (n + 2) (G (c1 : Nat) ++ CO.cells 0 [f, x, q] 28 :: CO.cells 0 [str kt, str ks, q'] 56 :: L) z hd := by
    have h2 : (G (c1 : Nat) ++ [CO.cells 0 [f, x, q] 28, CO.cells 0 [str kt, str ks, q'] 56]).length = n + 2 := by simp [gl]
    have h3 : GB _ _ z hd := hz
    rw [h2] at h3; exact h3
  have uz := Grow.unl hgz
  have hfa : ∀ H y, dFieldAddr prog 28 (.ptr n 0 0) 2 H = some y → y = .ptr n 0 2 := fun H y h => by
    rw [faddr_ptr] at h
    simp [underlying28] at h
    cases hc : cellsAt H n 0 with
    | none => simp [hc] at h
    | some cs => simp [hc] at h; exact h.symm
  have hld : ∀ H y, cellsAt H n 0 = some [f, x, q] → dLoad prog 26 (.ptr n 0 2) H = some y → y = q := fun H y h1 h2 => by
    rw [load_one underlying26 rfl iT26, h1] at h2
    simp at h2; exact h2.symm
  by_cases hkt : kt = [109, 117, 108, 116, 105, 112, 97, 114, 116]
  case neg =>
    rw [if_pos (show ¬ kt = mpart from hkt)] at hZ
    simp -implicitDefEqProofs [dExtract, h8, h64, tk, atP, gat, faddr_ptr, underlying45, underlying56, load_one underlying3 rfl iT3, load_one underlying9 rfl iT9, a0, ai, hkt]
    rw [W_drawJ (LJ 4 10 55 59 60 n (n + 2) f x q) [(3, 4), (3, 5), (3, 6), (3, 7)] _ _ _ _ _ _ followsT (by
        refine ⟨by simp [gl], by simp [gl], ?_, ?_, by simp [a0], .inr (by simp), ?_⟩
        · simp [uz]; exact Grow.own hgz
        · simp; intro _ _ _ _ _ h; cases h
        · simp; intro _ _ _ _ _ h; cases h) (by rfl) (by
        intro k o ho
        simp at ho
        rcases ho with rfl | rfl | rfl | rfl | rfl | rfl | rfl | rfl | rfl | rfl
        · exact keep_mv rfl rfl rfl (by decide)
        · exact keep_rd (rd_of rfl) (by decide)
        · exact keep_rd (rd_of rfl) (by decide)
        · exact keep_app (by omega) rfl rfl (by decide)
        · exact keep_fa hfa rfl rfl rfl (by decide)
        · exact keep_ld hq.clS hld rfl rfl rfl (by decide)
        · exact keep_rd (rd_of rfl) (by decide)
        · exact keep_rd (rd_of rfl) (by decide)
        · exact keep_rd (rd_of rfl) (by decide)
        · exact keep_rd (rd_of rfl) (by decide)) (by
        intro k j i oj oi hm h1 h2
        simp at hm
        rcases hm with ⟨rfl, rfl⟩ | ⟨rfl, rfl⟩ | ⟨rfl, rfl⟩ | ⟨rfl, rfl⟩ <;> simp at h1 h2 <;> subst h1 h2
        · exact capp_fa (by omega) (by rfl) rfl rfl rfl rfl rfl
        · exact capp_ld (by omega) (by rfl) rfl rfl rfl rfl rfl
        · exact capp_len (by rfl) rfl rfl rfl rfl rfl
        · exact capp_eql (t := 0) (tx := 0) (b := .tmp 0) (by rfl) rfl rfl rfl)]
    obtain ⟨z2, H3, e1, u2, e2, e3, e4⟩ := hgz.add (tx := 25) (y := x) (by simp [gl]) (RB.src underlying25 (hb.rb _)) (by omega)
    have hap : ∀ y, apQ n z y = true := Grow.ap hgz (by omega)
    obtain ⟨L3, rfl⟩ : ∃ L3, H3 = G (c1 : Nat) ++ CO.cells 0 [f, x, q] 28 :: CO.cells 0 [str kt, str ks, q'] 56 :: L3 := ⟨_, by have := split_at e3; rw [takeLi (gl _)] at this; simpa using this⟩
    have ub := hb.unl
    have uq := hq.unl
    have hlq : dLenS prog 26 q (G (c1 : Nat) ++ CO.cells 0 [f, x, q] 28 :: CO.cells 0 [str kt, str ks, q'] 56 :: L3) = some (.v (.int .i64 (ps.length : Nat))) := by rw [(hrs _).len underlying26, hl]
    obtain ⟨y3, _, k1, _, k2⟩ := Grow.frzV e2 (k := n) (by omega) (u8s_clB _)
    simp -implicitDefEqProofs [uz, gl, a0, faddr_ptr, underlying28, load_one underlying25 rfl iT25, load_one underlying26 rfl iT26, hap, e1, u2, hlq, k1, tk]
    by_cases hps : ps = []
    · subst hps
      rw [if_pos (show ([] : List Prt).length = 0 from rfl)] at hZ
      have e : K (CV.tup [y3, .v (.bool true)]) (G (c1 : Nat)) := (hK _ _).2 ⟨by rw [hZ, ← hc1], by rw [hZ]; exact ⟨by simp; omega, y3, k2, rfl⟩⟩
      simpa using e
    · rw [if_neg (fun h => hps (List.eq_nil_of_length_eq_zero h))] at hZ
      simp only [hps, decide_false]
      exact hbad _ hZ ⟨y3, _, k2, rfl⟩
  rw [if_neg (show ¬ ¬ kt = mpart from fun h => h hkt)] at hZ
  have hkr := fun H => Cls.rs (sz := 2) (ch := kp.map Par.c) (by rw [List.length_map]; exact hk) (parCh kp) H
  have c36 := fun H => (w36 n kt ks kp q' H (hkr H) (by omega) (fun g hg => by have := hkp.2 g hg; omega)).wc
  obtain ⟨bo, hbo⟩ : ∃ bo, bo = bord kp := ⟨_, rfl⟩
  have hbol : bo.length ≤ 70 := by rw [hbo]; exact bord_len kp
  simp only [← hbo] at hZ c36
  have ub := hb.unl
  have uq := hq.unl
  have hlq : ∀ H, dLenS prog 26 q H = some (.v (.int .i64 (ps.length : Nat))) := fun H => by rw [(hrs H).len underlying26, hl]
  have hlx : ∀ H, dLenS prog 25 x H = some (.v (.int .i64 (b.length : Nat))) := fun H => (hb.rb H).len underlying25
  simp -implicitDefEqProofs [dExtract, h8, h64, tk, atP, gat, faddr_ptr, underlying45, underlying56, load_one underlying3 rfl iT3, load_one underlying9 rfl iT9, a0, ai, hkt, load_aggp underlying56 rfl iT56]
  rw [← hkt]
  simp -implicitDefEqProofs [c36]
  by_cases hb0 : bo = []
  · rw [if_pos (.inl hb0)] at hZ
    simp -implicitDefEqProofs [gl, hb0, tk]
    exact hbad _ hZ hnil
  by_cases hp0 : ps.length = 0
  · rw [if_pos (.inr (.inl hp0))] at hZ
    simp -implicitDefEqProofs [gl, hb0, tk, faddr_ptr, underlying28, a0, load_one underlying26 rfl iT26, hlq, hp0, uq]
    exact hbad _ hZ hnil
  by_cases hx0 : 0 < b.length
  · rw [if_pos (.inr (.inr hx0))] at hZ
    simp -implicitDefEqProofs [gl, hb0, tk, faddr_ptr, underlying28, a0, load_one underlying26 rfl iT26, load_one underlying25 rfl iT25, hlq, hlx, hp0, hx0, uq, ub]
    exact hbad _ hZ hnil
  rw [if_neg (by rintro (h | h | h); exact hb0 h; exact hp0 h; exact hx0 h)] at hZ
  simp -implicitDefEqProofs [gl, hb0, tk, faddr_ptr, underlying28, a0, load_one underlying26 rfl iT26, load_one underlying25 rfl iT25, hlq, hlx, hp0, hx0, uq, ub]
  obtain ⟨I, hI⟩ : ∃ I : Nat → Fr → Hp → Prop, ∀ i fr H', I i fr H' ↔ ∃ (c' : Nat) (hd' : Bs) (L' : Hp), H' = G (c' : Nat) ++ CO.cells 0 [f, x, q] 28 :: CO.cells 0 [str kt, str ks, q'] 56 :: L' ∧ fr 0 = .ptr w 0 0 ∧ fr 2 = .v (.int .i64 (d : Nat)) ∧ fr 12 = str bo ∧ fr 80 = q ∧ fr 81 = .v (.int .i64 (ps.length : Nat)) ∧ fr 82 = .v (.int .i64 (i : Nat)) ∧ GB (n + 2) H' (fr 10) hd' ∧ hd'.length ≤ 2000000 ∧ c' ≤ 64 ∧ Z = wrLp (ps.drop i) bo hd' d c' := ⟨_, fun _ _ _ => Iff.rfl⟩
  refine W_mono (W_up (Q := fun e fr H' => (e = .exit 0 ∧ I ps.length fr H') ∨ (e = .ret ∧ ∃ c' L', H' = G c' ++ L' ∧ fr 6 = .v (.slice none 0 0) ∧ fr 7 = .v (.bool false) ∧ K (.tup [.v (.slice none 0 0), .v (.bool false)]) (G c'))) ps.length I ?_ 0 _ _ (by omega) ((hI _ _ _).2 ⟨c1, hd, L, rfl, by simp, by simp, by simp, by simp, by simp, by simp, by simpa [uz] using hgz, hhd, by omega, by rw [hZ, ← hc1]; simp⟩)) ?_
  · intro i fr H' hi hinv
    obtain ⟨c', hd', L', rfl, e0, e2, e12, e80, e81, e82, hg, hhl, hc64, hz2⟩ := (hI _ _ _).1 hinv
    by_cases hlt : i < ps.length
    case neg =>
      obtain rfl : i = ps.length := by omega
      simp -implicitDefEqProofs [e81, e82]
      exact (hI _ _ _).2 ⟨c', hd', L', rfl, by simp [e0], by simp [e2], by simp [e12], by simp [e80], by simp [e81], by simp [e82], by simpa using hg, hhl, hc64, hz2⟩
    have hw := up64 hlt (by omega)
    have hlt2 : i < ch.length := by omega
    have had := fun H => (hrs H).addr (P := prog) underlying26 iT28 sT28 .i64 i
    have hla := fun H => (hrs H).loadAgg (P := prog) underlying28 rfl iT28 sT28 hlt2
    simp [hlt2] at had
    have hdr := List.drop_eq_getElem_cons hlt
    rw [hdr, wrLp] at hz2
    have hpv := hch i hlt hlt2
    obtain ⟨pf, px, pq, pch, hce, g1, g2, -, -, -, g3, -⟩ := hpv.inv
    have o1 := g1.one
    have o2 := g2.one
    have o3 := g3.one
    have h25 := fun L => ih ps[i] (List.getElem_mem hlt) (l5 _ (List.getElem_mem hlt)) n ch[i] (G (c' : Nat) ++ L) w (d + 1) c' hpv (hG.get' _ _) (by omega) (by omega)
    simp only [hce] at hla h25
    obtain ⟨d1, hd1, hwd⟩ := upJ (i := d) (n := 2000) (by omega) (by omega)
    rw [← hd1] at hz2 h25
    simp -implicitDefEqProofs [e0, e2, e80, e81, e82, hlt, had, hla, uq, aQ, dAlloc, hwd, gl, ai, pi, hst, store_at iT28, cells_agg, o1, o2, o3, load_aggp underlying28 rfl iT28]
    refine WC_mono (h25 _) ?_
    rintro y H2 ⟨rfl, hy⟩
    rw [hG.set']
    obtain ⟨r, hr⟩ : ∃ r, r = wrPt ps[i] d1 c' := ⟨_, rfl⟩
    rw [← hr] at hz2 hy ⊢
    obtain ⟨ro, c2⟩ := r
    simp only [] at hz2 hy ⊢
    cases ro with
    | none =>
      obtain ⟨z', t', hcb, rfl⟩ := hy
      simp only [] at hz2
      simp -implicitDefEqProofs [dExtract]
      exact ⟨_, ⟨_, rfl⟩, (hK _ _).2 ⟨by rw [hz2], by rw [hz2]; exact hnil⟩⟩
    | some t =>
      obtain ⟨htl, z', hcb, rfl⟩ := hy
      simp only [] at hz2
      have hc2 := wrPt_c _ _ _ _ _ hr.symm
      have uz' := hcb.unl
      have c42 : ∀ L K, WC prog cs0 n (.f 12) [z', str (45 :: 45 :: bo)] (G (c2 : Nat) ++ L) K ↔ K (.v (.bool (decide (begL t (dash2 ++ bo))))) (G (c2 : Nat) ++ L) := fun L => (w42 n z' t (dash2 ++ bo) (G (c2 : Nat) ++ L) (hcb.rb _) (by omega) (by simp [dash2]; omega)).wc
      have hb2 : 2 + bo.length ≤ 9223372036854775807 := by omega
      have hb3 : 2 + bo.length + 2 ≤ 9223372036854775807 := by omega
      have hb4 : bo.length + 1 + 1 + 2 ≤ 9223372036854775807 := by omega
      by_cases hbg : begL t (dash2 ++ bo)
      · rw [if_pos (.inl hbg)] at hz2
        simp -implicitDefEqProofs [dExtract, e12, uz', hb2, c42, hbg]
        exact ⟨_, ⟨_, rfl⟩, (hK _ _).2 ⟨by rw [hz2], by rw [hz2]; exact hnil⟩⟩
      obtain ⟨hx, hhx⟩ : ∃ hx, hx = fr 10 := ⟨_, rfl⟩
      rw [← hhx] at hg
      have uh := Grow.unl hg
      have hg2 : GB (n + 2) (G (c2 : Nat) ++ CO.cells 0 [f, x, q] 28 :: CO.cells 0 [str kt, str ks, q'] 56 :: (L' ++ [CO.cells 0 [pf, px, pq] 28])) hx hd' := by
        refine Grow.of_obj hg fun j v cc hj hsome => ?_
        obtain ⟨j, rfl⟩ : ∃ k, j = n + (k + 2) := ⟨j - n - 2, by omega⟩
        rw [getL (gl _)] at hsome ⊢
        rw [getL (gl _)]
        simp only [List.getElem?_cons_succ] at hsome ⊢
        rw [List.getElem?_append_left (List.getElem?_eq_some_iff.1 hsome).1]
      have hlh := (Grow.rb hg2).len (P := prog) underlying25
      have hlt' := fun H => (hcb.rb H).len (P := prog) underlying25
      obtain ⟨sm, hsm, hws⟩ : ∃ sm, sm = hd'.length + t.length ∧ IntKind.i64.wrap ((hd'.length : Int) + (t.length : Int)) = (sm : Int) := ⟨_, rfl, wrN (by omega) (by omega)⟩
      rw [← hsm] at hz2
      by_cases hbig : 1048576 < sm
      · rw [if_pos (.inr hbig)] at hz2
        simp -implicitDefEqProofs [dExtract, e12, uz', hb2, c42, hbg, ← hhx, uh, hlh, hlt', hws, hbig]
        exact ⟨_, ⟨_, rfl⟩, (hK _ _).2 ⟨by rw [hz2], by rw [hz2]; exact hnil⟩⟩
      rw [if_neg (by rintro (h | h); exact hbg h; exact hbig h)] at hz2
      have hap : ∀ y, apQ n hx y = true := Grow.ap hg2 (by omega)
      obtain ⟨x2, H3, k1, k2, k3, k4, k5⟩ := hg2.addS (l' := dash2 ++ bo ++ crlf) (by simp [gl]) (by simp [dash2, crlf]; omega)
      obtain ⟨x3, H4, m1, m2, m3, m4, m5⟩ := k3.add (tx := 25) (y := z') k5 (RB.src underlying25 (hcb.rb _)) (by simp [dash2, crlf]; omega)
      obtain ⟨x4, H5, n1, n2, n3, n4, n5⟩ := m3.addS (l' := crlf) m5 (by simp [dash2, crlf]; omega)
      have hap2 : ∀ y, apQ n x2 y = true := Grow.ap k3 (by omega)
      have hap3 : ∀ y, apQ n x3 y = true := Grow.ap m3 (by omega)
      have k1' : dAppend prog 25 9 hx (str (45 :: 45 :: (bo ++ [13, 10]))) (G (c2 : Nat) ++ CO.cells 0 [f, x, q] 28 :: CO.cells 0 [str kt, str ks, q'] 56 :: (L' ++ [CO.cells 0 [pf, px, pq] 28])) = some (x2, H3) := k1
      have n1' : dAppend prog 25 9 x3 (str [13, 10]) H4 = some (x4, H5) := n1
      simp -implicitDefEqProofs [dExtract, e12, e82, uz', hb2, hb3, hb4, c42, hbg, ← hhx, uh, hlh, hlt', hws, hbig, hap, hap2, hap3, k1', m1, n1', k2, m2, n2, hw]
      refine ⟨hlt, (hI _ _ _).2 ⟨c2, hd' ++ (dash2 ++ bo ++ crlf) ++ t ++ crlf, H5.drop (n + 2), ?_, by simp [e0], by simp [e2], by simp [e12], by simp [e80], by simp [e81], by simp, by simpa using n3, by simp [dash2, crlf]; omega, hc2, hz2⟩⟩
      have := split_at (n4.trans (m4.trans k4))
      rw [takeLi (gl _)] at this
      simpa using this
  · rintro e fr H' (⟨rfl, hi⟩ | ⟨rfl, c', L', rfl, h6, h7, hk'⟩)
    · obtain ⟨c', hd', L', rfl, e0, e2, e12, e80, e81, e82, hg, hhl, hc64, hz2⟩ := (hI _ _ _).1 hi
      rw [List.drop_length, wrLp] at hz2
      obtain ⟨hx, hhx⟩ : ∃ hx, hx = fr 10 := ⟨_, rfl⟩
      rw [← hhx] at hg
      have uh := Grow.unl hg
      have hap : ∀ y, apQ n hx y = true := Grow.ap hg (by omega)
      have hb2 : 2 + bo.length ≤ 9223372036854775807 := by omega
      have hb3 : 2 + bo.length + 4 ≤ 9223372036854775807 := by omega
      have hb4 : bo.length + 1 + 1 + 4 ≤ 9223372036854775807 := by omega
      obtain ⟨x2, H3, k1, k2, k3, k4, k5⟩ := hg.addS (l' := dash2 ++ bo ++ dash2 ++ crlf) (by simp [gl]) (by simp [dash2, crlf]; omega)
      have k1' : dAppend prog 25 9 hx (str (45 :: 45 :: (bo ++ [45, 45, 13, 10]))) (G (c' : Nat) ++ CO.cells 0 [f, x, q] 28 :: CO.cells 0 [str kt, str ks, q'] 56 :: L') = some (x2, H3) := by
        rw [← k1]; simp [dash2, crlf]
      obtain ⟨y3, _, f2, _, f4⟩ := Grow.frzV k3 (k := n) (by omega) (u8s_clB _)
      obtain ⟨L3, rfl⟩ : ∃ L3, H3 = G (c' : Nat) ++ CO.cells 0 [f, x, q] 28 :: CO.cells 0 [str kt, str ks, q'] 56 :: L3 := ⟨_, by have := split_at k4; rw [takeLi (gl _)] at this; simpa using this⟩
      simp -implicitDefEqProofs [e12, hb2, hb3, hb4, ← hhx, uh, hap, k1', k2, f2, tk]
      refine (hK _ _).2 ⟨by rw [hz2], ?_⟩
      rw [hz2]; exact ⟨by simp [dash2, crlf]; omega, y3, f4, rfl⟩
    · simp -implicitDefEqProofs [h6, h7, tk]
      exact hk'
end Go.Proofs.Tryd

/- Walks: Write, and the reference's. -/
namespace Go.Proofs.Tryd
open Go Go.SL
set_option linter.unusedVariables false
set_option linter.unusedSimpArgs false
attribute [local congr] WX_stop WC_stop W_stop

/-- What Write answers. -/
def wrW (o : Option Bs) (y : CV) : Prop :=
  match o with
  | some t => t.length ≤ 1048576 ∧ ∃ z, CB z t ∧ y = .tup [z, .v (.int .i64 0)]
  | none => y = .tup [nilC, .v (.int .i64 81)]
def capO (o : Option Bs) : Option Bs := o.bind fun t => if 1048576 < t.length then none else some t
noncomputable def wrP (p : Prt) : Option Bs := capO (wrPt p 1 0).1
/-- How many parts. -/
def cntN : Prt → Nat
  | .mk _ _ ps => cntNL ps + 1
where cntNL : List Prt → Nat
  | [] => 0
  | p :: ps => cntN p + cntNL ps
noncomputable section
open Classical
mutual
/-- A part's text, as the reference writes it. -/
def wrRt : Prt → Option Bs
  | .mk fs b ps =>
    match hdO fs with
    | none => none
    | some hd =>
      if (kindO fs).2 ≠ 0 then none
      else if (kindO fs).1.t ≠ mpart then (if ps.length = 0 then some (hd ++ b) else none)
      else if bord (kindO fs).1.ps = [] ∨ ps.length = 0 ∨ 0 < b.length then none
      else wrRl ps (bord (kindO fs).1.ps) hd
def wrRl : List Prt → Bs → Bs → Option Bs
  | [], bo, hd => some (hd ++ (dash2 ++ bo ++ dash2 ++ crlf))
  | p :: ps, bo, hd =>
    match wrRt p with
    | none => none
    | some t => if begR t (dash2 ++ bo) then none else wrRl ps bo (hd ++ (dash2 ++ bo ++ crlf) ++ t ++ crlf)
end
end
/-- What writing a part answers in the reference. -/
def wrB (o : Option Bs) (k : Nat) (y : CV) : Prop :=
  match o with
  | some t => t.length + 100 ≤ 3100000 * k ∧ ∃ z, CB z t ∧ y = .tup [z, .v (.bool true)]
  | none => ∃ z t, CB z t ∧ y = .tup [z, .v (.bool false)]
theorem cntN_le {ps : List Prt} {p : Prt} (h : p ∈ ps) : cntN p ≤ cntN.cntNL ps := by
  induction ps with
  | nil => cases h
  | cons q ps ih =>
    rw [cntN.cntNL]
    rcases List.mem_cons.1 h with rfl | h
    · omega
    · have := ih h; omega
variable [LayerC]
theorem w12 (p : Prt) (hl : Lin p) (m : Nat) (cs : List CV) (H : Hp) (hp : PV p cs) : WC prog cs0 m (.f 6) [.agg cs] H fun y H' => H' = H ∧ wrW (wrP p) y := by
  obtain ⟨f, x, q, ch, rfl, hf, hb, hcl, hch1, hrs, hq, hch⟩ := hp.inv
  have of := hf.one
  have ob := hb.one
  have oq := hq.one
  rw [WC_drop rfl func6 rfl rfl]
  have h25 := w25 p hl H.length [f, x, q] (H ++ [CO.cells 0 [f, x, q] 28, CO.cells 0 [.v (.int .i64 0)] 45]) (H.length + 1) 1 0 hp (by simp) (by omega) (by omega)
  obtain ⟨Z, hZ⟩ : ∃ Z, Z = wrPt p 1 0 := ⟨_, rfl⟩
  unfold wrP
  rw [← hZ] at h25 ⊢
  have b58 : dBuild prog 45 [] = some (.agg [.v (.int .i64 0)]) := by simp [dBuild, underlying45, places, fillC]
  simp -implicitDefEqProofs [f6, aQ, dAlloc, cells_agg, of, ob, oq, b58, load_aggp underlying28 rfl iT28]
  refine WC_mono h25 ?_
  rintro y H2 ⟨rfl, hy⟩
  obtain ⟨o, c2⟩ := Z
  simp only [] at hy ⊢
  cases o with
  | none =>
    obtain ⟨z, t, hz, rfl⟩ := hy
    have uz := hz.unl
    simp -implicitDefEqProofs [dExtract, uz]
    rfl
  | some t =>
    obtain ⟨htl, z, hz, rfl⟩ := hy
    have uz := hz.unl
    have hlz := fun H => (hz.rb H).len (P := prog) underlying25
    by_cases hbig : 1048576 < t.length
    · simp -implicitDefEqProofs [dExtract, uz, hlz, hbig, capO]
      rfl
    · have hfz := fun H n => (hz.frz H n).2.1
      simp -implicitDefEqProofs [dExtract, uz, hlz, hbig, capO, hfz]
      exact ⟨by omega, z, hz, rfl⟩
/-- What the reference's Write answers. -/
noncomputable def wrR (p : Prt) : Option Bs := if 64 < cntN p ∨ 8 < dep p then none else capO (wrRt p)
section
omit [LayerC]
theorem cntNL_le {ps : List Prt} {M : Nat} (h : ∀ q ∈ ps, cntN q ≤ M) : cntN.cntNL ps ≤ ps.length * M := by
  induction ps with
  | nil => simp [cntN.cntNL]
  | cons q ps ih =>
    have h1 := h q (by simp)
    have h2 := ih fun r hr => h r (by simp [hr])
    rw [cntN.cntNL, List.length_cons, Nat.succ_mul]; omega
theorem cnt_pow (p : Prt) : Lin p → cntN p ≤ 101 ^ dep p := by
  refine Prt.ind (C := fun p => Lin p → cntN p ≤ 101 ^ dep p) ?_ p
  intro fs b ps ih hl
  cases hl with
  | mk h1 h2 h3 h4 h5 =>
    have hd : 1 ≤ dep (.mk fs b ps) := by rw [dep]; exact depL_ge ps 1
    obtain ⟨D, hD⟩ : ∃ D, dep (.mk fs b ps) = D + 1 := ⟨dep (.mk fs b ps) - 1, by omega⟩
    have hq : ∀ q ∈ ps, cntN q ≤ 101 ^ D := by
      intro q hq
      have h6 := ih q hq (h5 q hq)
      have h7 : dep q + 1 ≤ dep (.mk fs b ps) := by rw [dep]; exact depL_mem hq 1
      exact Nat.le_trans h6 (Nat.pow_le_pow_right (by omega) (by omega))
    have h8 := cntNL_le hq
    have h9 : ps.length * 101 ^ D ≤ 100 * 101 ^ D := Nat.mul_le_mul_right _ h4
    have h10 : 0 < 101 ^ D := Nat.pow_pos (by omega)
    rw [hD, cntN, Nat.pow_succ]
    omega
theorem cntW_eq (p : Prt) : Lin p → dep p ≤ 8 → cntW p = (cntN p : Nat) := by
  refine Prt.ind (C := fun p => Lin p → dep p ≤ 8 → cntW p = (cntN p : Nat)) ?_ p
  intro fs b ps ih hl hd
  have hbig := cnt_pow _ hl
  have hbig2 : 101 ^ dep (.mk fs b ps) ≤ 101 ^ 8 := Nat.pow_le_pow_right (by omega) hd
  cases hl with
  | mk h1 h2 h3 h4 h5 =>
    have key : ∀ (l : List Prt), (∀ q ∈ l, q ∈ ps) → ∀ n : Nat, n + cntN.cntNL l ≤ 101 ^ 8 → cntL l (n : Nat) = ((n + cntN.cntNL l : Nat) : Int) := by
      intro l
      induction l with
      | nil => intro _ n _; rw [cntL, cntN.cntNL]; rfl
      | cons q l ihl =>
        intro hq n hn
        rw [cntN.cntNL] at hn ⊢
        have hqm := hq q (by simp)
        have h7 : dep q + 1 ≤ dep (.mk fs b ps) := by rw [dep]; exact depL_mem hqm 1
        have h8 := ih q hqm (h5 q hqm) (by omega)
        have h9 : IntKind.i64.wrap ((n : Int) + (cntN q : Nat)) = ((n + cntN q : Nat) : Int) := wrN (by omega) (by omega)
        rw [cntL, h8, h9, ihl (fun r hr => hq r (by simp [hr])) _ (by omega)]
        omega
    rw [cntW, cntN]
    rw [cntN] at hbig
    have := key ps (fun _ h => h) 1 (by omega)
    rw [show ((1 : Nat) : Int) = 1 from rfl] at this
    rw [this]; omega
end
end Go.Proofs.Tryd

/- Laws: the program's lines, edges and cuts are the reference's. -/
namespace Go.Proofs.Tryd
open Go Go.SL
set_option linter.unusedVariables false

/-- A text of no line's end. -/
def noCr (t : Bs) : Prop := ∀ c ∈ t, c ≠ 13
theorem pre_crlf {t s : Bs} (h : noCr t) : t <+: s ++ crlf ↔ t <+: s := by
  constructor
  · rintro ⟨r, hr⟩
    rcases List.append_eq_append_iff.1 hr with ⟨u, h1, h2⟩ | ⟨u, h1, h2⟩
    · exact ⟨u, h1.symm⟩
    · cases u with
      | nil => rw [List.append_nil] at h1; exact ⟨[], by rw [h1]; simp⟩
      | cons a u =>
        have : a = 13 := by
          simp [crlf] at h2
          exact h2.1.symm
        subst this
        have := h 13 (by rw [h1]; simp)
        exact absurd rfl this
  · rintro ⟨r, hr⟩
    exact ⟨r ++ crlf, by rw [← hr]; simp⟩
theorem beh_crlf {t s : Bs} (h : noCr t) : behind (s ++ crlf) t = behind s t ++ crlf := by
  unfold behind
  by_cases hp : t <+: s
  · rw [if_pos hp, if_pos ((pre_crlf h).2 hp), List.drop_append_of_le_length hp.length_le]
  · rw [if_neg hp, if_neg (fun x => hp ((pre_crlf h).1 x))]
theorem ahead_crlf (s : Bs) : ahead (s ++ crlf) crlf = s := by
  unfold ahead
  rw [if_pos (List.suffix_append s crlf)]
  simp
theorem dash_cr {b : Bs} (hb : noCr b) : noCr (dash2 ++ b) := by
  intro c hc
  rcases List.mem_append.1 hc with h | h
  · simp [dash2] at h; subst h; decide
  · exact hb c h
theorem dash_cr0 : noCr dash2 := by intro c hc; simp [dash2] at hc; subst hc; decide
theorem edge_whole {s b : Bs} (hb : noCr b) : edgeP (s ++ crlf) b = edgeC s b := by
  unfold edgeP edgeC edgeG
  rw [beh_crlf (dash_cr hb), beh_crlf dash_cr0]
  simp only [ahead_crlf]
  have h1 : (dash2 ++ b <+: s ++ crlf) = (dash2 ++ b <+: s) := propext (pre_crlf (dash_cr hb))
  have h2 : (dash2 <+: behind s (dash2 ++ b) ++ crlf) = (dash2 <+: behind s (dash2 ++ b)) := propext (pre_crlf dash_cr0)
  simp only [h1, h2, id]
theorem cr_at {r : Bs} (h : 0 ≤ crIdx r) : pairAt r (crIdx r).toNat := by
  rcases Lib.index_spec r [13, 10] with ⟨h1, _⟩ | ⟨i, h1, _, h3, _⟩
  · unfold crIdx at h; omega
  · have : (crIdx r).toNat = i := by unfold crIdx; omega
    rw [this]; exact (occ_pair r i).1 h3
theorem no_pair {r : Bs} (h : crIdx r < 0) (i : Nat) : ¬ pairAt r i := by
  intro hp
  rcases Lib.index_spec r [13, 10] with ⟨h1, h2⟩ | ⟨i, h1, _, h3, _⟩
  · have hi : i ≤ r.length := by
      rcases Nat.lt_or_ge i r.length with h' | h'
      · omega
      · have := hp.1; rw [List.getElem?_eq_none (by omega)] at this; cases this
    have := h2 i hi
    rw [(occ_pair r i).2 hp] at this; cases this
  · unfold crIdx at h; omega
theorem line_whole {r : Bs} (h : 0 ≤ crIdx r) : r.take (lineN r) = r.take (crIdx r).toNat ++ crlf := by
  have hn : lineN r = (crIdx r).toNat + 2 := by unfold lineN; rw [if_neg (by omega)]
  obtain ⟨h1, h2⟩ := cr_at h
  obtain ⟨k, hk⟩ : ∃ k, k = (crIdx r).toNat := ⟨_, rfl⟩
  rw [← hk] at h1 h2 hn ⊢
  rw [hn, List.take_add_one, List.take_add_one, h1, h2]
  simp [crlf]
theorem ahead_no {x r : Bs} (h : crIdx r < 0) (hs : x <:+ r) : ahead x crlf = x := by
  unfold ahead
  rw [if_neg]
  rintro ⟨u, hu⟩
  obtain ⟨v, hv⟩ := hs
  have : pairAt r (v ++ u).length := by
    rw [← hv, ← hu]
    constructor
    · rw [← List.append_assoc, List.getElem?_append_right (Nat.le_refl _)]; simp [crlf]
    · rw [← List.append_assoc, List.getElem?_append_right (by omega)]; simp [crlf]
  exact no_pair h _ this
theorem behind_sfx (a b : Bs) : behind a b <:+ a := by
  unfold behind; split
  · exact List.drop_suffix _ _
  · exact List.suffix_refl _
theorem edge_last {r b : Bs} (h : crIdx r < 0) : edgeP r b = edgeC r b := by
  unfold edgeP edgeC edgeG
  simp only [ahead_no h ((behind_sfx _ _).trans (behind_sfx _ _))]
  rfl
theorem cut_law {l b : Bs} (hb : noCr b) (r : Bs) : ∀ (p : Nat) (fr : Option Nat) (out : List Bs), cutP l b (linesS r) p fr out = cutG l b (lnS p r) fr out := by
  have key : ∀ n (r : Bs), r.length ≤ n → ∀ (p : Nat) (fr : Option Nat) (out : List Bs), cutP l b (linesS r) p fr out = cutG l b (lnS p r) fr out := by
    intro n
    induction n with
    | zero =>
      intro r hr p fr out
      obtain rfl := List.eq_nil_of_length_eq_zero (by omega : r.length = 0)
      rw [linesS_nil, lnS_nil]; rfl
    | succ n ih =>
      intro r hr p fr out
      by_cases h : r = []
      · subst h; rw [linesS_nil, lnS_nil]; rfl
      have hp := lineN_pos h
      have hle := lineN_le r
      have hll : (r.take (lineN r)).length = lineN r := by simp; omega
      rw [linesS_cons h, cutP_cons, hll]
      by_cases hc : crIdx r < 0
      · have hn : lineN r = r.length := by unfold lineN; rw [if_pos hc]
        rw [lnS_last h hc, hn, List.take_length, List.drop_length, linesS_nil, edge_last hc]
        simp only [cutG, cutP_nil]
        rfl
      · have hc' : 0 ≤ crIdx r := by omega
        rw [lnS_whole hc', line_whole hc', edge_whole hb]
        have hdl : (r.drop (lineN r)).length ≤ n := by have := List.length_pos_iff.2 h; simp; omega
        have hroom := crIdx_room r hc'
        have hnx : nextN ⟨p, r.take (crIdx r).toNat, true⟩ = p + lineN r := by
          unfold nextN lineN
          rw [if_neg hc]; simp; omega
        rw [ih _ hdl, ih _ hdl, cutG, hnx]
        rfl
  exact key _ r (Nat.le_refl _)
theorem beg_law {t b : Bs} (hb : noCr b) : begL t (dash2 ++ b) ↔ begR t (dash2 ++ b) := by
  have key : ∀ n (r : Bs), r.length ≤ n → ∀ p, ((∃ x ∈ linesS r, dash2 ++ b <+: x) ↔ ∃ x ∈ lnS p r, dash2 ++ b <+: x.s) := by
    intro n
    induction n with
    | zero =>
      intro r hr p
      obtain rfl := List.eq_nil_of_length_eq_zero (by omega : r.length = 0)
      rw [linesS_nil, lnS_nil]; simp
    | succ n ih =>
      intro r hr p
      by_cases h : r = []
      · subst h; rw [linesS_nil, lnS_nil]; simp
      have hp := lineN_pos h
      have hle := lineN_le r
      rw [linesS_cons h]
      by_cases hc : crIdx r < 0
      · have hn : lineN r = r.length := by unfold lineN; rw [if_pos hc]
        rw [lnS_last h hc, hn, List.take_length, List.drop_length, linesS_nil]
        simp
      · have hc' : 0 ≤ crIdx r := by omega
        rw [lnS_whole hc', line_whole hc']
        have hdl : (r.drop (lineN r)).length ≤ n := by have := List.length_pos_iff.2 h; simp; omega
        simp only [List.mem_cons, exists_eq_or_imp, pre_crlf (dash_cr hb), ih _ hdl (p + lineN r)]
  exact key _ t (Nat.le_refl _) 0
theorem bord_cr (ps : List Par) : noCr (bord ps) := by
  intro c hc
  unfold bord at hc
  split at hc
  · rename_i h
    have := h.1 c hc
    rintro rfl
    revert this; decide
  · cases hc
end Go.Proofs.Tryd

/- Laws: what the program writes is what the reference writes. -/
namespace Go.Proofs.Tryd
open Go Go.SL
set_option linter.unusedVariables false

theorem depL_le {ps : List Prt} {D d : Nat} (hd : d ≤ D) (h : ∀ q ∈ ps, dep q + 1 ≤ D) : depL ps d ≤ D := by
  induction ps generalizing d with
  | nil => rw [depL]; exact hd
  | cons q ps ih =>
    rw [depL]
    have := h q (by simp)
    exact ih (by omega) fun r hr => h r (by simp [hr])
theorem wrA_law (p : Prt) : ∀ (d c : Nat) (t : Bs) (c2 : Nat), wrPt p d c = (some t, c2) → wrRt p = some t ∧ c2 = c + cntN p ∧ dep p + d ≤ 9 := by
  refine Prt.ind (C := fun p => ∀ (d c : Nat) (t : Bs) (c2 : Nat), wrPt p d c = (some t, c2) → wrRt p = some t ∧ c2 = c + cntN p ∧ dep p + d ≤ 9) ?_ p
  intro fs b ps ih d c t c2 h
  rw [wrPt] at h
  rw [wrRt, cntN]
  cases hh : hdO fs with
  | none => rw [hh] at h; cases h
  | some hd =>
    rw [hh] at h
    simp only [] at h ⊢
    split at h
    · cases h
    · rename_i hn
      have hke : ¬ (kindO fs).2 ≠ 0 := fun x => hn (.inl x)
      rw [if_neg hke]
      split at h
      · rename_i hk
        rw [if_pos hk]
        split at h
        · rename_i hp
          cases h
          rw [if_pos hp]
          have hp0 := List.eq_nil_of_length_eq_zero hp
          subst hp0
          refine ⟨rfl, by rw [cntN.cntNL], ?_⟩
          rw [dep, depL]; omega
        · cases h
      · rename_i hk
        rw [if_neg hk]
        split at h
        · cases h
        · rename_i hb
          rw [if_neg hb]
          have key : ∀ (l : List Prt), (∀ q ∈ l, q ∈ ps) → ∀ (hd : Bs) (c : Nat), wrLp l (bord (kindO fs).1.ps) hd d c = (some t, c2) → wrRl l (bord (kindO fs).1.ps) hd = some t ∧ c2 = c + cntN.cntNL l ∧ ∀ q ∈ l, dep q + (d + 1) ≤ 9 := by
            intro l
            induction l with
            | nil => intro _ hd c h; rw [wrLp] at h; cases h; rw [wrRl, cntN.cntNL]; exact ⟨rfl, rfl, by simp⟩
            | cons q l ihl =>
              intro hq hd c h
              rw [wrLp] at h
              split at h
              · cases h
              · rename_i t' c' he
                obtain ⟨h1, h2, h3⟩ := ih q (hq q (by simp)) _ _ _ _ he
                split at h
                · cases h
                · rename_i hbg
                  have hbg' : ¬ begR t' (dash2 ++ bord (kindO fs).1.ps) := fun x => hbg (.inl ((beg_law (bord_cr _)).2 x))
                  obtain ⟨h4, h5, h6⟩ := ihl (fun r hr => hq r (by simp [hr])) _ _ h
                  rw [wrRl, h1, cntN.cntNL]
                  simp only []
                  rw [if_neg hbg']
                  exact ⟨h4, by omega, fun r hr => by
                    rcases List.mem_cons.1 hr with rfl | hr
                    · exact h3
                    · exact h6 r hr⟩
          obtain ⟨h1, h2, h3⟩ := key ps (fun _ h => h) _ _ h
          refine ⟨h1, by omega, ?_⟩
          have hd8 : d ≤ 8 := by omega
          have : depL ps 1 ≤ 9 - d := depL_le (by omega) fun q hq => by have := h3 q hq; omega
          rw [dep]; omega
theorem wrRl_ge (ps : List Prt) : ∀ (bo hd t : Bs), wrRl ps bo hd = some t → hd.length ≤ t.length := by
  induction ps with
  | nil => intro bo hd t h; rw [wrRl] at h; cases h; simp
  | cons q ps ih =>
    intro bo hd t h
    rw [wrRl] at h
    split at h
    · cases h
    · split at h
      · cases h
      · have := ih _ _ _ h; simp at this; omega
theorem wrB_law (p : Prt) : ∀ (d c : Nat) (t : Bs), dep p + d ≤ 9 → c + cntN p ≤ 64 → wrRt p = some t → t.length ≤ 1048576 → wrPt p d c = (some t, c + cntN p) := by
  refine Prt.ind (C := fun p => ∀ (d c : Nat) (t : Bs), dep p + d ≤ 9 → c + cntN p ≤ 64 → wrRt p = some t → t.length ≤ 1048576 → wrPt p d c = (some t, c + cntN p)) ?_ p
  intro fs b ps ih d c t hd hc h ht
  rw [wrRt] at h
  rw [wrPt]
  have h1 : 1 ≤ dep (.mk fs b ps) := by rw [dep]; exact depL_ge ps 1
  rw [cntN] at hc ⊢
  cases hh : hdO fs with
  | none => rw [hh] at h; cases h
  | some hd' =>
    rw [hh] at h
    simp only [] at h ⊢
    split at h
    · cases h
    · rename_i hke
      rw [if_neg (by rintro (x | x | x); exact hke x; omega; omega)]
      split at h
      · rename_i hk
        rw [if_pos hk]
        split at h
        · rename_i hp
          cases h
          rw [if_pos hp]
          have hp0 := List.eq_nil_of_length_eq_zero hp
          subst hp0
          rw [cntN.cntNL]
        · cases h
      · rename_i hk
        rw [if_neg hk]
        split at h
        · cases h
        · rename_i hb
          rw [if_neg hb]
          have key : ∀ (l : List Prt), (∀ q ∈ l, q ∈ ps) → ∀ (hd' : Bs) (c : Nat), c + cntN.cntNL l ≤ 64 → wrRl l (bord (kindO fs).1.ps) hd' = some t → wrLp l (bord (kindO fs).1.ps) hd' d c = (some t, c + cntN.cntNL l) := by
            intro l
            induction l with
            | nil => intro _ hd' c _ h; rw [wrRl] at h; cases h; rw [wrLp, cntN.cntNL]; rfl
            | cons q l ihl =>
              intro hq hd' c hc h
              rw [wrRl] at h
              rw [cntN.cntNL] at hc ⊢
              split at h
              · cases h
              · rename_i t' he
                split at h
                · cases h
                · rename_i hbg
                  have hge := wrRl_ge _ _ _ _ h
                  simp at hge
                  have hqm := hq q (by simp)
                  have hdq : dep q + 1 ≤ dep (.mk fs b ps) := by rw [dep]; exact depL_mem hqm 1
                  have h2 := ih q hqm (d + 1) c t' (by omega) (by omega) he (by omega)
                  rw [wrLp, h2]
                  simp only []
                  rw [if_neg (by rintro (x | x); exact hbg ((beg_law (bord_cr _)).1 x); omega), ihl (fun r hr => hq r (by simp [hr])) _ _ (by omega) h]
                  congr 1; omega
          rw [key ps (fun _ h => h) _ _ (by omega) h]
          congr 1; omega
/-- The program's Write is the reference's. -/
theorem wr_law (p : Prt) : wrP p = wrR p := by
  unfold wrP wrR capO
  by_cases hlim : 64 < cntN p ∨ 8 < dep p
  · rw [if_pos hlim]
    cases h : wrPt p 1 0 with
    | mk o c2 =>
      cases o with
      | none => rfl
      | some t =>
        obtain ⟨_, h2, h3⟩ := wrA_law p 1 0 t c2 h
        have := wrPt_c p 1 0 t c2 h
        omega
  · rw [if_neg hlim]
    cases h : wrRt p with
    | none =>
      cases h2 : wrPt p 1 0 with
      | mk o c2 =>
        cases o with
        | none => rfl
        | some t =>
          have := (wrA_law p 1 0 t c2 h2).1
          rw [h] at this; cases this
    | some t =>
      by_cases ht : 1048576 < t.length
      · simp only [Option.bind_some, if_pos ht]
        cases h2 : wrPt p 1 0 with
        | mk o c2 =>
          cases o with
          | none => rfl
          | some t' =>
            have := (wrA_law p 1 0 t' c2 h2).1
            rw [h] at this; cases this
            simp only [Option.bind_some, if_pos ht]
      · rw [wrB_law p 1 0 t (by omega) (by omega) h (by omega)]
end Go.Proofs.Tryd

/- Laws: what reading a tree comes to. -/
namespace Go.SL
/-- Bytes stay, where only a count differs. -/
theorem Base.rb {G : Int → Hp} {w n : Nat} {t : TypeId} (b : Base G w n t) {c : Int} (c' : Int) {x : CV} {l : Bs} (h : RB (G c) x l) : RB (G c') x l := by
  rcases h with h | h | ⟨id, ver, off, cs, rfl, hc, ht, ho⟩
  · exact .inl h
  · exact .inr (.inl h)
  · by_cases e : id = w
    · subst e
      have h1 := b.get c
      unfold cellsAt at hc
      rw [h1] at hc
      simp only [] at hc
      split at hc
      · rename_i hv
        cases hc
        subst hv
        cases l with
        | nil =>
          refine .inr (.inr ⟨id, 0, off, [.v (.int .i64 c')], rfl, ?_, by simp, by simpa using ho⟩)
          unfold cellsAt; rw [b.get]; simp
        | cons a l =>
          have h0 : off = 0 := by
            have : (a :: l).length = l.length + 1 := rfl
            have : [CV.v (Value.int .i64 c)].length = 1 := rfl
            omega
          subst h0
          simp [u8s] at ht
      · cases hc
    · have hs := b.set c c'
      have : cellsAt (G c') id ver = cellsAt (G c) id ver := by
        unfold cellsAt; rw [← hs, List.getElem?_set_ne (fun h => e h.symm)]
      exact .inr (.inr ⟨id, ver, off, cs, rfl, by rw [this]; exact hc, ht, ho⟩)
end Go.SL
namespace Go.Proofs.Tryd
open Go Go.SL
set_option linter.unusedVariables false

/-- Texts are read one by one. -/
def rdL (f : Bs → Nat → (Int ⊕ Prt) × Nat) : List Bs → Nat → List Prt → (Int ⊕ List Prt) × Nat
  | [], c, acc => (.inr acc, c)
  | t :: ts, c, acc =>
    match f t c with
    | (.inl e, c2) => (.inl e, c2)
    | (.inr p, c2) => rdL f ts c2 (acc ++ [p])
/-- A knot of what was read. -/
def finR (l : List Fld) : (Int ⊕ List Prt) × Nat → (Int ⊕ Prt) × Nat
  | (.inl e, c) => (.inl e, c)
  | (.inr ps, c) => (.inr (.mk l [] ps), c)
/-- A part is read; so many levels may be below it. -/
def rdP : Nat → Bs → Nat → (Int ⊕ Prt) × Nat
  | k, b, c =>
    if 64 < c + 1 then (.inl 81, c + 1) else
    match hdrG b.length (lnS 0 b) [] none with
    | .bad _ _ => (.inl 50, c + 1)
    | .ok l n =>
      if (kindO l).2 ≠ 0 then (.inl (kindO l).2, c + 1) else
      if (kindO l).1.t ≠ mpart then (.inr (.mk l (b.drop n) []), c + 1) else
      if bord (kindO l).1.ps = [] then (.inl 81, c + 1) else
      match cutG (b.drop n) (bord (kindO l).1.ps) (lnS 0 (b.drop n)) none [] with
      | none => (.inl 81, c + 1)
      | some ts =>
        if ts.length = 0 then (.inl 81, c + 1) else
        match k with
        | 0 => (.inl 80, c + 1)
        | k + 1 =>
          finR l (rdL (rdP k) ts (c + 1) [])
/-- Fields that may be written. -/
def FOK (l : List Fld) : Prop := l.length ≤ 128 ∧ ∀ f ∈ l, isName f.n ∧ isVal f.v
theorem FOK.nil : FOK [] := ⟨by simp, by simp⟩
def OOK : Option Opn → Prop
  | none => True
  | some o => isName o.n
theorem shut_ok {l l' : List Fld} {o : Option Opn} (hl : FOK l) (ho : OOK o) (h : shutG l o = some l') : FOK l' := by
  unfold shutG at h
  split at h
  · cases h; exact hl
  · split at h
    · rename_i hv
      cases h
      refine ⟨by simp; omega, fun f hf => ?_⟩
      rcases List.mem_append.1 hf with hf | hf
      · exact hl.2 f hf
      · simp at hf; subst hf; exact ⟨ho, hv.1⟩
    · cases h
theorem hdrG_ok {n N : Nat} (ls : List Ln) : ∀ (l : List Fld) (o : Option Opn) (l' : List Fld) (k : Nat), (∀ x ∈ ls, x.w = true → x.a + 2 ≤ N) → FOK l → OOK o → hdrG n ls l o = .ok l' k → k ≤ N ∧ FOK l' := by
  induction ls with
  | nil => intro l o l' k _ _ _ h; rw [hdrG_nil] at h; cases h
  | cons x xs ih =>
    intro l o l' k hx hl ho h
    have hxs : ∀ y ∈ xs, y.w = true → y.a + 2 ≤ N := fun y hy => hx y (by simp [hy])
    cases hw : x.w with
    | false => rw [hdrG_short hw] at h; cases h
    | true =>
      by_cases h9 : 998 < x.s.length
      · rw [hdrG_long hw h9] at h; cases h
      by_cases hb : (x.s.head?.map blankC) = some true
      · cases o with
        | none => rw [hdrG_b0 hw h9 hb] at h; cases h
        | some o => rw [hdrG_b1 hw h9 hb] at h; exact ih _ _ _ _ hxs hl (by exact ho) h
      · cases hs : shutG l o with
        | none =>
          cases o with
          | none => simp [shutG] at hs
          | some o => rw [hdrG_sh hw h9 hb hs] at h; cases h
        | some l2 =>
          have hl2 := shut_ok hl ho hs
          by_cases he : x.s = []
          · rw [hdrG_end hw he hs] at h
            cases h
            exact ⟨hx x (by simp) hw, hl2⟩
          · by_cases h6 : (headT x.s 58).length = x.s.length ∨ ¬ isName (headT x.s 58)
            · rw [hdrG_bad hw h9 hb hs he h6] at h; cases h
            · rw [hdrG_open hw h9 hb hs he h6] at h
              exact ih _ _ _ _ hxs hl2 (by have := not_or.1 h6; exact Classical.not_not.1 this.2) h
theorem hdrG_code {n : Nat} (ls : List Ln) : ∀ (l : List Fld) (o : Option Opn) (a c : Nat), hdrG n ls l o = .bad a c → c ≠ 0 := by
  induction ls with
  | nil => intro l o a c h; rw [hdrG_nil] at h; cases h; omega
  | cons x xs ih =>
    intro l o a c h
    cases hw : x.w with
    | false => rw [hdrG_short hw] at h; cases h; omega
    | true =>
      by_cases h9 : 998 < x.s.length
      · rw [hdrG_long hw h9] at h; cases h; omega
      by_cases hb : (x.s.head?.map blankC) = some true
      · cases o with
        | none => rw [hdrG_b0 hw h9 hb] at h; cases h; omega
        | some o => rw [hdrG_b1 hw h9 hb] at h; exact ih _ _ _ _ h
      · cases hs : shutG l o with
        | none =>
          cases o with
          | none => simp [shutG] at hs
          | some o => rw [hdrG_sh hw h9 hb hs] at h; cases h; omega
        | some l2 =>
          by_cases he : x.s = []
          · rw [hdrG_end hw he hs] at h; cases h
          · by_cases h6 : (headT x.s 58).length = x.s.length ∨ ¬ isName (headT x.s 58)
            · rw [hdrG_bad hw h9 hb hs he h6] at h; cases h; omega
            · rw [hdrG_open hw h9 hb hs he h6] at h; exact ih _ _ _ _ h
theorem hdr_ok {b : Bs} {l : List Fld} {n : Nat} (h : hdrG b.length (lnS 0 b) [] none = .ok l n) : n ≤ b.length ∧ FOK l :=
  hdrG_ok (N := b.length) _ _ none _ _ (fun x hx hw => by have := lnS_room 0 b x hx; rw [hw] at this; simp at this; omega) FOK.nil trivial h
theorem hdr_code {b : Bs} {a c : Nat} (h : hdrG b.length (lnS 0 b) [] none = .bad a c) : c ≠ 0 := hdrG_code _ _ _ _ _ h
/-- The texts of a cut are no longer than what is cut, and not too many. -/
theorem cutG_len {l b : Bs} (ls : List Ln) : ∀ (fr : Option Nat) (out ts : List Bs), (∀ t ∈ out, t.length ≤ l.length) → cutG l b ls fr out = some ts → (∀ t ∈ ts, t.length ≤ l.length) ∧ ts.length ≤ out.length + ls.length := by
  have ho : ∀ (x : Ln) (fr : Option Nat) (out : List Bs), (∀ t ∈ out, t.length ≤ l.length) → (∀ t ∈ outN l x fr out, t.length ≤ l.length) ∧ (outN l x fr out).length ≤ out.length + 1 := by
    intro x fr out h
    unfold outN
    cases fr with
    | none => exact ⟨h, by simp⟩
    | some f =>
      refine ⟨fun t ht => ?_, by simp⟩
      rcases List.mem_append.1 ht with ht | ht
      · exact h t ht
      · simp at ht; subst ht; simp; omega
  induction ls with
  | nil => intro fr out ts _ h; rw [cutG] at h; cases h
  | cons x xs ih =>
    intro fr out ts h1 h
    rw [cutG] at h
    obtain ⟨h2, h3⟩ := ho x fr out h1
    split at h
    · have := ih _ _ _ h1 h; exact ⟨this.1, by simp; omega⟩
    · split at h
      · cases h; exact ⟨h2, by simp; omega⟩
      · have := ih _ _ _ h2 h; exact ⟨this.1, by simp; omega⟩
/-- The count, behind reading. -/
theorem rdP_c (k : Nat) : ∀ (b : Bs) (c : Nat), c ≤ 64 → c + 1 ≤ (rdP k b c).2 ∧ (rdP k b c).2 ≤ 65 ∧ ((∃ p, (rdP k b c).1 = .inr p) → (rdP k b c).2 ≤ 64) := by
  induction k with
  | zero =>
    intro b c hc
    rw [rdP]
    split
    · simp; omega
    split
    · simp; omega
    split
    · simp; omega
    split
    · simp; omega
    split
    · simp; omega
    split
    · simp; omega
    split
    · simp; omega
    · simp; omega
  | succ k ih =>
    intro b c hc
    have key : ∀ (ts : List Bs) (c : Nat) (acc : List Prt), c ≤ 64 → c ≤ (rdL (rdP k) ts c acc).2 ∧ (rdL (rdP k) ts c acc).2 ≤ 65 ∧ ((∃ p, (rdL (rdP k) ts c acc).1 = .inr p) → (rdL (rdP k) ts c acc).2 ≤ 64) := by
      intro ts
      induction ts with
      | nil => intro c acc hc; rw [rdL]; simp; omega
      | cons t ts iht =>
        intro c acc hc
        rw [rdL]
        obtain ⟨h1, h2, h3⟩ := ih t c hc
        split
        · rename_i e c2 he; rw [he] at h1 h2; simp only [] at h1 h2; simp; omega
        · rename_i p c2 he
          rw [he] at h1 h2 h3
          simp only [] at h1 h2 h3
          have h4 := h3 ⟨p, rfl⟩
          obtain ⟨h5, h6, h7⟩ := iht c2 (acc ++ [p]) h4
          exact ⟨by omega, h6, h7⟩
    rw [rdP]
    split
    · simp; omega
    rename_i hc1
    split
    · simp; omega
    split
    · simp; omega
    split
    · simp; omega
    split
    · simp; omega
    split
    · simp; omega
    split
    · simp; omega
    · rename_i ts _ _
      obtain ⟨h1, h2, h3⟩ := key ts (c + 1) [] (by omega)
      simp only []
      obtain ⟨r, hr⟩ : ∃ r, r = rdL (rdP k) ts (c + 1) [] := ⟨_, rfl⟩
      rw [← hr] at h1 h2 h3 ⊢
      obtain ⟨r, c2⟩ := r
      simp only [] at h1 h2 h3
      cases r with
      | inl e => simp [finR]; omega
      | inr ps => exact ⟨by simp [finR]; omega, by simpa [finR] using h2, fun _ => by simpa [finR] using h3 ⟨ps, rfl⟩⟩
end Go.Proofs.Tryd

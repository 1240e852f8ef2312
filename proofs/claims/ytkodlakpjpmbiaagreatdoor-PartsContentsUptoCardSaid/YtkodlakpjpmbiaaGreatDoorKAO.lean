/- Walks: the reference's Find. -/
import Derived.Test.YtkodlakpjpmbiaaGreatDoorKAN
import Derived.Test.YtkodlakpjpmbiaaGreatDoorKAL
import Derived.Test.YtkodlakpjpmbiaaGreatDoorKAM
import Derived.Test.YtkodlakpjpmbiaaGreatDoorKAK
import Derived.Test.YtkodlakpjpmbiaaGreatDoorRows
import Derived.JoinedCond

set_option linter.all false

namespace Go.Proofs.Tryz
open Go Go.SL
set_option linter.unusedVariables false
set_option linter.unusedSimpArgs false
attribute [local congr] WX_stop WC_stop W_stop
section
theorem PVs.join {ps qs : List Prt} {ch ch' : List (List CV)} (h : PVs ps ch) (h' : PVs qs ch') : PVs (ps ++ qs) (ch ++ ch') := by
  refine ⟨by simp [h.1, h'.1], fun c hc => ?_, fun i h1 h2 => ?_⟩
  · rcases List.mem_append.1 hc with hc | hc
    · exact h.2.1 c hc
    · exact h'.2.1 c hc
  · by_cases hi : i < ps.length
    · have hi2 : i < ch.length := by rw [h.1]; exact hi
      rw [List.getElem_append_left hi, List.getElem_append_left hi2]
      exact h.2.2 i hi hi2
    · have hi2 : ¬ i < ch.length := by rw [h.1]; exact hi
      simp only [List.length_append] at h1 h2
      rw [List.getElem_append_right (by omega), List.getElem_append_right (by omega)]
      have : i - ch.length = i - ps.length := by rw [h.1]
      have h3 := h'.2.2 (i - ps.length) (by omega) (by rw [h'.1]; omega)
      simp only [this]
      exact h3
theorem chunks_len {sz : Nat} : ∀ (ch : List (List CV)), Chunks ch sz → ch.flatten.length = ch.length * sz := by
  intro ch
  induction ch with
  | nil => intro _; simp
  | cons c ch ih =>
    intro h
    rw [List.flatten_cons, List.length_append, ih fun d hd => h d (by simp [hd]), h c (by simp), List.length_cons, Nat.add_mul]; omega
theorem findL_join (s : Bs) (a b : List Prt) : findS.findL s (a ++ b) = findS.findL s a ++ findS.findL s b := by
  induction a with
  | nil => rfl
  | cons p a ih => rw [List.cons_append, findS.findL, findS.findL, ih, List.append_assoc]
theorem findL_cnt (s : Bs) (ps : List Prt) : (findS.findL s ps).length ≤ cntN.cntNL ps := by
  induction ps with
  | nil => simp [findS.findL]
  | cons p ps ih => rw [findS.findL, cntN.cntNL, List.length_append]; have := find_cnt s p; omega
theorem split2 {A H2 : Hp} {o1 o2 : CO} {L : Hp} (h : H2.take (A.length + 2) = (A ++ o1 :: o2 :: L).take (A.length + 2)) : ∃ L2, H2 = A ++ o1 :: o2 :: L2 := by
  refine ⟨H2.drop (A.length + 2), ?_⟩
  have h6 : (A ++ o1 :: o2 :: L).take (A.length + 2) = A ++ [o1, o2] := by rw [List.take_append, List.take_of_length_le (by omega)]; simp
  rw [h6] at h
  conv => lhs; rw [← List.take_append_drop (A.length + 2) H2, h]
  simp
end
variable [LayerC]
set_option maxRecDepth 100000 in
set_option maxHeartbeats 2000000 in
theorem c11 (hL : LayerC.b = true) (s : Bs) (hs : s.length ≤ 1000000) (p : Prt) : Lim p → cntN p ≤ 100000 → ∀ (m : Nat) (cs : List CV) (H : Hp), PV p cs → WC prog cs0 m (.f 11) [.agg cs, str s] H fun y H' => H' = H ∧ fndV (findS s p) y := by
  refine Prt.ind (C := fun p => Lim p → cntN p ≤ 100000 → ∀ (m : Nat) (cs : List CV) (H : Hp), PV p cs → WC prog cs0 m (.f 11) [.agg cs, str s] H fun y H' => H' = H ∧ fndV (findS s p) y) ?_ p
  intro fs b ps ih hlim hcn m cs H hpv
  have hpv0 := hpv
  obtain ⟨f, x, q, ch, rfl, hf, hb, hl, hc, hrs, hq, hch⟩ := hpv.inv
  cases hlim with
  | mk l1 l2 l3 l4 l5 =>
  simp only [Prt.fs, Prt.b, Prt.ps] at hf hb hl hch hq
  rw [WC_drop rfl func11 rfl rfl]
  have of := hf.one
  have ob := hb.one
  have oq := hq.one
  have uq := hq.unl
  obtain ⟨Z, hZ⟩ : ∃ Z, Z = findS s (.mk fs b ps) := ⟨_, rfl⟩
  rw [← hZ]
  rw [findS] at hZ
  have h15 := fun H => w15 hL H.length f x q fs H (PV.fld hf _) ob oq (by omega) (fun g hg => by have := l2 g hg; omega)
  obtain ⟨kd, hkd⟩ : ∃ kd, kd = kindO fs := ⟨_, rfl⟩
  rw [← hkd] at hZ
  have hst : ∀ k x off, stQ H.length (.ptr (H.length + k) 0 off) x = true := fun k x off => by simp [stQ]
  simp -implicitDefEqProofs [f11, aQ, dAlloc, cells_agg, of, ob, oq, load_aggp underlying26 rfl iT26]
  refine WC_mono (w15 hL _ f x q fs _ (PV.fld hf _) ob oq (by omega) (fun g hg => by have := l2 g hg; omega)) ?_
  rintro y H2 ⟨rfl, x', ⟨q', rfl, hk⟩, rfl⟩
  have hkts := kind_ts fs
  rw [← hkd] at hk hkts ⊢
  obtain ⟨kk, ke⟩ := kd
  obtain ⟨kt, ks, kp⟩ := kk
  simp only at hk hZ hkts
  have oq' := hk.one
  have uq' := hk.unl
  by_cases hke : ke = 0
  case neg =>
    rw [if_pos hke] at hZ
    simp -implicitDefEqProofs [aQ, dAlloc, dExtract, cells_agg, oq', store_at iT55, hst, hke]
    rw [hZ]; exact ⟨[], PVs.nil, .inr ⟨rfl, rfl, rfl⟩⟩
  subst hke
  rw [if_neg (by simp)] at hZ
  obtain ⟨hkt1, hks1⟩ := hkts rfl
  by_cases hkt : kt = [109, 117, 108, 116, 105, 112, 97, 114, 116]
  case neg =>
    rw [if_neg (show ¬ kt = mpart from hkt)] at hZ
    have hl1 : kt.length + 1 ≤ 9223372036854775807 := by omega
    have hl2 : kt.length + 1 + ks.length ≤ 9223372036854775807 := by omega
    by_cases hks : kt ++ 47 :: ks = s
    case neg =>
      rw [if_neg hks] at hZ
      simp -implicitDefEqProofs [aQ, dAlloc, dExtract, cells_agg, oq', store_at iT55, hst, faddr_ptr, underlying55, load_one underlying9 rfl iT9, hkt, load_aggp underlying55 rfl iT55, hl1, hl2, hks]
      rw [hZ]; exact ⟨[], PVs.nil, .inr ⟨rfl, rfl, rfl⟩⟩
    rw [if_pos hks] at hZ
    obtain ⟨q1, q2, q3⟩ := hpv0.clo
    have hmk := fun H => mkA1 (P := prog) (t := 24) (cs := [f, x, q]) underlying24 (by rw [underlying26]; rfl) iT26 zT26 rfl sT26 (by omega) (by omega) q3 q2 q1 H
    have g0 : Grow (H.length + 2) (H ++ [CO.cells 0 [f, x, q] 26, CO.cells 0 [str kt, str ks, q'] 55]) nilC [] 0 3 26 := Grow.nil _ _ _ _
    obtain ⟨x2, H3, e1, e2, e3, e4, e5⟩ := Grow.append (P := prog) (t := 24) (tx := 24) (y := .im [f, x, q] 1 3) (cs' := [f, x, q]) (n' := 1) underlying24 iT26 zT26 rfl sT26 (by omega) (by simp) g0 (by simp [dSrc, underlying24, atS]) rfl (by decide) (by omega)
    obtain ⟨L2, rfl⟩ := split2 (L := []) e3
    have u2 := e2.unl
    obtain ⟨y3, f1, f2, f3, f4⟩ := Grow.frzV e2 (k := H.length) (by omega) (by simpa using q1)
    simp -implicitDefEqProofs [aQ, dAlloc, dExtract, cells_agg, oq', store_at iT55, hst, faddr_ptr, underlying55, load_one underlying9 rfl iT9, hkt, load_aggp underlying55 rfl iT55, load_aggp underlying26 rfl iT26, hl1, hl2, hks, hmk, apQ, e1, u2, f1, f2, f3]
    rw [hZ]
    exact ⟨[[f, x, q]], PVs.nil.snoc hpv0, f4⟩
  have hkt' := eq_true hkt
  rw [if_pos (show kt = mpart from hkt)] at hZ
  have hlen : ∀ H, dLenS prog 24 q H = some (.v (.int .i64 ps.length)) := fun H => by rw [(hrs H).len underlying24, hl]
  simp -implicitDefEqProofs [aQ, dAlloc, dExtract, cells_agg, oq', store_at iT55, hst, faddr_ptr, underlying55, load_one underlying9 rfl iT9, hkt', load_aggp underlying55 rfl iT55]
  obtain ⟨I, hI⟩ : ∃ I : Nat → Fr → Hp → Prop, ∀ i fr H', I i fr H' ↔ ∃ z L acch, H' = H ++ CO.cells 0 [f, x, q] 26 :: CO.cells 0 [str kt, str ks, q'] 55 :: L ∧ PVs (findS.findL s (ps.take i)) acch ∧ Grow (H.length + 2) H' z acch.flatten acch.length 3 26 ∧ fr 1 = str s ∧ fr 2 = .ptr H.length 0 0 ∧ fr 5 = z ∧ fr 8 = .v (.int .i64 (i : Nat)) := ⟨_, fun _ _ _ => Iff.rfl⟩
  refine W_up ps.length I ?_ 0 _ _ (by omega) ((hI _ _ _).2 ⟨nilC, [], [], rfl, by simpa [findS.findL] using PVs.nil, Grow.nil _ _ _ _, by simp⟩)
  intro i fr H' hi hinv
  obtain ⟨z, L, acch, rfl, hacc, hg, a1, a2, a5, a8⟩ := (hI _ _ _).1 hinv
  have uz := hg.unl
  have hap : ∀ y, apQ H.length z y = true := fun y => Grow.ap hg (by omega) y
  have hcnt := findL_cnt s ps
  have hcn' : cntN.cntNL ps + 1 ≤ 100000 := hcn
  by_cases hlt : i < ps.length
  · have hw := up64 hlt (by omega)
    have hlt2 : i < ch.length := by omega
    have had := fun H => (hrs H).addr (P := prog) underlying24 iT26 sT26 .i64 i
    have hla := fun H => (hrs H).loadAgg (P := prog) underlying26 rfl iT26 sT26 hlt2
    simp [hlt2] at had
    have hcl := cntN_le (List.getElem_mem hlt)
    simp -implicitDefEqProofs [a1, a2, a5, a8, uz, uq, hlen, hlt, faddr_ptr, underlying26, load_one underlying24 rfl iT24, had, hla]
    refine WC_mono (ih ps[i] (List.getElem_mem hlt) (l5 _ (List.getElem_mem hlt)) (by omega) _ ch[i] _ (hch i hlt hlt2)) ?_
    rintro y H2 ⟨rfl, ch2, hpv2, hcl2⟩
    have uy := hcl2.unl
    have hts : ps.take (i + 1) = ps.take i ++ [ps[i]] := take_snoc hlt
    have hj : findS.findL s (ps.take (i + 1)) = findS.findL s (ps.take i) ++ findS s ps[i] := by
      rw [hts, findL_join]; simp [findS.findL]
    have hall : findS.findL s ps = findS.findL s (ps.take (i + 1)) ++ findS.findL s (ps.drop (i + 1)) := by rw [← findL_join, List.take_append_drop]
    have hbnd : acch.length + ch2.length ≤ 100000 := by
      have h1 := congrArg List.length hall
      rw [hj] at h1
      simp only [List.length_append] at h1
      rw [hacc.1, hpv2.1]; omega
    have hsrc : dSrc prog (H ++ CO.cells 0 [f, x, q] 26 :: CO.cells 0 [str kt, str ks, q'] 55 :: L) 24 3 y = some (ch2.flatten, ch2.length) := RS.src underlying24 (hcl2.rs hpv2.2.1 _)
    obtain ⟨x2, H3, e1, e2, e3, e4, e5⟩ := Grow.append (P := prog) (t := 24) (tx := 24) (y := y) (cs' := ch2.flatten) (n' := ch2.length) underlying24 iT26 zT26 rfl sT26 (by omega) (by simp) hg hsrc (chunks_len ch2 hpv2.2.1) (by rw [bT26]; omega) (by omega)
    obtain ⟨L2, rfl⟩ := split2 e3
    have u2 := e2.unl
    simp -implicitDefEqProofs [a1, a2, a5, a8, uz, uy, hap, e1, u2, hw]
    refine ⟨hlt, (hI _ _ _).2 ⟨x2, L2, acch ++ ch2, rfl, ?_, ?_, ?_⟩⟩
    · rw [hj]; exact hacc.join hpv2
    · rw [List.flatten_append, List.length_append]; exact e2
    · simp [a1, a2]
  · obtain rfl : i = ps.length := by omega
    rw [List.take_length, ← hZ] at hacc
    obtain ⟨y3, f1, f2, f3, f4⟩ := Grow.frzV hg (k := H.length) (by omega) hacc.clB
    simp -implicitDefEqProofs [a1, a2, a5, a8, uz, uq, hlen, faddr_ptr, underlying26, load_one underlying24 rfl iT24, f1, f2, f3]
    exact ⟨acch, hacc, f4⟩
end Go.Proofs.Tryz

/- Walks: the statement on contents. -/
namespace Go.Proofs.Tryz
open Go Go.SL
set_option linter.unusedVariables false
set_option linter.unusedSimpArgs false
attribute [local congr] WX_stop WC_stop W_stop
section
theorem act_or {P : Program} {cfg : Cfg} {ce : CallE} {m : Nat} {ops : Array Oper} {o : Oper} {fr : Fr} {H : Hp} {y : CV × Hp} (h : actX P cfg ce m ops o fr H = some y) : y = (.tup [], H) ∨ opX P cfg ce m fr (oldC fr o.dst) H o.op = some y := by
  unfold actX at h
  obtain ⟨b, _, h⟩ := Option.bind_eq_some_iff.1 h
  cases b with
  | true => exact .inr h
  | false => simp at h; exact .inl h.symm
theorem WC_of {P : Program} {cs : Cfgs} {m : Nat} {tg : Tg} {args : List CV} {H : Hp} {K : CV → Hp → Prop} (h : WC P cs m tg args H K) {k : Nat} {r : CV × Hp} (hr : evCall P cs k m tg args H = some r) : K r.1 r.2 := by
  obtain ⟨k2, r2, h2, hK⟩ := h
  have h3 := evCall_mono (P := P) (cs := cs) (Nat.le_max_left k k2) _ _ _ _ _ hr
  have h4 := evCall_mono (P := P) (cs := cs) (Nat.le_max_right k k2) _ _ _ _ _ h2
  rw [h3] at h4
  cases h4
  exact hK
/-- Parts are counted without going round. -/
theorem cntL_num (ps : List Prt) (ih : ∀ q ∈ ps, cntN q ≤ 1000000000 → cntW q = (cntN q : Nat)) : ∀ n : Nat, n + cntN.cntNL ps ≤ 1000000000 → cntL ps (n : Nat) = ((n + cntN.cntNL ps : Nat) : Int) := by
  induction ps with
  | nil => intro n h; simp [cntL, cntN.cntNL]
  | cons p ps ihl =>
    intro n h
    rw [cntN.cntNL] at h ⊢
    rw [cntL, ih p (by simp) (by omega)]
    have hw : IntKind.i64.wrap ((n : Int) + (cntN p : Nat)) = ((n + cntN p : Nat) : Int) := wrN (by omega) (by omega)
    rw [hw, ihl (fun q hq => ih q (by simp [hq])) _ (by omega)]
    congr 1; omega
theorem cntW_num (p : Prt) : cntN p ≤ 1000000000 → cntW p = (cntN p : Nat) := by
  refine Prt.ind (C := fun p => cntN p ≤ 1000000000 → cntW p = (cntN p : Nat)) ?_ p
  intro fs b ps ih h
  rw [cntN] at h ⊢
  rw [cntW]
  have := cntL_num ps ih 1 (by omega)
  rw [show ((1 : Nat) : Int) = 1 from rfl] at this
  rw [this]; congr 1; omega
theorem contV_val {o : Option Bs} {y : CV} (h : contV o y) : ∃ z, y = .tup [z, .v (.int .i64 (if o.isSome = true then 0 else 82))] ∧ CB z (o.getD []) := by
  cases o with
  | none => exact ⟨nilC, h, .inr ⟨rfl, rfl, rfl⟩⟩
  | some b => obtain ⟨z, hz, rfl⟩ := h; exact ⟨z, rfl, hz⟩
theorem findS_lim (s : Bs) (p : Prt) : Lim p → ∀ q ∈ findS s p, Lim q := by
  refine Prt.ind (C := fun p => Lim p → ∀ q ∈ findS s p, Lim q) ?_ p
  intro fs b ps ih hl q hq
  rw [findS] at hq
  split at hq
  · cases hq
  · split at hq
    · cases hl with
      | mk l1 l2 l3 l4 l5 =>
      have key : ∀ l : List Prt, (∀ r ∈ l, r ∈ ps) → ∀ q ∈ findS.findL s l, Lim q := by
        intro l
        induction l with
        | nil => intro _ q hq; cases hq
        | cons r l ihl =>
          intro hm q hq
          rw [findS.findL] at hq
          rcases List.mem_append.1 hq with hq | hq
          · exact ih r (hm r (by simp)) (l5 r (hm r (by simp))) q hq
          · exact ihl (fun t ht => hm t (by simp [ht])) q hq
      exact key ps (fun _ h => h) q hq
    · split at hq
      · rw [List.mem_singleton] at hq; subst hq; exact hl
      · cases hq
end
variable [LayerC]
theorem c9 (ps : List Prt) (hlim : ∀ p ∈ ps, Lim p) (hpl : ps.length ≤ 1000000) (m : Nat) (x y : CV) (H : Hp) (hx : fndV ps x) (hy : fndV ps y) : Ret prog cs0 m 9 [x, y] H (.v (.bool true)) H := by
  obtain ⟨ch, hp1, hc1⟩ := hx
  obtain ⟨dh, hp2, hc2⟩ := hy
  obtain ⟨b, hb, h⟩ := w22 ps ps (fun p _ => w9 p) hlim hpl m x y ch dh H (fun H => Cls.rs hc1 hp1.2.1 H) (fun H => Cls.rs hc2 hp2.2.1 H) hp1.1 hp2.1 hp1.2.2 hp2.2.2
  rw [hb.2 rfl] at h; exact h
theorem c9x (ps rs : List Prt) (hlim : ∀ p ∈ ps, Lim p) (hpl : ps.length ≤ 1000000) (m : Nat) (x y : CV) (H : Hp) (hx : fndV ps x) (hy : fndV rs y) : ∃ b : Bool, Ret prog cs0 m 9 [x, y] H (.v (.bool b)) H := by
  obtain ⟨ch, hp1, hc1⟩ := hx
  obtain ⟨dh, hp2, hc2⟩ := hy
  obtain ⟨b, hb, h⟩ := w22 ps rs (fun p _ => w9 p) hlim hpl m x y ch dh H (fun H => Cls.rs hc1 hp1.2.1 H) (fun H => Cls.rs hc2 hp2.2.1 H) hp1.1 hp2.1 hp1.2.2 hp2.2.2
  exact ⟨b, h⟩
theorem tup_no : cvCells (.tup []) = none := rfl
theorem c10_no (m : Nat) (y : CV) (K : CV → Hp → Prop) (H : Hp) : ¬ WC prog cs0 m (.f 10) [.tup [], y] H K := by
  rw [WC_drop rfl func10 rfl rfl]
  simp -implicitDefEqProofs [f10, tup_no]
theorem c10_no2 (m : Nat) (cs : List CV) (hc : cvCells (.agg cs) = some cs) (K : CV → Hp → Prop) (H : Hp) : ¬ WC prog cs0 m (.f 10) [.agg cs, .tup []] H K := by
  rw [WC_drop rfl func10 rfl rfl]
  simp -implicitDefEqProofs [f10, tup_no, hc]
theorem c11_no (m : Nat) (y : CV) (K : CV → Hp → Prop) (H : Hp) : ¬ WC prog cs0 m (.f 11) [.tup [], y] H K := by
  rw [WC_drop rfl func11 rfl rfl]
  simp -implicitDefEqProofs [f11, tup_no]
theorem len_tup24 (H : Hp) : dLenS prog 24 (.tup []) H = none := by simp [dLenS, dLen, underlying24]
theorem len_tup27 (H : Hp) : dLenS prog 27 (.tup []) H = none := by simp [dLenS, dLen, underlying27]
theorem c9_no (m : Nat) (y : CV) (K : CV → Hp → Prop) (H : Hp) : ¬ WC prog cs0 m (.f 9) [.tup [], y] H K := by
  rw [WC_drop rfl func9 rfl rfl]
  simp -implicitDefEqProofs [f9, len_tup24]
theorem c9_no2 (m : Nat) (x : CV) (ch : List (List CV)) (hx : ∀ H, RS H x ch 3) (K : CV → Hp → Prop) (H : Hp) : ¬ WC prog cs0 m (.f 9) [x, .tup []] H K := by
  rw [WC_drop rfl func9 rfl rfl]
  have ux := (hx H).unl
  have hlen : ∀ H, dLenS prog 24 x H = some (.v (.int .i64 ch.length)) := fun H => (hx H).len underlying24
  simp -implicitDefEqProofs [f9, len_tup24, ux, hlen]
theorem c12_no (m : Nat) (K : CV → Hp → Prop) (H : Hp) : ¬ WC prog cs0 m (.f 12) [.tup []] H K := by
  rw [WC_drop rfl func12 rfl rfl]
  have h11 := fun m H => (k11 m 0 H (by omega)).wc
  have h0c : ((0 : Nat) : Int) = 0 := rfl
  rw [h0c] at h11
  have hd : (1 : Nat) + (Lib.decDigits 0).length ≤ 9223372036854775807 := by have := dd_len 0; omega
  simp -implicitDefEqProofs [f12]
  rw [W_loop]
  simp -implicitDefEqProofs [h11, hd, len_tup27]
theorem c13_no (m : Nat) (K : CV → Hp → Prop) (H : Hp) : ¬ WC prog cs0 m (.f 13) [.tup []] H K := by
  rw [WC_drop rfl func13 rfl rfl]
  simp -implicitDefEqProofs [f13]
  rw [W_loop]
  simp -implicitDefEqProofs [len_tup27]
theorem WC_both {P : Program} {cs : Cfgs} {m : Nat} {tg : Tg} {args : List CV} {H : Hp} {K K2 : CV → Hp → Prop} (h : WC P cs m tg args H K) (h2 : WC P cs m tg args H K2) : ∃ y H2, K y H2 ∧ K2 y H2 := by
  obtain ⟨k, r, hr, hK⟩ := h
  exact ⟨r.1, r.2, hK, WC_of h2 hr⟩
theorem W_down {x : Cx} {c : Code} {Q : Ex → Fr → Hp → Prop} (n : Nat) (I : Nat → Fr → Hp → Prop) (step : ∀ i fr H, i < n → I i fr H → W x (.loop c) fr H Q → ∃ fr' H', I (i + 1) fr' H' ∧ W x (.loop c) fr' H' Q) :
    ∀ (j i : Nat) fr H, j = n - i → i ≤ n → I i fr H → W x (.loop c) fr H Q → ∃ fr' H', I n fr' H' ∧ W x (.loop c) fr' H' Q := by
  intro j
  induction j with
  | zero => intro i fr H hj hi h0 h; obtain rfl : i = n := by omega
            exact ⟨fr, H, h0, h⟩
  | succ j ih =>
    intro i fr H hj hi h0 h
    obtain ⟨fr', H', h1, h2⟩ := step i fr H (by omega) h0 h
    exact ih (i + 1) fr' H' (by omega) (by omega) h1 h2
theorem app_nil (H : Hp) : dAppend prog 24 24 nilC nilC H = some (nilC, H) := by
  simp [dAppend, underlying24, dSrc, atS]
set_option maxRecDepth 100000 in
set_option maxHeartbeats 2000000 in
theorem c11_tup (hL : LayerC.b = true) (p : Prt) : Lim p → ∀ (m : Nat) (cs : List CV) (H : Hp) (K : CV → Hp → Prop), PV p cs → WC prog cs0 m (.f 11) [.agg cs, .tup []] H K → K nilC H := by
  refine Prt.ind (C := fun p => Lim p → ∀ (m : Nat) (cs : List CV) (H : Hp) (K : CV → Hp → Prop), PV p cs → WC prog cs0 m (.f 11) [.agg cs, .tup []] H K → K nilC H) ?_ p
  intro fs b ps ih hlim m cs H K hpv h
  obtain ⟨f, x, q, ch, rfl, hf, hb, hl, hc, hrs, hq, hch⟩ := hpv.inv
  cases hlim with
  | mk l1 l2 l3 l4 l5 =>
  simp only [Prt.fs, Prt.b, Prt.ps] at hf hb hl hch hq
  rw [WC_drop rfl func11 rfl rfl] at h
  have of := hf.one
  have ob := hb.one
  have oq := hq.one
  have uq := hq.unl
  have hst : ∀ k x off, stQ H.length (.ptr (H.length + k) 0 off) x = true := fun k x off => by simp [stQ]
  simp -implicitDefEqProofs [f11, aQ, dAlloc, cells_agg, of, ob, oq, load_aggp underlying26 rfl iT26] at h
  obtain ⟨y, H2, h, rfl, x', ⟨q', rfl, hk⟩, rfl⟩ := WC_both h (w15 hL _ f x q fs _ (PV.fld hf _) ob oq (by omega) (fun g hg => by have := l2 g hg; omega))
  obtain ⟨kd, hkd⟩ : ∃ kd, kd = kindO fs := ⟨_, rfl⟩
  have hkts := kind_ts fs
  rw [← hkd] at hk h hkts
  obtain ⟨kk, ke⟩ := kd
  obtain ⟨kt, ks, kp⟩ := kk
  simp only at hk h hkts
  have oq' := hk.one
  by_cases hke : ke = 0
  case neg =>
    simp -implicitDefEqProofs [aQ, dAlloc, dExtract, cells_agg, oq', store_at iT55, hst, hke] at h
    exact h
  subst hke
  obtain ⟨hkt1, hks1⟩ := hkts rfl
  by_cases hkt : kt = [109, 117, 108, 116, 105, 112, 97, 114, 116]
  case neg =>
    have hl1 : kt.length + 1 ≤ 9223372036854775807 := by omega
    have hl2 : kt.length + 1 + ks.length ≤ 9223372036854775807 := by omega
    have hno : ∀ a H, dBin prog .eql 9 (str a) (.tup []) H = none := fun a H => rfl
    simp -implicitDefEqProofs [aQ, dAlloc, dExtract, cells_agg, oq', store_at iT55, hst, faddr_ptr, underlying55, load_one underlying9 rfl iT9, hkt, load_aggp underlying55 rfl iT55, hl1, hl2, hno] at h
  have hkt' := eq_true hkt
  have hlen : ∀ H, dLenS prog 24 q H = some (.v (.int .i64 ps.length)) := fun H => by rw [(hrs H).len underlying24, hl]
  simp -implicitDefEqProofs [aQ, dAlloc, dExtract, cells_agg, oq', store_at iT55, hst, faddr_ptr, underlying55, load_one underlying9 rfl iT9, hkt', load_aggp underlying55 rfl iT55] at h
  obtain ⟨fr', H', hI, h⟩ := W_down ps.length (fun i fr H' => H' = H ++ [CO.cells 0 [f, x, q] 26, CO.cells 0 [str kt, str ks, q'] 55] ∧ fr 1 = .tup [] ∧ fr 2 = .ptr H.length 0 0 ∧ fr 5 = nilC ∧ fr 8 = .v (.int .i64 (i : Nat))) (fun i fr H' hlt hI h => by
    obtain ⟨rfl, a1, a2, a5, a8⟩ := hI
    rw [W_loop] at h
    have hw := up64 hlt (by omega)
    have hlt2 : i < ch.length := by omega
    have had := fun H => (hrs H).addr (P := prog) underlying24 iT26 sT26 .i64 i
    have hla := fun H => (hrs H).loadAgg (P := prog) underlying26 rfl iT26 sT26 hlt2
    simp [hlt2] at had
    have un : unlit (.tup []) = .tup [] := rfl
    simp -implicitDefEqProofs [a1, a2, a5, a8, uq, un, hlen, hlt, faddr_ptr, underlying26, load_one underlying24 rfl iT24, had, hla] at h
    have h2 := ih ps[i] (List.getElem_mem hlt) (l5 _ (List.getElem_mem hlt)) _ ch[i] _ _ (hch i hlt hlt2) h
    have h3 := app_nil
    simp -implicitDefEqProofs [a1, a2, a5, a8, h3, apQ, hw] at h2
    exact ⟨_, _, ⟨rfl, by simp [a1], by simp [a2], by simp, by simp⟩, h2⟩) ps.length 0 _ _ (by omega) (by omega) (by simp) h
  obtain ⟨rfl, a1, a2, a5, a8⟩ := hI
  rw [W_loop] at h
  simp -implicitDefEqProofs [a1, a2, a5, a8, uq, hlen, faddr_ptr, underlying26, load_one underlying24 rfl iT24] at h
  exact h
/-- What the slots of the last region hold. -/
def gd (cs : List CV) (s : Bs) (x : CV) (n : Nat) (Z : List Prt) (t : Nat) (v : CV) : Prop :=
  match t with
  | 1 => v = str s
  | 2 => v = x
  | 3 => v = .ptr n 0 0
  | 67 => v = .tup [] ∨ v = .agg cs
  | 68 => v = .tup [] ∨ v = str s
  | 70 => v = .tup [] ∨ v = .agg cs
  | 71 => v = .tup [] ∨ v = str s
  | 69 => v = .tup [] ∨ fndV Z v
  | 72 => v = .tup [] ∨ ∃ Z', fndV Z' v
  | 76 => v = .tup [] ∨ v = x
  | 78 => v = .tup [] ∨ v = x
  | _ => True
theorem keep_gd {cs : List CV} {s : Bs} {x : CV} {n0 : Nat} {Z : List Prt} {H1 : Hp} {P : Program} {cfg : Cfg} {ce : CallE} {m n : Nat} {ops : Array Oper} {o : Oper} (hop : ∀ fr y, (∀ t, gd cs s x n0 Z t (fr t)) → actX P cfg ce m ops o fr H1 = some y → y.2 = H1 ∧ ∀ d, o.dst = some d → gd cs s x n0 Z d y.1) : KeepJ (fun fr H2 => H2 = H1 ∧ ∀ t, gd cs s x n0 Z t (fr t)) P cfg ce m n ops o := by
  rintro fr H0 s0 ⟨rfl, hv⟩ hs
  obtain ⟨y, h1, h2⟩ := step_inv hs
  obtain ⟨g1, g2⟩ := hop fr _ hv h1
  refine ⟨g1, fun t => ?_⟩
  rw [h2]
  split
  · rename_i hd; exact g2 t hd
  · exact hv t
set_option maxRecDepth 100000 in
set_option maxHeartbeats 2000000 in
theorem c3 (hL : LayerC.b = true) (p : Prt) (s : Bs) (x : CV) (ys : List CV) (bs : List Bs) (m : Nat) (cs : List CV) (H : Hp) (hp : PV p cs) (hcnt : cntN p ≤ 1048576) (hx : ∀ H, RS H x (ys.map fun y => [y]) 1) (hl : ys.length = bs.length) (hy : ∀ i (h1 : i < ys.length) (h2 : i < bs.length), CB ys[i] bs[i]) :
    Ret prog cs0 m 3 [.agg cs, str s, x] H (.v (.bool true)) H := by
  have hp0 := hp
  have hone := hp.clo.2.1
  unfold Ret
  rw [WC_drop rfl func3 rfl rfl]
  have c6 := fun H2 => (w5 H.length H2).wc
  have ux := (hx H).unl
  have hlen : ∀ H, dLenS prog 27 x H = some (.v (.int .i64 (ys.length : Nat))) := fun H => by
    have := (hx H).len (P := prog) underlying27
    rwa [List.length_map] at this
  obtain ⟨g, hg, h10⟩ := w10 12 (by omega) p H.length cs (H ++ [CO.cells 0 cs 26]) hp0
  have c4 : ∀ K, WC prog cs0 H.length (.f 4) [.agg cs, .v (.int .i64 12)] (H ++ [CO.cells 0 cs 26]) K ↔ K (.v (.bool g)) (H ++ [CO.cells 0 cs 26]) := h10.wc
  have hcl := hp.clo.2.2
  have hlb : ∀ K : Hp, dLoad prog 26 (.ptr H.length 0 0) (H ++ CO.cells 0 cs 26 :: K) = some (.agg cs) := fun K => by
    rw [load_aggp underlying26 rfl iT26, sT26]
    simp [hcl]
    rw [← hcl, List.take_length]
  cases g with
  | true =>
    simp -implicitDefEqProofs [f3, cells_agg, hone, hlb, c4, c6]
  | false =>
  have hng : ¬ grT 12 p := fun h => by have := hg.2 h; cases this
  obtain ⟨hlin, hdep⟩ := not_great 12 p hng
  have h11 := w11 H.length p 80 cs (H ++ [CO.cells 0 cs 26]) hlin.lim (by omega) hp0
  have c5 := h11.wc
  by_cases hfew : cntW p ≤ 80
  case neg =>
    simp -implicitDefEqProofs [f3, cells_agg, hone, hlb, c4, c5, c6, hfew]
  rw [cntW_num p (by omega)] at hfew
  have hcn : cntN p ≤ 80 := by omega
  rw [cntW_num p (by omega)] at c5
  have hls := len_str (P := prog) underlying9
  by_cases hs2 : 200 < s.length
  · simp -implicitDefEqProofs [f3, cells_agg, hone, hlb, c4, c5, c6, hfew, hls, hs2]
  by_cases h30 : 30 < ys.length
  · simp -implicitDefEqProofs [f3, cells_agg, hone, hlb, c4, c5, c6, hfew, hls, hs2, ux, hlen, h30]
  simp -implicitDefEqProofs [f3, cells_agg, hone, hlb, c4, c5, c6, hfew, hls, hs2, ux, hlen, h30]
  obtain ⟨I, hI⟩ : ∃ I : Nat → Fr → Hp → Prop, ∀ i fr H', I i fr H' ↔ H' = H ++ [CO.cells 0 cs 26] ∧ fr 1 = str s ∧ fr 2 = x ∧ fr 3 = .ptr H.length 0 0 ∧ fr 7 = .v (.int .i64 (i : Nat)) ∧ (∀ j, ∀ h : j < bs.length, j < i → bs[j].length ≤ 200) ∧ fr 67 = .tup [] ∧ fr 68 = .tup [] ∧ fr 69 = .tup [] ∧ fr 70 = .tup [] ∧ fr 71 = .tup [] ∧ fr 72 = .tup [] ∧ fr 76 = .tup [] ∧ fr 78 = .tup [] := ⟨_, fun _ _ _ => Iff.rfl⟩
  refine W_up ys.length I ?_ 0 _ _ (by omega) ((hI _ _ _).2 (by simp))
  intro i fr H' hi h
  obtain ⟨rfl, a1, a2, a3, a7, hsm, z67, z68, z69, z70, z71, z72, z76, z78⟩ := (hI _ _ _).1 h
  by_cases hlt : i < ys.length
  · have hib : i < bs.length := by omega
    have hw := up64 (i := i) (n := ys.length) hlt (by omega)
    have had : ∀ H, dIndexAddr prog 27 x (.v (.int .i64 (i : Nat))) H = some (adrC x i) := fun H => by rw [(hx H).addr underlying27 iT23 sT23]; simp [hlt]
    have hld : ∀ H, dLoad prog 23 (adrC x i) H = some ys[i] := fun H => by rw [(hx H).load1 underlying23 rfl iT23 (by simpa using hlt) (by omega)]; simp
    have hyi := hy i hlt hib
    have uy := hyi.unl
    have hyl : ∀ H, dLenS prog 23 ys[i] H = some (.v (.int .i64 (bs[i].length : Nat))) := fun H => (hyi.rb H).len (P := prog) underlying23
    by_cases hbig : 200 < bs[i].length
    · simp -implicitDefEqProofs [a1, a2, a3, a7, ux, hlen, hlt, had, hld, uy, hyl, hbig, c6]
    simp -implicitDefEqProofs [a1, a2, a3, a7, ux, hlen, hlt, had, hld, uy, hyl, hbig, hw]
    refine (hI _ _ _).2 ⟨rfl, by simp [a1], by simp [a2], by simp [a3], by simp, fun j h1 h2 => ?_, by simp [z67, z68, z69, z70, z71, z72, z76, z78]⟩
    by_cases hj : j = i
    · subst hj; omega
    · exact hsm j h1 (by omega)
  obtain rfl : i = ys.length := by omega
  have hsm' : ∀ b ∈ bs, b.length ≤ 200 := fun b hb => by
    obtain ⟨j, hj, rfl⟩ := List.getElem_of_mem hb
    exact hsm j hj (by omega)
  simp -implicitDefEqProofs [a1, a2, a3, a7, ux, hlen, hlb]
  refine WC_mono (e14 _ p cs _ hp hlin.lim) ?_
  rintro y1 H2 ⟨e2, hy1⟩
  rw [e2]
  clear e2 H2
  obtain ⟨z1, rfl, hz1⟩ := contV_val hy1
  have u1 := hz1.unl
  obtain ⟨n, hn⟩ : ∃ n : Int, n = if (contR p).isSome = true then 0 else 82 := ⟨_, rfl⟩
  obtain ⟨t, ht⟩ : ∃ t, t = (contR p).getD [] := ⟨_, rfl⟩
  rw [← ht] at hz1
  rw [← hn]
  simp -implicitDefEqProofs [dExtract, u1, a3, hlb]
  refine WC_mono (c8 _ p cs _ hp hlin.lim) ?_
  rintro y2 H2 ⟨e2, hy2⟩
  rw [e2]
  clear e2 H2
  obtain ⟨z2, rfl, hz2⟩ := contV_val hy2
  have u2 := hz2.unl
  rw [← ht] at hz2
  rw [← hn]
  simp -implicitDefEqProofs [dExtract, u1, u2]
  obtain ⟨Z, hZ⟩ : ∃ Z, Z = findS s p := ⟨_, rfl⟩
  have hZl : ∀ q ∈ Z, Lim q := by rw [hZ]; exact findS_lim s p hlin.lim
  have hZn : Z.length ≤ 1000000 := by rw [hZ]; have := find_cnt s p; omega
  have f10 := fun H2 => w18 s (by omega) p hlin (by omega) H.length cs H2 hp
  have f11 := fun H2 => c11 hL s (by omega) p hlin.lim (by omega) H.length cs H2 hp
  rw [← hZ] at f10 f11
  have hsum : ∀ l : List Bs, (∀ b ∈ l, b.length ≤ 200) → (l.map List.length).sum ≤ 200 * l.length := by
    intro l
    induction l with
    | nil => intro _; simp
    | cons b l ih =>
      intro h
      have h1 := h b (by simp)
      have h2 := ih fun c hc => h c (by simp [hc])
      simp [Nat.mul_add]; omega
  have hsum' := hsum bs hsm'
  obtain ⟨i0, hi0, hf0, hff⟩ := free_first bs
  have f12 : ∀ H2, Ret prog cs0 H.length 12 [x] H2 (str (bdr i0)) H2 := fun H2 => by
    obtain ⟨j0, hg0, hgf, hj0, h5⟩ := k5 H.length x ys bs H2 (hx _) hl (fun j h1 h2 => (hy j h1 h2).rb _) (fun b hb => by have := hsm' b hb; omega) (by omega) (by omega)
    have : j0 = i0 := by
      rcases Nat.lt_trichotomy j0 i0 with h | h | h
      · exact absurd hg0 (hff j0 h)
      · exact h
      · exact absurd hf0 (hgf i0 h)
    rw [this] at h5; exact h5
  have f13 : ∀ H2, Ret prog cs0 H.length 13 [x] H2 (str (bdr i0)) H2 := fun H2 => c13 H.length x ys bs H2 (hx _) hl hy (fun b hb => by have := hsm' b hb; omega) (by omega) i0 hi0 hf0 hff
  have hcc : cvCells (.agg cs) = some cs := cells_agg hone
  rw [W_drawJ (fun fr H2 => H2 = H ++ [CO.cells 0 cs 26] ∧ ∀ t, gd cs s x H.length Z t (fr t)) [(16, 17)] _ _ _ _ _ _ followsT (by
      refine ⟨rfl, fun t => ?_⟩
      unfold gd
      split <;> simp [a1, a2, a3, z67, z68, z69, z70, z71, z72, z76, z78]) (by rfl) (by
      intro k o ho
      refine keep_gd fun fr y hv hy => ?_
      simp only [List.mem_toArray, List.mem_cons, List.not_mem_nil, or_false] at ho
      have v1 : fr 1 = str s := hv 1
      have v2 : fr 2 = x := hv 2
      have v3 : fr 3 = .ptr H.length 0 0 := hv 3
      have v67 : fr 67 = .tup [] ∨ fr 67 = .agg cs := hv 67
      have v68 : fr 68 = .tup [] ∨ fr 68 = str s := hv 68
      have v69 : fr 69 = .tup [] ∨ fndV Z (fr 69) := hv 69
      have v70 : fr 70 = .tup [] ∨ fr 70 = .agg cs := hv 70
      have v71 : fr 71 = .tup [] ∨ fr 71 = str s := hv 71
      have v72 : fr 72 = .tup [] ∨ ∃ Z', fndV Z' (fr 72) := hv 72
      have v76 : fr 76 = .tup [] ∨ fr 76 = x := hv 76
      have v78 : fr 78 = .tup [] ∨ fr 78 = x := hv 78
      rcases ho with rfl | rfl | rfl | rfl | rfl | rfl | rfl | rfl | rfl | rfl | rfl | rfl | rfl | rfl | rfl | rfl | rfl | rfl | rfl | rfl | rfl | rfl | rfl | rfl | rfl | rfl | rfl | rfl | rfl | rfl
      · exact ⟨rd_ret rfl (w5 H.length) _ _ _ hy, fun d hd => by cases hd; trivial⟩
      all_goals first
        | exact ⟨rd_of (by rfl) _ _ _ hy, fun d hd => by cases hd; trivial⟩
        | skip
      -- 14: load
      · refine ⟨rd_of (by rfl) _ _ _ hy, fun d hd => ?_⟩
        cases hd
        rcases act_or hy with rfl | hy
        · exact .inl rfl
        · have := hlb []
          simp [opX, opE, stOK, evO, v3, this] at hy
          exact .inr (by rw [← hy])
      -- 15: move
      · refine ⟨rd_of (by rfl) _ _ _ hy, fun d hd => ?_⟩
        cases hd
        rcases act_or hy with rfl | hy
        · exact .inl rfl
        · simp [opX, opE, stOK, evO, v1] at hy
          exact .inr (by rw [← hy])
      -- 16: call f10
      · rcases act_or hy with rfl | hy
        · exact ⟨rfl, fun d hd => by cases hd; exact .inl rfl⟩
        rcases v67 with v67 | v67
        · simp [opX, evO, evL, v67, unlit] at hy
          exact (call_ret_no (fun K => c10_no _ _ K _) hy).elim
        rcases v68 with v68 | v68
        · simp [opX, evO, evL, v67, v68, unlit] at hy
          exact (call_ret_no (fun K => c10_no2 _ _ hcc K _) hy).elim
        simp [opX, evO, evL, v67, v68, unlit] at hy
        have h9 := WC_of (f10 _) hy
        exact ⟨h9.1, fun d hd => by cases hd; exact .inr h9.2⟩
      -- 17: load
      · refine ⟨rd_of (by rfl) _ _ _ hy, fun d hd => ?_⟩
        cases hd
        rcases act_or hy with rfl | hy
        · exact .inl rfl
        · have := hlb []
          simp [opX, opE, stOK, evO, v3, this] at hy
          exact .inr (by rw [← hy])
      -- 18: move
      · refine ⟨rd_of (by rfl) _ _ _ hy, fun d hd => ?_⟩
        cases hd
        rcases act_or hy with rfl | hy
        · exact .inl rfl
        · simp [opX, opE, stOK, evO, v1] at hy
          exact .inr (by rw [← hy])
      -- 19: call f11
      · rcases act_or hy with rfl | hy
        · exact ⟨rfl, fun d hd => by cases hd; exact .inl rfl⟩
        rcases v70 with v70 | v70
        · simp [opX, evO, evL, v70, unlit] at hy
          exact (call_ret_no (fun K => c11_no _ _ K _) hy).elim
        rcases v71 with v71 | v71
        · simp [opX, evO, evL, v70, v71, unlit] at hy
          have h9 := c11_tup hL p hlin.lim _ cs _ (fun y' H' => y = (y', H')) hp ⟨k, y, hy, rfl⟩
          exact ⟨by rw [h9], fun d hd => by cases hd; rw [h9]; exact .inr ⟨[], [], PVs.nil, .inr ⟨rfl, rfl, rfl⟩⟩⟩
        simp [opX, evO, evL, v70, v71, unlit] at hy
        have h9 := WC_of (f11 _) hy
        exact ⟨h9.1, fun d hd => by cases hd; exact .inr ⟨Z, h9.2⟩⟩
      -- 20: call f9
      · rcases act_or hy with rfl | hy
        · exact ⟨rfl, fun d hd => by cases hd; trivial⟩
        rcases v69 with v69 | v69
        · simp [opX, evO, evL, v69, unlit] at hy
          exact (call_ret_no (fun K => c9_no _ _ K _) hy).elim
        have u69 : unlit (fr 69) = fr 69 := by obtain ⟨ch, _, hc⟩ := v69; exact hc.unl
        rcases v72 with v72 | v72
        · simp [opX, evO, evL, v72, u69, show unlit (.tup []) = .tup [] from rfl] at hy
          obtain ⟨ch, hp1, hc1⟩ := v69
          exact (call_ret_no (fun K => c9_no2 _ _ ch (fun H => Cls.rs hc1 hp1.2.1 H) K _) hy).elim
        obtain ⟨Z', v72⟩ := v72
        have u72 : unlit (fr 72) = fr 72 := by obtain ⟨ch, _, hc⟩ := v72; exact hc.unl
        simp [opX, evO, evL, u69, u72] at hy
        obtain ⟨b, hb⟩ := c9x Z Z' hZl hZn H.length _ _ (H ++ [CO.cells 0 cs 26]) v69 v72
        exact ⟨call_ret hb hy, fun d hd => by cases hd; trivial⟩
      -- 23: move
      · refine ⟨rd_of (by rfl) _ _ _ hy, fun d hd => ?_⟩
        cases hd
        rcases act_or hy with rfl | hy
        · exact .inl rfl
        · simp [opX, opE, stOK, evO, v2, ux] at hy
          exact .inr (by rw [← hy])
      -- 24: call f12
      · rcases act_or hy with rfl | hy
        · exact ⟨rfl, fun d hd => by cases hd; trivial⟩
        rcases v76 with v | v
        · simp [opX, evO, evL, v, unlit] at hy
          exact (call_ret_no (fun K => c12_no _ K _) hy).elim
        simp [opX, evO, evL, v, ux] at hy
        exact ⟨call_ret (f12 _) hy, fun d hd => by cases hd; trivial⟩
      -- 25: move
      · refine ⟨rd_of (by rfl) _ _ _ hy, fun d hd => ?_⟩
        cases hd
        rcases act_or hy with rfl | hy
        · exact .inl rfl
        · simp [opX, opE, stOK, evO, v2, ux] at hy
          exact .inr (by rw [← hy])
      -- 26: call f13
      · rcases act_or hy with rfl | hy
        · exact ⟨rfl, fun d hd => by cases hd; trivial⟩
        rcases v78 with v | v
        · simp [opX, evO, evL, v, unlit] at hy
          exact (call_ret_no (fun K => c13_no _ K _) hy).elim
        simp [opX, evO, evL, v, ux] at hy
        exact ⟨call_ret (f13 _) hy, fun d hd => by cases hd; trivial⟩) (by
      intro k j i oj oi hm h1 h2
      simp at hm
      obtain ⟨rfl, rfl⟩ := hm
      simp at h1 h2; subst h1 h2
      refine cmt_rdJ (by rfl) (fun fr H0 y hv hy => ?_) (fun fr H0 y hv hy => rd_of (by rfl) _ _ _ hy)
      obtain ⟨rfl, hv⟩ := hv
      have v67 : fr 67 = .tup [] ∨ fr 67 = .agg cs := hv 67
      have v68 : fr 68 = .tup [] ∨ fr 68 = str s := hv 68
      rcases act_or hy with rfl | hy
      · rfl
      rcases v67 with v67 | v67
      · simp [opX, evO, evL, v67, unlit] at hy
        exact (call_ret_no (fun K => c10_no _ _ K _) hy).elim
      rcases v68 with v68 | v68
      · simp [opX, evO, evL, v67, v68, unlit] at hy
        exact (call_ret_no (fun K => c10_no2 _ _ hcc K _) hy).elim
      simp [opX, evO, evL, v67, v68, unlit] at hy
      exact (WC_of (f10 _) hy).1)]
  have hcv1 := fun H => (hz1.rb H).str (P := prog) (s := 23) (d := 9) false underlying23 underlying9 underlying5
  have hcv2 := fun H => (hz2.rb H).str (P := prog) (s := 23) (d := 9) false underlying23 underlying9 underlying5
  simp -implicitDefEqProofs [a1, a2, a3, c6, u1, u2, hcv1, hcv2, hlb]
  refine WC_mono (f10 _) ?_
  rintro y3 H2 ⟨e2, hy3⟩
  rw [e2]
  clear e2 H2
  have u3 : unlit y3 = y3 := by obtain ⟨ch, _, hc⟩ := hy3; exact hc.unl
  simp -implicitDefEqProofs [a1, a2, a3, hlb]
  refine WC_mono (f11 _) ?_
  rintro y4 H2 ⟨e2, hy4⟩
  rw [e2]
  clear e2 H2
  have u4 : unlit y4 = y4 := by obtain ⟨ch, _, hc⟩ := hy4; exact hc.unl
  have k9 := fun H2 => (c9 Z hZl hZn H.length y3 y4 H2 hy3 hy4).wc
  have k12 := fun H2 => (f12 H2).wc
  have k13 := fun H2 => (f13 H2).wc
  simp -implicitDefEqProofs [a1, a2, a3, u3, u4, k9, k12, k13, ux]
end Go.Proofs.Tryz

/- A tree of parts that is read, and its bulk. -/
namespace Go.SL
open Go.ChangeShapes Go.RowKit
set_option linter.unusedVariables false
section
variable {H : Type} {enc : TypeId × Value → H} {P : Program} {W : World} {base : Nat} {spare : Nat → Bool} {held : Bool}
/-- A slice that is read, whose elements are. -/
theorem rd_slB {κ : Type} {R : κ → List CV → DataW H → Prop} {t e : TypeId} {sz fuel : Nat} {cs : List Value} {x : DataW H × List MemPlace} (ht : P.underlying t = some (.slice e)) (hsz : P.cellsOf e = sz) (hpos : 0 < sz)
    (hR : ∀ n, n < fuel → ∀ (cs : List Value) y, DataW.trod enc P W base spare held n e cs = some y → ∃ k c, R k c y.1 ∧ c.length = sz ∧ cs.length = sz ∧ ∀ i (h1 : i < c.length) (h2 : i < cs.length), VC (g0 W).im c[i] cs[i] ∧ cs[i].oneCell' = true)
    (h : DataW.trod enc P W base spare held fuel t cs = some x) :
    ∃ (y : CV) (v : Value) (ks : List κ) (ch : List (List CV)), cs = [v] ∧ Cls y ch.flatten ch.length sz ∧ Chunks ch sz ∧ VC (g0 W).im y v ∧ v.oneCell' = true ∧ ks.length = ch.length ∧ ∃ D : List (DataW H), (D = [] ∨ ∃ rest, x.1 = .slice D rest) ∧ D.length = ks.length ∧ (∀ i (h1 : i < ks.length) (h2 : i < ch.length) (h3 : i < D.length), R ks[i] ch[i] D[i]) := by
  rcases DataW.trod_slice ht h with ⟨rfl, _⟩ | ⟨a, len, cap, elems, rest, n, rfl, rfl, rfl, hb, hl, hm, hlen, hel, hsp, hns⟩
  · exact ⟨nilC, _, [], [], rfl, .inr ⟨rfl, rfl, rfl⟩, (fun c hc => by cases hc), .v rfl, rfl, rfl, [], .inl rfl, rfl, (fun i h1 => by simp at h1)⟩
  · have each : ∀ i : Fin len, ∃ q : κ × List CV × List Value × DataW H, R q.1 q.2.1 q.2.2.2 ∧ (elems[i.1]?).map (·.1) = some q.2.2.2 ∧ q.2.1.length = sz ∧ W.cells? base (a.add (i.1 * sz)) sz = some q.2.2.1 ∧ q.2.2.1.length = sz ∧ ∀ j (h1 : j < q.2.1.length) (h2 : j < q.2.2.1.length), VC (g0 W).im q.2.1[j] q.2.2.1[j] ∧ q.2.2.1[j].oneCell' = true := by
      intro i
      have h1 := hel i.1 i.2
      have h2 : i.1 < elems.length := by omega
      rw [List.getElem?_eq_getElem h2, hsz] at h1
      obtain ⟨us, hus, hy⟩ := Option.bind_eq_some_iff.1 h1
      obtain ⟨k, c, h3, h4, h5, h6⟩ := hR n (by omega) us _ hy
      exact ⟨(k, c, us, elems[i.1].1), h3, by rw [List.getElem?_eq_getElem h2]; rfl, h4, hus, h5, h6⟩
    let f := fun i => Classical.choose (each i)
    have hf := fun i => Classical.choose_spec (each i)
    have hfe : ∀ i, Classical.choose (each i) = f i := fun i => rfl
    simp only [hfe] at hf
    clear_value f
    have hfd : ∀ i : Fin len, (elems[i.1]?).map (·.1) = some (f i).2.2.2 := fun i => (hf i).2.1
    replace hf := fun i => And.intro (hf i).1 (hf i).2.2
    have hch : Chunks (List.ofFn fun i => (f i).2.1) sz := by
      intro c hc
      obtain ⟨i, rfl⟩ := (List.mem_ofFn).1 hc
      exact (hf i).2.1
    have hfl := hch.len
    rw [List.length_ofFn] at hfl
    have cell : ∀ (i : Fin len) (r : Nat) (hr : r < sz), W.cell? ((a.add (i.1 * sz)).add r) = (f i).2.2.1[r]? := fun i r hr => (World.cells?_some (hf i).2.2.1).2.2 r hr
    have hadr : 0 < len → a = ⟨a.block, a.off, none⟩ := by
      intro hp
      have h1 := cell ⟨0, hp⟩ 0 hpos
      rw [List.getElem?_eq_getElem (by rw [(hf ⟨0, hp⟩).2.2.2.1]; exact hpos)] at h1
      have h2 : (a.add (0 * sz)).add 0 = a := by simp [Addr.add]
      rw [h2] at h1
      exact cell_addr h1
    have at' : ∀ j, j < len * sz → ∃ (hi : j / sz < len) (hr : j % sz < sz) (h1 : j % sz < (f ⟨j / sz, hi⟩).2.1.length) (h2 : j % sz < (f ⟨j / sz, hi⟩).2.2.1.length), W.cell? ⟨a.block, a.off + j, none⟩ = some ((f ⟨j / sz, hi⟩).2.2.1[j % sz]) ∧
        (List.ofFn fun i => (f i).2.1).flatten[j]? = some ((f ⟨j / sz, hi⟩).2.1[j % sz]) := by
      intro j hj
      have hi : j / sz < len := (Nat.div_lt_iff_lt_mul hpos).2 hj
      have hr := Nat.mod_lt j hpos
      refine ⟨hi, hr, by rw [(hf _).2.1]; exact hr, by rw [(hf _).2.2.2.1]; exact hr, ?_, ?_⟩
      · have h1 := cell ⟨j / sz, hi⟩ _ hr
        rw [List.getElem?_eq_getElem (by rw [(hf _).2.2.2.1]; exact hr)] at h1
        rw [← h1]
        have e := hadr (Nat.lt_of_le_of_lt (Nat.zero_le _) hi)
        have h3 : j / sz * sz + j % sz = j := Nat.div_add_mod' j sz
        rw [e]
        simp only [Addr.add_lit]
        rw [Nat.add_assoc, h3]
      · have h3 : j / sz * sz + j % sz = j := Nat.div_add_mod' j sz
        have h4 := hch.get (i := j / sz) (k := j % sz) (by rw [List.length_ofFn]; exact hi) hr
        rw [h3] at h4
        rw [h4, List.getElem_ofFn, List.getElem?_eq_getElem]
    refine ⟨.im (List.ofFn fun i => (f i).2.1).flatten len sz, _, List.ofFn fun i => (f i).1, List.ofFn fun i => (f i).2.1, rfl, .inl (by rw [List.length_ofFn]), hch, .im (f := fun j => (W.cell? ⟨a.block, a.off + j, none⟩).getD undef) hfl hl hadr (fun j hj => ?_) (fun j hj => ?_), rfl, by rw [List.length_ofFn, List.length_ofFn], elems.map (·.1), .inr ⟨rest.map (·.1), rfl⟩, by rw [List.length_map, List.length_ofFn, hlen], fun i h1 h2 h3 => ?_⟩
    · rw [hfl] at hj
      obtain ⟨hi, hr, h1, h2, h3, h4⟩ := at' j hj
      rw [h3]
      exact im_g0 h3 ((hf ⟨j / sz, hi⟩).2.2.2.2 (j % sz) h1 h2).2
    · have hj' := hj
      rw [hfl] at hj'
      obtain ⟨hi, hr, h1, h2, h3, h4⟩ := at' j hj'
      have h5 : (List.ofFn fun i => (f i).2.1).flatten[j] = (f ⟨j / sz, hi⟩).2.1[j % sz] := by
        rw [List.getElem?_eq_getElem hj] at h4
        exact Option.some.inj h4
      rw [h3, h5]
      exact ((hf ⟨j / sz, hi⟩).2.2.2.2 (j % sz) h1 h2).1
    · rw [List.getElem_ofFn, List.getElem_ofFn]
      rw [List.length_ofFn] at h1
      have h4 := hfd ⟨i, h1⟩
      have h5 : i < elems.length := by omega
      rw [List.getElem?_eq_getElem h5] at h4
      have h6 : (elems.map (·.1))[i] = (f ⟨i, h1⟩).2.2.2 := by rw [List.getElem_map]; exact Option.some.inj h4
      rw [h6]
      exact (hf _).1
end
end Go.SL
namespace Go.Proofs.Tryz
open Go Go.SL Go.RowKit Go.ChangeShapes Go.Deep
open Go.Proofs.YtkodlakpjpmbiaaGreatDoor.Rows (uptoBulk uptoBulkAll)
set_option linter.unusedVariables false
theorem bulk_all {H : Type} : ∀ (ps : List Prt) (D : List (DataW H)), D.length = ps.length → (∀ i (h1 : i < ps.length) (h2 : i < D.length), cntN ps[i] ≤ uptoBulk D[i]) → cntN.cntNL ps ≤ uptoBulkAll D := by
  intro ps
  induction ps with
  | nil => intro D _ _; simp [cntN.cntNL]
  | cons p ps ih =>
    intro D hl h
    cases D with
    | nil => simp at hl
    | cons d D =>
      rw [cntN.cntNL, uptoBulkAll]
      have h0 := h 0 (by simp) (by simp)
      have h1 := ih D (by simpa using hl) fun i h1 h2 => h (i + 1) (by simp; omega) (by simp; omega)
      simp at h0
      omega
section
variable {H : Type} {enc : TypeId × Value → H} {W : World} {base : Nat} {spare : Nat → Bool} {held : Bool}
/-- A part that is read. -/
theorem rd_partB (fuel : Nat) : ∀ {cs : List Value} {x : DataW H × List MemPlace} (h : DataW.trod enc prog W base spare held fuel 26 cs = some x),
    ∃ (k : Prt) (c : List CV), (PV k c ∧ cntN k ≤ uptoBulk x.1) ∧ c.length = 3 ∧ cs.length = 3 ∧ ∀ i (h1 : i < c.length) (h2 : i < cs.length), VC (g0 W).im c[i] cs[i] ∧ cs[i].oneCell' = true := by
  have hcl : prog.cellsOf 26 = 3 := by kernel_rfl
  have hc25 : prog.cellsOf 22 = 1 := by kernel_rfl
  have hc22 : prog.cellsOf 23 = 1 := by kernel_rfl
  have hc26 : prog.cellsOf 24 = 1 := by kernel_rfl
  have hc67 : prog.cellsOf 62 = 2 := by kernel_rfl
  have hc5 : prog.cellsOf 5 = 1 := by kernel_rfl
  induction fuel using Nat.strongRecOn with
  | _ fuel ih =>
  intro cs x h
  obtain ⟨ys, n, rfl, rfl, hl, hlen, hf⟩ := DataW.trod_struct underlying26 h
  rw [hcl] at hl
  obtain ⟨y0, y1, y2, rfl⟩ := len3 hlen
  obtain ⟨a, b, c, rfl⟩ := len3 hl
  have h0 : DataW.trod enc prog W base spare held n 22 (([a, b, c].drop 0).take (prog.cellsOf 22)) = some y0 := hf 0 _ rfl
  have h1 : DataW.trod enc prog W base spare held n 23 (([a, b, c].drop 1).take (prog.cellsOf 23)) = some y1 := hf 1 _ rfl
  have h2 : DataW.trod enc prog W base spare held n 24 (([a, b, c].drop 2).take (prog.cellsOf 24)) = some y2 := hf 2 _ rfl
  clear hf hl hlen h
  · simp only [hc25, hc22, hc26] at h0 h1 h2
    obtain ⟨f, v0, fs, ch0, e0, f0, c0, hv0, o0, l0, r0⟩ := rd_sl (R := fun (k : Fld) c => c = k.c) underlying22 hc67 (by omega) (fun n hn cs y h => rd_fld h) h0
    obtain ⟨y, bs, v1, e1, f1, hv1, o1⟩ := rd_bytes underlying23 underlying5 hc5 h1
    obtain ⟨q, v2, ps, ch2, e2, f2, c2, hv2, o2, l2, D, hD, lD, r2⟩ := rd_slB (R := fun k c d => PV k c ∧ cntN k ≤ uptoBulk d) underlying24 hcl (by omega) (fun m hm cs y h => ih m (by omega) h) h2
    simp at e0 e1 e2
    subst e0 e1 e2
    have hch0 : ch0 = fs.map Fld.c := by
      refine List.ext_getElem (by rw [List.length_map, l0]) fun i h1 h2 => ?_
      rw [List.getElem_map]
      exact r0 i (by omega) h1
    rw [← l0, hch0] at f0
    refine ⟨.mk fs bs ps, [f, y, q], ⟨.mk f0 f1 l2.symm c2 (by rw [l2]; exact f2) (fun i h1 h2 => (r2 i h1 h2 (by omega)).1), ?_⟩, rfl, rfl, fun i h1 h2 => ?_⟩
    · have hb := bulk_all ps D lD fun i h1 h2 => (r2 i h1 (by omega) h2).2
      have hy2 : cntN.cntNL ps ≤ uptoBulk y2.1 := by
        rcases hD with rfl | ⟨rest, hD⟩
        · have : ps = [] := List.eq_nil_of_length_eq_zero (by simpa using lD.symm)
          rw [this]; simp [cntN.cntNL]
        · rw [hD, uptoBulk]; omega
      rw [cntN]
      show cntN.cntNL ps + 1 ≤ uptoBulk (.agg (([y0, y1, y2] : List (DataW H × List MemPlace)).map (·.1)))
      simp only [List.map_cons, List.map_nil, uptoBulk, uptoBulkAll]
      omega
    · match i, h1 with
      | 0, _ => exact ⟨hv0, o0⟩
      | 1, _ => exact ⟨hv1, o1⟩
      | 2, _ => exact ⟨hv2, o2⟩
end
end Go.Proofs.Tryz

/- The law PartsContentsUpto: for every input the call returns true, and the argument reads behind it as it did; the tables of the library that are read hold what the program lays there, and the card ties that to the program's text. -/
namespace Go.Proofs.YtkodlakpjpmbiaaGreatDoor.partsContentsUpto
open Go.ChangeShapes Go.WideShapes Go.ChangeAt Go.RowKit Go.SL
set_option linter.unusedVariables false
theorem tPow : (Tryz.prog.globals[1]?).map (·.type) = some 145 := by kernel_rfl
theorem cE : Tryz.prog.cellsOf 135 = 1 := by kernel_rfl
theorem cT : Tryz.prog.cellsOf 145 = 20 := by kernel_rfl
theorem powData : (Rows.laid_internal_strconv_uint64pow10 : DataW Unit) = Lib.tabData .u64 Lib.pow10Tab := by kernel_rfl
theorem laid_of {W : World} (h : laidMetH Tryz.prog Rows.partsContentsUptoRow.laid W) : Lib.TabIs Tryz.prog W "internal/strconv.uint64pow10" .u64 Lib.pow10Tab := by
  rw [MakeChecks.laidMetH_plain _ _ _ (by kernel_rfl)] at h
  have h0 : laidMet Tryz.prog [("math/bits.deBruijn32tab", Rows.laid_math_bits_deBruijn32tab), ("math/bits.deBruijn64tab", Rows.laid_math_bits_deBruijn64tab), ("internal/strconv.uint64pow10", Rows.laid_internal_strconv_uint64pow10)] W := h
  have h1 := h0.tail
  have h2 := h1.tail
  rw [powData] at h2
  exact Lib.tabIs_of_head Go.Proofs.Tryz.gPow tPow Tryz.underlying145 Tryz.underlying135 cE cT h2
/-- What start-up lays meets the row's condition. -/
theorem door_met (os : Os) (args : Array Value) : laidMetH Tryz.prog Rows.partsContentsUptoRow.laid ((World.doorLaid Tryz.prog 400 os).forCall (fun _ _ => 0) ⟨#[], args, []⟩).memory := by
  rw [MakeChecks.laidMetH_plain _ _ _ (by kernel_rfl)]
  exact laidMet_of_run' 8 (by kernel_rfl) (by kernel_rfl)
theorem handed_cond {H : Type} {enc : TypeId × Value → H} {C : Checked} {os : Os} {f : FuncId} {fn : Func} {s : OpenSpec} {k : (H : Type) → List (DataW H) → Bool} (hk : s.cond = some k) {F : Stop.Interp} {X : World → Array Value → Prop} (hX : ∀ (w w' : World) (args : Array Value), w.heap = w'.heap → X w args → X w' args)
    (own : ownKnob C.prog.godebug = none) (started : os.Started) (noInit : C.prog.inits.idxOf? f = none) (hfn : C.prog.funcs[f]? = some fn)
    (wit : ∃ (w : World) (tape : Tape) (i : Input), w.os = os ∧ (w.forCall tape i).Shaped C.prog ∧ i.vars = [] ∧ Input.okWide C.prog (w.forCall tape i) .any w.heap.size f i ∧
      ((s.pre enc C.prog fn [] false (w.forCall tape i).memory i.args ∧ X (w.forCall tape i).memory i.args) ∧ sizedMet enc C.prog fn s false (w.forCall tape i).memory i.args) ∧ ({} : Assume).holds C.prog (lone (Frame.enter C.prog f i.args .normal) [] (w.forCall tape i)))
    (contract : ∀ (W : World) (base : Nat) (args : Array Value) (ds gs : List (DataW H)) (before : List MemPlace), (∀ (j : Nat) t v, fn.params[j]? = some t → args[j]? = some v → Value.okWide C.prog W .any base t v) →
      DataW.Whole enc C.prog fn.params.toList s.vars false W args.toList ds gs before → k H (ds ++ gs) = true → X W args → W.ShapedOpen C.prog →
      Calls C.prog f args W fun e W' => ∃ v, e = .returned v ∧ (s.at F).post enc C.prog fn false true false false W args v W') :
    ReturnsInHanded {} C os f .any (fun w args => (s.pre enc C.prog fn [] false w args ∧ X w args) ∧ sizedMet enc C.prog fn s false w args) ((s.at F).post enc C.prog fn false true false false) := by
  refine returnsInHanded_of_calls own started noInit wit fun w tape i _ hsh _ hok hpre _ => ?_
  obtain ⟨_, _, _, fn2, h2, _, _, _, _, hval⟩ := hok
  obtain rfl : fn2 = fn := Option.some.inj (h2.symm.trans hfn)
  obtain ⟨⟨hp, hx⟩, hz⟩ := hpre
  obtain ⟨ds, gs, before, hw, _, hkk⟩ := (OpenSpec.pre_some hk [] false _ _).1 hp
  have hw2 := DataW.Whole.of_heap (w' := w.forCall tape i) (by rfl) hw
  refine (contract _ _ i.args ds gs before hval hw2 hkk (hX _ _ _ (by rfl) hx) hsh).mono ?_
  rintro e W' ⟨v, rfl, hp⟩
  exact ChangeSpec.post_blind hp
abbrev sp : OpenSpec := Rows.OpenSpec.upto Rows.partsContentsSpec
abbrev a0 : Array Value := #[.agg #[.slice none 0 0, .slice none 0 0, .slice none 0 0], .string ⟨#[]⟩, .slice none 0 0]
noncomputable abbrev w0 (os : Os) : World := (World.doorLaid Tryz.prog 400 os).forCall (fun _ _ => 0) ⟨#[], a0, []⟩
theorem whole0 (os : Os) (H : Type) (enc : TypeId × Value → H) : ∃ (ds gs : List (DataW H)) (before : List MemPlace), DataW.Whole enc Tryz.prog Tryz.f3.params.toList Rows.partsContentsSpec.vars false (w0 os).memory a0.toList ds gs before ∧ Rows.uptoSmall H (ds ++ gs) = true := by
  have hx : DataW.whole enc Tryz.prog (w0 os).memory Tryz.f3.params.toList Rows.partsContentsSpec.vars false a0.toList 8 = some ([.agg [.nil, .nil, .nil], .lit (.string []), .nil], [], []) := by kernel_rfl
  exact ⟨_, _, _, DataW.Whole_of_whole hx, by simp [Rows.uptoSmall, Rows.uptoBulkAll, Rows.uptoBulk]⟩
theorem wit (os : Os) (H : Type) (enc : TypeId × Value → H) :
    ∃ (w : World) (tape : Tape) (i : Input), w.os = os ∧ (w.forCall tape i).Shaped Tryz.checked.prog ∧ i.vars = [] ∧ Input.okWide Tryz.checked.prog (w.forCall tape i) .any w.heap.size 3 i ∧
      ((sp.pre enc Tryz.checked.prog Tryz.f3 [] false (w.forCall tape i).memory i.args ∧ laidMetH Tryz.prog Rows.partsContentsUptoRow.laid (w.forCall tape i).memory) ∧ sizedMet enc Tryz.checked.prog Tryz.f3 sp false (w.forCall tape i).memory i.args) ∧ ({} : Assume).holds Tryz.checked.prog (lone (Frame.enter Tryz.checked.prog 3 i.args .normal) [] (w.forCall tape i)) := by
  obtain ⟨w, tape, i, h1, h2, h3, h4, ⟨⟨_, h5, h6⟩, h7⟩, h8⟩ := ChangeSpec.witness_shaped (enc := enc) (C := Tryz.checked) (os := os) (f := 3) (fn := Tryz.f3) (s := Rows.partsContentsSpec) (conds := []) (apart := false)
    (X := fun w args => laidMetH Tryz.prog Rows.partsContentsUptoRow.laid w ∧ ∃ (ds gs : List (DataW H)) (before : List MemPlace), DataW.Whole enc Tryz.prog Tryz.f3.params.toList Rows.partsContentsSpec.vars false w args.toList ds gs before ∧ Rows.uptoSmall H (ds ++ gs) = true)
    false (World.doorLaid Tryz.prog 400 os) a0 8 rfl (World.shaped_of_RefB (by kernel_rfl) (by kernel_rfl)) (by kernel_rfl) (by kernel_rfl) (by kernel_rfl) ⟨door_met os _, whole0 os H enc⟩
  obtain ⟨ds, gs, before, h9, h10⟩ := h6
  exact ⟨w, tape, i, h1, h2, h3, h4, ⟨⟨(OpenSpec.pre_some (s := sp) (k := Rows.uptoSmall) rfl [] false _ _).2 ⟨ds, gs, before, h9, rfl, h10⟩, h5⟩, h7⟩, h8⟩
set_option maxRecDepth 100000 in
theorem lifted (os : Os) (started : os.Started) (H : Type) (enc : TypeId × Value → H) (F : Stop.Interp) :
    ReturnsInHanded {} Tryz.checked os 3 .any (fun w args => (sp.pre enc Tryz.prog Tryz.f3 [] false w args ∧ laidMetH Tryz.prog Rows.partsContentsUptoRow.laid w) ∧ sizedMet enc Tryz.prog Tryz.f3 sp false w args)
      ((sp.at F).post enc Tryz.prog Tryz.f3 false true false false) := by
  refine handed_cond (C := Tryz.checked) (k := Rows.uptoSmall) rfl (X := fun w _ => laidMetH Tryz.prog Rows.partsContentsUptoRow.laid w) (fun _ _ _ hh h => h.of_heap hh) Tryz.own started (by kernel_rfl) Tryz.func3
    (wit os H enc) ?_
  intro W base args ds gs before hval0 hW hkk hL hsh
  have hval : ∀ (j : Nat) t v, Tryz.f3.params[j]? = some t → args[j]? = some v → Value.okWide Tryz.prog W .any base t v := hval0
  have hW' := hW
  obtain ⟨p, q, hA0, hV, rfl, hfz, hnd⟩ := hW
  have hA : DataW.TrodAll enc Tryz.prog W 0 (fun _ => true) true Tryz.f3.params.toList args.toList ds p := hA0
  rw [Tryz.params3] at hA hval
  obtain ⟨v0, vs0, d0, ds0, p0, q0, hargs, rfl, rfl, h0, r0⟩ := trodAll_cons hA
  obtain ⟨v1, vs1, d1, ds1, p1, q1, hargs1, rfl, rfl, h1, r1⟩ := trodAll_cons r0
  subst hargs1
  obtain ⟨v2, vs2, d2, ds2, p2, q2, hargs2, rfl, rfl, h2, r2⟩ := trodAll_cons r1
  subst hargs2
  obtain ⟨rfl, rfl, rfl⟩ := trodAll_nil r2
  obtain rfl : args = #[v0, v1, v2] := by cases args; simp_all
  obtain ⟨rfl, rfl⟩ := trodVars_none hV
  have k0 := h0
  have lt0 : ∀ x ∈ p0, x.block < W.heap.size := by obtain ⟨m, hm⟩ := k0; exact DataW.trod_lt m _ _ _ hm
  have k1 := h1
  have lt1 : ∀ x ∈ p1, x.block < W.heap.size := by obtain ⟨m, hm⟩ := k1; exact DataW.trod_lt m _ _ _ hm
  have k2 := h2
  have lt2 : ∀ x ∈ p2, x.block < W.heap.size := by obtain ⟨m, hm⟩ := k2; exact DataW.trod_lt m _ _ _ hm
  have hok0 := hval 0 26 v0 rfl rfl
  obtain ⟨cs0, rfl, hsz⟩ := okWide_struct Tryz.underlying26 hok0
  have hok2 := hval 2 27 v2 rfl rfl
  obtain ⟨a2, len2, cap2, rfl⟩ := okWide_slice Tryz.underlying27 hok2
  obtain ⟨fuel0, hf0⟩ := h0
  obtain ⟨k, c, ⟨hk, hkb⟩, hc3, hl3, hcs⟩ := Go.Proofs.Tryz.rd_partB fuel0 hf0
  simp only [Value.cells] at hl3 hcs
  obtain ⟨fuel1, hf1⟩ := h1
  obtain ⟨s, v1', hcs1, hv1, ho1⟩ := rd_str Tryz.underlying9 hf1
  obtain ⟨fuel, hf⟩ := h2
  have hc25 : Tryz.prog.cellsOf 23 = 1 := by kernel_rfl
  have hc5 : Tryz.prog.cellsOf 5 = 1 := by kernel_rfl
  obtain ⟨y, v, ks, ch, hcs2, hy, hch, hv, h1', hl, hR⟩ := rd_sl (R := fun (k : Bs) c => ∃ y, c = [y] ∧ CB y k) Tryz.underlying27 hc25 (by omega) (fun n hn cs y h => by
    obtain ⟨y, b, v, rfl, hy, hv, h1⟩ := rd_bytes Tryz.underlying23 Tryz.underlying5 hc5 h
    refine ⟨b, [y], ⟨y, rfl, hy⟩, rfl, rfl, fun i h1' h2 => ?_⟩
    have : i = 0 := by simp at h2; exact h2
    subst this
    exact ⟨hv, h1⟩) hf
  obtain rfl : Value.slice a2 len2 cap2 = v := by simpa [Value.cells] using hcs2
  obtain ⟨ys, hys, hyl⟩ : ∃ ys : List CV, ch = ys.map (fun y => [y]) ∧ ∀ i (h1 : i < ys.length) (h2 : i < ks.length), CB ys[i] ks[i] := by
    refine ⟨ch.map fun c => c.headD nilC, ?_, fun i h1 h2 => ?_⟩
    · rw [List.map_map]
      conv => lhs; rw [← List.map_id ch]
      refine List.map_congr_left fun c hc => ?_
      obtain ⟨i, hi, rfl⟩ := List.getElem_of_mem hc
      obtain ⟨y, e, _⟩ := hR i (by omega) hi
      simp [e]
    · rw [List.length_map] at h1
      obtain ⟨y, e, hy2⟩ := hR i h2 h1
      simp [e]; exact hy2
  subst hys
  have hx : ∀ H, RS H y (ys.map fun y => [y]) 1 := fun H => Cls.rs hy hch H
  obtain ⟨mx, hmx⟩ := max_cell hsh
  have hbulk : Rows.uptoBulk d0 ≤ 1048576 := by
    have : decide (Rows.uptoBulkAll ([d0, d1, d2] ++ []) ≤ 1048576) = true := hkk
    rw [decide_eq_true_iff] at this
    simp only [List.append_nil, Rows.uptoBulkAll] at this
    omega
  have hv1e : VR (g0 W) (str s) v1 := by
    obtain ⟨s0, e0⟩ := okWide_string Tryz.underlying9 (hval 1 9 v1 rfl rfl)
    rw [e0] at hcs1 ⊢
    have : Value.string s0 = v1' := by simpa [Value.cells] using hcs1
    rw [this]; exact .cl hv1
  refine (Go.Proofs.Tryz.law_calls (mx := mx) (xs := [.agg c, str s, y]) Tryz.func3 (by intro h; cases h) hmx (laid_of hL) ⟨rfl, fun i hi hi' => by
    have : i = 0 ∨ i = 1 ∨ i = 2 := by simp at hi; omega
    rcases this with rfl | rfl | rfl
    · exact .agg (by rw [hc3]; simpa using hl3.symm) fun j h1 h2 => .cl (by simpa using (hcs j h1 (by simpa using h2)).1)
    · exact hv1e
    · exact .cl hv⟩ (@Go.Proofs.Tryz.c3 Go.Proofs.Tryz.L1 rfl k s y ys ks 0 c [] hk (Nat.le_trans hkb hbulk) hx (by simpa using hl.symm) hyl)).mono fun e W' ⟨he, bel⟩ => ?_
  subst he
  exact ⟨_, rfl, _, _, _, [], _, [], hW', trodAll_mk1 (shut_bool Tryz.underlying4 _), (trodAll_cons_mk (Below.trod Tryz.laidOut (by kernel_rfl) (of_decide_eq_true (by kernel_rfl)) k0 bel lt0) (trodAll_cons_mk (Below.trod Tryz.laidOut (by kernel_rfl) (of_decide_eq_true (by kernel_rfl)) k1 bel lt1) (trodAll_cons_mk (Below.trod Tryz.laidOut (by kernel_rfl) (of_decide_eq_true (by kernel_rfl)) k2 bel lt2) trodAll_mk0))), rfl, bel.frame _, fun h => by cases h⟩
set_option maxHeartbeats 4000000 in
theorem over : Rows.partsContentsUptoRow.holds Tryz.pinned sp :=
  OpenClaim.holds_of_cond 3 Tryz.f3 rfl rfl rfl rfl rfl rfl rfl ⟨rfl, rfl, rfl, rfl, rfl⟩ rfl rfl rfl rfl rfl (by kernel_rfl) Tryz.func3 (by kernel_rfl)
    (of_decide_eq_true (by kernel_rfl)) (by unfold Func.isWrapper; first | (rw [if_pos (by decide +kernel)]; kernel_rfl) | (rw [if_neg (by decide +kernel)]; exact ⟨rfl, rfl⟩))
    (fun os started H enc _ F => lifted os started H enc F)
/-- The tied card. -/
theorem card_holds : Rows.PartsContentsUptoCardSaid :=
  Claim7.holds_tied_plain_at .later [] [.data, .data, .data] true (true, "e469bafefe2e38c74db79cf2cf8ddb8feead951d08565b49235ae3ca4d9e68b1") false
    over (fun _ h => by cases h) (by kernel_rfl) (fun _ h => by cases h) partsContentsUpto_row_tie rfl ⟨rfl, rfl⟩ (by kernel_rfl) rfl
    (fun f fn hf hfn => by
      obtain rfl : f = 3 := Option.some.inj ((show Tryz.prog.funcNamed "posthorn/posthornlaw09.PartsContents" = some 3 by kernel_rfl).symm.trans hf) |>.symm
      obtain rfl : fn = Tryz.f3 := (Option.some.inj (Tryz.func3.symm.trans hfn)).symm
      exact ⟨by kernel_rfl, fun j t ht => by
        rw [Tryz.params3] at ht
        have hm : t ∈ [26, 9, 27] := by simpa using Array.mem_of_getElem? ht
        have hall : ([26, 9, 27].all fun u => !Tryz.prog.wantsStandIn u) = true := by kernel_rfl
        exact (show Tryz.prog.wantsStandIn t = false by simpa using List.all_eq_true.1 hall t (by simpa using hm))⟩)
    (by kernel_rfl)
end Go.Proofs.YtkodlakpjpmbiaaGreatDoor.partsContentsUpto
namespace Go.Proofs.YtkodlakpjpmbiaaGreatDoor
/-- The card, under a short name, for the claim. -/
theorem partsContentsUpto_card_holds : Rows.PartsContentsUptoCardSaid := partsContentsUpto.card_holds
end Go.Proofs.YtkodlakpjpmbiaaGreatDoor

/- Walks: the leaves of a kind. -/
import Derived.Test.YtkodlakpjpmbiaaGreatDoorKAK
import Derived.Test.YtkodlakpjpmbiaaGreatDoorKAG

set_option linter.all false

namespace Go.Proofs.Tryz
open Go Go.SL
set_option linter.unusedVariables false
set_option linter.unusedSimpArgs false
attribute [local congr] WX_stop WC_stop W_stop

/-- The leaves of a kind. -/
def findS (s : Bs) : Prt → List Prt
  | .mk fs b ps => if (kindO fs).2 ≠ 0 then [] else if (kindO fs).1.t = mpart then findL s ps else if (kindO fs).1.t ++ 47 :: (kindO fs).1.s = s then [.mk fs b ps] else []
where findL (s : Bs) : List Prt → List Prt
  | [] => []
  | p :: ps => findS s p ++ findL s ps
theorem find_cnt (s : Bs) (p : Prt) : (findS s p).length ≤ cntN p := by
  refine Prt.ind (C := fun p => (findS s p).length ≤ cntN p) ?_ p
  intro fs b ps ih
  rw [findS, cntN]
  split
  · simp
  · split
    · have key : ∀ l : List Prt, (∀ q ∈ l, q ∈ ps) → (findS.findL s l).length ≤ cntN.cntNL l := by
        intro l
        induction l with
        | nil => intro _; simp [findS.findL]
        | cons q l ihl =>
          intro hq
          have h1 := ih q (hq q (by simp))
          have h2 := ihl fun r hr => hq r (by simp [hr])
          rw [findS.findL, cntN.cntNL]; simp; omega
      have := key ps fun _ h => h
      omega
    · split <;> simp
theorem kind_ts (fs : List Fld) (h : (kindO fs).2 = 0) : (kindO fs).1.t.length ≤ 64 ∧ (kindO fs).1.s.length ≤ 64 := by
  have hr : ∀ s k, readK s = some k → k.t.length ≤ 64 ∧ k.s.length ≤ 64 := by
    intro s k h
    unfold readK at h
    split at h
    · split at h
      · obtain ⟨ps, h1, h2⟩ := Option.bind_eq_some_iff.1 h
        split at h2
        · rename_i hk
          cases h2
          exact ⟨hk.1.1.2.2, hk.2.1.1.2.2⟩
        · cases h2
      · cases h
    · cases h
  revert h
  unfold kindO
  split
  · intro _; simp [kText]
  · split
    · rename_i hk; intro _; exact hr _ _ hk
    · simp
  · simp
theorem cells_sl (a b c d e : Nat) : cvCells (.sl a b c d e) = some [.sl a b c d e] := rfl
def fnv (n : Nat) : CV := .fn (.func 30) [] [.ptr (n + 3) 0 0, .ptr (n + 1) 0 0, .ptr (n + 2) 0 0]
/-- What finding leaves. -/
def fndR (A : Hp) (op : CO) (s : Bs) (ps : List Prt) (H' : Hp) : Prop := ∃ q L ch, H' = A ++ op :: CO.cells 0 [str s] 9 :: CO.cells 0 [q] 24 :: CO.cells 0 [fnv A.length] 52 :: L ∧ PVs ps ch ∧ Grow (A.length + 4) H' q ch.flatten ch.length 3 26
variable [LayerC]
set_option maxRecDepth 100000 in
theorem w32 (s : Bs) (hs : s.length ≤ 1000000) (p : Prt) : Lin p → ∀ (m : Nat) (cs : List CV) (A : Hp) (op : CO) (ps : List Prt) (H : Hp), PV p cs → m ≤ A.length → fndR A op s ps H → ps.length + cntN p ≤ 1000000 →
    WC prog cs0 m (.f 30) [.agg cs, .ptr (A.length + 3) 0 0, .ptr (A.length + 1) 0 0, .ptr (A.length + 2) 0 0] H fun y H' => y = .tup [] ∧ fndR A op s (ps ++ findS s p) H' := by
  refine Prt.ind (C := fun p => Lin p → ∀ (m : Nat) (cs : List CV) (A : Hp) (op : CO) (ps : List Prt) (H : Hp), PV p cs → m ≤ A.length → fndR A op s ps H → ps.length + cntN p ≤ 1000000 →
    WC prog cs0 m (.f 30) [.agg cs, .ptr (A.length + 3) 0 0, .ptr (A.length + 1) 0 0, .ptr (A.length + 2) 0 0] H fun y H' => y = .tup [] ∧ fndR A op s (ps ++ findS s p) H') ?_ p
  intro fs b ps ih hlin m cs A op acc H hpv hm hfn hcnt
  obtain ⟨f, x, q, ch, rfl, hf, hb, hl, hch1, hrs, hq, hch⟩ := hpv.inv
  have hpv0 := hpv
  cases hlin with
  | mk l1 l2 l3 l4 l5 =>
  simp only [Prt.fs, Prt.b, Prt.ps] at hf hb hl hq hch
  rw [cntN] at hcnt
  obtain ⟨Z, hZ⟩ : ∃ Z, Z = acc ++ findS s (.mk fs b ps) := ⟨_, rfl⟩
  rw [← hZ]
  rw [findS] at hZ
  obtain ⟨K, hK⟩ : ∃ K : CV → Hp → Prop, ∀ y H', K y H' ↔ y = .tup [] ∧ fndR A op s Z H' := ⟨_, fun _ _ => Iff.rfl⟩
  simp only [← hK]
  obtain ⟨z, L, acch, rfl, hacc, hg⟩ := hfn
  rw [WC_raw rfl func30 rfl rfl]
  have of := hf.one
  have ob := hb.one
  have oq := hq.one
  have uq := hq.unl
  have hg2 := fun u0 u1 u2 u3 M => Grow.heads4 u0 u1 u2 u3 M hg
  have h14 := fun H => w14 m f x q fs H (PV.fld hf _) ob oq (by omega) (fun g hg => by have := l2 g hg; omega)
  obtain ⟨kd, hkd⟩ : ∃ kd, kd = kindO fs := ⟨_, rfl⟩
  rw [← hkd] at hZ
  simp -implicitDefEqProofs [f30, aQ, dAlloc, cells_agg, of, ob, oq, load_aggp underlying26 rfl iT26]
  refine WC_mono (h14 _) ?_
  rintro y H2 ⟨rfl, x', ⟨q', rfl, hk⟩, rfl⟩
  have hkts := kind_ts fs
  rw [← hkd] at hk hkts ⊢
  obtain ⟨kk, ke⟩ := kd
  obtain ⟨kt, ks, kp⟩ := kk
  simp only at hk hZ hkts
  have oq' := hk.one
  have uq' := hk.unl
  have hst : ∀ k x off, stQ m (.ptr (A.length + k) 0 off) x = true := fun k x off => by simp [stQ]; exact .inl (by omega)
  by_cases hke : ke = 0
  case neg =>
    rw [if_pos hke, List.append_nil] at hZ
    simp -implicitDefEqProofs [aQ, dAlloc, dExtract, cells_agg, oq', store_at iT55, hst, hke]
    refine (hK _ _).2 ⟨rfl, z, _, acch, rfl, by rw [hZ]; exact hacc, ?_⟩
    exact hg2 _ _ _ _ _
  subst hke
  rw [if_neg (by simp)] at hZ
  obtain ⟨hkt1, hks1⟩ := hkts rfl
  by_cases hkt : kt = [109, 117, 108, 116, 105, 112, 97, 114, 116]
  case neg =>
    rw [if_neg (show ¬ kt = mpart from hkt)] at hZ
    simp -implicitDefEqProofs [aQ, dAlloc, dExtract, cells_agg, oq', store_at iT55, hst, faddr_ptr, underlying55, load_one underlying9 rfl iT9, hkt, load_aggp underlying55 rfl iT55]
    have c33 := fun H => (w33 m ⟨kt, ks, kp⟩ q' s H oq' (by simp only []; omega)).wc
    simp only at c33
    by_cases hks : kt ++ 47 :: ks = s
    case neg =>
      rw [if_neg hks, List.append_nil] at hZ
      simp -implicitDefEqProofs [c33, hks]
      refine (hK _ _).2 ⟨rfl, z, _, acch, rfl, by rw [hZ]; exact hacc, ?_⟩
      exact hg2 _ _ _ _ _
    rw [if_pos hks] at hZ
    simp -implicitDefEqProofs [c33, hks]
    have hld : ∀ H v y, cellsAt H (A.length + 2) 0 = some [v] → dLoad prog 24 (.ptr (A.length + 2) 0 0) H = some y → y = v := fun H v y h1 h2 => by
      rw [load_one underlying24 rfl iT24, h1] at h2
      simp at h2; exact h2.symm
    have hown : ∀ z cs n, ∀ H : Hp, Grow (A.length + 4) H z cs n 3 26 → ownA (A.length + 4) z := fun z cs n H h => ⟨Grow.own h, fun cs e => by
      rcases h with ⟨_, _, h⟩ | ⟨_, _, _, _, h, _⟩ <;> (rw [h] at e; cases e)⟩
    rw [W_drawJ (FJ 3 36 40 41 (A.length + 2) (A.length + 4)) [(0, 3), (1, 3), (2, 3), (5, 7), (6, 7)] _ _ _ _ _ _ followsT (by
        have h0 : ownA (A.length + 4) (.tup []) := ⟨fun _ _ _ _ _ h => (by cases h), fun _ h => (by cases h)⟩
        refine ⟨by simp, by simp, ?_, ?_, ?_, z, by simp, hown _ _ _ _ hg⟩
        · simpa using h0
        · simpa using h0
        · simp; intro _ _ _ h; cases h) (by rfl) (by
        intro k o ho
        simp at ho
        rcases ho with rfl | rfl | rfl | rfl | rfl | rfl | rfl | rfl
        · exact fkeep_ld hld rfl rfl rfl (by decide)
        · exact fkeep_rd (rd_of rfl) (by decide)
        · exact fkeep_rd (rd_of rfl) (by decide)
        · exact fkeep_gro (gro_buildSlice rfl) (by decide)
        · exact fkeep_app (by omega) rfl rfl rfl (by decide)
        · exact fkeep_ia underlying24 rfl rfl rfl (by decide)
        · exact fkeep_st (by omega) rfl rfl rfl
        · exact fkeep_so rfl rfl rfl (fun i hi => by rw [iT24] at hi; cases hi; rfl)) (by
        intro k j i oj oi hm h1 h2
        simp at hm
        rcases hm with ⟨rfl, rfl⟩ | ⟨rfl, rfl⟩ | ⟨rfl, rfl⟩ | ⟨rfl, rfl⟩ | ⟨rfl, rfl⟩ <;> simp at h1 h2 <;> subst h1 h2
        · exact cmt_grow (by rfl) (mon_load rfl) (gro_buildSlice rfl) _
        · exact cmt_grow (by rfl) (mon_load rfl) (gro_buildSlice rfl) _
        · exact cmt_grow (by rfl) (mon_len rfl) (gro_buildSlice rfl) _
        · exact fcmt_ia underlying24 (by rfl) rfl rfl rfl rfl rfl
        · exact fcmt_ss (by omega) (by rfl) rfl rfl rfl rfl rfl rfl)]
    have hz3 : ∀ fr : Fr, evO fr (.const (.agg #[.slice none 0 0, .slice none 0 0, .slice none 0 0])) = some (.agg [nilC, nilC, nilC]) := fun _ => rfl
    have uz := Grow.unl hg
    have hgl := hg2 op (CO.cells 0 [str s] 9) (CO.cells 0 [z] 24) (CO.cells 0 [fnv A.length] 52) [CO.cells 0 [f, x, q] 26, CO.cells 0 [str kt, str ks, q'] 55]
    have hlz := (Grow.rs hgl hacc.2.1).len (P := prog) underlying24
    have hmk := fun H => mkA1 (P := prog) (t := 24) (cs := [nilC, nilC, nilC]) underlying24 (by rw [underlying26]; rfl) iT26 zT26 rfl sT26 (by omega) (by omega) rfl rfl rfl H
    have hacl : acch.length ≤ 1000000 := by have := hacc.1; omega
    obtain ⟨z2, H3, k1, k2, k3, k4, _⟩ := Grow.append (P := prog) (t := 24) (tx := 24) (y := .im [nilC, nilC, nilC] 1 3) underlying24 iT26 zT26 rfl sT26 (by omega) (by simp) hgl (src_clo (n := 1) underlying24 (.inl rfl) rfl _) rfl (by simp; omega) (by omega)
    obtain ⟨L3, rfl⟩ : ∃ L3, H3 = A ++ op :: CO.cells 0 [str s] 9 :: CO.cells 0 [z] 24 :: CO.cells 0 [fnv A.length] 52 :: L3 := by
      refine ⟨H3.drop (A.length + 4), ?_⟩
      have := split_at k3
      rw [takeLi rfl] at this
      simpa using this
    have hap : ∀ y, apQ m z y = true := Grow.ap hg (by omega)
    have uz2 := Grow.unl k2
    have hpa : PVs (acc ++ [.mk fs b ps]) (acch ++ [[f, x, q]]) := hacc.snoc hpv0
    have hfl : acch.flatten.length = acch.length * 3 := hacc.2.1.len
    rcases k2 with ⟨h0, _, _⟩ | ⟨_, id, ver, hid, rfl, hcell⟩
    · omega
    obtain ⟨j, rfl⟩ : ∃ j, id = A.length + (j + 1 + 1 + 1 + 1) := ⟨id - A.length - 4, by omega⟩
    have hc3 : L3[j]? = some (.cells ver (acch.flatten ++ [nilC, nilC, nilC]) 26) := by
      rw [get_own] at hcell; simpa using hcell
    have hat : cellsAt L3 j ver = some (acch.flatten ++ [nilC, nilC, nilC]) := by unfold cellsAt; rw [hc3]; simp
    have hput : (putH L3 j (acch.length * 3) [f, x, q])[j]? = some (.cells ver (acch.flatten ++ [f, x, q]) 26) := by
      unfold putH
      rw [List.getElem?_modify, hc3]
      simp [← hfl]
    have hia := fun H => iaddr_eq (P := prog) underlying24 (.sl (A.length + (j + 1 + 1 + 1 + 1)) ver 0 (acch.length + 1) 3) (.v (.int .i64 (acch.length : Nat))) H
    have hst4 : ∀ j off x, stQ m (.ptr (A.length + j) ver off) x = true := fun k off x => by simp [stQ]; exact .inl (by omega)
    simp [iT26] at hia
    have hlt1 : ((acch.length : Nat) : Int) < (acch.length : Nat) + 1 := by omega
    simp -implicitDefEqProofs [load_one underlying24 rfl iT24, load_aggp underlying26 rfl iT26, uz, hlz, hmk, hz3, hap, k1, hia, hat, hst, hst4, store_at iT26, store_at iT24, cells_agg, of, ob, oq, hfl, uz2, hlt1, cells_sl]
    refine (hK _ _).2 ⟨rfl, _, _, acch ++ [[f, x, q]], rfl, by rw [hZ]; exact hpa, ?_⟩
    refine .inr ⟨by simp [hfl]; omega, A.length + (j + 1 + 1 + 1 + 1), ver, by omega, by simp, ?_⟩
    rw [get_own]
    simpa using hput
  rw [if_pos (show kt = mpart from hkt)] at hZ
  have hlq : ∀ H, dLenS prog 24 q H = some (.v (.int .i64 (ps.length : Nat))) := fun H => by rw [(hrs H).len underlying24, hl]
  simp -implicitDefEqProofs [aQ, dAlloc, dExtract, cells_agg, oq', store_at iT55, hst, faddr_ptr, underlying55, underlying26, load_one underlying9 rfl iT9, hkt, load_one underlying24 rfl iT24, hlq]
  obtain ⟨I, hI⟩ : ∃ I : Nat → Fr → Hp → Prop, ∀ i fr H', I i fr H' ↔ ∃ acc', fr 1 = .ptr (A.length + 3) 0 0 ∧ fr 22 = q ∧ fr 23 = .v (.int .i64 (ps.length : Nat)) ∧ fr 24 = .v (.int .i64 (i : Nat)) ∧ fndR A op s acc' H' ∧ acc'.length + cntN.cntNL (ps.drop i) ≤ 1000000 ∧ Z = acc' ++ findS.findL s (ps.drop i) := ⟨_, fun _ _ _ => Iff.rfl⟩
  refine W_mono (W_up (Q := fun e fr H' => e = .exit 1 ∧ I ps.length fr H') ps.length I ?_ 0 _ _ (by omega) ((hI _ _ _).2 ⟨acc, by simp, by simp, by simp, by simp, ⟨z, _, acch, rfl, hacc, hg2 _ _ _ _ _⟩, by simp; omega, by rw [hZ]; simp⟩)) ?_
  · intro i fr H' hi hinv
    obtain ⟨acc', e1, e22, e23, e24, hfn, hct, hz2⟩ := (hI _ _ _).1 hinv
    by_cases hlt : i < ps.length
    case neg =>
      obtain rfl : i = ps.length := by omega
      simp -implicitDefEqProofs [e23, e24]
      exact (hI _ _ _).2 ⟨acc', by simp [e1], by simp [e22], by simp [e23], by simp [e24], hfn, hct, hz2⟩
    obtain ⟨z', L', ch', rfl, hacc', hg'⟩ := hfn
    have hw := up64 hlt (by omega)
    have hlt2 : i < ch.length := by omega
    have had := fun H => (hrs H).addr (P := prog) underlying24 iT26 sT26 .i64 i
    have hla := fun H => (hrs H).loadAgg (P := prog) underlying26 rfl iT26 sT26 hlt2
    simp [hlt2] at had
    have hdr := List.drop_eq_getElem_cons hlt
    rw [hdr, findS.findL] at hz2
    rw [hdr, cntN.cntNL] at hct
    have hpv := hch i hlt hlt2
    obtain ⟨pf, px, pq, pch, hce, g1, g2, -, -, -, g3, -⟩ := hpv.inv
    have o1 := g1.one
    have o2 := g2.one
    have o3 := g3.one
    have hfc := find_cnt s ps[i]
    have h32 := ih ps[i] (List.getElem_mem hlt) (l5 _ (List.getElem_mem hlt)) m ch[i] A op acc' (A ++ op :: CO.cells 0 [str s] 9 :: CO.cells 0 [z'] 24 :: CO.cells 0 [fnv A.length] 52 :: (L' ++ [CO.cells 0 [pf, px, pq] 26])) hpv hm ⟨z', _, ch', rfl, hacc', Grow.heads4 _ _ _ _ _ hg'⟩ (by omega)
    simp only [hce] at hla h32
    have hfn : ∀ L, dLoad prog 52 (.ptr (A.length + 3) 0 0) (A ++ op :: CO.cells 0 [str s] 9 :: CO.cells 0 [z'] 24 :: CO.cells 0 [fnv A.length] 52 :: L) = some (.fn (.func 30) [] [.ptr (A.length + 3) 0 0, .ptr (A.length + 1) 0 0, .ptr (A.length + 2) 0 0]) := fun L => by
      rw [load_one underlying52 rfl iT52]
      simp [fnv]
    simp -implicitDefEqProofs [e1, e22, e23, e24, hlt, had, hla, uq, aQ, dAlloc, hst, store_at iT26, cells_agg, o1, o2, o3, load_aggp underlying26 rfl iT26, hfn]
    refine WC_mono h32 ?_
    rintro y H2 ⟨rfl, hfn2⟩
    simp -implicitDefEqProofs [e24, hw]
    exact ⟨hlt, (hI _ _ _).2 ⟨_, by simp [e1], by simp [e22], by simp [e23], by simp, hfn2, by rw [List.length_append]; omega, by rw [hz2, List.append_assoc]⟩⟩
  · rintro e fr H' ⟨rfl, hi⟩
    obtain ⟨acc', e1, e22, e23, e24, hfn, hct, hz2⟩ := (hI _ _ _).1 hi
    rw [List.drop_length, findS.findL, List.append_nil] at hz2
    simp -implicitDefEqProofs
    exact (hK _ _).2 ⟨rfl, by rw [hz2]; exact hfn⟩
/-- What Find answers. -/
def fndV (ps : List Prt) (y : CV) : Prop := ∃ ch, PVs ps ch ∧ Cls y ch.flatten ch.length 3
set_option maxRecDepth 100000 in
theorem w18 (s : Bs) (hs : s.length ≤ 1000000) (p : Prt) (hl : Lin p) (hc : cntN p ≤ 100000) (m : Nat) (cs : List CV) (H : Hp) (hp : PV p cs) : WC prog cs0 m (.f 10) [.agg cs, str s] H fun y H' => H' = H ∧ fndV (findS s p) y := by
  have hp0 := hp
  obtain ⟨f, x, q, ch, rfl, hf, hb, hcl, hch1, hrs, hq, hch⟩ := hp.inv
  have of := hf.one
  have ob := hb.one
  have oq := hq.one
  rw [WC_drop rfl func10 rfl rfl]
  have h32 := w32 s hs p hl H.length [f, x, q] H (CO.cells 0 [f, x, q] 26) [] (H ++ CO.cells 0 [f, x, q] 26 :: CO.cells 0 [str s] 9 :: CO.cells 0 [nilC] 24 :: CO.cells 0 [fnv H.length] 52 :: []) hp0 (Nat.le_refl _) ⟨nilC, [], [], rfl, PVs.nil, Grow.nil _ _ 3 26⟩ (by simp; omega)
  have hst : ∀ k x off, stQ H.length (.ptr (H.length + k) 0 off) x = true := fun k x off => by simp [stQ]
  have cfn : ∀ a b c, cvCells (.fn a b c) = some [.fn a b c] := fun _ _ _ => rfl
  have h68 : ∀ L, dLoad prog 52 (.ptr (H.length + 3) 0 0) (H ++ L) = (cellsAt L 3 0).bind fun cs => cs[0]? := fun L => by
    rw [load_one underlying52 rfl iT52]; simp
  simp only [fnv] at h32
  simp -implicitDefEqProofs [f10, aQ, dAlloc, cells_agg, of, ob, oq, store_at iT52, hst, cfn, load_aggp underlying26 rfl iT26, load_one underlying52 rfl iT52]
  refine WC_mono h32 ?_
  rintro y H2 ⟨rfl, z, L, ch2, rfl, hpv, hg⟩
  obtain ⟨y3, f1, f2, f3, f4⟩ := Grow.frzV hg (k := H.length) (by omega) hpv.clB
  have uz := Grow.unl hg
  simp only [List.nil_append] at hpv
  simp -implicitDefEqProofs [load_one underlying24 rfl iT24, uz, f1, f2, f3]
  exact ⟨ch2, hpv, f4⟩
end Go.Proofs.Tryz

/- Walks: the fixed knot; what must come of fixed calls. -/
namespace Go.Proofs.Tryz
open Go Go.SL
set_option linter.unusedVariables false
set_option linter.unusedSimpArgs false
attribute [local congr] WX_stop WC_stop W_stop

def mpv : Bs := [109, 117, 108, 116, 105, 112, 97, 114, 116, 47, 109, 105, 120, 101, 100, 59, 32, 98, 111, 117, 110, 100, 97, 114, 121, 61, 98]
def knot : Prt := .mk [⟨ctName2, mpv⟩] [] [.mk [] [120] [], .mk [] [121] []]
def knotC : List CV := [.im [str ctName2, str mpv] 1 2, nilC, .im [nilC, byt [120], nilC, nilC, byt [121], nilC] 2 3]
theorem knotV : PV knot knotC := by
  have l1 : ∀ c : UInt8, PV (.mk [] [c] []) [nilC, byt [c], nilC] := fun c => PV.of (fs := []) (.inr ⟨rfl, rfl, rfl⟩) (.inl rfl) PVs.nil (.inr ⟨rfl, rfl, rfl⟩)
  exact PV.of (.inl rfl) (.inr ⟨rfl, rfl, rfl⟩) ((PVs.nil.snoc (l1 120)).snoc (l1 121)) (.inl rfl)
theorem b28_i (x : CV) (hx : cvCells x = some [x]) : dBuild prog 26 [(1, x)] = some (.agg [nilC, x, nilC]) := by
  simp [dBuild, underlying26, places, fillC, hx]
theorem b26_02 (x y : CV) (hx : cvCells x = some [x]) (hy : cvCells y = some [y]) : dBuild prog 26 [(0, x), (2, y)] = some (.agg [x, nilC, y]) := by
  simp [dBuild, underlying26, places, fillC, hx, hy]
variable [LayerC]
theorem w17 (m : Nat) (H : Hp) : Ret prog cs0 m 17 [] H (.agg knotC) H := by
  unfold Ret
  rw [WC_drop rfl func17 rfl rfl]
  have c1 : ∀ c : UInt8, cvCells (byt [c]) = some [byt [c]] := fun _ => rfl
  have h1 : str [67, 111, 110, 116, 101, 110, 116, 45, 84, 121, 112, 101] = str ctName2 := rfl
  have hb : ∀ c : Int, dBuild prog 26 [(1, .im [.v (.int .u8 c)] 1 1)] = some (.agg [nilC, .im [.v (.int .u8 c)] 1 1, nilC]) := fun c => b28_i _ rfl
  have hm : ∀ (x y : Int) (H : Hp), dBuildSlice prog 24 2 [(0, .agg [nilC, .im [.v (.int .u8 x)] 1 1, nilC]), (1, .agg [nilC, .im [.v (.int .u8 y)] 1 1, nilC])] H false = some (.im [nilC, .im [.v (.int .u8 x)] 1 1, nilC, nilC, .im [.v (.int .u8 y)] 1 1, nilC] 2 3, H) := fun x y H => by
    simp [dBuildSlice, underlying24, underlying26, fillC, zerosC, isU8, cvCells, oneB, SL.clB, show List.range 2 = [0, 1] from rfl, show List.range 6 = [0, 1, 2, 3, 4, 5] from rfl]
  have hk2 : dBuild prog 26 [(0, .im [str ctName2, str mpv] 1 2), (2, .im [nilC, .im [.v (.int .u8 120)] 1 1, nilC, nilC, .im [.v (.int .u8 121)] 1 1, nilC] 2 3)] = some (.agg [.im [str ctName2, str mpv] 1 2, nilC, .im [nilC, .im [.v (.int .u8 120)] 1 1, nilC, nilC, .im [.v (.int .u8 121)] 1 1, nilC] 2 3]) := b26_02 _ _ rfl rfl
  have hst0 : ∀ x off, stQ H.length (.ptr H.length 0 off) x = true := fun x off => by simp [stQ]
  simp only [ctName2, mpv] at hk2
  have on : oneB nilC = true := rfl
  have on' : oneB (.v (.slice none 0 0)) = true := rfl
  have oi : ∀ a b c, oneB (.im a b c) = true := fun _ _ _ => rfl
  simp -implicitDefEqProofs [f17, aQ, dAlloc, b62_2, mkF1, mkB1 underlying23 underlying5 iT5 zT5 sT5, cvt_l2 underlying23 underlying5, hb, hm, hk2, hst0, store_at iT26, cells_agg, on, on', oi, load_aggp underlying26 rfl iT26]
  rfl
end Go.Proofs.Tryz

/- Laws: the fixed knot, written and read. -/
namespace Go.Proofs.Tryz
open Go Go.SL
set_option linter.unusedVariables false

/-- Lines, by so many steps. -/
def lnF : Nat → Nat → Bs → List Ln
  | 0, _, _ => []
  | n + 1, a, r => if r = [] then [] else if crIdx r < 0 then [⟨a, r, false⟩] else ⟨a, r.take (crIdx r).toNat, true⟩ :: lnF n (a + lineN r) (r.drop (lineN r))
theorem lnF_eq (n : Nat) : ∀ (a : Nat) (r : Bs), r.length ≤ n → lnS a r = lnF n a r := by
  induction n with
  | zero =>
    intro a r h
    obtain rfl := List.eq_nil_of_length_eq_zero (by omega : r.length = 0)
    rw [lnS_nil]; rfl
  | succ n ih =>
    intro a r h
    rw [lnF]
    by_cases h0 : r = []
    · subst h0; rw [lnS_nil]; simp
    · rw [if_neg h0]
      by_cases hc : crIdx r < 0
      · rw [if_pos hc, lnS_last h0 hc]
      · rw [if_neg hc, lnS_whole (by omega)]
        have hp := lineN_pos h0
        have := List.length_pos_iff.2 h0
        rw [ih _ _ (by simp; omega)]
def isOk : PR → List Fld → Nat → Bool
  | .ok l n, l', n' => decide (l = l') && decide (n = n')
  | _, _, _ => false
theorem isOk_eq {r : PR} {l : List Fld} {n : Nat} (h : isOk r l n = true) : r = .ok l n := by
  cases r with
  | ok a b => simp [isOk] at h; rw [h.1, h.2]
  | bad a b => cases h
def kMix : Kd := ⟨mpart, [109, 105, 120, 101, 100], [⟨boName, [98]⟩]⟩
theorem read_mpv : readK mpv = some kMix := by
  have h1 : tokR (trimL mpv) = 47 :: mpv.drop 10 := by decide +kernel
  have h2 : tokF (trimL mpv) = mpart := by decide +kernel
  have h3 : tokR (mpv.drop 10) = mpv.drop 15 := by decide +kernel
  have h4 : tokF (mpv.drop 10) = [109, 105, 120, 101, 100] := by decide +kernel
  have h5 : trimL (mpv.drop 15) = 59 :: mpv.drop 16 := by decide +kernel
  have h6 : trimL (mpv.drop 16) ≠ [] := by decide +kernel
  have h7 : parR (trimL (mpv.drop 16)) = some (⟨boName, [98]⟩, []) := by decide +kernel
  have h8 : parsS [] = some [] := parsS_nil rfl
  have h9 : parsS (mpv.drop 15) = some [⟨boName, [98]⟩] := by rw [parsS_par h5 h6, h7]; simp only [h8]; rfl
  have h10 : kOK (low mpart) (low [109, 105, 120, 101, 100]) [⟨boName, [98]⟩] := by decide +kernel
  unfold readK
  rw [h1]
  simp only [if_true, h2, h3, h4, h9, Option.bind_some]
  rw [if_pos h10]
  rfl
theorem kind_knot : kindO [⟨ctName2, mpv⟩] = (kMix, 0) := by
  have h1 : fall [⟨ctName2, mpv⟩] ctName = [mpv] := by decide +kernel
  unfold kindO
  rw [h1]
  simp only [read_mpv]
theorem kind_nil : kindO [] = (kText, 0) := (rfl)
theorem bord_mix : bord kMix.ps = [98] := by decide +kernel
theorem hd_nil : hdO [] = some crlf := by
  have := (hd_of (WrR.ok (l := []) (by simp) (by simp) [] .nil (by simp))).1
  rw [this]; rfl
def hdText : Bs := lineF ⟨ctName2, mpv⟩ ++ crlf ++ crlf
theorem hd_knot : hdO [⟨ctName2, mpv⟩] = some hdText := by
  have hf : FoldR (lineF ⟨ctName2, mpv⟩) ((⟨ctName2, mpv⟩ : Fld).n.length + 3) [lineF ⟨ctName2, mpv⟩] := .stop (.inl (by decide +kernel))
  have hs : FoldsR [⟨ctName2, mpv⟩] ([] ++ [lineF ⟨ctName2, mpv⟩]) := FoldsR.snoc (l := []) .nil hf
  have := (hd_of (WrR.ok (l := [⟨ctName2, mpv⟩]) (by simp) (by decide +kernel) _ hs (by decide +kernel))).1
  rw [this]; rfl
def ktext : Bs := hdText ++ (dash2 ++ [98] ++ crlf) ++ (crlf ++ [120]) ++ crlf ++ (dash2 ++ [98] ++ crlf) ++ (crlf ++ [121]) ++ crlf ++ (dash2 ++ [98] ++ dash2 ++ crlf)
theorem leaf_wr (c : UInt8) (d k : Nat) (hd : d ≤ 8) (hk : k < 64) : wrPt (.mk [] [c] []) d k = (some (crlf ++ [c]), k + 1) := by
  rw [wrPt, hd_nil]
  simp only [kind_nil]
  rw [if_neg (by omega), if_pos (by decide), if_pos (show ([] : List Prt).length = 0 from rfl)]
theorem leaf_beg (c : UInt8) (h : c = 120 ∨ c = 121) : ¬ begL (crlf ++ [c]) (dash2 ++ [98]) := by
  have hn : noCr [98] := by intro d hd; simp at hd; subst hd; decide
  rw [beg_law hn]
  unfold begR
  rw [lnF_eq 3 0 _ (by simp [crlf])]
  rcases h with rfl | rfl <;> decide +kernel
theorem wr_knot : wrP knot = some ktext := by
  have h : wrPt knot 1 0 = (some ktext, 3) := by
    rw [knot, wrPt, hd_knot]
    simp only [kind_knot, bord_mix]
    rw [if_neg (by omega), if_neg (fun h => h rfl), if_neg (by simp)]
    rw [wrLp, leaf_wr _ _ _ (by omega) (by omega)]
    simp only []
    rw [if_neg (by rintro (h | h); exact leaf_beg _ (.inl rfl) h; revert h; decide +kernel)]
    rw [wrLp, leaf_wr _ _ _ (by omega) (by omega)]
    simp only []
    rw [if_neg (by rintro (h | h); exact leaf_beg _ (.inr rfl) h; revert h; decide +kernel)]
    rw [wrLp]; rfl
  unfold wrP capO
  rw [h]
  simp only [Option.bind_some]
  rw [if_neg (by decide +kernel)]
theorem ps_nil : psP [] = .inl 50 := by
  unfold psP
  rw [if_neg (by simp), rdP, lnS_nil, hdrG_nil]
  rfl
theorem ps_knot : psP ktext = .inr knot := by
  have hl : ∀ (c : UInt8) (k n : Nat), (c = 120 ∨ c = 121) → n < 64 → rdP k (crlf ++ [c]) n = (.inr (.mk [] [c] []), n + 1) := by
    intro c k n hc hn
    have h1 : hdrG (crlf ++ [c]).length (lnS 0 (crlf ++ [c])) [] none = .ok [] 2 := by
      apply isOk_eq
      rw [lnF_eq 3 0 _ (by simp [crlf])]
      rcases hc with rfl | rfl <;> decide +kernel
    rw [rdP.eq_def]
    simp only []
    rw [if_neg (by omega), h1]
    simp only [kind_nil]
    rw [if_neg (by simp), if_pos (by decide)]
    rfl
  have h1 : hdrG ktext.length (lnS 0 ktext) [] none = .ok [⟨ctName2, mpv⟩] 45 := by
    apply isOk_eq
    rw [lnF_eq 100 0 _ (by decide +kernel)]
    decide +kernel
  have h2 : cutG (ktext.drop 45) [98] (lnS 0 (ktext.drop 45)) none [] = some [crlf ++ [120], crlf ++ [121]] := by
    rw [lnF_eq 100 0 _ (by decide +kernel)]
    decide +kernel
  unfold psP
  rw [if_neg (by decide +kernel), rdP.eq_def]
  simp only []
  rw [if_neg (by omega), h1]
  simp only [kind_knot, bord_mix]
  rw [if_neg (by simp), if_neg (fun h => h rfl), if_neg (by simp), h2]
  simp only []
  rw [if_neg (by simp)]
  rw [rdL, hl _ _ _ (.inl rfl) (by omega)]
  simp only []
  rw [rdL, hl _ _ _ (.inr rfl) (by omega)]
  simp only []
  rw [rdL]; rfl
theorem find_knot : findS [116, 101, 120, 116, 47, 112, 108, 97, 105, 110] knot = [.mk [] [120] [], .mk [] [121] []] := by
  have h : ∀ c : UInt8, findS [116, 101, 120, 116, 47, 112, 108, 97, 105, 110] (.mk [] [c] []) = [.mk [] [c] []] := by
    intro c
    rw [findS, kind_nil]
    rw [if_neg (by simp), if_neg (by decide), if_pos (by decide)]
  rw [knot, findS, kind_knot, if_neg (by simp), if_pos (show (kMix, (0 : Int)).1.t = mpart from rfl), findS.findL, findS.findL, findS.findL, h, h]
  rfl
end Go.Proofs.Tryz

/- Walks: what must come of fixed calls. -/
namespace Go.Proofs.Tryz
open Go Go.SL
set_option linter.unusedVariables false
set_option linter.unusedSimpArgs false
attribute [local congr] WX_stop WC_stop W_stop

theorem lin_knot : Lin knot := by
  have l : ∀ c : UInt8, Lin (.mk [] [c] []) := fun c => .mk (by simp) (by simp) (by simp) (by simp) (by simp)
  refine .mk (by simp) (by decide +kernel) (by simp) (by simp) ?_
  intro q hq
  simp at hq
  rcases hq with rfl | rfl <;> exact l _
theorem cnt_knot : cntN knot = 3 := by
  rw [knot, cntN, cntN.cntNL, cntN.cntNL, cntN.cntNL, cntN, cntN, cntN.cntNL]
variable [LayerC]
set_option maxRecDepth 100000 in
theorem w5 (m : Nat) (H : Hp) : Ret prog cs0 m 6 [] H (.v (.bool true)) H := by
  unfold Ret
  rw [WC_drop rfl func6 rfl rfl]
  have c17 := fun H2 => (w17 H.length H2).wc
  have h12 := fun H2 => w12 knot lin_knot H.length knotC H2 knotV
  rw [wr_knot] at h12
  have hst : ∀ k x off, stQ H.length (.ptr (H.length + k) 0 off) x = true := fun k x off => by simp [stQ]
  have hst0 : ∀ x off, stQ H.length (.ptr H.length 0 off) x = true := fun x off => by simp [stQ]
  simp -implicitDefEqProofs [f6, c17]
  refine WC_mono (h12 _) ?_
  rintro y H2 ⟨e2, _, z, hz, rfl⟩
  rw [e2]
  clear e2 H2
  have uz := hz.unl
  have hlz := fun H => (hz.rb H).len (P := prog) underlying23
  have h7 := fun H2 => w7 H.length z ktext H2 (hz.rb _)
  rw [ps_knot] at h7
  simp -implicitDefEqProofs [dExtract, uz]
  refine WC_mono (h7 _) ?_
  rintro y H2 ⟨e2, cs, hcs, rfl⟩
  rw [e2]
  clear e2 H2
  have h70 := fun H2 => w7 H.length nilC [] H2 (RB.nil _)
  rw [ps_nil] at h70
  obtain ⟨q1, q2, q3⟩ := hcs.clo
  have hcs0 := hcs
  obtain ⟨v1, v2, v3, ch, rfl, g1, g2, -, -, -, g3, -⟩ := hcs.inv
  have o1 := g1.one
  have o2 := g2.one
  have o3 := g3.one
  have on : oneB nilC = true := rfl
  simp -implicitDefEqProofs [aQ, dAlloc, dExtract, store_at iT26, cells_agg, o1, o2, o3, hst, hst0]
  refine WC_mono (h70 _) ?_
  rintro y H2 ⟨e2, _, rfl⟩
  rw [e2]
  clear e2 H2
  simp -implicitDefEqProofs [aQ, dAlloc, dExtract, store_at iT26, cells_agg, on, hst, hst0]
  rw [W_drawJ TJ [(12, 13)] _ _ _ _ _ _ followsT trivial (by rfl) (fun _ _ _ => keep_T) (by
    intro k j i oj oi hm h1 h2
    simp at hm
    obtain ⟨rfl, rfl⟩ := hm
    simp at h1 h2; subst h1 h2
    exact cmt_rd (by rfl) (rd_of rfl) (rd_ret rfl (w17 H.length)) _)]
  have hcv := fun H => (hz.rb H).str (P := prog) (s := 23) (d := 9) false underlying23 underlying9 underlying5
  have hkt : str ktext = .v (.string ⟨ktext.toArray⟩) := rfl
  have hsame : ∀ H2, Ret prog cs0 H.length 19 [.agg [v1, v2, v3], .agg knotC] H2 (.v (.bool true)) H2 := fun H2 => by
    obtain ⟨b, hb, h9⟩ := w9 knot lin_knot.lim knot H.length [v1, v2, v3] knotC H2 hcs0 knotV
    rw [hb.2 rfl] at h9; exact h9
  have c9 := fun H2 => (hsame H2).wc
  have h18 := fun H2 => w18 [116, 101, 120, 116, 47, 112, 108, 97, 105, 110] (by simp) knot lin_knot (by rw [cnt_knot]; omega) H.length [v1, v2, v3] H2 hcs0
  rw [find_knot] at h18
  simp -implicitDefEqProofs [uz, hcv, load_aggp underlying26 rfl iT26, c17, c9]
  refine ⟨rfl, WC_mono (h18 _) ?_⟩
  rintro y H2 ⟨e2, ch2, hpv, hcl⟩
  rw [e2]
  clear e2 H2
  have hl2 : ch2.length = 2 := hpv.1
  have hlen := fun H => (Cls.rs hcl hpv.2.1 H).len (P := prog) underlying24
  rw [hl2] at hlen
  have hlen' : ∀ H, dLenS prog 24 y H = some (.v (.int .i64 2)) := hlen
  simp -implicitDefEqProofs [hlen']
end Go.Proofs.Tryz

/- Walks: the statement on writing. -/
namespace Go.Proofs.Tryz
open Go Go.SL
set_option linter.unusedVariables false
set_option linter.unusedSimpArgs false
attribute [local congr] WX_stop WC_stop W_stop

theorem not_great (n : Nat) : ∀ p : Prt, ¬ grT n p → Lin p ∧ dep p ≤ n := by
  induction n with
  | zero => intro p h; exact absurd trivial (by rw [grT] at h; exact h)
  | succ n ih =>
    intro p h
    obtain ⟨fs, b, ps⟩ := p
    rw [grT] at h
    obtain ⟨h1, h⟩ := not_or.1 h
    obtain ⟨h2, h⟩ := not_or.1 h
    obtain ⟨h3, h4⟩ := not_or.1 h
    have hq : ∀ q ∈ ps, Lin q ∧ dep q ≤ n := fun q hq => ih q fun hg => h4 ⟨q, hq, hg⟩
    have hf : fs.length ≤ 200 := by
      refine Nat.le_of_not_lt fun hl => h1 (.inl hl)
    have hn : ∀ f ∈ fs, f.n.length ≤ 200 ∧ f.v.length ≤ 5000 := by
      intro f hf
      obtain ⟨i, hi, rfl⟩ := List.getElem_of_mem hf
      constructor
      · exact Nat.le_of_not_lt fun hl => h1 (.inr ⟨i, hi, .inl hl⟩)
      · exact Nat.le_of_not_lt fun hl => h1 (.inr ⟨i, hi, .inr (.inl hl)⟩)
    refine ⟨.mk (by omega) (fun f hf => ⟨by have := (hn f hf).1; omega, by have := (hn f hf).2; omega⟩) (by omega) (by omega) fun q h => (hq q h).1, ?_⟩
    rw [dep]
    exact depL_le (by omega) fun q h => by have := (hq q h).2; omega
theorem kd_num (fs : List Fld) : (kindO fs).1.ps.length ≤ 4294967280 := by have := (kind_par fs).1; omega
theorem wrW_val {o : Option Bs} {y : CV} (h : wrW o y) : ∃ z, y = .tup [z, .v (.int .i64 (if o.isSome = true then 0 else 81))] ∧ CB z (o.getD []) := by
  cases o with
  | none => exact ⟨nilC, h, .inr ⟨rfl, rfl, rfl⟩⟩
  | some t => obtain ⟨_, z, hz, rfl⟩ := h; exact ⟨z, rfl, hz⟩
variable [LayerC]
end Go.Proofs.Tryz

/- Walks: the statement on reading. -/
namespace Go.Proofs.Tryz
open Go Go.SL
set_option linter.unusedVariables false
set_option linter.unusedSimpArgs false
attribute [local congr] WX_stop WC_stop W_stop

theorem rdL_inv {f : Bs → Nat → (Int ⊕ Prt) × Nat} {C : Prt → Prop} (ts : List Bs) : ∀ (c : Nat) (acc ps : List Prt) (c2 : Nat), (∀ t ∈ ts, ∀ c p c2, f t c = (.inr p, c2) → C p ∧ c + 1 ≤ c2) → (∀ q ∈ acc, C q) → rdL f ts c acc = (.inr ps, c2) → (∀ q ∈ ps, C q) ∧ c + ps.length ≤ c2 + acc.length := by
  induction ts with
  | nil => intro c acc ps c2 _ ha h; rw [rdL] at h; cases h; exact ⟨ha, Nat.le_refl _⟩
  | cons t ts ih =>
    intro c acc ps c2 hf ha h
    rw [rdL] at h
    split at h
    · cases h
    · rename_i p c' he
      obtain ⟨h1, h2⟩ := hf t (by simp) _ _ _ he
      obtain ⟨h3, h4⟩ := ih _ _ _ _ (fun u hu => hf u (by simp [hu])) (fun q hq => by
        rcases List.mem_append.1 hq with hq | hq
        · exact ha q hq
        · simp at hq; subst hq; exact h1) h
      refine ⟨h3, ?_⟩
      simp at h4; omega
theorem rdP_lin (k : Nat) : ∀ (b : Bs) (c : Nat) (p : Prt) (c2 : Nat), b.length ≤ 1000000 → c ≤ 64 → rdP k b c = (.inr p, c2) → Lin p ∧ c + 1 ≤ c2 := by
  induction k with
  | zero =>
    intro b c p c2 hb hc h
    rw [rdP] at h
    split at h
    · cases h
    split at h
    · cases h
    rename_i l n hh
    obtain ⟨_, hf⟩ := hdr_ok hh
    split at h
    · cases h
    split at h
    · cases h
      refine ⟨.mk (by have := hf.1; omega) (fun g hg => ?_) (by simp; omega) (by simp) (by simp), by omega⟩
      have h1 := (hf.2 g hg).1.2.1
      have h2 := (hf.2 g hg).2.2.1
      omega
    split at h
    · cases h
    split at h
    · cases h
    split at h
    · cases h
    · cases h
  | succ k ih =>
    intro b c p c2 hb hc h
    have hc2 : c2 ≤ 65 := by
      have := (rdP_c (k + 1) b c hc).2.1
      rw [h] at this; exact this
    rw [rdP] at h
    split at h
    · cases h
    rename_i hc1
    split at h
    · cases h
    rename_i l n hh
    obtain ⟨_, hf⟩ := hdr_ok hh
    have hfl : ∀ g ∈ l, g.n.length ≤ 100000 ∧ g.v.length ≤ 100000 := fun g hg => by
      have h1 := (hf.2 g hg).1.2.1
      have h2 := (hf.2 g hg).2.2.1
      omega
    split at h
    · cases h
    split at h
    · cases h
      exact ⟨.mk (by have := hf.1; omega) hfl (by simp; omega) (by simp) (by simp), by omega⟩
    split at h
    · cases h
    split at h
    · cases h
    rename_i ts hco
    split at h
    · cases h
    obtain ⟨r, hr⟩ : ∃ r, r = rdL (rdP k) ts (c + 1) [] := ⟨_, rfl⟩
    replace h : finR l (rdL (rdP k) ts (c + 1) []) = (.inr p, c2) := h
    rw [← hr] at h
    obtain ⟨r, c3⟩ := r
    cases r with
    | inl e => cases h
    | inr ps =>
      cases h
      obtain ⟨hcl, _⟩ := cutG_len _ _ _ _ (by simp) hco
      have hinv := rdL_inv (f := fun t c => if c ≤ 64 then rdP k t c else (.inl 0, c)) (C := Lin) ts (c + 1) [] ps c2 (fun t ht c p c2 he => by
        split at he
        · rename_i hc; exact ih t c p c2 (by have := hcl t ht; simp at this; omega) hc he
        · cases he) (by simp)
      have heq : rdL (fun t c => if c ≤ 64 then rdP k t c else (.inl 0, c)) ts (c + 1) [] = rdL (rdP k) ts (c + 1) [] := by
        have key : ∀ (ts : List Bs) (c : Nat) (acc : List Prt), c ≤ 64 → rdL (fun t c => if c ≤ 64 then rdP k t c else (.inl 0, c)) ts c acc = rdL (rdP k) ts c acc := by
          intro ts
          induction ts with
          | nil => intro c acc _; rw [rdL, rdL]
          | cons t ts iht =>
            intro c acc hc
            rw [rdL, rdL, if_pos hc]
            have h3 := (rdP_c k t c hc).2.2
            cases he : rdP k t c with
            | mk r c' =>
              cases r with
              | inl e => rfl
              | inr p =>
                rw [he] at h3
                exact iht c' _ (h3 ⟨p, rfl⟩)
        exact key ts (c + 1) [] (by omega)
      rw [heq, ← hr] at hinv
      obtain ⟨h1, h2⟩ := hinv rfl
      simp at h2
      exact ⟨.mk (by have := hf.1; omega) hfl (by simp) (by omega) h1, by omega⟩
theorem ps_lin {b : Bs} {p : Prt} (hb : b.length ≤ 1000000) (h : psP b = .inr p) : Lin p := by
  unfold psP at h
  split at h
  · cases h
  · cases hr : rdP 7 b 0 with
    | mk r c =>
      rw [hr] at h
      simp only at h
      subst h
      exact (rdP_lin 7 b 0 p c hb (by omega) hr).1
def psV : Int ⊕ Prt → Prt × Int
  | .inl e => (.mk [] [] [], e)
  | .inr p => (p, 0)
theorem rdA_val {r : Int ⊕ Prt} {y : CV} (h : rdA r y) : ∃ p cs e, PV p cs ∧ y = .tup [.agg cs, .v (.int .i64 e)] ∧ (p, e) = psV r := by
  cases r with
  | inl e => obtain ⟨_, rfl⟩ := h; exact ⟨_, _, e, PV.of (fs := []) (.inr ⟨rfl, rfl, rfl⟩) (.inr ⟨rfl, rfl, rfl⟩) PVs.nil (.inr ⟨rfl, rfl, rfl⟩), rfl, rfl⟩
  | inr p => obtain ⟨cs, hcs, rfl⟩ := h; exact ⟨p, cs, 0, hcs, rfl, rfl⟩
variable [LayerC]
end Go.Proofs.Tryz

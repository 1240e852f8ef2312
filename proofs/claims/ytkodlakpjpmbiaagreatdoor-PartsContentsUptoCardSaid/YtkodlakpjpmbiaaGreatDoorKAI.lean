/- Walks: which kinds may be. -/
import Derived.Test.YtkodlakpjpmbiaaGreatDoorKAH
import Derived.Test.YtkodlakpjpmbiaaGreatDoorKAG

set_option linter.all false

namespace Go.Proofs.Tryz
open Go Go.SL
set_option linter.unusedVariables false
set_option linter.unusedSimpArgs false
variable [LayerC]

def small (s : Bs) : Prop := isTok s ∧ low s = s
instance (s : Bs) : Decidable (small s) := by unfold small; infer_instance
def pval (v : Bs) : Prop := (∀ c ∈ v, 32 ≤ c.toNat ∧ c.toNat ≤ 126) ∧ v.length ≤ 256
instance (s : Bs) : Decidable (pval s) := by unfold pval; infer_instance
/-- A kind that may be. -/
def kOK (t s : Bs) (ps : List Par) : Prop := small t ∧ small s ∧ ps.length ≤ 16 ∧ (∀ p ∈ ps, small p.n ∧ pval p.v) ∧ (ps.map Par.n).Nodup
instance (t s : Bs) (ps : List Par) : Decidable (kOK t s ps) := by unfold kOK; infer_instance

omit [LayerC] in
theorem find_no (ns : List Bs) (n : Bs) (h : n ∉ ns) (j : Nat) : findC (str n) (ns.map fun a => (str a, CV.v (.bool true))) j = some none := by
  induction ns generalizing j with
  | nil => rfl
  | cons a ns ih =>
    simp only [List.mem_cons, not_or] at h
    have e : eqK (str n) (str a) = some false := by
      simp only [eqK, str, beq_arr, decide_eq_false h.1]
    rw [List.map_cons, findC]
    simp only [e]
    exact ih h.2 (j + 1)
omit [LayerC] in
theorem find_yes (ns : List Bs) (n : Bs) (h : n ∈ ns) (j : Nat) : ∃ i, findC (str n) (ns.map fun a => (str a, CV.v (.bool true))) j = some (some (i, .v (.bool true))) := by
  induction ns generalizing j with
  | nil => cases h
  | cons a ns ih =>
    by_cases e0 : n = a
    · have e : eqK (str n) (str a) = some true := by
        simp only [eqK, str, beq_arr, decide_eq_true e0]
      exact ⟨j, by rw [List.map_cons, findC]; simp only [e]⟩
    · have e : eqK (str n) (str a) = some false := by
        simp only [eqK, str, beq_arr, decide_eq_false e0]
      obtain ⟨i, hi⟩ := ih (by rcases List.mem_cons.1 h with h | h; exact absurd h e0; exact h) (j + 1)
      exact ⟨i, by rw [List.map_cons, findC]; simp only [e]; exact hi⟩

omit [LayerC] in
theorem zc4 : zeroCV prog 4 = some (.v (.bool false)) := by unfold zeroCV; rw [iT4]; rfl
omit [LayerC] in
theorem lookup_mp {P : Program} {t kt et : TypeId} {z : CV} {id ver k : Nat} {es : List (CV × CV)} {H : Hp} {n : Bs} {r : Option (Nat × CV)} (h1 : P.underlying t = some (.map kt et)) (h2 : P.underlying kt = some .string) (h3 : zeroCV P et = some z) (h4 : H[id]? = some (.map ver es k)) (h5 : findC (str n) es 0 = some r) :
    dLookup P t (.mp id ver) (str n) false H = some (match r with | some (_, v) => v | none => z) := by
  have h6 : keyB (some .string) (str n) = true := rfl
  simp only [dLookup, h1, h2, h3, mapAt, h4, if_true, Option.bind_some, h6, h5, Option.map_some]
  cases r <;> rfl
omit [LayerC] in
theorem upd_mp {P : Program} {t kt et : TypeId} {id ver k : Nat} {es : List (CV × CV)} {H : Hp} {n : Bs} {x : CV} (h1 : P.underlying t = some (.map kt et)) (h2 : P.underlying kt = some .string) (h4 : H[id]? = some (.map ver es k)) (h5 : findC (str n) es 0 = some none) :
    dMapUpd P t (.mp id ver) (str n) x H = some (H.set id (.map ver (es ++ [(str n, x)]) (k + 1))) := by
  have h6 : (keyB (some .string) (str n) && clB (str n)) = true := rfl
  simp only [dMapUpd, h1, h2, h4, if_true, Option.bind_some, h6, h5, Option.map_some]

theorem w51 (m : Nat) (t s : Bs) (ps : List Par) (q : CV) (H : Hp) (hq : RS H q (ps.map Par.c) 2) (hb : ps.length ≤ 4294967280) (ht : t.length ≤ 4294967280) (hs : s.length ≤ 4294967280) (hp : ∀ p ∈ ps, p.n.length ≤ 4294967280 ∧ p.v.length ≤ 4294967280) :
    Ret prog cs0 m 73 [.agg [str t, str s, q]] H (.v (.bool (decide (kOK t s ps)))) H := by
  unfold Ret
  rw [WC_drop rfl func73 rfl rfl]
  have hl : ∀ L, dLenS prog 53 q (H ++ L) = some (.v (.int .i64 ps.length)) := fun L => by rw [(hq.app L).len underlying53, List.length_map]
  have hu := hq.unl
  simp [f73, cells_agg, hq.one, faddr_ptr, underlying55, load_one underlying53 rfl iT53, hl, hu]
  refine W_up ps.length (fun i fr H' => (∃ k L, H' = H ++ .cells 0 [str t, str s, q] 55 :: .map 0 ((ps.take i).map fun p => (str p.n, CV.v (.bool true))) k :: L) ∧ fr 1 = .ptr H.length 0 0 ∧ fr 3 = .mp (H.length + 1) 0 ∧ fr 8 = q ∧ fr 9 = .v (.int .i64 ps.length) ∧ fr 10 = .v (.int .i64 i) ∧ (∀ p ∈ ps.take i, small p.n ∧ pval p.v) ∧ ((ps.take i).map Par.n).Nodup) ?_ 0 _ _ (by omega) (by simp)
  rintro i fr H' hi ⟨⟨k, L, rfl⟩, a1, a3, a8, a9, a10, hk, hn⟩
  by_cases hlt : i < ps.length
  · have hw := up64 hlt (by omega)
    have hlt2 : i < (ps.map Par.c).length := by simpa using hlt
    have hy := take_all hk hlt
    have hla : ∀ L, dLoad prog 109 (adrC q i) (H ++ L) = some (.agg [str ps[i].n, str ps[i].v]) := fun L => by rw [(hq.app L).loadAgg underlying109 rfl iT109 sT109 hlt2]; simp [Par.c]
    have had : ∀ L, dIndexAddr prog 53 q (.v (.int .i64 i)) (H ++ L) = some (adrC q i) := fun L => by rw [(hq.app L).addr underlying53 iT109 sT109]; simp [hlt]
    obtain ⟨hp1, hp2⟩ := hp _ (List.getElem_mem hlt)
    simp [a1, a3, a8, a9, a10, hlt, hw, had, hla, aQ, dAlloc, store_at iT109, cells_agg, faddr_ptr, underlying109, load_one underlying9 rfl iT9, (w85 _ _ _ hp1).wc, (w86 _ _ _ hp2).wc]
    have hno : ¬ (small ps[i].n ∧ pval ps[i].v) → ¬ kOK t s ps := fun h q => h (q.2.2.2.1 _ (List.getElem_mem hlt))
    split
    · rename_i c1
      split
      · rename_i c2
        have ees : List.take i (List.map (fun p : Par => (str p.n, CV.v (.bool true))) ps) = (List.map Par.n (ps.take i)).map fun a => (str a, CV.v (.bool true)) := by simp [Function.comp_def]
        rw [ees]
        by_cases hmem : ps[i].n ∈ List.map Par.n (ps.take i)
        · obtain ⟨j, hj⟩ := find_yes _ _ hmem 0
          rw [lookup_mp (P := prog) (k := k) underlying133 underlying9 zc4 (by simp) hj]
          simp
          intro hq
          have h5 := hq.2.2.2.2
          have h6 : ps = ps.take i ++ ps[i] :: ps.drop (i + 1) := by rw [← List.drop_eq_getElem_cons hlt, List.take_append_drop]
          rw [h6, List.map_append, List.nodup_append] at h5
          exact h5.2.2 _ hmem _ (by rw [List.map_cons]; exact List.mem_cons_self) rfl
        · rw [lookup_mp (P := prog) (k := k) underlying133 underlying9 zc4 (by simp) (find_no _ _ hmem 0)]
          simp only [WX_some, condQ_v, Bool.false_eq_true, if_false]
          rw [upd_mp (P := prog) (k := k) underlying133 underlying9 (by simp) (find_no _ _ hmem 0)]
          have en : List.take (i + 1) (List.map Par.n ps) = List.map Par.n (ps.take i) ++ [ps[i].n] := by rw [← List.map_take, take_snoc hlt, List.map_append]; rfl
          have ee2 : List.take (i + 1) (List.map (fun p : Par => (str p.n, CV.v (.bool true))) ps) = ((List.map Par.n (ps.take i)).map fun a => (str a, CV.v (.bool true))) ++ [(str ps[i].n, CV.v (.bool true))] := by rw [← List.map_take, take_snoc hlt, List.map_append, List.map_map]; rfl
          rw [en, ee2]
          refine ⟨_, rfl, ⟨k + 1, L ++ [CO.cells 0 [str ps[i].n, str ps[i].v] 109], ?_⟩, hy ⟨⟨c1.1, c1.2⟩, c2⟩, ?_⟩
          · simp
          · rw [List.nodup_append]
            exact ⟨hn, by simp, by rintro a ha b hb rfl; simp at hb; subst hb; exact hmem ha⟩
      · rename_i c2; exact hno fun h => c2 h.2
    · rename_i c1; exact hno fun h => c1 h.1
  · obtain rfl : i = ps.length := by omega
    rw [List.take_length] at hk hn
    simp [a1, a3, a8, a9, a10, faddr_ptr, underlying55, load_one underlying53 rfl iT53, load_one underlying9 rfl iT9, hl, (w85 _ _ _ ht).wc, (w85 _ _ _ hs).wc]
    grind [kOK, small]
end Go.Proofs.Tryz

/- Walks: kinds that are the same; which may be, by the reference. -/
namespace Go.Proofs.Tryz
open Go Go.SL
set_option linter.unusedVariables false
set_option linter.unusedSimpArgs false

theorem eg86 : (prog.stoodInHeld 109 || prog.eqGuardType prog.depth 109) = false := by decide +kernel
theorem eg67 : (prog.stoodInHeld 62 || prog.eqGuardType prog.depth 62) = false := by decide +kernel
theorem neq86 (a b c d : Bs) (H : Hp) : dBin prog .neq 109 (.agg [str a, str b]) (.agg [str c, str d]) H = some (.v (.bool (!decide (a = c ∧ b = d)))) := by
  have e1 : ∀ x y : Bs, eqA (some .string) (.string ⟨x.toArray⟩) (.string ⟨y.toArray⟩) = some (decide (x = y)) := fun x y => by simp only [eqA, beq_arr]
  simp only [dBin, underlying109, eg86, Bool.false_eq_true, if_false]
  simp -implicitDefEqProofs [eqF, underlying9, aggB, str, e1, -fold_str]
theorem neq67 (a b c d : Bs) (H : Hp) : dBin prog .neq 62 (.agg [str a, str b]) (.agg [str c, str d]) H = some (.v (.bool (!decide (a = c ∧ b = d)))) := by
  have e1 : ∀ x y : Bs, eqA (some .string) (.string ⟨x.toArray⟩) (.string ⟨y.toArray⟩) = some (decide (x = y)) := fun x y => by simp only [eqA, beq_arr]
  simp only [dBin, underlying62, eg67, Bool.false_eq_true, if_false]
  simp -implicitDefEqProofs [eqF, underlying9, aggB, str, e1, -fold_str]
variable [LayerC]
/-- In the upper layer. -/
theorem w58 (hL : LayerC.b = true) (m : Nat) (t s : Bs) (ps : List Par) (q : CV) (H : Hp) (hq : RS H q (ps.map Par.c) 2) (hb : ps.length ≤ 4294967280) (ht : t.length ≤ 4294967280) (hs : s.length ≤ 4294967280) (hp : ∀ p ∈ ps, p.n.length ≤ 4294967280 ∧ p.v.length ≤ 4294967280) :
    Ret prog cs0 m 78 [.agg [str t, str s, q]] H (.v (.bool (decide (kOK t s ps)))) H := by
  unfold Ret
  rw [WC_drop rfl func78 rfl rfl]
  have hl : ∀ L, dLenS prog 53 q (H ++ L) = some (.v (.int .i64 ps.length)) := fun L => by rw [(hq.app L).len underlying53, List.length_map]
  have hu := hq.unl
  have pl : cs0.prim 26 = some lowP := by simp -implicitDefEqProofs [cs0, hL]
  have pt : cs0.prim 99 = some tokP := by simp -implicitDefEqProofs [cs0, hL]
  have ql : ∀ xs H r, lowP xs H = some r → r.2 = H := fun xs H r h => by
    unfold lowP at h
    split at h
    · split at h <;> cases h
      rfl
    · cases h
  simp -implicitDefEqProofs [f78, cells_agg, hq.one]
  rw [W_drawJ TJ [(13, 14), (13, 15), (21, 22), (21, 23)] _ _ _ _ _ _ followsT trivial (by rfl) (fun _ _ _ => keep_T) (by
    intro k j i oj oi hm h1 h2
    simp at hm
    rcases hm with ⟨rfl, rfl⟩ | ⟨rfl, rfl⟩ | ⟨rfl, rfl⟩ | ⟨rfl, rfl⟩ <;> simp at h1 h2 <;> subst h1 h2 <;>
      exact cmt_rd (by rfl) (rd_call rfl pl ql) (rd_of rfl) _)]
  by_cases c1 : isTok t
  case neg => simp -implicitDefEqProofs [faddr_ptr, underlying55, load_one underlying9 rfl iT9, load_one underlying53 rfl iT53, hl, hu, (w88 _ _ _ ht).wc, (w88 _ _ _ hs).wc, (w54 _ _ _ ht).wc, (w54 _ _ _ hs).wc, c1]; exact fun q => c1 q.1.1
  by_cases c2 : isTok s
  case neg => simp -implicitDefEqProofs [faddr_ptr, underlying55, load_one underlying9 rfl iT9, load_one underlying53 rfl iT53, hl, hu, (w88 _ _ _ ht).wc, (w88 _ _ _ hs).wc, (w54 _ _ _ ht).wc, (w54 _ _ _ hs).wc, c1, c2]; exact fun q => c2 q.2.1.1
  by_cases c3 : low t = t
  case neg => simp -implicitDefEqProofs [faddr_ptr, underlying55, load_one underlying9 rfl iT9, load_one underlying53 rfl iT53, hl, hu, (w88 _ _ _ ht).wc, (w88 _ _ _ hs).wc, (w54 _ _ _ ht).wc, (w54 _ _ _ hs).wc, c1, c2, c3]; exact fun q => c3 q.1.2
  by_cases c4 : low s = s
  case neg => simp -implicitDefEqProofs [faddr_ptr, underlying55, load_one underlying9 rfl iT9, load_one underlying53 rfl iT53, hl, hu, (w88 _ _ _ ht).wc, (w88 _ _ _ hs).wc, (w54 _ _ _ ht).wc, (w54 _ _ _ hs).wc, c1, c2, c3, c4]; exact fun q => c4 q.2.1.2
  by_cases c5 : ps.length ≤ 16
  case neg => simp -implicitDefEqProofs [faddr_ptr, underlying55, load_one underlying9 rfl iT9, load_one underlying53 rfl iT53, hl, hu, (w88 _ _ _ ht).wc, (w88 _ _ _ hs).wc, (w54 _ _ _ ht).wc, (w54 _ _ _ hs).wc, c1, c2, c3, c4, show 16 < ps.length by omega]; exact fun q : kOK t s ps => c5 q.2.2.1
  have c5' : ¬ 16 < ps.length := by omega
  simp -implicitDefEqProofs [faddr_ptr, underlying55, load_one underlying9 rfl iT9, load_one underlying53 rfl iT53, hl, hu, (w88 _ _ _ ht).wc, (w88 _ _ _ hs).wc, (w54 _ _ _ ht).wc, (w54 _ _ _ hs).wc, c1, c2, c3, c4, c5, c5']
  refine W_up ps.length (fun i fr H' => (∃ L, H' = H ++ .cells 0 [str t, str s, q] 55 :: L) ∧ fr 1 = .ptr H.length 0 0 ∧ fr 3 = .v (.int .i64 i) ∧ (∀ p ∈ ps.take i, small p.n ∧ pval p.v) ∧ ((ps.take i).map Par.n).Nodup) ?_ 0 _ _ (by omega) (by simp)
  rintro i fr H' hi ⟨⟨L, rfl⟩, a1, a3, hk, hn⟩
  by_cases hlt : i < ps.length
  case neg =>
    obtain rfl : i = ps.length := by omega
    rw [List.take_length] at hk hn
    simp -implicitDefEqProofs [a1, a3, faddr_ptr, underlying55, load_one underlying53 rfl iT53, hl]
    exact ⟨⟨c1, c3⟩, ⟨c2, c4⟩, c5, hk, hn⟩
  have hw := up64 hlt (by omega)
  have hlt2 : i < (ps.map Par.c).length := by simpa using hlt
  have hy := take_all hk hlt
  have hno : ¬ (small ps[i].n ∧ pval ps[i].v) → ¬ kOK t s ps := fun h q => h (q.2.2.2.1 _ (List.getElem_mem hlt))
  have hla : ∀ L, dLoad prog 109 (adrC q i) (H ++ L) = some (.agg [str ps[i].n, str ps[i].v]) := fun L => by rw [(hq.app L).loadAgg underlying109 rfl iT109 sT109 hlt2]; simp [Par.c]
  have had : ∀ L, dIndexAddr prog 53 q (.v (.int .i64 i)) (H ++ L) = some (adrC q i) := fun L => by rw [(hq.app L).addr underlying53 iT109 sT109]; simp [hlt]
  obtain ⟨hp1, hp2⟩ := hp _ (List.getElem_mem hlt)
  simp -implicitDefEqProofs [a1, a3, hlt, faddr_ptr, underlying55, load_one underlying53 rfl iT53, hl, had, hla, aQ, dAlloc, store_at iT109, cells_agg, hu]
  rw [W_drawJ TJ [(7, 8), (7, 9)] _ _ _ _ _ _ followsT trivial (by rfl) (fun _ _ _ => keep_T) (by
    intro k j i oj oi hm h1 h2
    simp at hm
    rcases hm with ⟨rfl, rfl⟩ | ⟨rfl, rfl⟩ <;> simp at h1 h2 <;> subst h1 h2 <;>
      exact cmt_rd (by rfl) (rd_call rfl pl ql) (rd_of rfl) _)]
  by_cases d1 : isTok ps[i].n
  case neg => simp -implicitDefEqProofs [a1, a3, faddr_ptr, underlying109, load_one underlying9 rfl iT9, (w88 _ _ _ hp1).wc, (w54 _ _ _ hp1).wc, d1]; exact hno fun h => d1 h.1.1
  by_cases d2 : low ps[i].n = ps[i].n
  case neg => simp -implicitDefEqProofs [a1, a3, faddr_ptr, underlying109, load_one underlying9 rfl iT9, (w88 _ _ _ hp1).wc, (w54 _ _ _ hp1).wc, d1, d2]; exact hno fun h => d2 h.1.2
  by_cases d3 : ps[i].v.length ≤ 256
  case neg => simp -implicitDefEqProofs [a1, a3, faddr_ptr, underlying109, load_one underlying9 rfl iT9, (w88 _ _ _ hp1).wc, (w54 _ _ _ hp1).wc, d1, d2, len_str underlying9, show 256 < ps[i].v.length by omega]; exact hno fun h => d3 h.2.2
  simp -implicitDefEqProofs [a1, a3, faddr_ptr, underlying109, load_one underlying9 rfl iT9, (w88 _ _ _ hp1).wc, (w54 _ _ _ hp1).wc, d1, d2, len_str underlying9, show ¬ 256 < ps[i].v.length by omega]
  refine W_mono (W_up (Q := fun e fr' H'' => (e = .exit 2 ∧ H'' = H ++ .cells 0 [str t, str s, q] 55 :: (L ++ [CO.cells 0 [str ps[i].n, str ps[i].v] 109]) ∧ fr' 1 = .ptr H.length 0 0 ∧ fr' 3 = .v (.int .i64 i) ∧ fr' 4 = .ptr (H.length + (L.length + 1)) 0 0 ∧ pval ps[i].v) ∨ (e = .ret ∧ H''.take H.length = H ∧ fr' 2 = .v (.bool false) ∧ ¬ pval ps[i].v))
    ps[i].v.length (fun j fr' H'' => H'' = H ++ .cells 0 [str t, str s, q] 55 :: (L ++ [CO.cells 0 [str ps[i].n, str ps[i].v] 109]) ∧ fr' 1 = .ptr H.length 0 0 ∧ fr' 3 = .v (.int .i64 i) ∧ fr' 4 = .ptr (H.length + (L.length + 1)) 0 0 ∧ fr' 5 = .v (.int .i64 j) ∧ ∀ c ∈ ps[i].v.take j, 32 ≤ c.toNat ∧ c.toNat ≤ 126) ?_ 0 _ _ (by omega) (by simp [a1, a3])) ?_
  · rintro j fr' H'' hj ⟨rfl, b1, b3, b4, b5, hkj⟩
    by_cases hjl : j < ps[i].v.length
    · have hwj := up64 hjl (by omega)
      have hyj := take_all hkj hjl
      have hnoj : ¬ (32 ≤ ps[i].v[j].toNat ∧ ps[i].v[j].toNat ≤ 126) → ¬ pval ps[i].v := fun h q => h (q.1 _ (List.getElem_mem hjl))
      simp -implicitDefEqProofs [b1, b3, b4, b5, hjl, hwj, faddr_ptr, underlying109, load_one underlying9 rfl iT9, len_str underlying9, index_str underlying9]
      grind
    · obtain rfl : j = ps[i].v.length := by omega
      rw [List.take_length] at hkj
      simp -implicitDefEqProofs [b1, b3, b4, b5, faddr_ptr, underlying109, load_one underlying9 rfl iT9, len_str underlying9]
      exact ⟨hkj, d3⟩
  · rintro e fr' H'' (⟨rfl, rfl, b1, b3, b4, hpv⟩ | ⟨rfl, hH, b2, hpv⟩)
    · simp -implicitDefEqProofs
      refine W_up i (fun j fr' H'' => H'' = H ++ .cells 0 [str t, str s, q] 55 :: (L ++ [CO.cells 0 [str ps[i].n, str ps[i].v] 109]) ∧ fr' 1 = .ptr H.length 0 0 ∧ fr' 3 = .v (.int .i64 i) ∧ fr' 4 = .ptr (H.length + (L.length + 1)) 0 0 ∧ fr' 6 = .v (.int .i64 j) ∧ ∀ p ∈ ps.take j, p.n ≠ ps[i].n) ?_ 0 _ _ (by omega) (by simp [b1, b3, b4])
      rintro j fr' H'' hj ⟨rfl, b1, b3, b4, b6, hkj⟩
      have sm : small ps[i].n ∧ pval ps[i].v := ⟨⟨d1, d2⟩, hpv⟩
      by_cases hjl : j < i
      · have hjp : j < ps.length := by omega
        have hjp2 : j < (ps.map Par.c).length := by simpa using hjp
        have hwj := up64 hjl (by omega)
        have hyj := take_all hkj hjp
        have haj : ∀ L, dIndexAddr prog 53 q (.v (.int .i64 j)) (H ++ L) = some (adrC q j) := fun L => by rw [(hq.app L).addr underlying53 iT109 sT109]; simp [hjp]
        have hfj : ∀ L, dFieldAddr prog 109 (adrC q j) 0 (H ++ L) = some (partC (adrC q j) 0) := fun L => (hq.app L).fieldAddr (P := prog) (f := 0) underlying109 rfl iT9 (by simp) hjp2 (by simp)
        have hlj : ∀ L, dLoad prog 9 (partC (adrC q j) 0) (H ++ L) = some (str ps[j].n) := fun L => by rw [(hq.app L).loadPart (P := prog) (k := 0) underlying9 rfl iT9 hjp2 (by omega)]; simp [Par.c]
        simp -implicitDefEqProofs [b1, b3, b4, b6, hjl]
        rw [W_draw _ _ _ _ _ _ followsT (by rfl)]
        simp -implicitDefEqProofs [b1, b3, b4, b6, hjl, hwj, faddr_ptr, underlying55, underlying109, load_one underlying9 rfl iT9, load_one underlying53 rfl iT53, haj, hfj, hlj]
        split
        · rename_i h
          intro hq
          have h5 := hq.2.2.2.2
          have h6 : ps = ps.take i ++ ps[i] :: ps.drop (i + 1) := by rw [← List.drop_eq_getElem_cons hlt, List.take_append_drop]
          rw [h6, List.map_append, List.nodup_append] at h5
          refine h5.2.2 _ (List.mem_map.2 ⟨ps[j], ?_, rfl⟩) _ (by rw [List.map_cons]; exact List.mem_cons_self) h
          rw [List.mem_take_iff_getElem]
          exact ⟨j, by omega, rfl⟩
        · rename_i h; exact hyj h
      · obtain rfl : j = i := by omega
        simp -implicitDefEqProofs [b1, b3, b4, b6, hw, hlt]
        refine ⟨hy sm, ?_⟩
        rw [← List.map_take, take_snoc hlt, List.map_append, List.nodup_append]
        refine ⟨hn, by simp, ?_⟩
        rintro a ha b hb rfl
        simp at hb; subst hb
        obtain ⟨p, hp, he⟩ := List.mem_map.1 ha
        exact hkj p hp he
    · simp -implicitDefEqProofs [b2, hH]
      exact hno fun h => hpv h.2
end Go.Proofs.Tryz

/- Walks: kinds are read from their front. -/
namespace Go.Proofs.Tryz
open Go Go.SL
set_option linter.unusedVariables false
set_option linter.unusedSimpArgs false
variable [LayerC]

theorem w47 (m : Nat) (s : Bs) (H : Hp) (hs : s.length ≤ 4294967280) : Ret prog cs0 m 69 [str s] H (str (trimL s)) H := by
  unfold Ret
  rw [WC_drop rfl func69 rfl rfl]
  simp -implicitDefEqProofs [f69]
  refine W_rounds (fun j fr H' => ∃ s', trimL s' = trimL s ∧ j = s'.length ∧ s'.length ≤ s.length ∧ H' = H ∧ fr 0 = str s') ?_ s.length _ _ ⟨s, rfl, rfl, by omega, rfl, by simp⟩
  rintro j fr H' ⟨s', hs', rfl, hl, rfl, a0⟩
  cases s' with
  | nil => simp -implicitDefEqProofs [a0, len_str underlying9, ← hs', trimL_nil]
  | cons c s' =>
    have h1 : ((s'.length : Int) + 1).toNat = s'.length + 1 := by omega
    have h2 : (1 : Int) ≤ (s'.length : Int) + 1 := by omega
    have h3 := trimL_blank (c := c) s'
    have h4 := trimL_stop (c := c) s'
    simp at hl
    simp -implicitDefEqProofs [a0, len_str underlying9, index_str underlying9, slice_str underlying9, h1, h2, str_inj]
    have hex : blankC c = true → ∃ j', j' < s'.length + 1 ∧ ∃ s'_1, trimL s'_1 = trimL s ∧ j' = List.length s'_1 ∧ List.length s'_1 ≤ List.length s ∧ s' = s'_1 := fun h => ⟨_, by omega, s', (h3 h).symm.trans hs', rfl, by omega, rfl⟩
    split
    · exact hex (by simp [blankC, *])
    · split
      · exact hex (by simp [blankC, *])
      · rw [← h4 (by simp [blankC, *])]; exact hs'

theorem w46 (m : Nat) (s : Bs) (H : Hp) (hs : s.length ≤ 4294967280) : Ret prog cs0 m 68 [str s] H (.tup [str (tokF s), str (tokR s)]) H := by
  unfold Ret
  rw [WC_drop rfl func68 rfl rfl]
  simp -implicitDefEqProofs [f68]
  refine W_mono (W_up (Q := fun e fr H' => e = .exit 0 ∧ H' = H ∧ ∃ i, i ≤ s.length ∧ tokF s = s.take i ∧ tokR s = s.drop i ∧ fr 0 = str s ∧ fr 4 = .v (.int .i64 i)) s.length (fun i fr H' => H' = H ∧ fr 0 = str s ∧ fr 4 = .v (.int .i64 i) ∧ ∀ c ∈ s.take i, tokB c = true) ?_ 0 _ _ (by omega) (by simp)) ?_
  · rintro i fr H' hi ⟨rfl, a0, a4, hk⟩
    by_cases hlt : i < s.length
    · have hw := up64 hlt (by omega)
      have hy := take_all hk hlt
      have hm := idb_mem others s[i]
      have hno : tokB s[i] = false → ∃ i_1, i_1 ≤ s.length ∧ tokF s = s.take i_1 ∧ tokR s = s.drop i_1 ∧ i = i_1 := fun h => ⟨i, hi, (tw_step hk hlt h).1, (tw_step hk hlt h).2, rfl⟩
      have ht : tokB s[i] = decide (tokC s[i]) := rfl
      simp -implicitDefEqProofs [index_str underlying9, len_str underlying9, a0, a4, hlt, hw, othersE, (w80 _ _ _ _).wc]
      grind [tokC]
    · obtain rfl : i = s.length := by omega
      rw [List.take_length] at hk
      obtain ⟨h1, h2⟩ := tw_end hk
      simp -implicitDefEqProofs [len_str underlying9, a0, a4]
      exact ⟨s.length, by omega, by rw [List.take_length]; exact h1, by rw [List.drop_length]; exact h2, rfl⟩
  · rintro e fr H' ⟨rfl, rfl, i, hi, h1, h2, a0, a4⟩
    simp -implicitDefEqProofs
    rw [W_draw _ _ _ _ _ _ followsT (by rfl)]
    simp -implicitDefEqProofs [a0, a4, slice_str underlying9, hi, h1, h2]

def quoV : Option (Bs × Bs) → CV
  | some (o, r) => .tup [str o, str r, .v (.bool true)]
  | none => .tup [str [], str [], .v (.bool false)]
theorem w83 (m : Nat) (s : Bs) (H : Hp) (hs : s.length ≤ 4294967280) : Ret prog cs0 m 94 [str s] H (quoV (qS (s.drop 1))) H := by
  unfold Ret
  rw [WC_drop rfl func94 rfl rfl]
  generalize hz : qS (s.drop 1) = z
  simp -implicitDefEqProofs [f94]
  refine W_rounds (fun j fr H' => ∃ i out, j = s.length + 1 - i ∧ i ≤ s.length + 1 ∧ out.length ≤ i ∧ fr 0 = str s ∧ fr 6 = .v (.int .i64 (i : Nat)) ∧ AccB H H' (fr 5) out 5 ∧ z = (qS (s.drop i)).map fun q => (out ++ q.1, q.2)) ?_ s.length _ _ ⟨1, [], by omega, by omega, by simp, by simp, by simp, Acc.nil H 1 5, by rw [hz]; cases z <;> simp⟩
  rintro j fr H' ⟨i, out, rfl, hi, hol, a0, a6, ha, hq⟩
  have hu := ha.unl
  by_cases hlt : i < s.length
  case neg =>
    have e : s.drop i = [] := List.drop_eq_nil_of_le (by omega)
    rw [e, qS_nil] at hq
    simp -implicitDefEqProofs [a0, a6, len_str underlying9, hlt, ha.take, hq, quoV]
  have hd := List.drop_eq_getElem_cons hlt
  have hap : ∀ y, apQ H.length (fr 5) y = true := ha.ap (Nat.le_refl _)
  have hb : ∀ b : UInt8, ∃ x2 H2, dAppend prog 23 23 (fr 5) (.lit (u8s [b]) 1 1) H' = some (x2, H2) ∧ AccB H H2 x2 (out ++ [b]) 5 := fun b =>
    AccB.append' underlying23 iT5 zT5 sT5 bT5 ha (src_lit underlying23 rfl H') (by simp; omega)
  obtain ⟨k, hk, hw⟩ := upJ hlt (by omega)
  have hks : k ≤ s.length := by omega
  have e34 : s[i].toNat = 34 ↔ s[i] = 34 := u8_eq _ 34
  have e92 : s[i].toNat = 92 ↔ s[i] = 92 := u8_eq _ 92
  by_cases h34 : s[i] = 34
  · rw [hd, h34, qS_q] at hq
    simp -implicitDefEqProofs [a0, a6, len_str underlying9, index_str underlying9, hlt, e34, h34]
    rw [W_draw _ _ _ _ _ _ followsT (by rfl)]
    simp -implicitDefEqProofs [a0, a6, len_str underlying9, slice_str underlying9, hw, hks, hu, ha.rb.str _ underlying23 underlying9 underlying5, ha.take, hq, quoV]
    rw [hk]
  by_cases h92 : s[i] = 92
  · by_cases hkl : k < s.length
    · obtain ⟨x2, H2, p1, p2⟩ := hb s[k]
      have u2 := p2.unl
      obtain ⟨k2, hk2, hw2⟩ := upJ hkl (by omega)
      have hkn : ¬ k = s.length := by omega
      simp -implicitDefEqProofs [a0, a6, len_str underlying9, index_str underlying9, hlt, e34, h34, e92, h92, hw, hkl, hkn, mkB1 underlying23 underlying5 iT5 zT5 sT5, hap, p1, hu, u2, hw2]
      refine ⟨s.length + 1 - k2, by omega, k2, rfl, by omega, out ++ [s[k]], by simp; omega, rfl, p2, ?_⟩
      rw [hq, hd, h92, ← hk, List.drop_eq_getElem_cons hkl, qS_b, ← hk2]
      cases qS (s.drop k2) <;> simp
    · have hkn : k = s.length := by omega
      have e : s.drop (i + 1) = [] := List.drop_eq_nil_of_le (by omega)
      rw [hd, h92, e, qS_b0] at hq
      simp -implicitDefEqProofs [a0, a6, len_str underlying9, index_str underlying9, hlt, e34, h34, e92, h92, hw, hkn, ha.take, hq, quoV]
  · obtain ⟨x2, H2, p1, p2⟩ := hb s[i]
    have u2 := p2.unl
    simp -implicitDefEqProofs [a0, a6, len_str underlying9, index_str underlying9, hlt, e34, h34, e92, h92, hw, mkB1 underlying23 underlying5 iT5 zT5 sT5, hap, p1, hu, u2]
    refine ⟨s.length + 1 - k, by omega, k, rfl, by omega, out ++ [s[i]], by simp; omega, rfl, p2, ?_⟩
    rw [hq, hd, qS_c _ h34 h92, ← hk]
    cases qS (s.drop k) <;> simp

end Go.Proofs.Tryz

/- Walks: the reference's text that is read. -/
namespace Go.Proofs.Tryz
open Go Go.SL
set_option linter.unusedVariables false
set_option linter.unusedSimpArgs false
variable [LayerC]

/-- A text, and what of it is not read yet. -/
def TR (s r : Bs) : CO := .cells 0 [str s, .v (.int .i64 ((s.length - r.length : Nat) : Int))] 115
omit [LayerC] in
theorem tr_at (s r : Bs) {H : Hp} {id : Nat} (h : id < H.length) : cellsAt (H.set id (TR s r)) id 0 = some [str s, .v (.int .i64 ((s.length - r.length : Nat) : Int))] := by
  simp [cellsAt, TR, h]
omit [LayerC] in
theorem tr_put (s r : Bs) (n : Nat) {H : Hp} {id : Nat} (h : id < H.length) : putH (H.set id (TR s r)) id 1 [.v (.int .i64 n)] = H.set id (.cells 0 [str s, .v (.int .i64 n)] 115) := by
  rw [putH_eq (ver := 0) (cs := [str s, .v (.int .i64 ((s.length - r.length : Nat) : Int))]) (e := 115) (by rw [List.getElem?_set_self h]; rfl), List.set_set]
  simp
omit [LayerC] in
theorem tr_self {s r : Bs} {H : Hp} {id : Nat} (h : H[id]? = some (TR s r)) : id < H.length ∧ H = H.set id (TR s r) := by
  have hid := (List.getElem?_eq_some_iff.1 h).1
  refine ⟨hid, ?_⟩
  apply List.ext_getElem?
  intro j
  by_cases e : id = j
  · subst e; rw [List.getElem?_set_self hid, h]
  · rw [List.getElem?_set_ne e]

omit [LayerC] in
theorem tr_take (H : Hp) (id : Nat) (o : CO) : (H.set id o).take H.length = H.set id o := List.take_of_length_le (by simp)
omit [LayerC] in
@[simp] theorem stQ_num (m id ver off : Nat) (k : IntKind) (n : Int) : stQ m (.ptr id ver off) (.v (.int k n)) = true := by simp [stQ]
omit [LayerC] in
theorem tr_eq {s r : Bs} {n : Nat} (h : n = s.length - r.length) : CO.cells 0 [str s, .v (.int .i64 (n : Int))] 115 = TR s r := by subst h; rfl

theorem w53 (m : Nat) (s r : Bs) (H : Hp) (id : Nat) (hm : H[id]? = some (TR s r)) (hr : r <:+ s) (hs : s.length ≤ 4294967280) : Ret prog cs0 m 74 [.ptr id 0 0] H (.tup []) (H.set id (TR s (trimL r))) := by
  unfold Ret
  rw [WC_drop rfl func74 rfl rfl]
  obtain ⟨hid, hH⟩ := tr_self hm
  have hat := fun r => tr_at s r hid
  have hput := fun r n => tr_put s r n hid
  simp -implicitDefEqProofs [f74]
  refine W_rounds (fun j fr H' => ∃ r', trimL r' = trimL r ∧ r' <:+ s ∧ j = r'.length ∧ H' = H.set id (TR s r') ∧ fr 0 = .ptr id 0 0) ?_ r.length _ _ ⟨r, rfl, hr, rfl, hH, by simp⟩
  rintro j fr H' ⟨r', hr', hsf, rfl, rfl, a0⟩
  rw [W_seq, W_seq, W_draw _ _ _ _ _ _ followsT (by rfl)]
  cases r' with
  | nil => simp -implicitDefEqProofs [a0, atP, hat, faddr_ptr, underlying115, load_one underlying9 rfl iT9, load_one underlying3 rfl iT3, len_str underlying9, ← hr', trimL_nil, tr_take]
  | cons c r' =>
    obtain ⟨i, hi⟩ : ∃ i, i = s.length - (c :: r').length := ⟨_, rfl⟩
    have hl := hsf.length_le
    simp only [List.length_cons] at hl
    have hget := sfx_get hsf
    have hat0 := hat (c :: r')
    have hput0 := hput (c :: r')
    rw [← hi] at hget hat0
    have hlt : i < s.length := by simp at hi; omega
    obtain ⟨k, hk, hw⟩ := upJ hlt (by omega)
    have hk2 : k = s.length - r'.length := by simp at hi; omega
    have h3 := trimL_blank (c := c) r'
    have h4 := trimL_stop (c := c) r'
    simp -implicitDefEqProofs [a0, atP, hat0, faddr_ptr, underlying115, load_one underlying9 rfl iT9, load_one underlying3 rfl iT3, len_str underlying9, index_str underlying9, hlt, hget, hw, store_at iT3, hput0]
    have hc : s[i] = c := by rw [List.getElem?_eq_getElem hlt] at hget; exact Option.some.inj hget
    have hex : blankC c = true → ∃ j', j' < r'.length + 1 ∧ ∃ r'', trimL r'' = trimL r ∧ r'' <:+ s ∧ j' = List.length r'' ∧ H.set id (CO.cells 0 [str s, .v (.int .i64 (k : Int))] 115) = H.set id (TR s r'') := fun h =>
      ⟨r'.length, by omega, r', by rw [← h3 h]; exact hr', sfx_cons hsf, rfl, by rw [tr_eq hk2]⟩
    rw [hc]
    split
    · exact hex (by simp [blankC, *])
    · split
      · exact hex (by simp [blankC, *])
      · rw [tr_take, ← hr', h4 (by simp [blankC, *])]

theorem w56 (m : Nat) (s r : Bs) (c : UInt8) (H : Hp) (id : Nat) (hm : H[id]? = some (TR s r)) (hr : r <:+ s) (hs : s.length ≤ 4294967280) : Ret prog cs0 m 76 [.ptr id 0 0, .v (.int .u8 c.toNat)] H (.v (.bool (decide (r.head? = some c)))) (H.set id (TR s (if r.head? = some c then r.tail else r))) := by
  unfold Ret
  rw [WC_drop rfl func76 rfl rfl]
  obtain ⟨hid, hH⟩ := tr_self hm
  have hat : cellsAt H id 0 = some [str s, .v (.int .i64 ((s.length - r.length : Nat) : Int))] := by rw [hH]; exact tr_at s r hid
  have hput : ∀ n : Nat, putH H id 1 [.v (.int .i64 n)] = H.set id (.cells 0 [str s, .v (.int .i64 n)] 115) := fun n => by
    have := tr_put s r n hid
    rw [← hH] at this; exact this
  simp -implicitDefEqProofs [f76]
  rw [W_draw _ _ _ _ _ _ followsT (by rfl)]
  cases r with
  | nil => simp -implicitDefEqProofs [atP, hat, faddr_ptr, underlying115, load_one underlying9 rfl iT9, load_one underlying3 rfl iT3, len_str underlying9, ← hH]
  | cons d r' =>
    obtain ⟨i, hi⟩ : ∃ i, i = s.length - (d :: r').length := ⟨_, rfl⟩
    have hl := hr.length_le
    simp only [List.length_cons] at hl
    have hget := sfx_get hr
    rw [← hi] at hget hat
    have hlt : i < s.length := by simp at hi; omega
    obtain ⟨k, hk, hw⟩ := upJ hlt (by omega)
    have hk2 : k = s.length - r'.length := by simp at hi; omega
    have hc : s[i] = d := by rw [List.getElem?_eq_getElem hlt] at hget; exact Option.some.inj hget
    have he : d.toNat = c.toNat ↔ d = c := UInt8.toNat_inj
    by_cases h : d = c
    · simp -implicitDefEqProofs [atP, hat, faddr_ptr, underlying115, load_one underlying9 rfl iT9, load_one underlying3 rfl iT3, len_str underlying9, index_str underlying9, hlt, hget, hw, store_at iT3, hput, hc, h, tr_take, tr_eq hk2]
    · have he' : ¬ d.toNat = c.toNat := fun q => h (he.1 q)
      simp -implicitDefEqProofs [atP, hat, faddr_ptr, underlying115, load_one underlying9 rfl iT9, load_one underlying3 rfl iT3, len_str underlying9, index_str underlying9, hlt, hget, hw, store_at iT3, hput, hc, h, he', ← hH]

omit [LayerC] in
theorem tokF_take {s r : Bs} (h : r <:+ s) : (s.take (s.length - (tokR r).length)).drop (s.length - r.length) = tokF r := by
  obtain ⟨a, rfl⟩ := h
  have e := tok_split r
  have hl : (tokF r).length + (tokR r).length = r.length := by rw [← List.length_append, e]
  rw [show (a ++ r).length - (tokR r).length = a.length + (tokF r).length by simp; omega, show (a ++ r).length - r.length = a.length by simp]
  rw [List.take_length_add_append, List.drop_left]
  have : r.take (tokF r).length = (tokF r ++ tokR r).take (tokF r).length := by rw [e]
  rw [this, List.take_left]
theorem w55 (m : Nat) (s r : Bs) (H : Hp) (id : Nat) (hm : H[id]? = some (TR s r)) (hr : r <:+ s) (hs : s.length ≤ 4294967280) : Ret prog cs0 m 75 [.ptr id 0 0] H (str (tokF r)) (H.set id (TR s (tokR r))) := by
  unfold Ret
  rw [WC_drop rfl func75 rfl rfl]
  obtain ⟨hid, hH⟩ := tr_self hm
  have hat0 : cellsAt H id 0 = some [str s, .v (.int .i64 ((s.length - r.length : Nat) : Int))] := by rw [hH]; exact tr_at s r hid
  have hat := fun r => tr_at s r hid
  have hput := fun r n => tr_put s r n hid
  simp -implicitDefEqProofs [f75, atP, hat0, faddr_ptr, underlying115, load_one underlying3 rfl iT3]
  refine W_mono (W_rounds (Q := fun e fr H' => e = .exit 0 ∧ H' = H.set id (TR s (tokR r)) ∧ fr 0 = .ptr id 0 0 ∧ fr 3 = .v (.int .i64 ((s.length - r.length : Nat) : Int))) (fun j fr H' => ∃ r', tokR r' = tokR r ∧ r' <:+ s ∧ j = r'.length ∧ H' = H.set id (TR s r') ∧ fr 0 = .ptr id 0 0 ∧ fr 3 = .v (.int .i64 ((s.length - r.length : Nat) : Int))) ?_ r.length _ _ ⟨r, rfl, hr, rfl, hH, by simp, by simp⟩) ?_
  · rintro j fr H' ⟨r', hr', hsf, rfl, rfl, a0, a3⟩
    rw [W_seq, W_seq, W_draw _ _ _ _ _ _ followsT (by rfl)]
    cases r' with
    | nil =>
      have e : tokR r = [] := by rw [← hr']; rfl
      simp -implicitDefEqProofs [a0, a3, atP, hat, faddr_ptr, underlying115, load_one underlying9 rfl iT9, load_one underlying3 rfl iT3, len_str underlying9, e]
    | cons c r' =>
      obtain ⟨i, hi⟩ : ∃ i, i = s.length - (c :: r').length := ⟨_, rfl⟩
      have hl := hsf.length_le
      simp only [List.length_cons] at hl
      have hget := sfx_get hsf
      have hat1 := hat (c :: r')
      have hput1 := hput (c :: r')
      rw [← hi] at hget hat1
      have hlt : i < s.length := by simp at hi; omega
      obtain ⟨k, hk, hw⟩ := upJ hlt (by omega)
      have hk2 : k = s.length - r'.length := by simp at hi; omega
      have hc : s[i] = c := by rw [List.getElem?_eq_getElem hlt] at hget; exact Option.some.inj hget
      by_cases h : tokC c
      · simp -implicitDefEqProofs [a0, a3, atP, hat1, faddr_ptr, underlying115, load_one underlying9 rfl iT9, load_one underlying3 rfl iT3, len_str underlying9, index_str underlying9, hlt, hget, hw, store_at iT3, hput1, (w87 _ _ _).wc, h, hc]
        exact ⟨r'.length, by omega, r', by rw [← (tokF_cons r' h).2]; exact hr', sfx_cons hsf, rfl, by rw [tr_eq hk2]⟩
      · simp -implicitDefEqProofs [a0, a3, atP, hat1, faddr_ptr, underlying115, load_one underlying9 rfl iT9, load_one underlying3 rfl iT3, len_str underlying9, index_str underlying9, hlt, hget, hw, store_at iT3, hput1, (w87 _ _ _).wc, h, hc]
        rw [← hr', (tokF_stop r' h).2]
  · rintro e fr H' ⟨rfl, rfl, a0, a3⟩
    have hrs := hr.length_le
    have htl := (tokR_sfx r).length_le
    have hcut := tokF_take hr
    have hb1 : s.length - r.length ≤ s.length - (tokR r).length := by omega
    have hb2 : s.length - (tokR r).length ≤ s.length := by omega
    simp -implicitDefEqProofs
    rw [W_draw _ _ _ _ _ _ followsT (by rfl)]
    have hat1 := hat (tokR r)
    obtain ⟨i, hi⟩ : ∃ i, i = s.length - r.length := ⟨_, rfl⟩
    obtain ⟨j, hj⟩ : ∃ j, j = s.length - (tokR r).length := ⟨_, rfl⟩
    rw [← hi] at a3 hcut hb1
    rw [← hj] at hat1 hcut hb1 hb2
    simp -implicitDefEqProofs [a0, a3, atP, hat1, faddr_ptr, underlying115, load_one underlying9 rfl iT9, load_one underlying3 rfl iT3, slice_str underlying9, hb1, hb2, hcut, tr_take]

/-- A value that is read: and what is behind it. -/
def valR (r : Bs) : Bs × Option Bs :=
  if r.head? = some 34 then (match qS r.tail with
    | some q => (q.2, some q.1)
    | none => ([], none))
  else (tokR r, if isTok (tokF r) then some (tokF r) else none)
end Go.Proofs.Tryz

/- Walks: the reference's value; a parameter. -/
namespace Go.Proofs.Tryz
open Go Go.SL
set_option linter.unusedVariables false
set_option linter.unusedSimpArgs false
variable [LayerC]

def valV (o : Option Bs) : CV := .tup [str (o.getD []), .v (.bool o.isSome)]
omit [LayerC] in
theorem take_one {s : Bs} {i : Nat} (h : i < s.length) : (s.take (i + 1)).drop i = [s[i]] := by
  rw [take_snoc h, List.drop_append_of_le_length (by simp; omega)]; simp
theorem w57 (m : Nat) (s r : Bs) (H : Hp) (id : Nat) (hm : H[id]? = some (TR s r)) (hr : r <:+ s) (hs : s.length ≤ 4294967280) :
    WC prog cs0 m (.f 77) [.ptr id 0 0] H fun y H2 => H2 = H.set id (TR s (valR r).1) ∧ (valR r).2.isSome = true ∧ y = valV (valR r).2 ∨ (valR r).2 = none ∧ (∃ v, y = .tup [v, .v (.bool false)] ∧ unlit v = v) ∧ ∃ r', H2 = H.set id (TR s r') := by
  rw [WC_drop rfl func77 rfl rfl]
  obtain ⟨hid, hH⟩ := tr_self hm
  have hat := fun r => tr_at s r hid
  have hput := fun r n => tr_put s r n hid
  have hset : ∀ r, (H.set id (TR s r))[id]? = some (TR s r) := fun r => List.getElem?_set_self hid
  have c34 : ∀ m r', r' <:+ s → ∀ K, WC prog cs0 m (.f 76) [.ptr id 0 0, .v (.int .u8 34)] (H.set id (TR s r')) K ↔ K (.v (.bool (decide (r'.head? = some 34)))) ((H.set id (TR s r')).set id (TR s (if r'.head? = some 34 then r'.tail else r'))) := fun m r' h K => (w56 m s r' 34 _ id (hset r') h hs).wc K
  have c92 : ∀ m r', r' <:+ s → ∀ K, WC prog cs0 m (.f 76) [.ptr id 0 0, .v (.int .u8 92)] (H.set id (TR s r')) K ↔ K (.v (.bool (decide (r'.head? = some 92)))) ((H.set id (TR s r')).set id (TR s (if r'.head? = some 92 then r'.tail else r'))) := fun m r' h K => (w56 m s r' 92 _ id (hset r') h hs).wc K
  have c0 := c34 H.length r hr
  rw [← hH] at c0
  simp -implicitDefEqProofs [f77]
  rw [c0]
  by_cases h34 : r.head? = some 34
  case neg =>
    have ct := (w55 H.length s r H id hm hr hs).wc
    have hl := (List.takeWhile_sublist (p := tokB) (l := r)).length_le
    have hl2 := hr.length_le
    have ck := fun m H' => (w88 m (tokF r) H' (by unfold tokF; omega)).wc
    simp -implicitDefEqProofs [h34, ← hH, ct, ck, tr_take, valR]
    by_cases hk : isTok (tokF r)
    · simp [hk, valV]
    · simp [hk]
      exact ⟨_, rfl⟩
  have hcons : ∃ r1, r = 34 :: r1 := by
    cases r with
    | nil => simp at h34
    | cons a r => simp at h34; exact ⟨r, by rw [h34]⟩
  obtain ⟨r1, rfl⟩ := hcons
  have hr1 : r1 <:+ s := sfx_cons hr
  simp -implicitDefEqProofs
  generalize hz : qS r1 = z
  refine W_mono (W_rounds (Q := fun e fr H' => (e = .exit 0 ∧ z = none ∧ ∃ r', H' = H.set id (TR s r')) ∨ (e = .ret ∧ ∃ o q, z = some (o, q) ∧ H' = H.set id (TR s q) ∧ fr 2 = str o ∧ fr 3 = .v (.bool true)))
    (fun j fr H' => ∃ r' out, j = r'.length ∧ r' <:+ s ∧ out.length + r'.length ≤ s.length ∧ H' = H.set id (TR s r') ∧ fr 0 = .ptr id 0 0 ∧ fr 5 = str out ∧ z = (qS r').map fun q => (out ++ q.1, q.2)) ?_ r1.length _ _ ⟨r1, [], rfl, hr1, by simpa using hr1.length_le, by simp, by simp, by simp, by rw [hz]; cases z <;> simp⟩) ?_
  · rintro j fr H' ⟨r', out, rfl, hsf, hol, rfl, a0, a5, hq⟩
    rw [W_seq, W_seq, W_draw _ _ _ _ _ _ followsT (by rfl)]
    cases r' with
    | nil =>
      rw [qS_nil] at hq
      simp -implicitDefEqProofs [a0, atP, hat, faddr_ptr, underlying115, load_one underlying9 rfl iT9, load_one underlying3 rfl iT3, len_str underlying9]
      exact ⟨hq, _, rfl⟩
    | cons c r' =>
      obtain ⟨i, hi⟩ : ∃ i, i = s.length - (c :: r').length := ⟨_, rfl⟩
      have hl := hsf.length_le
      simp only [List.length_cons] at hl hol
      have hget := sfx_get hsf
      have hat1 := hat (c :: r')
      rw [← hi] at hget hat1
      have hlt : i < s.length := by simp at hi; omega
      have cc34 := fun m => c34 m _ hsf
      have cc92 := fun m => c92 m _ hsf
      by_cases q34 : c = 34
      · subst q34
        rw [qS_q] at hq
        simp -implicitDefEqProofs [a0, a5, atP, hat1, faddr_ptr, underlying115, load_one underlying9 rfl iT9, load_one underlying3 rfl iT3, len_str underlying9, hlt, cc34]
        exact ⟨out, r', by simpa using hq, rfl, rfl⟩
      by_cases q92 : c = 92
      · subst q92
        simp -implicitDefEqProofs [a0, atP, hat1, faddr_ptr, underlying115, load_one underlying9 rfl iT9, load_one underlying3 rfl iT3, len_str underlying9, hlt, cc34, cc92]
        rw [W_draw _ _ _ _ _ _ followsT (by rfl)]
        have hsf2 := sfx_cons hsf
        cases r' with
        | nil =>
          rw [qS_b0] at hq
          simp -implicitDefEqProofs [a0, a5, hat, atP, faddr_ptr, underlying115, load_one underlying9 rfl iT9, load_one underlying3 rfl iT3, len_str underlying9]
          exact ⟨[], rfl, by simp, out, by simp at hol ⊢; omega, rfl, rfl, by rw [hq]; rfl⟩
        | cons d r' =>
          simp only [List.length_cons] at hol
          obtain ⟨i2, hi2⟩ : ∃ i2, i2 = s.length - (d :: r').length := ⟨_, rfl⟩
          have hl2 := (hsf2).length_le
          simp only [List.length_cons] at hl2
          have hget2 := sfx_get hsf2
          have hat2 := hat (d :: r')
          have hput2 := hput (d :: r')
          rw [← hi2] at hget2 hat2
          have hlt2 : i2 < s.length := by simp at hi2; omega
          obtain ⟨k, hk, hw⟩ := upJ hlt2 (by omega)
          have hk2 : k = s.length - r'.length := by simp at hi2; omega
          have hc2 : s[i2] = d := by rw [List.getElem?_eq_getElem hlt2] at hget2; exact Option.some.inj hget2
          have hcut : (s.take k).drop i2 = [d] := by rw [hk, take_one hlt2, hc2]
          have hik : i2 ≤ k := by omega
          have hks : k ≤ s.length := by omega
          have hob : out.length ≤ 9223372036854775806 := by omega
          simp -implicitDefEqProofs [a0, a5, hat2, atP, faddr_ptr, underlying115, load_one underlying9 rfl iT9, load_one underlying3 rfl iT3, len_str underlying9, hlt2]
          rw [W_draw _ _ _ _ _ _ followsT (by rfl)]
          simp -implicitDefEqProofs [a0, a5, hat2, atP, faddr_ptr, underlying115, load_one underlying9 rfl iT9, load_one underlying3 rfl iT3, len_str underlying9, slice_str underlying9, hw, hcut, hik, hks, store_at iT3, hput2, hob]
          refine ⟨r'.length, by omega, r', rfl, sfx_cons hsf2, out ++ [d], by simp; omega, by rw [tr_eq hk2], rfl, ?_⟩
          rw [hq, qS_b]; cases qS r' <;> simp
      · simp -implicitDefEqProofs [a0, atP, hat1, faddr_ptr, underlying115, load_one underlying9 rfl iT9, load_one underlying3 rfl iT3, len_str underlying9, hlt, cc34, q34, cc92, q92]
        rw [W_draw _ _ _ _ _ _ followsT (by rfl)]
        obtain ⟨i2, hi2⟩ : ∃ i2, i2 = s.length - (c :: r').length := ⟨_, rfl⟩
        have hl2 := (hsf).length_le
        simp only [List.length_cons] at hl2
        have hget2 := sfx_get hsf
        have hat2 := hat (c :: r')
        have hput2 := hput (c :: r')
        rw [← hi2] at hget2 hat2
        have hlt2 : i2 < s.length := by simp at hi2; omega
        obtain ⟨k, hk, hw⟩ := upJ hlt2 (by omega)
        have hk2 : k = s.length - r'.length := by simp at hi2; omega
        have hc2 : s[i2] = c := by rw [List.getElem?_eq_getElem hlt2] at hget2; exact Option.some.inj hget2
        have hcut : (s.take k).drop i2 = [c] := by rw [hk, take_one hlt2, hc2]
        have hik : i2 ≤ k := by omega
        have hks : k ≤ s.length := by omega
        have hob : out.length ≤ 9223372036854775806 := by omega
        simp -implicitDefEqProofs [a0, a5, hat2, atP, faddr_ptr, underlying115, load_one underlying9 rfl iT9, load_one underlying3 rfl iT3, len_str underlying9, hlt2]
        rw [W_draw _ _ _ _ _ _ followsT (by rfl)]
        simp -implicitDefEqProofs [a0, a5, hat2, atP, faddr_ptr, underlying115, load_one underlying9 rfl iT9, load_one underlying3 rfl iT3, len_str underlying9, slice_str underlying9, hw, hcut, hik, hks, store_at iT3, hput2, hob]
        refine ⟨r'.length, by omega, r', rfl, sfx_cons hsf, out ++ [c], by simp; omega, by rw [tr_eq hk2], rfl, ?_⟩
        rw [hq, qS_c _ q34 q92]; cases qS r' <;> simp
  · rintro e fr H' (⟨rfl, hz, r', rfl⟩ | ⟨rfl, o, q, hz, rfl, a2, a3⟩)
    · subst hz
      simp -implicitDefEqProofs [tr_take, valR, hz]
      exact ⟨_, rfl⟩
    · subst hz
      simp -implicitDefEqProofs [a2, a3, tr_take, valR, hz, valV]
end Go.Proofs.Tryz

/- What is built of the structs' parts. -/
namespace Go.Proofs.Tryz
open Go Go.SL
set_option linter.unusedSimpArgs false
@[simp] theorem co3 : prog.cellsOf 3 = 1 := by simp [Program.cellsOf, iT3]
@[simp] theorem co4 : prog.cellsOf 4 = 1 := by simp [Program.cellsOf, iT4]
@[simp] theorem co9 : prog.cellsOf 9 = 1 := by simp [Program.cellsOf, iT9]
@[simp] theorem co22 : prog.cellsOf 23 = 1 := by simp [Program.cellsOf, iT23]
@[simp] theorem co25 : prog.cellsOf 22 = 1 := by simp [Program.cellsOf, iT22]
@[simp] theorem co26 : prog.cellsOf 24 = 1 := by simp [Program.cellsOf, iT24]
@[simp] theorem co29 : prog.cellsOf 30 = 1 := by simp [Program.cellsOf, iT30]
@[simp] theorem co37 : prog.cellsOf 53 = 1 := by simp [Program.cellsOf, iT53]
@[simp] theorem co67 : prog.cellsOf 62 = 2 := by simp [Program.cellsOf, iT62]
theorem b109_0  : dBuild prog 109 [] = some (.agg [str [], str []]) := by
  simp [dBuild, underlying109, places, fillC]
theorem b109_1 (a : Bs) : dBuild prog 109 [(0, str a)] = some (.agg [str a, str []]) := by
  simp [dBuild, underlying109, places, fillC]
theorem b109_2 (a b : Bs) : dBuild prog 109 [(0, str a), (1, str b)] = some (.agg [str a, str b]) := by
  simp [dBuild, underlying109, places, fillC]
theorem b62_2 (a b : Bs) : dBuild prog 62 [(0, str a), (1, str b)] = some (.agg [str a, str b]) := by
  simp [dBuild, underlying62, places, fillC]
theorem b55_0  : dBuild prog 55 [] = some (.agg [str [], str [], nilC]) := by
  simp [dBuild, underlying55, places, fillC]
theorem b55_2 (a b : Bs) : dBuild prog 55 [(0, str a), (1, str b)] = some (.agg [str a, str b, nilC]) := by
  simp [dBuild, underlying55, places, fillC]
theorem b115_1 (a : Bs) : dBuild prog 115 [(0, str a)] = some (.agg [str a, .v (.int .i64 0)]) := by
  simp [dBuild, underlying115, places, fillC]
theorem b48_0  : dBuild prog 48 [] = some (.agg [.v (.int .i64 0), .v (.int .i64 0)]) := by
  simp [dBuild, underlying48, places, fillC]
theorem b48_2 (a b : Int) : dBuild prog 48 [(0, .v (.int .i64 a)), (1, .v (.int .i64 b))] = some (.agg [.v (.int .i64 a), .v (.int .i64 b)]) := by
  simp [dBuild, underlying48, places, fillC]
theorem b26_0  : dBuild prog 26 [] = some (.agg [nilC, nilC, nilC]) := by
  simp [dBuild, underlying26, places, fillC]
theorem b112 (a : Int) (x : CV) (b : Bool) (hx : cvCells x = some [x]) : dBuild prog 95 [(0, .v (.int .i64 a)), (1, x), (2, .v (.bool b))] = some (.agg [.v (.int .i64 a), x, .v (.bool b)]) := by
  simp [dBuild, underlying95, places, fillC, hx]
end Go.Proofs.Tryz

/- Walks: the reference's lines. -/
namespace Go.Proofs.Tryz
open Go Go.SL
set_option linter.unusedVariables false
set_option linter.unusedSimpArgs false

def pairAt (r : Bs) (j : Nat) : Prop := r[j]? = some 13 ∧ r[j + 1]? = some 10
theorem occ_pair (r : Bs) (j : Nat) : Lib.occAt r [13, 10] j = true ↔ pairAt r j := by
  unfold Lib.occAt pairAt
  have h1 : r[j]? = (r.drop j)[0]? := by simp
  have h2 : r[j + 1]? = (r.drop j)[1]? := by simp
  rw [h1, h2]
  cases r.drop j with
  | nil => simp
  | cons a s =>
    cases s with
    | nil => simp [List.isPrefixOf]
    | cons b s =>
      simp only [List.isPrefixOf, Bool.and_true, Bool.and_eq_true, beq_iff_eq, List.getElem?_cons_zero, List.getElem?_cons_succ, Option.some.injEq]
      constructor <;> rintro ⟨rfl, rfl⟩ <;> exact ⟨rfl, rfl⟩
theorem cr_first {r : Bs} {j : Nat} (h : pairAt r j) (hn : ∀ i, i < j → ¬ pairAt r i) : crIdx r = j := by
  have hj : j < r.length := by
    rcases Nat.lt_or_ge j r.length with h' | h'
    · exact h'
    · rw [pairAt, List.getElem?_eq_none h'] at h; cases h.1
  refine Lib.index_first (by omega) ((occ_pair r j).2 h) fun i hi => ?_
  have := hn i hi
  rw [← occ_pair] at this
  simpa using this
theorem cr_none {r : Bs} (hn : ∀ i, ¬ pairAt r i) : crIdx r = -1 := by
  refine Lib.index_none fun i hi => ?_
  have := hn i
  rw [← occ_pair] at this
  simpa using this
theorem pair_drop (l : Bs) (p j : Nat) : pairAt (l.drop p) j ↔ pairAt l (p + j) := by
  simp [pairAt, List.getElem?_drop, Nat.add_assoc]

/-- A line: where it begins, its bytes, whether it is ended. -/
structure Ln where
  a : Nat
  s : Bs
  w : Bool
def Ln.c (x : Ln) : List CV := [.v (.int .i64 x.a), byt x.s, .v (.bool x.w)]
theorem lnCh (l : List Ln) : Chunks (l.map Ln.c) 3 := by
  intro c hc; obtain ⟨p, _, rfl⟩ := List.mem_map.1 hc; rfl
/-- Lines, without their pairs. -/
def lnS (a : Nat) (r : Bs) : List Ln :=
  if h : r = [] then [] else if crIdx r < 0 then [⟨a, r, false⟩] else ⟨a, r.take (crIdx r).toNat, true⟩ :: lnS (a + lineN r) (r.drop (lineN r))
termination_by r.length
decreasing_by
  have := lineN_pos h
  have := List.length_pos_iff.2 h
  simp; omega
theorem lnS_nil (a : Nat) : lnS a [] = [] := by rw [lnS]; simp
theorem lnS_last {a : Nat} {r : Bs} (h : r ≠ []) (hc : crIdx r < 0) : lnS a r = [⟨a, r, false⟩] := by rw [lnS]; simp [h, hc]
theorem lnS_whole {a : Nat} {r : Bs} (hc : 0 ≤ crIdx r) : lnS a r = ⟨a, r.take (crIdx r).toNat, true⟩ :: lnS (a + lineN r) (r.drop (lineN r)) := by
  have h : r ≠ [] := by rintro rfl; have := crIdx_room [] hc; simp at this; omega
  rw [lnS]; simp [h, show ¬ crIdx r < 0 by omega]
theorem ln_clB (l : List Ln) : (l.map Ln.c).flatten.all clB = true := by
  induction l with
  | nil => rfl
  | cons p l ih => simp only [List.map_cons, List.flatten_cons, List.all_append, ih]; rfl
theorem ln_snoc (l : List Ln) (p : Ln) : ((l ++ [p]).map Ln.c).flatten = (l.map Ln.c).flatten ++ p.c := by simp
theorem cut_byt {l : Bs} {o h : Nat} (ho : o ≤ h) (hh : h ≤ l.length) : cutC (byt l) o h = byt ((l.take h).drop o) := by
  have hlen : ((l.take h).drop o).length = h - o := by simp; omega
  simp only [cutC, byt, Nat.mul_one, u8s_drop, u8s_take, List.drop_take]
  rw [List.drop_take] at hlen
  rw [hlen]
theorem mkL1 (a : Int) (s : Bs) (w : Bool) (H : Hp) : dBuildSlice prog 92 1 [(0, .agg [.v (.int .i64 a), byt s, .v (.bool w)])] H false = some (.im [.v (.int .i64 a), byt s, .v (.bool w)] 1 3, H) :=
  mkA1 underlying92 (by rw [underlying95]; rfl) iT95 zT95 (by simp) sT95 (by omega) (by omega) rfl rfl rfl H

variable [LayerC]
theorem w65 (m : Nat) (l : Bs) (H : Hp) (hl : l.length ≤ 4294967280) : ∃ q, Cls q ((lnS 0 l).map Ln.c).flatten (lnS 0 l).length 3 ∧ Ret prog cs0 m 58 [byt l] H q H := by
  suffices hsuf : WC prog cs0 m (.f 58) [byt l] H fun y H' => H' = H ∧ Cls y ((lnS 0 l).map Ln.c).flatten (lnS 0 l).length 3 by
    obtain ⟨k, ⟨y, H'⟩, h1, h2, h3⟩ := hsuf
    simp only at h2 h3
    subst h2
    exact ⟨y, h3, k, _, h1, rfl, rfl⟩
  rw [WC_drop rfl func58 rfl rfl]
  simp -implicitDefEqProofs [f58]
  generalize hZ : lnS 0 l = Z
  obtain ⟨R, hR⟩ : ∃ R : Fr → Hp → Prop, ∀ fr H', R fr H' ↔ ∃ p dn, p ≤ l.length ∧ fr 0 = byt l ∧ fr 4 = .v (.int .i64 (p : Nat)) ∧ Acc H H' (fr 3) (dn.map Ln.c).flatten dn.length 3 95 ∧ dn.length ≤ p ∧ Z = dn ++ lnS p (l.drop p) ∧ (∀ j, ¬ pairAt (l.drop p) j) := ⟨_, fun _ _ => Iff.rfl⟩
  obtain ⟨I, hI⟩ : ∃ I : Nat → Fr → Hp → Prop, ∀ k fr H', I k fr H' ↔ ∃ i p dn, k = l.length - i ∧ p ≤ i ∧ i ≤ l.length ∧ fr 0 = byt l ∧ fr 4 = .v (.int .i64 (p : Nat)) ∧ fr 5 = .v (.int .i64 (i : Nat)) ∧ Acc H H' (fr 3) (dn.map Ln.c).flatten dn.length 3 95 ∧ dn.length ≤ p ∧ Z = dn ++ lnS p (l.drop p) ∧ (∀ j, p ≤ j → j < i → ¬ pairAt l j) := ⟨_, fun _ _ _ => Iff.rfl⟩
  refine W_mono (W_rounds (Q := fun e fr H' => e = .exit 0 ∧ R fr H') I ?_ _ _ _ ((hI _ _ _).2 ⟨0, 0, [], rfl, by omega, by omega, by simp, by simp, by simp, Acc.nil H 3 95, by simp, by rw [← hZ]; simp, by intro j _ h; omega⟩)) ?_
  · intro k fr H' hi
    obtain ⟨i, p, dn, rfl, hpi, hil, a0, a4, a5, ha, hd, hz, hno⟩ := (hI _ _ _).1 hi
    have hlen := len_byt (P := prog) (t := 23) underlying23 l H'
    by_cases hlt : i < l.length
    case neg =>
      simp -implicitDefEqProofs [a0, a5, hlen, hlt]
      refine (hR _ _).2 ⟨p, dn, by omega, by simp [a0], by simp [a4], by simpa using ha, hd, hz, fun j hj => ?_⟩
      rw [pair_drop] at hj
      have : p + j < l.length := by
        rcases Nat.lt_or_ge (p + j) l.length with h' | h'
        · exact h'
        · rw [pairAt, List.getElem?_eq_none h'] at hj; cases hj.1
      exact hno (p + j) (by omega) (by omega) hj
    have c96 := fun m => (w96 m H' (byt l) l (RB.byt _ _) i hlt hl).wc
    have hw := up64 hlt (by omega)
    have hpp : (l[i] = 13 ∧ l[i + 1]? = some 10) ↔ pairAt l i := by unfold pairAt; rw [List.getElem?_eq_getElem hlt]; simp
    by_cases hp2 : l[i] = 13 ∧ l[i + 1]? = some 10
    · have hpa := hpp.1 hp2
      have hi1 : i + 1 < l.length := by
        rcases Nat.lt_or_ge (i + 1) l.length with h' | h'
        · exact h'
        · have := hpa.2; rw [List.getElem?_eq_none h'] at this; cases this
      have hcr : crIdx (l.drop p) = ((i - p : Nat) : Int) := by
        refine cr_first ((pair_drop l p (i - p)).2 (by rw [show p + (i - p) = i by omega]; exact hpa)) fun j hj hc => ?_
        rw [pair_drop] at hc
        exact hno (p + j) (by omega) (by omega) hc
      have hln : lineN (l.drop p) = i - p + 2 := by unfold lineN; rw [hcr, if_neg (by omega)]; omega
      have hz2 := lnS_whole (a := p) (r := l.drop p) (by rw [hcr]; omega)
      rw [hcr, hln, List.drop_drop, show p + (i - p + 2) = i + 2 by omega] at hz2
      obtain ⟨i1, hi1e, hw1⟩ := upJ hlt (by omega)
      obtain ⟨i2, hi2e, hw2⟩ := upJ (i := i1) (n := l.length) (by omega) (by omega)
      have hsl := slice_byt (P := prog) underlying23 iT5 sT5 l (some (.v (.int .i64 (p : Nat)))) (some (.v (.int .i64 (i : Nat)))) H'
      simp [hpi, hil] at hsl
      rw [List.drop_take] at hsl
      obtain ⟨x2, H2, e1, e2⟩ := Acc.append (P := prog) (t := 92) (tx := 92) (y := .im [.v (.int .i64 (p : Nat)), byt ((l.drop p).take (i - p)), .v (.bool true)] 1 3) underlying92 iT95 zT95 (by simp) sT95 (by omega) ha (src_clo (n := 1) underlying92 (.inl rfl) rfl _) rfl (by simp; omega) (by omega)
      have hap : ∀ y, apQ H.length (fr 3) y = true := ha.ap (Nat.le_refl _)
      have u3 := ha.unl
      have u2 := e2.unl
      have hb := b112 (p : Int) (byt ((l.drop p).take (i - p))) true rfl
      have hm := mkL1 (p : Int) ((l.drop p).take (i - p)) true H'
      simp -implicitDefEqProofs [a0, a4, a5, hlen, hlt, c96, hp2, hw1, hw2, hsl, hb, hm, hap, e1, u3, u2]
      refine ⟨l.length - i2, by omega, (hI _ _ _).2 ⟨i2, i2, dn ++ [⟨p, (l.drop p).take (i - p), true⟩], rfl, by omega, by omega, by simp [a0], by simp, by simp, ?_, by simp; omega, ?_, fun j h1 h2 => by omega⟩⟩
      · rw [ln_snoc, List.length_append]; simpa [Ln.c] using e2
      · rw [hz, hz2, show i2 = i + 2 by omega]; simp
    · have hnp : ¬ pairAt l i := fun h => hp2 (hpp.2 h)
      simp -implicitDefEqProofs [a0, a5, hlen, hlt, c96, hp2, hw]
      refine ⟨l.length - (i + 1), by omega, (hI _ _ _).2 ⟨i + 1, p, dn, rfl, by omega, by omega, by simp [a0], by simp [a4], by simp, by simpa using ha, hd, hz, fun j h1 h2 => ?_⟩⟩
      by_cases e : j = i
      · subst e; exact hnp
      · exact hno j h1 (by omega)
  · rintro e fr H' ⟨rfl, hr⟩
    obtain ⟨p, dn, hpl, a0, a4, ha, hd, hz, hno⟩ := (hR _ _).1 hr
    have hlen := len_byt (P := prog) (t := 23) underlying23 l H'
    have hcn := cr_none hno
    have u3 := ha.unl
    by_cases hlt : p < l.length
    · have hne : l.drop p ≠ [] := by intro h; have := congrArg List.length h; simp at this; omega
      have hz2 := lnS_last (a := p) hne (by rw [hcn]; omega)
      have hsl := slice_byt (P := prog) underlying23 iT5 sT5 l (some (.v (.int .i64 (p : Nat)))) none H'
      simp [hpl] at hsl
      obtain ⟨x2, H2, e1, e2⟩ := Acc.append (P := prog) (t := 92) (tx := 92) (y := .im [.v (.int .i64 (p : Nat)), byt (l.drop p), .v (.bool false)] 1 3) underlying92 iT95 zT95 (by simp) sT95 (by omega) ha (src_clo (n := 1) underlying92 (.inl rfl) rfl _) rfl (by simp; omega) (by omega)
      have hap : ∀ y, apQ H.length (fr 3) y = true := ha.ap (Nat.le_refl _)
      have u2 := e2.unl
      have hb := b112 (p : Int) (byt (l.drop p)) false rfl
      have hm := mkL1 (p : Int) (l.drop p) false H'
      have e3 : Acc H H2 x2 (Z.map Ln.c).flatten Z.length 3 95 := by
        rw [hz, hz2, ln_snoc, List.length_append]; simpa [Ln.c] using e2
      obtain ⟨y, f1, f2⟩ := e3.frzV (Nat.le_refl _) (ln_clB Z)
      simp -implicitDefEqProofs [a0, a4, hlen, hlt, hsl, hb, hm, hap, e1, u3, u2, f1, e3.take]
      exact f2
    · obtain rfl : p = l.length := by omega
      have hzd : Z = dn := by rw [hz, List.drop_length, lnS_nil, List.append_nil]
      subst hzd
      obtain ⟨y, f1, f2⟩ := ha.frzV (Nat.le_refl _) (ln_clB Z)
      simp -implicitDefEqProofs [a0, a4, hlen, u3, f1, ha.take]
      exact f2
end Go.Proofs.Tryz

/- Walks: the reference's begins, and its cut. -/
namespace Go.Proofs.Tryz
open Go Go.SL
set_option linter.unusedVariables false
set_option linter.unusedSimpArgs false
variable [LayerC]

theorem w65n (m : Nat) (H : Hp) : Ret prog cs0 m 58 [nilC] H nilC H := by
  unfold Ret
  rw [WC_drop rfl func58 rfl rfl]
  simp -implicitDefEqProofs [f58]
  refine W_up 0 (fun i fr H' => H' = H ∧ fr 0 = nilC ∧ fr 3 = nilC ∧ fr 4 = .v (.int .i64 0) ∧ fr 5 = .v (.int .i64 i)) ?_ 0 _ _ (by omega) (by simp)
  rintro i fr H' hi ⟨rfl, a0, a3, a4, a5⟩
  obtain rfl : i = 0 := by omega
  have hl := (RB.nil H').len (P := prog) underlying23
  simp -implicitDefEqProofs [a0, a3, a4, a5, hl]
theorem w65c (m : Nat) (x : CV) (l : Bs) (H : Hp) (hx : CB x l) (hl : l.length ≤ 4294967280) : ∃ q, Cls q ((lnS 0 l).map Ln.c).flatten (lnS 0 l).length 3 ∧ Ret prog cs0 m 58 [x] H q H := by
  rcases hx with rfl | ⟨h1, _, rfl⟩
  · exact w65 m l H hl
  · obtain rfl := List.eq_nil_of_length_eq_zero h1
    rw [lnS_nil]
    exact ⟨nilC, .inr ⟨rfl, rfl, rfl⟩, w65n m H⟩
theorem lnS_len (a : Nat) (l : Bs) : (lnS a l).length ≤ l.length := by
  have key : ∀ n (l : Bs) a, l.length ≤ n → (lnS a l).length ≤ l.length := by
    intro n
    induction n with
    | zero =>
      intro l a hn
      obtain rfl := List.eq_nil_of_length_eq_zero (by omega : l.length = 0)
      rw [lnS_nil]; simp
    | succ n ih =>
      intro l a hn
      by_cases h : l = []
      · subst h; rw [lnS_nil]; simp
      · have hp := lineN_pos h
        have hle := lineN_le l
        by_cases hc : crIdx l < 0
        · rw [lnS_last h hc]; have := List.length_pos_iff.2 h; simp; omega
        · rw [lnS_whole (by omega)]
          have := ih (l.drop (lineN l)) (a + lineN l) (by simp; omega)
          simp at this ⊢; omega
  exact key _ l a (Nat.le_refl _)
def begR (l t : Bs) : Prop := ∃ x ∈ lnS 0 l, t <+: x.s
instance (l t : Bs) : Decidable (begR l t) := by unfold begR; infer_instance
/-- An element of the lines. -/
theorem ln_at {P : Program} {q : CV} {ls : List Ln} (hq : Cls q (ls.map Ln.c).flatten ls.length 3) (H : Hp) : RS H q (ls.map Ln.c) 3 := by
  refine Cls.rs ?_ (lnCh ls) H
  rw [List.length_map]; exact hq

theorem w44 (m : Nat) (x : CV) (l t : Bs) (H : Hp) (hx : CB x l) (hl : l.length ≤ 4294967280) : Ret prog cs0 m 37 [x, str t] H (.v (.bool (decide (begR l t)))) H := by
  unfold Ret
  rw [WC_drop rfl func37 rfl rfl]
  have ux := hx.unl
  obtain ⟨q, hq, hw65⟩ := w65c H.length x l H hx hl
  have uq := hq.unl
  have c65 := hw65.wc
  have hrs := ln_at (P := prog) hq H
  have hll := lnS_len 0 l
  have hlen := hrs.len (P := prog) underlying92
  rw [List.length_map] at hlen
  generalize hz : lnS 0 l = ls at *
  have hbg : begR l t ↔ ∃ x ∈ ls, t <+: x.s := by unfold begR; rw [hz]
  simp -implicitDefEqProofs [f37, ux, c65, uq]
  refine W_up ls.length (fun i fr H' => H' = H ∧ fr 1 = str t ∧ fr 5 = q ∧ fr 6 = .v (.int .i64 i) ∧ ∀ y ∈ ls.take i, ¬ t <+: y.s) ?_ 0 _ _ (by omega) (by simp)
  rintro i fr H' hi ⟨rfl, a1, a5, a6, hk⟩
  by_cases hlt : i < ls.length
  · have hw := up64 hlt (by omega)
    have hlt2 : i < (ls.map Ln.c).length := by simpa using hlt
    have hy := take_all hk hlt
    have had := hrs.addr (P := prog) underlying92 iT95 sT95 .i64 i
    have hf := hrs.fieldAddr (P := prog) (f := 1) underlying95 rfl iT23 (by simp) hlt2 (by simp)
    have hld := hrs.loadPart (P := prog) (k := 1) underlying23 rfl iT23 hlt2 (by omega)
    simp [Ln.c, hlt] at had hld
    simp at hf
    have c78 := (w78 H'.length H' (byt ls[i].s) ls[i].s t (RB.byt _ _)).wc
    by_cases hp : t <+: ls[i].s
    · simp -implicitDefEqProofs [a1, a5, a6, uq, hlen, hlt, had, hf, hld, c78, hp]
      exact hbg.2 ⟨_, List.getElem_mem hlt, hp⟩
    · simp -implicitDefEqProofs [a1, a5, a6, uq, hlen, hlt, had, hf, hld, c78, hp, hw]
      exact hy hp
  · obtain rfl : i = ls.length := by omega
    rw [List.take_length] at hk
    simp -implicitDefEqProofs [a1, a5, a6, uq, hlen]
    rw [hbg]; rintro ⟨y, h1, h2⟩; exact hk y h1 h2
end Go.Proofs.Tryz

/- Walks: the reference's cut. -/
namespace Go.Proofs.Tryz
open Go Go.SL
set_option linter.unusedVariables false
set_option linter.unusedSimpArgs false

theorem lnS_room (a : Nat) (l : Bs) : ∀ x ∈ lnS a l, a ≤ x.a ∧ x.a + x.s.length + (if x.w = true then 2 else 0) ≤ a + l.length := by
  have key : ∀ n (l : Bs) a, l.length ≤ n → ∀ x ∈ lnS a l, a ≤ x.a ∧ x.a + x.s.length + (if x.w = true then 2 else 0) ≤ a + l.length := by
    intro n
    induction n with
    | zero =>
      intro l a hn x hx
      obtain rfl := List.eq_nil_of_length_eq_zero (by omega : l.length = 0)
      rw [lnS_nil] at hx; cases hx
    | succ n ih =>
      intro l a hn x hx
      by_cases h : l = []
      · subst h; rw [lnS_nil] at hx; cases hx
      · have hp := lineN_pos h
        have hle := lineN_le l
        by_cases hc : crIdx l < 0
        · rw [lnS_last h hc] at hx
          simp at hx; subst hx
          exact ⟨Nat.le_refl _, by simp⟩
        · rw [lnS_whole (by omega)] at hx
          have hroom := crIdx_room l (by omega)
          rcases List.mem_cons.1 hx with rfl | hx
          · refine ⟨Nat.le_refl _, ?_⟩
            simp; omega
          · have := ih (l.drop (lineN l)) (a + lineN l) (by simp; omega) x hx
            simp at this
            exact ⟨by omega, by omega⟩
  exact key _ l a (Nat.le_refl _)

/-- A knot's content is cut: the texts between the borders' lines; none: there is no last one. -/
def outN (l : Bs) (x : Ln) (fr : Option Nat) (out : List Bs) : List Bs :=
  match fr with
  | some f => out ++ [(l.take (max (x.a - 2) f)).drop f]
  | none => out
def nextN (x : Ln) : Nat := x.a + x.s.length + (if x.w = true then 2 else 0)
def cutG (l b : Bs) : List Ln → Option Nat → List Bs → Option (List Bs)
  | [], _, _ => none
  | x :: xs, fr, out =>
    if edgeC x.s b = 0 then cutG l b xs fr out else
    if edgeC x.s b = 2 then some (outN l x fr out) else cutG l b xs (some (nextN x)) (outN l x fr out)
theorem acc_lenS {P : Program} {t e e' : TypeId} {H H' : Hp} {x : CV} {cs : List CV} {n sz : Nat} (h : Acc H H' x cs n sz e) (ht : P.underlying t = some (.slice e')) : dLenS P t x H' = some (.v (.int .i64 n)) := by
  rcases h with ⟨rfl, _, rfl, rfl⟩ | ⟨_, ver, rfl, rfl⟩
  · exact dLenS_nil ht 0 0 _
  · rw [dLenS_sl ht, at_own0, at_zero]; simp
def fromV : Option Nat → CV
  | none => .v (.int .i64 (-1))
  | some f => .v (.int .i64 (f : Nat))
def bytS (l : List Bs) : List CV := l.map byt
theorem bytS_clB (l : List Bs) : (bytS l).all clB = true := by
  induction l with
  | nil => rfl
  | cons a l ih => simp only [bytS, List.map_cons, List.all_cons] at ih ⊢; rw [ih]; simp
@[simp] theorem bytS_len (l : List Bs) : (bytS l).length = l.length := by simp [bytS]
theorem bytS_snoc (l : List Bs) (a : Bs) : bytS (l ++ [a]) = bytS l ++ [byt a] := by simp [bytS]
theorem mkY1 (s : Bs) (H : Hp) : dBuildSlice prog 27 1 [(0, byt s)] H false = some (.im [byt s] 1 1, H) := by
  simp [dBuildSlice, underlying27, fillC, zerosC, isU8, underlying23]
/-- What cutting answers. -/
def cutR (o : Option (List Bs)) (y : CV) : Prop :=
  match o with
  | some out => ∃ q, Cls q (bytS out) out.length 1 ∧ y = .tup [q, .v (.bool (decide (0 < out.length)))]
  | none => y = .tup [nilC, .v (.bool false)]
variable [LayerC]
end Go.Proofs.Tryz

/- Walks: a parameter. -/
namespace Go.Proofs.Tryz
open Go Go.SL
set_option linter.unusedVariables false
set_option linter.unusedSimpArgs false

/-- A parameter that is read, and what is behind it. -/
def parR (r : Bs) : Option (Par × Bs) :=
  match tokR r with
  | c :: r2 => if c = 61 then (valR r2).2.map fun v => (⟨low (tokF r), v⟩, (valR r2).1) else none
  | [] => none
theorem valR_len (r : Bs) : (valR r).1.length ≤ r.length := by
  have qlen : ∀ n (r : Bs) o q, r.length ≤ n → qS r = some (o, q) → q.length ≤ r.length ∧ o.length ≤ r.length := by
    intro n
    induction n with
    | zero => intro r o q hn h; cases r with
      | nil => cases h
      | cons a r => simp at hn
    | succ n ih =>
      intro r o q hn h
      cases r with
      | nil => cases h
      | cons c r =>
        simp only [List.length_cons] at hn ⊢
        by_cases h1 : c = 34
        · subst h1; rw [qS_q] at h; cases h; exact ⟨by omega, by simp⟩
        by_cases h2 : c = 92
        · subst h2
          cases r with
          | nil => rw [qS_b0] at h; cases h
          | cons d r =>
            rw [qS_b] at h
            obtain ⟨⟨o', q'⟩, h3, h4⟩ := Option.map_eq_some_iff.1 h
            simp only [Prod.mk.injEq] at h4
            obtain ⟨rfl, rfl⟩ := h4
            simp only [List.length_cons] at hn ⊢
            have := ih r o' q' (by omega) h3
            exact ⟨by omega, by simp; omega⟩
        · rw [qS_c _ h1 h2] at h
          obtain ⟨⟨o', q'⟩, h3, h4⟩ := Option.map_eq_some_iff.1 h
          simp only [Prod.mk.injEq] at h4
          obtain ⟨rfl, rfl⟩ := h4
          have := ih r o' q' (by omega) h3
          exact ⟨by omega, by simp; omega⟩
  unfold valR
  split
  · split
    · rename_i q h
      have := qlen _ _ q.1 q.2 (Nat.le_refl _) h
      simp at this ⊢; omega
    · simp
  · exact (tokR_sfx r).length_le
theorem valR_val (r v : Bs) (h : (valR r).2 = some v) : v.length ≤ r.length := by
  have qlen : ∀ n (r : Bs) o q, r.length ≤ n → qS r = some (o, q) → o.length ≤ r.length := by
    intro n
    induction n with
    | zero => intro r o q hn h; cases r with
      | nil => cases h
      | cons a r => simp at hn
    | succ n ih =>
      intro r o q hn h
      cases r with
      | nil => cases h
      | cons c r =>
        simp only [List.length_cons] at hn ⊢
        by_cases h1 : c = 34
        · subst h1; rw [qS_q] at h; cases h; simp
        by_cases h2 : c = 92
        · subst h2
          cases r with
          | nil => rw [qS_b0] at h; cases h
          | cons d r =>
            rw [qS_b] at h
            obtain ⟨⟨o', q'⟩, h3, h4⟩ := Option.map_eq_some_iff.1 h
            simp only [Prod.mk.injEq] at h4
            obtain ⟨rfl, rfl⟩ := h4
            simp only [List.length_cons] at hn ⊢
            have := ih r o' q' (by omega) h3
            simp; omega
        · rw [qS_c _ h1 h2] at h
          obtain ⟨⟨o', q'⟩, h3, h4⟩ := Option.map_eq_some_iff.1 h
          simp only [Prod.mk.injEq] at h4
          obtain ⟨rfl, rfl⟩ := h4
          have := ih r o' q' (by omega) h3
          simp; omega
  unfold valR at h
  split at h
  · split at h
    · rename_i q h2
      cases h
      have := qlen _ _ q.1 q.2 (Nat.le_refl _) h2
      simp at this; omega
    · cases h
  · split at h <;> cases h
    exact (List.takeWhile_sublist _).length_le
theorem parR_len {r : Bs} {p : Par} {q : Bs} (h : parR r = some (p, q)) : q.length < r.length ∧ p.n.length ≤ r.length ∧ p.v.length ≤ r.length := by
  unfold parR at h
  split at h
  · rename_i c r2 h1
    split at h
    · obtain ⟨v, h2, h3⟩ := Option.map_eq_some_iff.1 h
      cases h3
      have h4 := valR_len r2
      have h5 := valR_val r2 v h2
      have h6 := (tokR_sfx r).length_le
      have h7 : (tokF r).length ≤ r.length := (List.takeWhile_sublist _).length_le
      rw [h1] at h6
      simp at h6 ⊢
      omega
    · cases h
  · cases h

variable [LayerC]
theorem w50 (m : Nat) (r : Bs) (H : Hp) (hs : r.length ≤ 4294967280) :
    WC prog cs0 m (.f 72) [str r] H fun y H2 => H2 = H ∧ match parR r with
      | some (p, q) => y = .tup [.agg p.c, str q, .v (.bool true)]
      | none => ∃ (p : Par) (q : Bs), y = .tup [.agg p.c, str q, .v (.bool false)] ∧ q.length ≤ r.length := by
  rw [WC_drop rfl func72 rfl rfl]
  have hf : (tokF r).length ≤ 4294967280 := Nat.le_trans (List.takeWhile_sublist _).length_le hs
  have hr := (tokR_sfx r).length_le
  have cl := fun m H' => (w49 m (tokF r) H' hf).wc
  have ct := fun m H' => (w46 m r H' hs).wc
  simp -implicitDefEqProofs [f72, aQ, dAlloc, ct, dExtract, (w48 _ _ _ _).wc]
  cases hq : tokR r with
  | nil =>
    simp -implicitDefEqProofs [parR, hq, behind, b109_0, store_at iT109, cells_agg, load_aggp underlying109 rfl iT109]
    exact ⟨⟨[], []⟩, [], ⟨rfl, rfl⟩, by simp⟩
  | cons c r2 =>
    rw [hq] at hr
    simp only [List.length_cons] at hr
    by_cases h61 : c = 61
    · subst h61
      have hr2 : r2.length ≤ 4294967280 := by omega
      have c2 := fun m H' => (w46 m r2 H' hr2).wc
      have cq := fun m H' => (w83 m r2 H' hr2).wc
      have hk : (tokF r2).length ≤ 4294967280 := Nat.le_trans (List.takeWhile_sublist _).length_le hr2
      have ck := fun m H' => (w84 m (tokF r2) H' hk).wc
      cases r2 with
      | nil =>
        have e0 : tokF [] = [] := rfl
        have e1 : tokR [] = [] := rfl
        have e2 : ¬ isTok [] := by simp [isTok]
        rw [e0] at ck
        simp only [e2, decide_false] at ck
        simp -implicitDefEqProofs [behind, cl, b109_1, store_at iT109, cells_agg, (w82 _ _ _ _).wc, cq, c2, ck, dExtract, store_at iT9, faddr_ptr, underlying109, load_aggp underlying109 rfl iT109, load_one underlying9 rfl iT9, parR, hq, valR, e0, e1, e2]
        exact ⟨⟨_, _⟩, [], ⟨rfl, rfl⟩, by simp⟩
      | cons d r3 =>
        by_cases h34 : d = 34
        · subst h34
          have cq' : ∀ m H' K, WC prog cs0 m (.f 94) [str (34 :: r3)] H' K ↔ K (quoV (qS r3)) H' := cq
          cases hz : qS r3 with
          | none =>
            simp -implicitDefEqProofs [behind, cl, b109_1, store_at iT109, cells_agg, (w82 _ _ _ _).wc, cq', hz, quoV, dExtract, store_at iT9, faddr_ptr, underlying109, load_aggp underlying109 rfl iT109, load_one underlying9 rfl iT9, parR, hq, valR]
            exact ⟨⟨_, _⟩, [], ⟨rfl, rfl⟩, by simp⟩
          | some z =>
            obtain ⟨o, q⟩ := z
            simp -implicitDefEqProofs [behind, cl, b109_1, store_at iT109, cells_agg, (w82 _ _ _ _).wc, cq', hz, quoV, dExtract, store_at iT9, faddr_ptr, underlying109, load_aggp underlying109 rfl iT109, load_one underlying9 rfl iT9, parR, hq, valR, Par.c]
        · have h34' : ¬ 34 = d := Ne.symm h34
          have htl := (tokR_sfx (d :: r3)).length_le
          by_cases hk2 : isTok (tokF (d :: r3))
          · simp -implicitDefEqProofs [behind, cl, b109_1, store_at iT109, cells_agg, (w82 _ _ _ _).wc, c2, ck, dExtract, store_at iT9, faddr_ptr, underlying109, load_aggp underlying109 rfl iT109, load_one underlying9 rfl iT9, parR, hq, valR, h34, h34', hk2, Par.c]
          · simp -implicitDefEqProofs [behind, cl, b109_1, store_at iT109, cells_agg, (w82 _ _ _ _).wc, c2, ck, dExtract, store_at iT9, faddr_ptr, underlying109, load_aggp underlying109 rfl iT109, load_one underlying9 rfl iT9, parR, hq, valR, h34, h34', hk2]
            exact ⟨⟨_, _⟩, _, ⟨rfl, rfl⟩, by simp at htl hr; omega⟩
    · have h61' : ¬ 61 = c := Ne.symm h61
      simp -implicitDefEqProofs [parR, hq, behind, h61, h61', b109_0, store_at iT109, cells_agg, load_aggp underlying109 rfl iT109]
      have h1 := (tokR_sfx r).length_le
      rw [hq] at h1
      exact ⟨⟨[], []⟩, [], ⟨rfl, rfl⟩, by simp⟩
end Go.Proofs.Tryz

/- Walks: a kind is read. -/
namespace Go.Proofs.Tryz
open Go Go.SL
set_option linter.unusedVariables false
set_option linter.unusedSimpArgs false

/-- Parameters that are read. -/
def parsS (r : Bs) : Option (List Par) :=
  match trimL r with
  | [] => some []
  | c :: r1 => if c = 59 then (match trimL r1 with
    | [] => some []
    | d :: r2 => match parR (d :: r2) with
      | some (p, q) => if h : q.length < r.length then (parsS q).map (p :: ·) else none
      | none => none) else none
termination_by r.length
theorem parsS_nil {r : Bs} (h : trimL r = []) : parsS r = some [] := by rw [parsS, h]
theorem parsS_no {r r1 : Bs} {c : UInt8} (h : trimL r = c :: r1) (hc : c ≠ 59) : parsS r = none := by rw [parsS, h]; simp [hc]
theorem parsS_end {r r1 : Bs} (h : trimL r = 59 :: r1) (h2 : trimL r1 = []) : parsS r = some [] := by rw [parsS, h]; simp [h2]
theorem parsS_par {r r1 : Bs} (h : trimL r = 59 :: r1) (h2 : trimL r1 ≠ []) : parsS r = match parR (trimL r1) with
    | some (p, q) => (parsS q).map (p :: ·)
    | none => none := by
  rw [parsS, h]
  simp only [if_true]
  cases h3 : trimL r1 with
  | nil => exact absurd h3 h2
  | cons d r2 =>
    simp only []
    cases h4 : parR (d :: r2) with
    | none => rfl
    | some z =>
      obtain ⟨p, q⟩ := z
      have h5 := parR_len h4
      have h6 := (trimL_sfx r1).length_le
      have h7 := (trimL_sfx r).length_le
      rw [h3] at h6
      rw [h] at h7
      simp only [List.length_cons] at h5 h6 h7
      simp only []
      rw [dif_pos (by omega)]

/-- A kind that is read. -/
def readK (s : Bs) : Option Kd :=
  match tokR (trimL s) with
  | c :: r1 => if c = 47 then (parsS (tokR r1)).bind fun ps => if kOK (low (tokF (trimL s))) (low (tokF r1)) ps then some ⟨low (tokF (trimL s)), low (tokF r1), ps⟩ else none else none
  | [] => none
/-- A kind's value. -/
def KV (x : CV) (k : Kd) : Prop := ∃ q, x = .agg [str k.t, str k.s, q] ∧ Cls q (k.ps.map Par.c).flatten k.ps.length 2
/-- What reading a kind answers. -/
def rdK (o : Option Kd) (y : CV) : Prop :=
  match o with
  | some k => ∃ x, KV x k ∧ y = .tup [x, .v (.int .i64 0)]
  | none => ∃ x, KV x ⟨[], [], []⟩ ∧ y = .tup [x, .v (.int .i64 70)]
theorem par_clB (ps : List Par) : (ps.map Par.c).flatten.all clB = true := by
  induction ps with
  | nil => rfl
  | cons p ps ih => simp only [List.map_cons, List.flatten_cons, List.all_append, ih]; rfl
theorem par_snoc (ps : List Par) (p : Par) : ((ps ++ [p]).map Par.c).flatten = (ps.map Par.c).flatten ++ p.c := by simp
variable [LayerC]
theorem par_len (ps : List Par) : (ps.map Par.c).flatten.length = ps.length * 2 := by
  have := (parCh ps).len
  simpa using this

theorem w28 (m : Nat) (s : Bs) (H : Hp) (hs : s.length ≤ 4294967280) : WC prog cs0 m (.f 53) [str s] H fun y H2 => H2 = H ∧ rdK (readK s) y := by
  rw [WC_drop rfl func53 rfl rfl]
  have h1 := (trimL_sfx s).length_le
  have h2 := (tokR_sfx (trimL s)).length_le
  have h3 : (tokF (trimL s)).length ≤ (trimL s).length := (List.takeWhile_sublist _).length_le
  have c1 := fun m H' => (w47 m s H' hs).wc
  have c2 := fun m H' => (w46 m (trimL s) H' (by omega)).wc
  have c3 := fun m H' => (w49 m (tokF (trimL s)) H' (by omega)).wc
  generalize hr0 : behind (tokR (trimL s)) [47] = r0
  have h4 : r0.length ≤ s.length := by
    subst hr0; unfold behind; split
    · rw [List.length_drop]; omega
    · omega
  have h5 := (tokR_sfx r0).length_le
  have h6 : (tokF r0).length ≤ r0.length := (List.takeWhile_sublist _).length_le
  have c4 := fun m H' => (w46 m r0 H' (by omega)).wc
  have c5 := fun m H' => (w49 m (tokF r0) H' (by omega)).wc
  have c48 := fun m a b H' => (w48 m a b H').wc
  simp -implicitDefEqProofs [f53, aQ, dAlloc, c1, c2, c48, hr0, c4, c3, c5, dExtract, faddr_ptr, underlying55, store_at iT9]
  generalize hT : low (tokF (trimL s)) = T
  generalize hS : low (tokF r0) = S
  obtain ⟨Z, hZ⟩ : ∃ Z, Z = if [47] <+: tokR (trimL s) then parsS (tokR r0) else none := ⟨_, rfl⟩
  obtain ⟨R, hR⟩ : ∃ R : Fr → Hp → Prop, ∀ fr H', R fr H' ↔ ∃ ok ps q L, fr 2 = .ptr H.length 0 0 ∧ fr 4 = .ptr (H.length + 1) 0 0 ∧ fr 7 = .v (.bool ok) ∧ H' = H ++ CO.cells 0 [str [], str [], nilC] 55 :: CO.cells 0 [str T, str S, q] 55 :: L ∧ Grow (H.length + 2) H' q (ps.map Par.c).flatten ps.length 2 109 ∧ ps.length ≤ s.length ∧ (ok = true → ∀ p ∈ ps, p.n.length ≤ s.length ∧ p.v.length ≤ s.length) ∧ (ok = true → Z = some ps) ∧ (ok = false → Z = none) := ⟨_, fun _ _ => Iff.rfl⟩
  obtain ⟨I, hI⟩ : ∃ I : Nat → Fr → Hp → Prop, ∀ j fr H', I j fr H' ↔ ∃ r' ok ps q L, j = (if ok = true then r'.length + 1 else 0) ∧ fr 2 = .ptr H.length 0 0 ∧ fr 4 = .ptr (H.length + 1) 0 0 ∧ fr 6 = str r' ∧ fr 7 = .v (.bool ok) ∧ H' = H ++ CO.cells 0 [str [], str [], nilC] 55 :: CO.cells 0 [str T, str S, q] 55 :: L ∧ Grow (H.length + 2) H' q (ps.map Par.c).flatten ps.length 2 109 ∧ ps.length + r'.length ≤ s.length ∧ (ok = true → ∀ p ∈ ps, p.n.length ≤ s.length ∧ p.v.length ≤ s.length) ∧ (ok = true → Z = (parsS r').map (ps ++ ·)) ∧ (ok = false → Z = none) := ⟨_, fun _ _ _ => Iff.rfl⟩
  refine W_mono (W_rounds (Q := fun e fr H' => e = .exit 0 ∧ R fr H') I ?_ _ _ _ ((hI _ _ _).2
    ⟨tokR r0, decide ([47] <+: tokR (trimL s)), [], nilC, [], rfl, by simp, by simp, by simp, by simp, by simp, Grow.nil _ _ _ _, by simp; omega, by simp, by intro h; simp only [decide_eq_true_eq] at h; rw [hZ, if_pos h]; cases parsS (tokR r0) <;> simp, by intro h; simp only [decide_eq_false_iff_not] at h; rw [hZ, if_neg h]⟩)) ?_
  · rintro j fr H' hi
    obtain ⟨r', ok, ps, q, L, rfl, a2, a4, a6, a7, rfl, hg, hn, hp, hok, hno⟩ := (hI _ _ _).1 hi
    cases ok with
    | false =>
      simp -implicitDefEqProofs [a7]
      exact (hR _ _).2 ⟨false, ps, q, L, by simp [a2], by simp [a4], by simp [a7], rfl, hg, by omega, by simp, by simp, by simpa using hno⟩
    | true =>
      have hok := hok rfl
      have t1 := (trimL_sfx r').length_le
      have d1 := fun m H' => (w47 m r' H' (by omega)).wc
      cases hr1 : trimL r' with
      | nil =>
        simp -implicitDefEqProofs [a6, a7, d1, hr1]
        exact (hR _ _).2 ⟨true, ps, q, L, by simp [a2], by simp [a4], by simp [a7], rfl, hg, by omega, hp, by intro _; rw [hok, parsS_nil hr1]; simp, by simp⟩
      | cons c r1 =>
        rw [hr1] at t1
        simp only [List.length_cons] at t1
        by_cases h59 : c = 59
        case neg =>
          have h59' : ¬ 59 = c := Ne.symm h59
          have d2 := fun m H' => (w47 m (c :: r1) H' (by simp; omega)).wc
          simp -implicitDefEqProofs [a6, a7, d1, hr1, c48, behind, dExtract, h59, h59', d2]
          exact (hR _ _).2 ⟨false, ps, q, L, by simp [a2], by simp [a4], by simp, rfl, hg, by omega, by simp, by simp, by intro _; rw [hok, parsS_no hr1 h59]; rfl⟩
        subst h59
        have d2 := fun m H' => (w47 m r1 H' (by omega)).wc
        have t2 := (trimL_sfx r1).length_le
        by_cases hr2 : trimL r1 = []
        · simp -implicitDefEqProofs [a6, a7, d1, hr1, c48, behind, dExtract, d2, hr2]
          exact (hR _ _).2 ⟨true, ps, q, L, by simp [a2], by simp [a4], by simp, rfl, hg, by omega, hp, by intro _; rw [hok, parsS_end hr1 hr2]; simp, by simp⟩
        · simp -implicitDefEqProofs [a6, a7, d1, hr1, c48, behind, dExtract, d2, hr2, aQ, dAlloc, a2, a4]
          refine WC_mono (w50 _ (trimL r1) _ (by omega)) ?_
          rintro y H2 ⟨rfl, hy⟩
          obtain ⟨p, q', okb, rfl, hpl, hpb⟩ : ∃ (p : Par) (q' : Bs) (okb : Bool), y = .tup [.agg [str p.n, str p.v], str q', .v (.bool okb)] ∧ (okb = true → p.n.length ≤ s.length ∧ p.v.length ≤ s.length ∧ q'.length < r'.length) ∧ ((okb = true ∧ parR (trimL r1) = some (p, q')) ∨ (okb = false ∧ parR (trimL r1) = none ∧ q'.length ≤ (trimL r1).length)) := by
            cases hq : parR (trimL r1) with
            | some z =>
              obtain ⟨p, q'⟩ := z
              rw [hq] at hy
              have := parR_len hq
              exact ⟨p, q', true, hy, fun _ => by omega, .inl ⟨rfl, rfl⟩⟩
            | none => rw [hq] at hy; obtain ⟨p, q', h1, h2⟩ := hy; exact ⟨p, q', false, h1, by simp, .inr ⟨rfl, rfl, h2⟩⟩
          have hg2 := hg.app [CO.cells 0 [str p.n, str p.v] 109]
          obtain ⟨x2, H3, e1, e2, e3, e4, e5⟩ := Grow.append (P := prog) (tx := 53) (y := .im [str p.n, str p.v] 1 2) underlying53 iT109 zT109 (by simp) sT109 (by omega) (by simp) hg2 (src_clo (n := 1) underlying53 (.inl rfl) rfl _) rfl (by simp; omega) (by omega)
          have hap : ∀ y, apQ H.length q y = true := hg.ap (by omega)
          have mk := fun H => mkA1 (P := prog) (t := 53) (e := 109) (cs := [str p.n, str p.v]) underlying53 (by rw [underlying109]; rfl) iT109 zT109 (by simp) sT109 (by omega) (by omega) rfl rfl rfl H
          simp at e1
          simp -implicitDefEqProofs [a2, a4, store_at iT109, cells_agg, dExtract, faddr_ptr, underlying55, load_one underlying53 rfl iT53, load_aggp underlying109 rfl iT109, mk, hap, e1]
          obtain ⟨L3, rfl⟩ : ∃ L3, H3 = H ++ CO.cells 0 [str [], str [], nilC] 55 :: CO.cells 0 [str T, str S, q] 55 :: L3 := by
            refine ⟨H3.drop (H.length + 2), ?_⟩
            have := split_at e3
            rw [this]
            simp [List.take_length_add_append]
          have hg3 : Grow (H.length + 2) (H ++ CO.cells 0 [str [], str [], nilC] 55 :: CO.cells 0 [str T, str S, x2] 55 :: L3) x2 ((ps ++ [p]).map Par.c).flatten (ps ++ [p]).length 2 109 := by
            have := Grow.pre (A := H ++ [CO.cells 0 [str [], str [], nilC] 55, CO.cells 0 [str T, str S, q] 55]) (A' := H ++ [CO.cells 0 [str [], str [], nilC] 55, CO.cells 0 [str T, str S, x2] 55]) (L := L3) (by simpa using e2) (by simp) (by simp)
            rw [par_snoc]
            simpa [Par.c] using this
          have hcx : cvCells x2 = some [x2] := by rcases e2 with ⟨_, _, rfl⟩ | ⟨_, _, _, _, rfl, _⟩ <;> rfl
          have hst : ∀ y, stQ H.length (.ptr (H.length + 1) 0 2) y = true := fun y => by simp [stQ]
          have u2 : unlit x2 = x2 := e2.unl
          simp -implicitDefEqProofs [store_at iT53, hcx, hst, u2]
          refine ⟨if okb = true then q'.length + 1 else 0, ?_, (hI _ _ _).2 ⟨q', okb, ps ++ [p], x2, L3, rfl, by simp [a2], by simp [a4], by simp, by simp, rfl, hg3, ?_, ?_, ?_, ?_⟩⟩
          · split
            · rename_i h; have := hpl h; omega
            · omega
          · rcases hpb with ⟨h1, _⟩ | ⟨_, _, h3⟩
            · have := hpl h1; simp; omega
            · simp; omega
          · intro h p' hp'
            rcases List.mem_append.1 hp' with h1 | h1
            · exact hp rfl _ h1
            · simp at h1; subst h1; exact ⟨(hpl h).1, (hpl h).2.1⟩
          · intro h
            rcases hpb with ⟨_, h2⟩ | ⟨h1, _⟩
            · rw [hok, parsS_par hr1 hr2, h2]
              simp only []
              cases parsS q' <;> simp
            · rw [h] at h1; cases h1
          · intro h
            rcases hpb with ⟨h1, _⟩ | ⟨_, h2, _⟩
            · rw [h] at h1; cases h1
            · rw [hok, parsS_par hr1 hr2, h2]; rfl
  · rintro e fr H' ⟨rfl, hr⟩
    obtain ⟨ok, ps, q, L, a2, a4, a7, rfl, hg, hn, hp, hok, hno⟩ := (hR _ _).1 hr
    have hrk : readK s = Z.bind fun ps => if kOK T S ps then some ⟨T, S, ps⟩ else none := by
      unfold readK
      rw [hT]
      cases hq : tokR (trimL s) with
      | nil => rw [hq] at hZ; simp [hZ]
      | cons c r1 =>
        rw [hq] at hZ hr0
        by_cases h47 : c = 47
        · subst h47
          have : r1 = r0 := by rw [← hr0]; simp [behind]
          subst this
          simp [hZ, hS]
        · have h47' : ¬ 47 = c := Ne.symm h47
          simp [hZ, h47, h47']
    have hu := hg.unl
    have hrs : RS (H ++ CO.cells 0 [str [], str [], nilC] 55 :: CO.cells 0 [str T, str S, q] 55 :: L) q (ps.map Par.c) 2 := by
      refine Grow.rs (m := H.length + 2) (e := 109) ?_ (parCh ps)
      simpa using hg
    have hkv : KV (.agg [str [], str [], nilC]) ⟨[], [], []⟩ := ⟨nilC, rfl, .inr ⟨rfl, rfl, rfl⟩⟩
    cases ok with
    | false =>
      have hZ2 := hno rfl
      simp -implicitDefEqProofs [a2, a4, a7, b55_0, store_at iT55, cells_agg, load_aggp underlying55 rfl iT55]
      rw [hrk, hZ2]
      exact ⟨_, hkv, rfl⟩
    | true =>
      have hZ2 := hok rfl
      have hps := hp rfl
      have hT1 : T.length ≤ 4294967280 := by rw [← hT]; simp; omega
      have hS1 : S.length ≤ 4294967280 := by rw [← hS]; simp; omega
      have c51 := fun m => (w51 m T S ps q _ hrs (by omega) hT1 hS1 (fun p hp => ⟨by have := (hps p hp).1; omega, by have := (hps p hp).2; omega⟩)).wc
      by_cases hk : kOK T S ps
      · have hg' : Grow (H.length + 2) (H ++ CO.cells 0 [str T, str S, q] 55 :: CO.cells 0 [str T, str S, q] 55 :: L) q (ps.map Par.c).flatten ps.length 2 109 := by
          have := Grow.pre (A := H ++ [CO.cells 0 [str [], str [], nilC] 55, CO.cells 0 [str T, str S, q] 55]) (A' := H ++ [CO.cells 0 [str T, str S, q] 55, CO.cells 0 [str T, str S, q] 55]) (L := L) (by simpa using hg) (by simp) (by simp)
          simpa using this
        obtain ⟨y, f1, f2, f3, f4⟩ := hg'.frzV (k := H.length) (by omega) (par_clB ps)
        have hone := hrs.one
        simp -implicitDefEqProofs [a2, a4, a7, cells_agg, store_at iT55, load_aggp underlying55 rfl iT55, c51, hk, hu, hone, f3]
        rw [hrk, hZ2]
        simp only [Option.bind_some, if_pos hk]
        exact ⟨_, ⟨y, rfl, f4⟩, rfl⟩
      · simp -implicitDefEqProofs [a2, a4, a7, b55_0, store_at iT55, cells_agg, load_aggp underlying55 rfl iT55, c51, hk]
        rw [hrk, hZ2]
        simp only [Option.bind_some, if_neg hk]
        exact ⟨_, hkv, rfl⟩
end Go.Proofs.Tryz

/- Walks: a kind is read, by the reference. -/
namespace Go.Proofs.Tryz
open Go Go.SL
set_option linter.unusedVariables false
set_option linter.unusedSimpArgs false
theorem tr_init (s : Bs) : CO.cells 0 [str s, .v (.int .i64 0)] 115 = TR s s := by simp [TR]
@[simp] theorem tr_zero (s r : Bs) (L : Hp) : cellsAt (TR s r :: L) 0 0 = some [str s, .v (.int .i64 ((s.length - r.length : Nat) : Int))] := by simp [TR]
theorem trimL_trim (r : Bs) : trimL (trimL r) = trimL r := by
  unfold trimL
  cases h : r.dropWhile blankC with
  | nil => rfl
  | cons c r' =>
    have := List.head_dropWhile_not blankC (l := r) (by rw [h]; simp)
    simp only [h, List.head_cons] at this
    rw [List.dropWhile_cons, this]; simp
theorem qS_sfx : ∀ n (r : Bs) o q, r.length ≤ n → qS r = some (o, q) → q <:+ r := by
  intro n
  induction n with
  | zero => intro r o q hn h; cases r with
    | nil => cases h
    | cons a r => simp at hn
  | succ n ih =>
    intro r o q hn h
    cases r with
    | nil => cases h
    | cons c r =>
      simp only [List.length_cons] at hn
      by_cases h1 : c = 34
      · subst h1; rw [qS_q] at h; cases h; exact List.suffix_cons _ _
      by_cases h2 : c = 92
      · subst h2
        cases r with
        | nil => rw [qS_b0] at h; cases h
        | cons d r =>
          rw [qS_b] at h
          obtain ⟨⟨o', q'⟩, h3, h4⟩ := Option.map_eq_some_iff.1 h
          simp only [Prod.mk.injEq] at h4
          obtain ⟨rfl, rfl⟩ := h4
          simp only [List.length_cons] at hn
          exact ((ih r o' q' (by omega) h3).trans (List.suffix_cons _ _)).trans (List.suffix_cons _ _)
      · rw [qS_c _ h1 h2] at h
        obtain ⟨⟨o', q'⟩, h3, h4⟩ := Option.map_eq_some_iff.1 h
        simp only [Prod.mk.injEq] at h4
        obtain ⟨rfl, rfl⟩ := h4
        exact (ih r o' q' (by omega) h3).trans (List.suffix_cons _ _)
theorem valR_sfx (r : Bs) : (valR r).1 <:+ r := by
  unfold valR
  split
  · rename_i hh
    cases r with
    | nil => simp at hh
    | cons c r =>
      simp only [List.tail_cons]
      split
      · rename_i q h; exact (qS_sfx _ _ q.1 q.2 (Nat.le_refl _) h).trans (List.suffix_cons _ _)
      · exact List.nil_suffix
  · exact tokR_sfx r
variable [LayerC]
theorem w30 (hL : LayerC.b = true) (m : Nat) (s : Bs) (H : Hp) (hs : s.length ≤ 4294967280) : WC prog cs0 m (.f 54) [str s] H fun y H2 => H2 = H ∧ rdK (readK s) y := by
  rw [WC_drop rfl func54 rfl rfl]
  have s1 := trimL_sfx s
  have s2 := (tokR_sfx (trimL s)).trans s1
  have h1 := s1.length_le
  have h3 : (tokF (trimL s)).length ≤ (trimL s).length := (List.takeWhile_sublist _).length_le
  have c54 := fun m a H' (h : a.length ≤ s.length) => (w54 m a H' (by omega)).wc
  have c53 : ∀ m a b r L, r <:+ s → ∀ K, WC prog cs0 m (.f 74) [.ptr (H.length + 2) 0 0] (H ++ a :: b :: TR s r :: L) K ↔ K (.tup []) (H ++ a :: b :: TR s (trimL r) :: L) := fun m a b r L h K => by
    have := (w53 m s r (H ++ a :: b :: TR s r :: L) (H.length + 2) (by simp) h hs).wc K
    simpa using this
  have c55 : ∀ m a b r L, r <:+ s → ∀ K, WC prog cs0 m (.f 75) [.ptr (H.length + 2) 0 0] (H ++ a :: b :: TR s r :: L) K ↔ K (str (tokF r)) (H ++ a :: b :: TR s (tokR r) :: L) := fun m a b r L h K => by
    have := (w55 m s r (H ++ a :: b :: TR s r :: L) (H.length + 2) (by simp) h hs).wc K
    simpa using this
  have c56 : ∀ (c : UInt8) (n : Int), n = c.toNat → ∀ m a b r L, r <:+ s → ∀ K, WC prog cs0 m (.f 76) [.ptr (H.length + 2) 0 0, .v (.int .u8 n)] (H ++ a :: b :: TR s r :: L) K ↔ K (.v (.bool (decide (r.head? = some c)))) (H ++ a :: b :: TR s (if r.head? = some c then r.tail else r) :: L) := fun c n hn m a b r L h K => by
    subst hn
    have := (w56 m s r c (H ++ a :: b :: TR s r :: L) (H.length + 2) (by simp) h hs).wc K
    simpa using this
  have c47 := c56 47 47 rfl
  have c59 := c56 59 59 rfl
  have c61 := c56 61 61 rfl
  have hkv : KV (.agg [str [], str [], nilC]) ⟨[], [], []⟩ := ⟨nilC, rfl, .inr ⟨rfl, rfl, rfl⟩⟩
  have l1 := fun m H' => c54 m (tokF (trimL s)) H' (by omega)
  simp -implicitDefEqProofs [f54, aQ, dAlloc, b55_0, b115_1, store_at iT55, cells_agg, tr_init, c53, c55, s1, List.suffix_refl, l1, faddr_ptr, underlying55, store_at iT9, c47, s2]
  cases hq : tokR (trimL s) with
  | nil =>
    simp -implicitDefEqProofs [load_aggp underlying55 rfl iT55, store_at iT55, cells_agg]
    have : readK s = none := by unfold readK; rw [hq]
    rw [this]; exact ⟨_, hkv, rfl⟩
  | cons c r1 =>
    by_cases h47 : c = 47
    case neg =>
      simp -implicitDefEqProofs [h47, load_aggp underlying55 rfl iT55, store_at iT55, cells_agg]
      have : readK s = none := by unfold readK; rw [hq]; simp [h47]
      rw [this]; exact ⟨_, hkv, rfl⟩
    subst h47
    rw [hq] at s2
    have s3 := sfx_cons s2
    have s4 := (tokR_sfx r1).trans s3
    have s5 := (trimL_sfx (tokR r1)).trans s4
    have h5 : (tokF r1).length ≤ r1.length := (List.takeWhile_sublist _).length_le
    have h6 := s3.length_le
    have l2 := fun m H' => c54 m (tokF r1) H' (by omega)
    simp -implicitDefEqProofs [c53, c55, s3, s4, l2, faddr_ptr, underlying55, store_at iT9]
    have hrk : readK s = (parsS (tokR r1)).bind fun ps => if kOK (low (tokF (trimL s))) (low (tokF r1)) ps then some ⟨low (tokF (trimL s)), low (tokF r1), ps⟩ else none := by unfold readK; rw [hq]; simp
    generalize hT : low (tokF (trimL s)) = T at hrk ⊢
    generalize hS : low (tokF r1) = S at hrk ⊢
    obtain ⟨Z, hZ⟩ : ∃ Z, Z = parsS (tokR r1) := ⟨_, rfl⟩
    rw [← hZ] at hrk
    obtain ⟨E, hE⟩ : ∃ E, E = CO.cells 0 [str [], str [], nilC] 55 := ⟨_, rfl⟩
    rw [← hE]
    have hEa : ∀ L, cellsAt (E :: L) 0 0 = some [str [], str [], nilC] := fun L => by rw [hE]; rfl
    have hEp : ∀ L xs, putH (E :: L) 0 0 xs = CO.cells 0 (xs ++ [str [], str [], nilC].drop xs.length) 55 :: L := fun L xs => by rw [hE]; simp
    obtain ⟨R, hR⟩ : ∃ R : Fr → Hp → Prop, ∀ fr H', R fr H' ↔ ∃ r' ps q L, fr 2 = .ptr H.length 0 0 ∧ fr 4 = .ptr (H.length + 1) 0 0 ∧ fr 6 = .ptr (H.length + 3) 0 0 ∧ H' = H ++ E :: E :: TR s r' :: CO.cells 0 [str T, str S, q] 55 :: L ∧ Grow (H.length + 4) H' q (ps.map Par.c).flatten ps.length 2 109 ∧ ps.length ≤ s.length ∧ (∀ p ∈ ps, p.n.length ≤ s.length ∧ p.v.length ≤ s.length) ∧ Z = some ps := ⟨_, fun _ _ => Iff.rfl⟩
    obtain ⟨RR, hRR⟩ : ∃ R : Fr → Hp → Prop, ∀ fr H', R fr H' ↔ ∃ L, fr 2 = .ptr H.length 0 0 ∧ fr 3 = .v (.int .i64 70) ∧ H' = H ++ E :: L ∧ Z = none := ⟨_, fun _ _ => Iff.rfl⟩
    obtain ⟨I, hI⟩ : ∃ I : Nat → Fr → Hp → Prop, ∀ j fr H', I j fr H' ↔ ∃ x ps q L, j = (trimL x).length ∧ trimL x <:+ s ∧ fr 0 = str s ∧ fr 2 = .ptr H.length 0 0 ∧ fr 4 = .ptr (H.length + 1) 0 0 ∧ fr 5 = .ptr (H.length + 2) 0 0 ∧ fr 6 = .ptr (H.length + 3) 0 0 ∧ H' = H ++ E :: E :: TR s (trimL x) :: CO.cells 0 [str T, str S, q] 55 :: L ∧ Grow (H.length + 4) H' q (ps.map Par.c).flatten ps.length 2 109 ∧ ps.length + (trimL x).length ≤ s.length ∧ (∀ p ∈ ps, p.n.length ≤ s.length ∧ p.v.length ≤ s.length) ∧ Z = (parsS x).map (ps ++ ·) := ⟨_, fun _ _ _ => Iff.rfl⟩
    refine W_mono (W_rounds (Q := fun e fr H' => (e = .exit 0 ∧ R fr H') ∨ (e = .ret ∧ RR fr H')) I ?_ _ _ _ ((hI _ _ _).2
      ⟨tokR r1, [], nilC, [], rfl, s5, by simp, by simp, by simp, by simp, by simp, rfl, Grow.nil _ _ _ _, by have := s5.length_le; simp; omega, by simp, by rw [hZ]; cases parsS (tokR r1) <;> simp⟩)) ?_
    · rintro j fr H' hi
      obtain ⟨x, ps, q, L, rfl, hsf, a0, a2, a4, a5, a6, rfl, hg, hn, hp, hz⟩ := (hI _ _ _).1 hi
      have bad : ∀ (fr' : Fr) (H' : Hp), fr' 2 = .ptr H.length 0 0 → fr' 3 = .v (.int .i64 70) → (∃ L, H' = H ++ E :: L) → Z = none → RR fr' H' := fun fr' H' b2 b3 ⟨L, hL⟩ hz => (hRR _ _).2 ⟨L, b2, b3, hL, hz⟩
      cases hx : trimL x with
      | nil =>
        simp -implicitDefEqProofs [a0, a5, atP, faddr_ptr, underlying115, load_one underlying3 rfl iT3, len_str underlying9]
        rw [hx] at hg
        exact (hR _ _).2 ⟨[], ps, q, L, by simp [a2], by simp [a4], by simp [a6], rfl, hg, by omega, hp, by rw [hz, parsS_nil hx]; simp⟩
      | cons c r2 =>
        rw [hx] at hsf hn hg
        have hl := hsf.length_le
        simp only [List.length_cons] at hl hn
        have hlt : s.length - (r2.length + 1) < s.length := by omega
        by_cases q59 : c = 59
        case neg =>
          simp -implicitDefEqProofs [a0, a2, a4, a5, a6, atP, faddr_ptr, underlying115, load_one underlying3 rfl iT3, len_str underlying9, hlt, c59, hsf, q59, hEa, hEp, load_aggp underlying55 rfl iT55, store_at iT55, cells_agg]
          exact bad _ _ (by simp [a2]) (by simp) ⟨_, by rw [hE]⟩ (by rw [hz, parsS_no hx q59]; rfl)
        subst q59
        have sf2 := sfx_cons hsf
        have sf3 := (trimL_sfx r2).trans sf2
        cases hr3 : trimL r2 with
        | nil =>
          simp -implicitDefEqProofs [a0, a2, a4, a5, a6, atP, faddr_ptr, underlying115, load_one underlying3 rfl iT3, len_str underlying9, hlt, c59, hsf, c53, sf2, hr3]
          refine (hR _ _).2 ⟨[], ps, q, L, by simp [a2], by simp [a4], by simp [a6], rfl, ?_, by omega, hp, by rw [hz, parsS_end hx hr3]; simp⟩
          have := Grow.pre (A := H ++ [E, E, TR s (59 :: r2), CO.cells 0 [str T, str S, q] 55]) (A' := H ++ [E, E, TR s [], CO.cells 0 [str T, str S, q] 55]) (L := L) (by simpa using hg) (by simp) (by simp)
          simpa using this
        | cons d r4 =>
          have hr3n : trimL r2 ≠ [] := by rw [hr3]; simp
          have hpp := parsS_par hx hr3n
          have t3 := (trimL_sfx r2).length_le
          rw [hr3] at sf3 hpp t3
          simp only [List.length_cons] at t3
          have hl4 := sf3.length_le
          simp only [List.length_cons] at hl4
          have hne : ¬ s.length - (r4.length + 1) = s.length := by omega
          have hk : (tokF (d :: r4)).length ≤ (d :: r4).length := (List.takeWhile_sublist _).length_le
          simp only [List.length_cons] at hk
          have l3 := fun m H' => c54 m (tokF (d :: r4)) H' (by omega)
          have sf5 := (tokR_sfx (d :: r4)).trans sf3
          have t5 := (tokR_sfx (d :: r4)).length_le
          cases ht : tokR (d :: r4) with
          | nil =>
            have hpn : parR (d :: r4) = none := by unfold parR; rw [ht]
            simp -implicitDefEqProofs [a0, a2, a4, a5, a6, atP, faddr_ptr, underlying115, load_one underlying3 rfl iT3, len_str underlying9, hlt, c59, hsf, c53, sf2, hr3, hne, c55, sf3, l3, ht, c61, sf5, hEa, hEp, load_aggp underlying55 rfl iT55, store_at iT55, cells_agg]
            exact bad _ _ (by simp [a2]) (by simp) ⟨_, by rw [hE]⟩ (by rw [hz, hpp, hpn]; rfl)
          | cons g r5 =>
            rw [ht] at sf5 t5
            simp only [List.length_cons] at t5
            by_cases q61 : g = 61
            case neg =>
              have hpn : parR (d :: r4) = none := by unfold parR; rw [ht]; simp [q61]
              simp -implicitDefEqProofs [a0, a2, a4, a5, a6, atP, faddr_ptr, underlying115, load_one underlying3 rfl iT3, len_str underlying9, hlt, c59, hsf, c53, sf2, hr3, hne, c55, sf3, l3, ht, c61, sf5, q61, hEa, hEp, load_aggp underlying55 rfl iT55, store_at iT55, cells_agg]
              exact bad _ _ (by simp [a2]) (by simp) ⟨_, by rw [hE]⟩ (by rw [hz, hpp, hpn]; rfl)
            subst q61
            have sf6 := sfx_cons sf5
            have hpr : parR (d :: r4) = (valR r5).2.map fun v => (⟨low (tokF (d :: r4)), v⟩, (valR r5).1) := by unfold parR; rw [ht]; simp
            simp -implicitDefEqProofs [a0, a2, a4, a5, a6, atP, faddr_ptr, underlying115, load_one underlying3 rfl iT3, len_str underlying9, hlt, c59, hsf, c53, sf2, hr3, hne, c55, sf3, l3, ht, c61, sf5]
            refine WC_mono (w57 _ s r5 _ (H.length + 2) (by simp) sf6 hs) ?_
            rintro y H2 (⟨rfl, hsome, rfl⟩ | ⟨hnone, ⟨v, rfl, hv⟩, r'', rfl⟩)
            · obtain ⟨v, hv⟩ := Option.isSome_iff_exists.1 hsome
              have t6 := valR_len r5
              have t7 := valR_val r5 v hv
              have sf7 := (valR_sfx r5).trans sf6
              rw [hv] at hpr ⊢
              generalize (valR r5).1 = q' at *
              have t8 := (trimL_sfx q').length_le
              have hg0 : Grow (H.length + 4) (H ++ E :: E :: TR s q' :: CO.cells 0 [str T, str S, q] 55 :: L) q (ps.map Par.c).flatten ps.length 2 109 := by
                have := Grow.pre (A := H ++ [E, E, TR s (59 :: r2), CO.cells 0 [str T, str S, q] 55]) (A' := H ++ [E, E, TR s q', CO.cells 0 [str T, str S, q] 55]) (L := L) (by simpa using hg) (by simp) (by simp)
                simpa using this
              obtain ⟨x2, H3, e1, e2, e3, e4, e5⟩ := Grow.append (P := prog) (tx := 53) (y := .im [str (low (tokF (d :: r4))), str v] 1 2) underlying53 iT109 zT109 (by simp) sT109 (by omega) (by simp) hg0 (src_clo (n := 1) underlying53 (.inl rfl) rfl _) rfl (by simp; omega) (by omega)
              have hap : ∀ y, apQ H.length q y = true := hg.ap (by omega)
              have mk := fun H => mkA1 (P := prog) (t := 53) (e := 109) (cs := [str (low (tokF (d :: r4))), str v]) underlying53 (by rw [underlying109]; rfl) iT109 zT109 (by simp) sT109 (by omega) (by omega) rfl rfl rfl H
              simp -implicitDefEqProofs [valV, dExtract, a2, a4, a5, a6, faddr_ptr, underlying55, load_one underlying53 rfl iT53, b109_2, mk, hap, e1]
              obtain ⟨L3, rfl⟩ : ∃ L3, H3 = H ++ E :: E :: TR s q' :: CO.cells 0 [str T, str S, q] 55 :: L3 := by
                refine ⟨H3.drop (H.length + 4), ?_⟩
                have := split_at e3
                rw [this]
                simp [List.take_length_add_append]
              have hg3 : Grow (H.length + 4) (H ++ E :: E :: TR s (trimL q') :: CO.cells 0 [str T, str S, x2] 55 :: L3) x2 ((ps ++ [Par.mk (low (tokF (d :: r4))) v]).map Par.c).flatten (ps ++ [Par.mk (low (tokF (d :: r4))) v]).length 2 109 := by
                have := Grow.pre (A := H ++ [E, E, TR s q', CO.cells 0 [str T, str S, q] 55]) (A' := H ++ [E, E, TR s (trimL q'), CO.cells 0 [str T, str S, x2] 55]) (L := L3) (by simpa using e2) (by simp) (by simp)
                rw [par_snoc]
                simpa [Par.c] using this
              have hcx : cvCells x2 = some [x2] := by rcases e2 with ⟨_, _, rfl⟩ | ⟨_, _, _, _, rfl, _⟩ <;> rfl
              have hst : ∀ y, stQ H.length (.ptr (H.length + 3) 0 2) y = true := fun y => by simp [stQ]
              have u2 : unlit x2 = x2 := e2.unl
              simp -implicitDefEqProofs [store_at iT53, hcx, hst, u2, a5, c53, sf7]
              refine ⟨(trimL q').length, by omega, (hI _ _ _).2 ⟨q', ps ++ [⟨low (tokF (d :: r4)), v⟩], x2, L3, rfl, (trimL_sfx q').trans sf7, by simp [a0], by simp [a2], by simp [a4], by simp [a5], by simp [a6], rfl, hg3, by simp; omega, ?_, ?_⟩⟩
              · intro p' hp'
                rcases List.mem_append.1 hp' with h1 | h1
                · exact hp _ h1
                · simp only [List.mem_singleton] at h1; subst h1
                  exact ⟨by simp only [low_length]; omega, by simp only []; omega⟩
              · rw [hz, hpp, hpr]
                simp only [Option.map_some]
                cases parsS q' <;> simp
            · simp -implicitDefEqProofs [dExtract, a2, a4, hv, hEa, hEp, load_aggp underlying55 rfl iT55, store_at iT55, cells_agg]
              exact bad _ _ (by simp [a2]) (by simp) ⟨_, by rw [hE]⟩ (by rw [hz, hpp, hpr, hnone]; rfl)
    · rintro e fr H' (⟨rfl, hr⟩ | ⟨rfl, hr⟩)
      · obtain ⟨r', ps, q, L, a2, a4, a6, rfl, hg, hn, hp, hz⟩ := (hR _ _).1 hr
        have hu := hg.unl
        have hrs : RS (H ++ E :: E :: TR s r' :: CO.cells 0 [str T, str S, q] 55 :: L) q (ps.map Par.c) 2 := by
          refine Grow.rs (m := H.length + 4) (e := 109) ?_ (parCh ps)
          simpa using hg
        have hT1 : T.length ≤ 4294967280 := by rw [← hT]; simp; omega
        have hS1 : S.length ≤ 4294967280 := by rw [← hS]; simp; omega
        have c58 := fun m => (w58 hL m T S ps q _ hrs (by omega) hT1 hS1 (fun p hpm => ⟨by have := (hp p hpm).1; omega, by have := (hp p hpm).2; omega⟩)).wc
        have hone := hrs.one
        by_cases hk : kOK T S ps
        · have hg' : Grow (H.length + 4) (H ++ CO.cells 0 [str T, str S, q] 55 :: E :: TR s r' :: CO.cells 0 [str T, str S, q] 55 :: L) q (ps.map Par.c).flatten ps.length 2 109 := by
            have := Grow.pre (A := H ++ [E, E, TR s r', CO.cells 0 [str T, str S, q] 55]) (A' := H ++ [CO.cells 0 [str T, str S, q] 55, E, TR s r', CO.cells 0 [str T, str S, q] 55]) (L := L) (by simpa using hg) (by simp) (by simp)
            simpa using this
          obtain ⟨y, f1, f2, f3, f4⟩ := hg'.frzV (k := H.length) (by omega) (par_clB ps)
          simp -implicitDefEqProofs [a2, a4, a6, hEa, hEp, cells_agg, store_at iT55, load_aggp underlying55 rfl iT55, c58, hk, hu, hone, f3]
          rw [hrk, hz]
          simp only [Option.bind_some, if_pos hk]
          exact ⟨_, ⟨y, rfl, f4⟩, rfl⟩
        · simp -implicitDefEqProofs [a2, a4, a6, hEa, hEp, store_at iT55, cells_agg, load_aggp underlying55 rfl iT55, c58, hk]
          rw [hrk, hz]
          simp only [Option.bind_some, if_neg hk]
          exact ⟨_, hkv, rfl⟩
      · obtain ⟨L, a2, a3, rfl, hz⟩ := (hRR _ _).1 hr
        simp -implicitDefEqProofs [a2, a3, hEa, load_aggp underlying55 rfl iT55]
        rw [hrk, hz]
        exact ⟨_, hkv, rfl⟩
end Go.Proofs.Tryz

/- Walks: fields of a name; fields that are the same. -/
namespace Go.Proofs.Tryz
open Go Go.SL
set_option linter.unusedVariables false
set_option linter.unusedSimpArgs false

/-- A field. -/
structure Fld where
  n : Bs
  v : Bs
deriving DecidableEq
def Fld.c (f : Fld) : List CV := [str f.n, str f.v]
theorem fldCh (l : List Fld) : Chunks (l.map Fld.c) 2 := by
  intro c hc; obtain ⟨p, _, rfl⟩ := List.mem_map.1 hc; rfl
/-- The values of a name. -/
def fall (l : List Fld) (n : Bs) : List Bs := (l.filter fun f => low f.n == low n).map Fld.v
theorem fall_snoc (l : List Fld) (f : Fld) (n : Bs) : fall (l ++ [f]) n = fall l n ++ (if low f.n = low n then [f.v] else []) := by
  unfold fall
  rw [List.filter_append, List.map_append]
  by_cases h : low f.n = low n
  · simp [h]
  · simp [h]
theorem fall_len (l : List Fld) (n : Bs) : (fall l n).length ≤ l.length := by
  unfold fall; rw [List.length_map]; exact List.length_filter_le _ _
def fgetV (l : List Fld) (n : Bs) : CV := .tup [str ((fall l n).headD []), .v (.int .i64 ((fall l n).length : Nat))]
theorem mkS1 (a : Bs) (H : Hp) : dBuildSlice prog 80 1 [(0, str a)] H false = some (.im [str a] 1 1, H) := by
  simp [dBuildSlice, underlying80, fillC, zerosC, isU8, clB, underlying9]

variable [LayerC]
theorem w27 (m : Nat) (x : CV) (l : List Fld) (n : Bs) (H : Hp) (hx : RS H x (l.map Fld.c) 2) (hl : l.length ≤ 4294967280) (hn : n.length ≤ 4294967280) (hf : ∀ f ∈ l, f.n.length ≤ 4294967280) : Ret prog cs0 m 20 [x, str n] H (fgetV l n) H := by
  unfold Ret
  rw [WC_drop rfl func20 rfl rfl]
  have ux := hx.unl
  have hln : ∀ L, dLenS prog 22 x (H ++ L) = some (.v (.int .i64 l.length)) := fun L => by rw [(hx.app L).len underlying22, List.length_map]
  have hln0 := hln []
  rw [List.append_nil] at hln0
  simp -implicitDefEqProofs [f20, ux, hln0]
  obtain ⟨I, hI⟩ : ∃ I : Nat → Fr → Hp → Prop, ∀ i fr H', I i fr H' ↔ ((∃ L, H' = H ++ L) ∧ fr 1 = str n ∧ fr 10 = x ∧ fr 11 = .v (.int .i64 l.length) ∧ fr 12 = .v (.int .i64 i) ∧ fr 6 = str ((fall (l.take i) n).headD []) ∧ fr 7 = .v (.int .i64 ((fall (l.take i) n).length : Nat))) := ⟨_, fun _ _ _ => Iff.rfl⟩
  refine W_up l.length I ?_ 0 _ _ (by omega) ((hI _ _ _).2 ⟨⟨[], by simp⟩, by simp, by simp, by simp, by simp, by simp [fall], by simp [fall]⟩)
  intro i fr H' hi hinv
  obtain ⟨⟨L, rfl⟩, a1, a10, a11, a12, a6, a7⟩ := (hI _ _ _).1 hinv
  by_cases hlt : i < l.length
  · have hw := up64 hlt (by omega)
    have hlt2 : i < (l.map Fld.c).length := by simpa using hlt
    have hla : dLoad prog 62 (adrC x i) (H ++ L) = some (.agg [str l[i].n, str l[i].v]) := by rw [(hx.app L).loadAgg underlying62 rfl iT62 sT62 hlt2]; simp [Fld.c]
    have had : dIndexAddr prog 22 x (.v (.int .i64 i)) (H ++ L) = some (adrC x i) := by rw [(hx.app L).addr underlying22 iT62 sT62]; simp [hlt]
    have hfn := hf _ (List.getElem_mem hlt)
    have hfl := fall_len (l.take i) n
    have hfl2 : (fall (l.take i) n).length ≤ i := by rw [List.length_take] at hfl; omega
    obtain ⟨q, hq⟩ : ∃ q, q = (fall (l.take i) n).length := ⟨_, rfl⟩
    rw [← hq] at a7 hfl2
    obtain ⟨k, hk, hw2⟩ := upJ (i := q) (n := l.length) (by omega) (by omega)
    have hsn := fall_snoc (l.take i) l[i] n
    rw [← take_snoc hlt] at hsn
    have c45 := fun m H' => (w45 m l[i].n n H' hfn hn).wc
    by_cases hc : low l[i].n = low n
    · rw [if_pos hc] at hsn
      have hlen : (fall (l.take (i + 1)) n).length = k := by rw [hsn, List.length_append, ← hq, hk]; rfl
      by_cases q0 : q = 0
      · have h0 : fall (l.take i) n = [] := List.eq_nil_of_length_eq_zero (by omega)
        rw [h0, List.nil_append] at hsn
        simp -implicitDefEqProofs [a1, a10, a11, a12, a6, a7, hlt, hw, had, hla, aQ, dAlloc, store_at iT62, cells_agg, faddr_ptr, underlying62, load_one underlying9 rfl iT9, c45, hc, q0]
        exact (hI _ _ _).2 ⟨⟨_, rfl⟩, by simp [a1], by simp [a10], by simp [a11], by simp, by simp [hsn], by rw [hlen, hk, q0]; rfl⟩
      · have hh : (fall (l.take (i + 1)) n).headD [] = (fall (l.take i) n).headD [] := by
          rw [hsn]
          cases h5 : fall (l.take i) n with
          | nil => rw [h5] at hq; simp at hq; omega
          | cons y ys => rfl
        simp -implicitDefEqProofs [a1, a10, a11, a12, a6, a7, hlt, hw, had, hla, aQ, dAlloc, store_at iT62, cells_agg, faddr_ptr, underlying62, load_one underlying9 rfl iT9, c45, hc, q0, hw2]
        exact (hI _ _ _).2 ⟨⟨_, rfl⟩, by simp [a1], by simp [a10], by simp [a11], by simp, by rw [hh]; simp [a6], by rw [hlen]; simp⟩
    · rw [if_neg hc, List.append_nil] at hsn
      simp -implicitDefEqProofs [a1, a10, a11, a12, a6, a7, hlt, hw, had, hla, aQ, dAlloc, store_at iT62, cells_agg, faddr_ptr, underlying62, load_one underlying9 rfl iT9, c45, hc]
      exact (hI _ _ _).2 ⟨⟨_, rfl⟩, by simp [a1], by simp [a10], by simp [a11], by simp, by simp [a6, hsn], by rw [hsn, ← hq]; simp [a7]⟩
  · obtain rfl : i = l.length := by omega
    rw [List.take_length] at a6 a7
    simp -implicitDefEqProofs [a6, a7, a11, a12, fgetV]
end Go.Proofs.Tryz

/- Walks: fields, by the reference. -/
namespace Go.Proofs.Tryz
open Go Go.SL
set_option linter.unusedVariables false
set_option linter.unusedSimpArgs false
variable [LayerC]

theorem w29 (m : Nat) (x : CV) (l : List Fld) (n : Bs) (H : Hp) (hx : RS H x (l.map Fld.c) 2) (hl : l.length ≤ 4294967280) (hn : n.length ≤ 4294967280) (hf : ∀ f ∈ l, f.n.length ≤ 4294967280) : Ret prog cs0 m 25 [x, str n] H (fgetV l n) H := by
  unfold Ret
  rw [WC_drop rfl func25 rfl rfl]
  have ux := hx.unl
  simp -implicitDefEqProofs [f25]
  obtain ⟨I, hI⟩ : ∃ I : Nat → Fr → Hp → Prop, ∀ i fr H', I i fr H' ↔ (fr 0 = x ∧ fr 1 = str n ∧ fr 7 = .v (.int .i64 i) ∧ Acc H H' (fr 6) (strS (fall (l.take i) n)) (fall (l.take i) n).length 1 9) := ⟨_, fun _ _ _ => Iff.rfl⟩
  refine W_up l.length I ?_ 0 _ _ (by omega) ((hI _ _ _).2 ⟨by simp, by simp, by simp, Acc.nil H 1 9⟩)
  intro i fr H' hi hinv
  obtain ⟨a0, a1, a7, ha⟩ := (hI _ _ _).1 hinv
  obtain ⟨L, hL⟩ : ∃ L, H' = H ++ L := by
    rcases ha with ⟨_, _, _, rfl⟩ | ⟨_, ver, _, rfl⟩
    · exact ⟨[], by simp⟩
    · exact ⟨_, rfl⟩
  have hxL : RS H' x (l.map Fld.c) 2 := by rw [hL]; exact hx.app L
  have hln : dLenS prog 22 x H' = some (.v (.int .i64 l.length)) := by rw [hxL.len underlying22, List.length_map]
  have u6 := ha.unl
  have hfl := fall_len (l.take i) n
  have hfl2 : (fall (l.take i) n).length ≤ i := by rw [List.length_take] at hfl; omega
  by_cases hlt : i < l.length
  · have hw := up64 hlt (by omega)
    have hlt2 : i < (l.map Fld.c).length := by simpa using hlt
    have had : dIndexAddr prog 22 x (.v (.int .i64 i)) H' = some (adrC x i) := by rw [hxL.addr underlying22 iT62 sT62]; simp [hlt]
    have hf0 := hxL.fieldAddr (P := prog) (f := 0) underlying62 rfl iT9 (by simp) hlt2 (by simp)
    have hf1 := hxL.fieldAddr (P := prog) (f := 1) underlying62 rfl iT9 (by simp) hlt2 (by simp)
    have hl0 := hxL.loadPart (P := prog) (k := 0) underlying9 rfl iT9 hlt2 (by omega)
    have hl1 := hxL.loadPart (P := prog) (k := 1) underlying9 rfl iT9 hlt2 (by omega)
    simp [Fld.c] at hl0 hl1
    simp at hf0 hf1
    have hfn := hf _ (List.getElem_mem hlt)
    have c52 := fun m H' => (w52 m l[i].n n H' hfn hn).wc
    have hsn := fall_snoc (l.take i) l[i] n
    rw [← take_snoc hlt] at hsn
    by_cases hc : low l[i].n = low n
    · rw [if_pos hc] at hsn
      obtain ⟨x2, H2, e1, e2⟩ := Acc.append (P := prog) (t := 80) (tx := 80) (y := .im [str l[i].v] 1 1) underlying80 iT9 zT9 (by simp) sT9 (by omega) ha (src_clo (n := 1) underlying80 (.inl rfl) rfl _) rfl (by simp; omega) (by omega)
      have hap : ∀ y, apQ H.length (fr 6) y = true := ha.ap (Nat.le_refl _)
      have u2 := e2.unl
      simp -implicitDefEqProofs [a0, a1, a7, ux, hln, hlt, hw, had, hf0, hf1, hl0, hl1, c52, hc, u6, mkS1, hap, e1, u2]
      exact (hI _ _ _).2 ⟨by simp [a0], by simp [a1], by simp, by rw [hsn, strS_snoc, List.length_append]; simpa using e2⟩
    · rw [if_neg hc, List.append_nil] at hsn
      simp -implicitDefEqProofs [a0, a1, a7, ux, hln, hlt, hw, had, hf0, hf1, hl0, hl1, c52, hc, u6]
      exact (hI _ _ _).2 ⟨by simp [a0], by simp [a1], by simp, by rw [hsn]; simpa using ha⟩
  · obtain rfl : i = l.length := by omega
    rw [List.take_length] at ha hfl2
    have hrs := ha.grow.strs
    have hl6 := hrs.len (P := prog) underlying80
    rw [List.length_map] at hl6
    cases hq : fall l n with
    | nil =>
      rw [hq] at hl6
      simp at hl6
      simp -implicitDefEqProofs [a0, a7, ux, hln, u6, hl6, fgetV, hq, ha.take]
    | cons y ys =>
      have hlt3 : 0 < ((fall l n).map fun s => [str s]).length := by rw [hq]; simp
      have had := hrs.addr (P := prog) underlying80 iT9 sT9 .i64 0
      have hld := hrs.load1 (P := prog) underlying9 rfl iT9 hlt3 (by omega)
      simp [hq] at had hld
      obtain ⟨q, hqq⟩ : ∃ q, q = (fall l n).length := ⟨_, rfl⟩
      rw [← hqq] at hl6
      have q0 : ¬ q = 0 := by rw [hqq, hq]; simp
      simp -implicitDefEqProofs [a0, a7, ux, hln, u6, hl6, fgetV, ha.take, q0, had, hld]
      rw [hq] at hqq
      simp [hq, hqq]

theorem w21 (m : Nat) (x y : CV) (ps qs : List Fld) (H : Hp) (hx : RS H x (ps.map Fld.c) 2) (hy : RS H y (qs.map Fld.c) 2) (hb : ps.length ≤ 4294967280) : Ret prog cs0 m 40 [x, y] H (.v (.bool (decide (ps = qs)))) H := by
  unfold Ret
  rw [WC_drop rfl func40 rfl rfl]
  have ux := hx.unl
  have uy := hy.unl
  have lx := hx.len (P := prog) underlying22
  have ly := hy.len (P := prog) underlying22
  rw [List.length_map] at lx ly
  by_cases hl : ps.length = qs.length
  · simp -implicitDefEqProofs [f40, ux, uy, lx, ly, hl]
    refine W_up ps.length (fun i fr H' => H' = H ∧ fr 0 = x ∧ fr 1 = y ∧ fr 5 = .v (.int .i64 i) ∧ ps.take i = qs.take i) ?_ 0 _ _ (by omega) (by simp)
    rintro i fr H' hi ⟨rfl, a0, a1, a5, hk⟩
    by_cases hlt : i < ps.length
    · have hw := up64 hlt (by omega)
      have h1 : i < (ps.map Fld.c).length := by simpa using hlt
      have h2 : i < (qs.map Fld.c).length := by simpa [← hl] using hlt
      have hq : i < qs.length := by omega
      have l1 := hx.loadAgg (P := prog) underlying62 rfl iT62 sT62 h1
      have l2 := hy.loadAgg (P := prog) underlying62 rfl iT62 sT62 h2
      simp [Fld.c] at l1 l2
      simp -implicitDefEqProofs [a0, a1, a5, hlt, hw, lx, ux, uy]
      rw [W_draw _ _ _ _ _ _ followsT (by rfl)]
      simp -implicitDefEqProofs [a0, a1, a5, hlt, hw, ux, uy, hx.addr underlying22 iT62 sT62, hy.addr underlying22 iT62 sT62, hq, l1, l2, neq67]
      split
      · rename_i h
        rintro rfl
        simp at h
      · rename_i h
        rw [take_snoc hlt, take_snoc hq, hk]
        have e : ps[i] = qs[i] := by
          cases h3 : ps[i]; cases h4 : qs[i]
          simp [h3, h4] at h; simp [h]
        rw [e]
    · obtain rfl : i = ps.length := by omega
      rw [List.take_length, hl, List.take_length] at hk
      simp -implicitDefEqProofs [a0, a1, a5, lx, ux, hk]
  · have hne : ¬ ps = qs := fun h => hl (by rw [h])
    simp -implicitDefEqProofs [f40, ux, uy, lx, ly, hl, hne]
end Go.Proofs.Tryz

/- Walks: where lines are folded. -/
namespace Go.Proofs.Tryz
open Go Go.SL
set_option linter.unusedVariables false
set_option linter.unusedSimpArgs false

/-- Of the places from f on and below n: where a line is folded. -/
def PLn (s : Bs) (f n : Nat) : Option Nat → Prop
  | none => ∀ j, f ≤ j → j < n → s[j]? ≠ some 32
  | some k => f ≤ k ∧ k < n ∧ s[k]? = some 32 ∧ ((k ≤ 76 ∧ ∀ j, k < j → j < n → j ≤ 76 → s[j]? ≠ some 32) ∨ (76 < k ∧ ∀ j, f ≤ j → j < k → s[j]? ≠ some 32))
def PL (s : Bs) (f : Nat) (r : Option Nat) : Prop := PLn s f s.length r
theorem PL_uniq {s : Bs} {f : Nat} {a b : Option Nat} (ha : PL s f a) (hb : PL s f b) : a = b := by
  unfold PL PLn at *
  cases a with
  | none =>
    cases b with
    | none => rfl
    | some k => exact absurd hb.2.2.1 (ha k hb.1 hb.2.1)
  | some k =>
    cases b with
    | none => exact absurd ha.2.2.1 (hb k ha.1 ha.2.1)
    | some j =>
      obtain ⟨a1, a2, a3, a4⟩ := ha
      obtain ⟨b1, b2, b3, b4⟩ := hb
      congr 1
      rcases Nat.lt_trichotomy k j with h | h | h
      · rcases a4 with ⟨a5, a6⟩ | ⟨a5, a6⟩
        · rcases b4 with ⟨b5, b6⟩ | ⟨b5, b6⟩
          · exact absurd b3 (a6 j h b2 b5)
          · exact absurd a3 (b6 k a1 h)
        · rcases b4 with ⟨b5, b6⟩ | ⟨b5, b6⟩
          · omega
          · exact absurd a3 (b6 k a1 h)
      · exact h
      · rcases b4 with ⟨b5, b6⟩ | ⟨b5, b6⟩
        · rcases a4 with ⟨a5, a6⟩ | ⟨a5, a6⟩
          · exact absurd a3 (b6 k h a2 a5)
          · exact absurd b3 (a6 j b1 h)
        · rcases a4 with ⟨a5, a6⟩ | ⟨a5, a6⟩
          · omega
          · exact absurd b3 (a6 j b1 h)
theorem ex_least (p : Nat → Prop) (h : ∃ j, p j) : ∃ j, p j ∧ ∀ i, i < j → ¬ p i := by
  obtain ⟨j, hj⟩ := h
  induction j using Nat.strongRecOn with
  | _ j ih =>
    by_cases h : ∃ i, i < j ∧ p i
    · obtain ⟨i, h1, h2⟩ := h; exact ih i h1 h2
    · exact ⟨j, hj, fun i hi hp => h ⟨i, hi, hp⟩⟩
theorem ex_most (p : Nat → Prop) (b : Nat) (h : ∃ j, j ≤ b ∧ p j) : ∃ j, j ≤ b ∧ p j ∧ ∀ i, j < i → i ≤ b → ¬ p i := by
  induction b with
  | zero =>
    obtain ⟨j, h1, h2⟩ := h
    exact ⟨j, h1, h2, fun i h3 h4 => by omega⟩
  | succ b ih =>
    by_cases h1 : p (b + 1)
    · exact ⟨b + 1, Nat.le_refl _, h1, fun i h3 h4 => by omega⟩
    · obtain ⟨j, h2, h3⟩ := h
      obtain ⟨j', h4, h5, h6⟩ := ih ⟨j, by
        rcases Nat.lt_or_ge j (b + 1) with h | h
        · omega
        · have : j = b + 1 := by omega
          exact absurd (this ▸ h3) h1, h3⟩
      exact ⟨j', by omega, h5, fun i h7 h8 => by
        rcases Nat.lt_or_ge i (b + 1) with h | h
        · exact h6 i h7 (by omega)
        · have : i = b + 1 := by omega
          exact this ▸ h1⟩
theorem PL_ex (s : Bs) (f : Nat) : ∃ r, PL s f r := by
  by_cases h1 : ∃ j, j ≤ 76 ∧ (f ≤ j ∧ j < s.length ∧ s[j]? = some 32)
  · obtain ⟨k, h2, ⟨h3, h4, h5⟩, h6⟩ := ex_most _ 76 h1
    exact ⟨some k, h3, h4, h5, .inl ⟨h2, fun j h7 h8 h9 h10 => h6 j h7 h9 ⟨by omega, h8, h10⟩⟩⟩
  · by_cases h2 : ∃ j, f ≤ j ∧ j < s.length ∧ s[j]? = some 32
    · obtain ⟨k, ⟨h3, h4, h5⟩, h6⟩ := ex_least _ h2
      refine ⟨some k, h3, h4, h5, .inr ⟨?_, fun j h7 h8 h9 => h6 j h8 ⟨h7, by omega, h9⟩⟩⟩
      refine Nat.lt_of_not_le fun h => h1 ⟨k, h, h3, h4, h5⟩
    · exact ⟨none, fun j h3 h4 h5 => h2 ⟨j, h3, h4, h5⟩⟩
def plV : Option Nat → CV
  | none => .v (.int .i64 (-1))
  | some k => .v (.int .i64 (k : Nat))
@[simp] theorem unlit_plV (r : Option Nat) : unlit (plV r) = plV r := by cases r <;> rfl
@[simp] theorem frz_plV (H : Hp) (m : Nat) (r : Option Nat) : frz H m (plV r) = some (plV r) := by cases r <;> rfl
variable [LayerC]
end Go.Proofs.Tryz

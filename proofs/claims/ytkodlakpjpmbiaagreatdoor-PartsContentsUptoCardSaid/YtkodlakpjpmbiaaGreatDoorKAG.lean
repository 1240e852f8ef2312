/- A region whose order is drawn, where what has no order has no bearing on each other at such a state. -/
import Derived.Test.YtkodlakpjpmbiaaGreatDoorKAF
import Derived.Laws.Bits64b

set_option linter.all false

namespace Go.SL
set_option linter.unusedVariables false

abbrev JT := Fr → Hp → Prop
def CmtJ (J : JT) (P : Program) (cfg : Cfg) (ce : CallE) (m n : Nat) (ops : Array Oper) (o1 o2 : Oper) : Prop :=
  ∀ fr H s1 s2, J fr H → stepX P cfg ce m n ops o1 fr H = some s1 → stepX P cfg ce m n ops o2 s1.1 s1.2 = some s2 → ∃ t1, stepX P cfg ce m n ops o2 fr H = some t1 ∧ stepX P cfg ce m n ops o1 t1.1 t1.2 = some s2
def KeepJ (J : JT) (P : Program) (cfg : Cfg) (ce : CallE) (m n : Nat) (ops : Array Oper) (o : Oper) : Prop :=
  ∀ fr H s, J fr H → stepX P cfg ce m n ops o fr H = some s → J s.1 s.2
theorem Cmt.j {J : JT} {P : Program} {cfg : Cfg} {ce : CallE} {m n : Nat} {ops : Array Oper} {o1 o2 : Oper} (h : Cmt P cfg ce m n ops o1 o2) : CmtJ J P cfg ce m n ops o1 o2 :=
  fun fr H s1 s2 _ h1 h2 => h fr H s1 s2 h1 h2

theorem evOps_frontJ {J : JT} {P : Program} {cfg : Cfg} {ce : CallE} {m n : Nat} {ops : Array Oper} {o : Oper} {r : Fr × Hp} : ∀ (A B : List Oper) (fr : Fr) (H : Hp), J fr H → (∀ x ∈ A, KeepJ J P cfg ce m n ops x) → (∀ x ∈ A, CmtJ J P cfg ce m n ops x o) → evOps P cfg ce m n ops (A ++ o :: B) fr H = some r → evOps P cfg ce m n ops (o :: (A ++ B)) fr H = some r
  | [], B, fr, H, _, _, _, h => h
  | x :: A, B, fr, H, hj, hk, hc, h => by
    rw [List.cons_append, evOps_step] at h
    obtain ⟨s1, h1, h⟩ := Option.bind_eq_some_iff.1 h
    have h2 := evOps_frontJ A B s1.1 s1.2 (hk x (by simp) fr H s1 hj h1) (fun y hy => hk y (by simp [hy])) (fun y hy => hc y (by simp [hy])) h
    rw [evOps_step] at h2
    obtain ⟨s2, h3, h4⟩ := Option.bind_eq_some_iff.1 h2
    obtain ⟨t1, h5, h6⟩ := hc x (by simp) fr H s1 s2 hj h1 h3
    rw [evOps_step, h5]
    simp only [Option.bind_some, List.cons_append]
    rw [evOps_step, h6]
    exact h4

def okE (E : List (Nat × Nat)) (mu : Bool) (ops : Array Oper) : Bool :=
  let anc := ancOf ops.toList []
  (List.range ops.size).all fun i => match ops[i]? with
    | none => true
    | some o => (edgesOf o).all (fun e => decide (e < i)) && (anc.getD i 0 == ancM anc (edgesOf o)) &&
        (List.range i).all fun j => (anc.getD i 0).testBit j || (match ops[j]? with | none => true | some p => cmB mu ops p o || E.contains (j, i))
theorem okE_at {E : List (Nat × Nat)} {mu : Bool} {ops : Array Oper} (h : okE E mu ops = true) {i : Nat} {o : Oper} (ho : ops[i]? = some o) :
    (∀ e ∈ edgesOf o, e < i) ∧ (ancOf ops.toList []).getD i 0 = ancM (ancOf ops.toList []) (edgesOf o) ∧
      ∀ j p, j < i → ops[j]? = some p → ((ancOf ops.toList []).getD i 0).testBit j = true ∨ cmB mu ops p o = true ∨ (j, i) ∈ E := by
  unfold okE at h
  simp only [] at h
  have hi : i < ops.size := (Array.getElem?_eq_some_iff.1 ho).1
  have := List.all_eq_true.1 h i (List.mem_range.2 hi)
  rw [ho] at this
  simp only [Bool.and_eq_true, beq_iff_eq] at this
  obtain ⟨⟨h1, h2⟩, h3⟩ := this
  refine ⟨fun e he => by simpa using List.all_eq_true.1 h1 e he, h2, fun j p hj hp => ?_⟩
  have := List.all_eq_true.1 h3 j (List.mem_range.2 hj)
  rw [hp] at this
  simpa using this
theorem ancE_listed {E : List (Nat × Nat)} {mu : Bool} {ops : Array Oper} (h : okE E mu ops = true) {listed : Array Bool} (hd : DC ops listed) : ∀ (i : Nat) (o : Oper), ops[i]? = some o → (∀ e ∈ edgesOf o, listed.getD e false = true) →
    ∀ j, ((ancOf ops.toList []).getD i 0).testBit j = true → listed.getD j false = true := by
  intro i
  induction i using Nat.strongRecOn with
  | ind i ih =>
    intro o ho hl j hj
    obtain ⟨h1, h2, _⟩ := okE_at h ho
    rw [h2] at hj
    rcases ancM_spec _ _ hj with hz | ⟨e, he, hz⟩
    · simp at hz
    · rcases hz with rfl | hz
      · exact hl _ he
      · have hlt := h1 e he
        have hi : i < ops.size := (Array.getElem?_eq_some_iff.1 ho).1
        have hoe : ops[e]? = some (ops[e]'(by omega)) := Array.getElem?_eq_getElem (by omega)
        exact ih e hlt _ hoe (fun e' he' => hd e _ (hl e he) hoe e' he') j hz

theorem draw_ixJ {J : JT} {E : List (Nat × Nat)} {P : Program} {cfg : Cfg} {ce : CallE} {m n : Nat} {ops : Array Oper} (hok : okE E cfg.mu ops = true) (hk : ∀ o ∈ ops, KeepJ J P cfg ce m n ops o)
    (hE : ∀ j i oj oi, (j, i) ∈ E → ops[j]? = some oj → ops[i]? = some oi → CmtJ J P cfg ce m n ops oj oi) {r : Fr × Hp} : ∀ (l : List Nat) (listed : Array Bool), listed.size = ops.size → DC ops listed → LinX ops l listed →
    ∀ (fr : Fr) (H : Hp), J fr H → evIx P cfg ce m n ops (un ops listed) fr H = some r → evIx P cfg ce m n ops l fr H = some r
  | [], listed, hsz, hd, hl, fr, H, hj, h => by
    have hr : Region.ready .any ops listed = [] := hl
    have all : ∀ j, j < ops.size → listed.getD j false = true := by
      intro j
      induction j using Nat.strongRecOn with
      | ind j ih =>
        intro hj
        cases hb : listed.getD j false with
        | true => rfl
        | false =>
          have ho : ops[j]? = some (ops[j]'hj) := Array.getElem?_eq_getElem hj
          have : j ∈ Region.ready .any ops listed := mem_ready.2 ⟨by rw [getD_both (by omega) true false, hb], _, ho, fun e he hbind => by
            have hlt := (okE_at hok ho).1 e.on (mem_edges.2 ⟨e, he, hbind, rfl⟩)
            exact ih e.on hlt (by omega)⟩
          rw [hr] at this
          cases this
    have : un ops listed = [] := by
      unfold un
      refine List.filter_eq_nil_iff.2 fun j hj => ?_
      have hj' := List.mem_range.1 hj
      rw [getD_both (by omega) true false, all j hj']; simp
    rw [this] at h
    exact h
  | i :: l, listed, hsz, hd, hl, fr, H, hj, h => by
    obtain ⟨hi, hl⟩ := hl
    obtain ⟨h0, o, ho, hall⟩ := mem_ready.1 hi
    have his : i < ops.size := (Array.getElem?_eq_some_iff.1 ho).1
    have hedge : ∀ e ∈ edgesOf o, listed.getD e false = true := by
      intro x hx
      obtain ⟨e, he, hb, rfl⟩ := mem_edges.1 hx
      exact hall e he hb
    have hmem : i ∈ un ops listed := List.mem_filter.2 ⟨List.mem_range.2 his, by rw [h0]; rfl⟩
    have hsorted : (un ops listed).Pairwise (· < ·) := List.Pairwise.filter _ List.pairwise_lt_range
    obtain ⟨A, B, hAB⟩ := List.append_of_mem hmem
    rw [hAB] at hsorted h
    have hA : ∀ x ∈ A, x < i := fun x hx => (List.pairwise_append.1 hsorted).2.2 x hx i (by simp)
    have hB : ∀ x ∈ B, i < x := fun x hx => (List.pairwise_cons.1 (List.pairwise_append.1 hsorted).2.1).1 x hx
    have hset : un ops (listed.setIfInBounds i true) = A ++ B := by
      have e1 : un ops (listed.setIfInBounds i true) = (un ops listed).filter fun j => j != i := by
        unfold un
        rw [List.filter_filter]
        refine List.filter_congr fun j hj => ?_
        by_cases e : i = j
        · subst e
          have hlt : i < listed.size := by omega
          simp [hlt]
        · rw [getD_set_ne true e]
          have : (j != i) = true := by simpa using Ne.symm e
          rw [this]; simp
      rw [e1, hAB, List.filter_append, List.filter_cons]
      simp only [bne_self_eq_false, Bool.false_eq_true, if_false]
      rw [List.filter_eq_self.2 fun x hx => by have := hA x hx; simp; omega, List.filter_eq_self.2 fun x hx => by have := hB x hx; simp; omega]
    have hfm : (A ++ i :: B).filterMap (ops[·]?) = A.filterMap (ops[·]?) ++ o :: B.filterMap (ops[·]?) := by
      rw [List.filterMap_append, List.filterMap_cons, ho]
    have hin : ∀ x ∈ A.filterMap (ops[·]?), x ∈ ops := fun x hx => by
      obtain ⟨j, _, hjo⟩ := List.mem_filterMap.1 hx
      exact Array.mem_of_getElem? hjo
    unfold evIx at h
    rw [hfm] at h
    have h2 := evOps_frontJ (J := J) (P := P) (cfg := cfg) (ce := ce) (m := m) (n := n) (ops := ops) (o := o) _ _ fr H hj (fun x hx => hk x (hin x hx)) (fun x hx => by
      obtain ⟨j, hj, hjo⟩ := List.mem_filterMap.1 hx
      have hji := hA j hj
      have hjun : j ∈ un ops listed := by rw [hAB]; simp [hj]
      have hjun2 : listed.getD j true = false := by have := (List.mem_filter.1 hjun).2; simpa using this
      rcases (okE_at hok ho).2.2 j x hji hjo with hbit | hcm | hin
      · have := ancE_listed hok hd i o ho hedge j hbit
        rw [getD_both (by omega) false true, hjun2] at this
        cases this
      · unfold cmB at hcm
        simp only [Bool.and_eq_true, Bool.or_eq_true] at hcm
        obtain ⟨c1, c2⟩ := hcm
        refine (cmt_of c1 ?_).j
        rcases c2 with (c2 | c2) | c2
        · exact .inl (pur_of c2)
        · exact .inr (.inl (pur_of c2))
        · exact .inr (.inr ⟨rd_of c2.1, rd_of c2.2⟩)
      · exact hE j i x o hin hjo ho) h
    rw [evOps_step] at h2
    obtain ⟨s, h3, h4⟩ := Option.bind_eq_some_iff.1 h2
    rw [← List.filterMap_append, ← hset] at h4
    have ih := draw_ixJ hok hk hE (r := r) l (listed.setIfInBounds i true) (by simp [hsz]) (fun i' o' hi' ho' e he => by
      by_cases e1 : i = i'
      · subst e1
        rw [ho] at ho'; cases ho'
        exact getD_set_true (hedge e he)
      · rw [getD_set_ne false e1] at hi'
        exact getD_set_true (hd i' o' hi' ho' e he)) hl s.1 s.2 (hk o (Array.mem_of_getElem? ho) fr H s hj h3) h4
    unfold evIx
    rw [List.filterMap_cons, ho]
    simp only []
    rw [evOps_step, h3]
    exact ih

theorem W_drawJ (J : JT) (E : List (Nat × Nat)) (x : Cx) (i : Nat) (ops : Array Oper) (fr : Fr) (H : Hp) (Q : Ex → Fr → Hp → Prop) (hm : x.P.follows .mixedOrders = true) (hj : J fr H) (hok : okE E x.cfg.mu ops = true)
    (hk : ∀ k, ∀ o ∈ ops, KeepJ J x.P x.cfg (evCall x.P x.cs k) x.m x.n ops o) (hE : ∀ k, ∀ j i oj oi, (j, i) ∈ E → ops[j]? = some oj → ops[i]? = some oi → CmtJ J x.P x.cfg (evCall x.P x.cs k) x.m x.n ops oj oi)
    (hc : x.cfg.clo i = [] := by rfl) : W x (.region i ops true) fr H Q ↔ WO x ops ops.toList fr H (Q .norm) := by
  have key : ∀ k, evDraw x.P x.cfg (evCall x.P x.cs k) x.m x.n ops fr H = evOps x.P x.cfg (evCall x.P x.cs k) x.m x.n ops ops.toList fr H := by
    intro k
    unfold evDraw
    rw [if_pos hm]
    cases he : evOps x.P x.cfg (evCall x.P x.cs k) x.m x.n ops ops.toList fr H with
    | none => rfl
    | some r =>
      have : ∀ l, LinX ops l (Array.replicate ops.size false) → evIx x.P x.cfg (evCall x.P x.cs k) x.m x.n ops l fr H = some r := fun l hl =>
        draw_ixJ hok (hk k) (hE k) l _ (by simp) (fun i o hi => by
          rw [Array.getD_eq_getD_getElem?] at hi
          by_cases hlt : i < ops.size
          · simp [hlt] at hi
          · simp [hlt] at hi) hl fr H hj (by unfold evIx; rw [un_all, he])
      simp only [Option.bind_some]
      rw [if_pos this]
  constructor
  · rintro ⟨k, r, h, hq⟩
    cases k with
    | zero => cases h
    | succ k =>
      obtain ⟨r1, h1, h2⟩ := Option.map_eq_some_iff.1 h
      cases h2
      rw [hc] at h1
      simp only [cloR] at h1
      rw [key] at h1
      exact ⟨k + 1, r1, h1, hq⟩
  · rintro ⟨k, r, h, hq⟩
    refine ⟨k + 1, _, Option.map_eq_some_iff.2 ⟨r, ?_, rfl⟩, hq⟩
    rw [hc]
    simp only [cloR]
    rw [key]
    exact evOps_mono (evCall_mono (Nat.le_succ k)) x.m x.n ops _ fr H _ h

/-- A call of a function that is known, and leaves the objects. -/
theorem rd_call {P : Program} {cs : Cfgs} {cfg : Cfg} {k m : Nat} {ops : Array Oper} {o : Oper} {f : FuncId} {args : Array Operand} {ts : Array TypeId} {p : List CV → Hp → Option (CV × Hp)} (ho : o.op = .call ⟨.value (.func f), args, ts⟩) (hp : cs.prim f = some p)
    (hq : ∀ xs H r, p xs H = some r → r.2 = H) : Rd P cfg (evCall P cs k) m ops o := by
  intro fr H y hy
  unfold actX at hy
  obtain ⟨b, _, hy⟩ := Option.bind_eq_some_iff.1 hy
  cases b with
  | true =>
    simp only [if_true, ho, opX, evO, Option.bind_some] at hy
    obtain ⟨xs, _, hy⟩ := Option.bind_eq_some_iff.1 hy
    cases k with
    | zero => cases hy
    | succ k =>
      simp only [evCall, hp] at hy
      exact hq _ _ _ hy
  | false => simp only [Bool.false_eq_true, if_false, Option.some.injEq] at hy; rw [← hy]
theorem cmt_rd {P : Program} {cfg : Cfg} {ce : CallE} {m n : Nat} {ops : Array Oper} {o1 o2 : Oper} (hap : o1.apart ops o2 = true) (h1 : Rd P cfg ce m ops o1) (h2 : Rd P cfg ce m ops o2) (J : JT) : CmtJ J P cfg ce m n ops o1 o2 := (cmt_of hap (.inr (.inr ⟨h1, h2⟩))).j
def TJ : JT := fun _ _ => True
theorem keep_T {P : Program} {cfg : Cfg} {ce : CallE} {m n : Nat} {ops : Array Oper} {o : Oper} : KeepJ TJ P cfg ce m n ops o := fun _ _ _ _ _ => trivial

/-- The one writes, what the other reads is not changed by it. -/
theorem cmt_rw {J : JT} {P : Program} {cfg : Cfg} {ce : CallE} {m n : Nat} {ops : Array Oper} {o1 o2 : Oper} (hap : o1.apart ops o2 = true) (hr : Rd P cfg ce m ops o1)
    (hst : ∀ fr H y, J fr H → actX P cfg ce m ops o2 fr H = some y → actX P cfg ce m ops o1 fr y.2 = (actX P cfg ce m ops o1 fr H).map fun z => (z.1, y.2)) : CmtJ J P cfg ce m n ops o1 o2 := by
  obtain ⟨a1, a2, a3⟩ := Oper.apart_spec hap
  intro fr H s1 s2 hJ h1 h2
  obtain ⟨⟨y1, H1⟩, b1, h1⟩ := Option.bind_eq_some_iff.1 h1
  obtain ⟨fr1, b2, h1⟩ := Option.map_eq_some_iff.1 h1
  cases h1
  obtain ⟨⟨y2, H2⟩, c1, h2⟩ := Option.bind_eq_some_iff.1 h2
  obtain ⟨fr2, c2, h2⟩ := Option.map_eq_some_iff.1 h2
  cases h2
  simp only at b2 c1 c2 ⊢
  rw [actX_put b2 a1 a2] at c1
  obtain ⟨fr', d1, d2⟩ := putC_comm a2 b2 c2
  have back : ∀ K, actX P cfg ce m ops o1 fr' K = actX P cfg ce m ops o1 fr K := fun K => actX_put d1 a3 (fun d hd e => a2 d e hd)
  have e : H1 = H := hr _ _ _ b1
  subst e
  have k2 := hst fr H1 _ hJ c1
  rw [b1] at k2
  refine ⟨(fr', H2), ?_, ?_⟩
  · unfold stepX; rw [c1]; simp only [Option.bind_some, d1, Option.map_some]
  · unfold stepX; simp only [back, k2, Option.map_some, Option.bind_some, d2]
theorem cmt_wr {J : JT} {P : Program} {cfg : Cfg} {ce : CallE} {m n : Nat} {ops : Array Oper} {o1 o2 : Oper} (hap : o1.apart ops o2 = true) (hr : Rd P cfg ce m ops o2)
    (hst : ∀ fr H y, J fr H → actX P cfg ce m ops o1 fr H = some y → actX P cfg ce m ops o2 fr y.2 = (actX P cfg ce m ops o2 fr H).map fun z => (z.1, y.2)) : CmtJ J P cfg ce m n ops o1 o2 := by
  obtain ⟨a1, a2, a3⟩ := Oper.apart_spec hap
  intro fr H s1 s2 hJ h1 h2
  obtain ⟨⟨y1, H1⟩, b1, h1⟩ := Option.bind_eq_some_iff.1 h1
  obtain ⟨fr1, b2, h1⟩ := Option.map_eq_some_iff.1 h1
  cases h1
  obtain ⟨⟨y2, H2⟩, c1, h2⟩ := Option.bind_eq_some_iff.1 h2
  obtain ⟨fr2, c2, h2⟩ := Option.map_eq_some_iff.1 h2
  cases h2
  simp only at b2 c1 c2 ⊢
  rw [actX_put b2 a1 a2] at c1
  obtain ⟨fr', d1, d2⟩ := putC_comm a2 b2 c2
  have back : ∀ K, actX P cfg ce m ops o1 fr' K = actX P cfg ce m ops o1 fr K := fun K => actX_put d1 a3 (fun d hd e => a2 d e hd)
  have k2 := hst fr H _ hJ b1
  rw [c1] at k2
  obtain ⟨⟨y3, H3⟩, k3, k4⟩ := Option.map_eq_some_iff.1 k2.symm
  simp only [Prod.mk.injEq] at k4
  obtain ⟨rfl, rfl⟩ := k4
  have e : H3 = H := hr _ _ _ k3
  subst e
  refine ⟨(fr', H3), ?_, ?_⟩
  · unfold stepX; rw [k3]; simp only [Option.bind_some, d1, Option.map_some]
  · unfold stepX; simp only [back, b1, Option.bind_some, d2, Option.map_some]
end Go.SL

/- Texts that are read from their front. -/
namespace Go.SL
set_option linter.unusedVariables false

def tokB (c : UInt8) : Bool := decide (tokC c)
/-- The signs at the front, and what is behind them. -/
def tokF (s : Bs) : Bs := s.takeWhile tokB
def tokR (s : Bs) : Bs := s.dropWhile tokB
theorem tw_step {p : UInt8 → Bool} {s : Bs} {i : Nat} (h : ∀ c ∈ s.take i, p c = true) (hi : i < s.length) (hp : p s[i] = false) : s.takeWhile p = s.take i ∧ s.dropWhile p = s.drop i := by
  have e : s = s.take i ++ s[i] :: s.drop (i + 1) := by rw [← List.drop_eq_getElem_cons hi, List.take_append_drop]
  have h1 : (s.take i ++ s[i] :: s.drop (i + 1)).takeWhile p = s.take i := by
    rw [List.takeWhile_append_of_pos h, List.takeWhile_cons, hp]; simp
  have h2 : (s.take i ++ s[i] :: s.drop (i + 1)).dropWhile p = s[i] :: s.drop (i + 1) := by
    rw [List.dropWhile_append_of_pos h, List.dropWhile_cons, hp]; simp
  rw [← e] at h1 h2
  exact ⟨h1, by rw [h2, ← List.drop_eq_getElem_cons hi]⟩
theorem tw_end {p : UInt8 → Bool} {s : Bs} (h : ∀ c ∈ s, p c = true) : s.takeWhile p = s ∧ s.dropWhile p = [] := by
  have h1 := List.takeWhile_append_of_pos (l₂ := []) h
  have h2 := List.dropWhile_append_of_pos (l₂ := []) h
  simp only [List.append_nil, List.takeWhile_nil, List.dropWhile_nil] at h1 h2
  exact ⟨h1, h2⟩

theorem sfx_cons {c : UInt8} {r s : Bs} (h : c :: r <:+ s) : r <:+ s := (List.suffix_cons c r).trans h
theorem sfx_get {c : UInt8} {r s : Bs} (h : c :: r <:+ s) : s[s.length - (c :: r).length]? = some c := by
  obtain ⟨a, rfl⟩ := h
  simp
theorem sfx_drop {r s : Bs} (h : r <:+ s) : s.drop (s.length - r.length) = r := by
  obtain ⟨a, rfl⟩ := h
  simp
theorem trimL_sfx (r : Bs) : trimL r <:+ r := List.dropWhile_suffix _
theorem tokR_sfx (r : Bs) : tokR r <:+ r := List.dropWhile_suffix _
theorem tok_split (r : Bs) : tokF r ++ tokR r = r := List.takeWhile_append_dropWhile
theorem tokF_cons {c : UInt8} (r : Bs) (h : tokC c) : tokF (c :: r) = c :: tokF r ∧ tokR (c :: r) = tokR r := by
  have : tokB c = true := by simp [tokB, h]
  simp [tokF, tokR, this]
theorem tokF_stop {c : UInt8} (r : Bs) (h : ¬ tokC c) : tokF (c :: r) = [] ∧ tokR (c :: r) = c :: r := by
  have : tokB c = false := by simp [tokB, h]
  simp [tokF, tokR, this]

/-- What stands between ", and what is behind it. -/
def qS : Bs → Option (Bs × Bs)
  | [] => none
  | c :: r => if c = 34 then some ([], r) else if c = 92 then (match r with
      | [] => none
      | d :: r => (qS r).map fun q => (d :: q.1, q.2)) else (qS r).map fun q => (c :: q.1, q.2)
theorem qS_nil : qS [] = none := (rfl)
theorem qS_q (r : Bs) : qS (34 :: r) = some ([], r) := by rw [qS.eq_def]; simp
theorem qS_b (d : UInt8) (r : Bs) : qS (92 :: d :: r) = (qS r).map fun q => (d :: q.1, q.2) := by rw [qS.eq_def]; simp
theorem qS_b0 : qS [92] = none := by rw [qS.eq_def]; simp
theorem qS_c {c : UInt8} (r : Bs) (h1 : c ≠ 34) (h2 : c ≠ 92) : qS (c :: r) = (qS r).map fun q => (c :: q.1, q.2) := by rw [qS.eq_def]; simp [h1, h2]
end Go.SL

/- More on slices that grow. -/
namespace Go.SL
set_option linter.unusedVariables false
variable {P : Program} {t tx e : TypeId} {H H' : Hp} {x y : CV} {cs cs' : List CV} {n n' sz m : Nat}

theorem Grow.pre {A A' L : Hp} (h : Grow m (A ++ L) x cs n sz e) (hA : A.length = m) (hA' : A'.length = m) : Grow m (A' ++ L) x cs n sz e := by
  rcases h with h | ⟨hl, id, ver, hm, rfl, hc⟩
  · exact .inl h
  · refine .inr ⟨hl, id, ver, hm, rfl, ?_⟩
    rw [List.getElem?_append_right (by omega), hA] at hc
    rw [List.getElem?_append_right (by omega), hA']; exact hc
theorem Grow.more {L : Hp} (h : Grow m H x cs n sz e) (L : Hp) : Grow m (H ++ L) x cs n sz e := h.app L
theorem split_at {A : Hp} {H2 : Hp} (h : H2.take m = A) : H2 = A ++ H2.drop m := by rw [← h, List.take_append_drop]
theorem mkA1 {zs : List CV} {i : TypeInfo} (ht : P.underlying t = some (.slice e)) (he : isU8 (P.underlying e) = false) (hi : P.info? e = some i) (hz : zeroL P e = some zs) (hzl : zs.length = i.size) (hs : i.size = sz) (h0 : 0 < sz) (hb : sz ≤ 16777216) (hl : cs.length = sz) (ho : cs.all oneB = true) (hc : cs.all clB = true) (H : Hp) :
    dBuildSlice P t 1 [(0, .agg cs)] H false = some (.im cs 1 sz, H) := by
  subst hs
  have h1 : (zerosC zs (1 * i.size)).length = i.size := by simp [zerosC]
  have h2 : (zerosC zs (1 * i.size)).drop cs.length = [] := List.drop_eq_nil_of_le (by omega)
  simp only [dBuildSlice, ht, hi, hz, Option.bind_some, Nat.one_mul, hb, hzl, and_self, if_true, fillC, Nat.zero_mul, cells_agg ho, hl, Nat.zero_add]
  rw [Nat.one_mul] at h1 h2
  rw [hl] at h2
  simp [h1, h2, he]
  exact fun x hx => List.all_eq_true.1 hc x hx
theorem Acc.grow (h : Acc H H' x cs n sz e) : Grow H.length H' x cs n sz e := by
  rcases h with ⟨h1, h2, h3, rfl⟩ | ⟨hl, ver, rfl, rfl⟩
  · exact .inl ⟨h1, h2, h3⟩
  · exact .inr ⟨hl, _, ver, Nat.le_refl _, rfl, by simp⟩
/-- A list of texts. -/
def strS (l : List Bs) : List CV := l.map str
theorem strS_flat (l : List Bs) : (l.map fun s => [str s]).flatten = strS l := by
  induction l with
  | nil => rfl
  | cons a l ih => rw [List.map_cons, List.flatten_cons, ih]; rfl
theorem strCh (l : List Bs) : Chunks (l.map fun s => [str s]) 1 := by
  intro c hc; obtain ⟨p, _, rfl⟩ := List.mem_map.1 hc; rfl
theorem Grow.strs {l : List Bs} (h : Grow m H x (strS l) l.length 1 e) : RS H x (l.map fun s => [str s]) 1 := by
  refine Grow.rs (m := m) (e := e) ?_ (strCh l)
  rw [strS_flat, List.length_map]; exact h
theorem Cls.strs {l : List Bs} (h : Cls x (strS l) l.length 1) (H : Hp) : RS H x (l.map fun s => [str s]) 1 := by
  refine Cls.rs ?_ (strCh l) H
  rw [strS_flat, List.length_map]; exact h
theorem strS_clB (l : List Bs) : (strS l).all clB = true := by
  induction l with
  | nil => rfl
  | cons a l ih => simp only [strS, List.map_cons, List.all_cons] at ih ⊢; rw [ih]; rfl
@[simp] theorem strS_len (l : List Bs) : (strS l).length = l.length := by simp [strS]
theorem strS_snoc (l : List Bs) (a : Bs) : strS (l ++ [a]) = strS l ++ [str a] := by simp [strS]
end Go.SL

/- More pairs of operations that have no bearing on each other. -/
namespace Go.SL
set_option linter.unusedVariables false
variable {P : Program} {cfg : Cfg} {ce : CallE} {m n : Nat} {ops : Array Oper} {o1 o2 : Oper}

/-- What is read is read with more objects, too. -/
def Mon (P : Program) (cfg : Cfg) (ce : CallE) (m : Nat) (ops : Array Oper) (o : Oper) : Prop := ∀ fr H z, actX P cfg ce m ops o fr H = some z → ∀ L, actX P cfg ce m ops o fr (H ++ L) = some (z.1, H ++ L)
/-- Objects are added, none is changed. -/
def Gro (P : Program) (cfg : Cfg) (ce : CallE) (m : Nat) (ops : Array Oper) (o : Oper) : Prop := ∀ fr H z, actX P cfg ce m ops o fr H = some z → ∃ L, z.2 = H ++ L

theorem cmt_grow (hap : o1.apart ops o2 = true) (h1 : Mon P cfg ce m ops o1) (h2 : Gro P cfg ce m ops o2) (J : JT) : CmtJ J P cfg ce m n ops o1 o2 := by
  obtain ⟨a1, a2, a3⟩ := Oper.apart_spec hap
  intro fr H s1 s2 hJ k1 k2
  obtain ⟨⟨y1, H1⟩, b1, k1⟩ := Option.bind_eq_some_iff.1 k1
  obtain ⟨fr1, b2, k1⟩ := Option.map_eq_some_iff.1 k1
  cases k1
  obtain ⟨⟨y2, H2⟩, c1, k2⟩ := Option.bind_eq_some_iff.1 k2
  obtain ⟨fr2, c2, k2⟩ := Option.map_eq_some_iff.1 k2
  cases k2
  simp only at b2 c1 c2 ⊢
  rw [actX_put b2 a1 a2] at c1
  obtain ⟨fr', d1, d2⟩ := putC_comm a2 b2 c2
  have back : ∀ K, actX P cfg ce m ops o1 fr' K = actX P cfg ce m ops o1 fr K := fun K => actX_put d1 a3 (fun d hd e => a2 d e hd)
  have e0 := h1 _ _ _ b1 []
  rw [List.append_nil] at e0
  rw [b1] at e0
  have e : H1 = H := by cases e0; rfl
  subst e
  obtain ⟨L, hL⟩ := h2 _ _ _ c1
  simp only at hL
  subst hL
  have k2 := h1 _ _ _ b1 L
  refine ⟨(fr', H1 ++ L), ?_, ?_⟩
  · unfold stepX; rw [c1]; simp only [Option.bind_some, d1, Option.map_some]
  · unfold stepX; simp only [back, k2, Option.bind_some, d2, Option.map_some]

theorem act_mon {o : Oper} (h : ∀ fr old H z, opX P cfg ce m fr old H o.op = some z → ∀ L, opX P cfg ce m fr old (H ++ L) o.op = some (z.1, H ++ L)) : Mon P cfg ce m ops o := by
  intro fr H z hz L
  unfold actX at hz ⊢
  obtain ⟨b, hb, hz⟩ := Option.bind_eq_some_iff.1 hz
  rw [hb]
  cases b with
  | true => exact h _ _ _ _ hz L
  | false => cases hz; rfl
theorem atP_app {H L : Hp} {x : CV} {cs : List CV} (h : atP H x = some cs) : atP (H ++ L) x = some cs := by
  cases x with
  | ptr id ver off =>
    obtain ⟨c, h1, h2⟩ := Option.bind_eq_some_iff.1 h
    simp only [atP, cellsAt_app L h1, Option.bind_some]; exact h2
  | _ => exact h
theorem mon_load {o : Oper} {t : TypeId} {a : Operand} (ho : o.op = .load t a) : Mon P cfg ce m ops o := by
  refine act_mon fun fr old H z hz L => ?_
  rw [ho] at hz ⊢
  simp only [opX, opE] at hz ⊢
  obtain ⟨x, h1, hz⟩ := Option.bind_eq_some_iff.1 hz
  obtain ⟨y, h2, rfl⟩ := Option.map_eq_some_iff.1 hz
  rw [h1]
  simp only [Option.bind_some]
  unfold dLoad at h2 ⊢
  obtain ⟨d, h3, h2⟩ := Option.bind_eq_some_iff.1 h2
  obtain ⟨i, h4, h2⟩ := Option.bind_eq_some_iff.1 h2
  obtain ⟨r, h5, h2⟩ := Option.bind_eq_some_iff.1 h2
  rw [h3, h4]
  simp [Option.bind_some, atP_app h5, h2, stOK]
theorem mon_nilCheck {o : Oper} {a : Operand} (ho : o.op = .nilCheck a) : Mon P cfg ce m ops o := by
  refine act_mon fun fr old H z hz L => ?_
  rw [ho] at hz ⊢
  simp only [opX, opE] at hz ⊢
  obtain ⟨x, h1, hz⟩ := Option.bind_eq_some_iff.1 hz
  rw [h1]
  simp only [Option.bind_some]
  split at hz
  · rename_i h
    cases hz
    obtain ⟨r, hr⟩ := Option.isSome_iff_exists.1 h
    simp [atP_app hr, stOK]
  · cases hz
theorem mon_faddr {o : Oper} {t : TypeId} {a : Operand} {f : Nat} (ho : o.op = .fieldAddr t a f) : Mon P cfg ce m ops o := by
  refine act_mon fun fr old H z hz L => ?_
  rw [ho] at hz ⊢
  simp only [opX, opE] at hz ⊢
  obtain ⟨x, h1, hz⟩ := Option.bind_eq_some_iff.1 hz
  obtain ⟨y, h2, rfl⟩ := Option.map_eq_some_iff.1 hz
  rw [h1]
  simp only [Option.bind_some]
  have : dFieldAddr P t x f (H ++ L) = some y := by
    unfold dFieldAddr at h2 ⊢
    split at h2
    · rename_i fs hu
      obtain ⟨fd, h3, h2⟩ := Option.bind_eq_some_iff.1 h2
      obtain ⟨i, h4, h2⟩ := Option.bind_eq_some_iff.1 h2
      obtain ⟨r, h5, h2⟩ := Option.bind_eq_some_iff.1 h2
      simp only [hu, h3, h4, Option.bind_some, atP_app h5]
      exact h2
    · cases h2
  rw [this]; rfl
theorem gro_buildSlice {o : Oper} {t : TypeId} {k : Nat} {ps : Array (Nat × Operand)} (ho : o.op = .buildSlice t k ps) : Gro P cfg ce m ops o := by
  intro fr H z hz
  unfold actX at hz
  obtain ⟨b, hb, hz⟩ := Option.bind_eq_some_iff.1 hz
  cases b with
  | false => cases hz; exact ⟨[], by simp⟩
  | true =>
    simp only [if_true, ho, opX, opE] at hz
    obtain ⟨x, h1, hz⟩ := Option.bind_eq_some_iff.1 hz
    unfold dBuildSlice at hz
    split at hz
    · obtain ⟨i, h2, hz⟩ := Option.bind_eq_some_iff.1 hz
      obtain ⟨zs, h3, hz⟩ := Option.bind_eq_some_iff.1 hz
      split at hz
      · obtain ⟨out, h4, rfl⟩ := Option.map_eq_some_iff.1 hz
        split
        · exact ⟨[], by simp⟩
        · exact ⟨_, rfl⟩
      · cases hz
    · cases hz
theorem pur_max {o : Oper} {args : Array Operand} {ts : Array TypeId} (ho : o.op = .call ⟨.builtin .max, args, ts⟩) : Pur P cfg ce m ops o := by
  intro fr H H'
  unfold actX
  cases wantC fr ops o with
  | none => rfl
  | some b =>
    cases b with
    | false => rfl
    | true =>
      simp only [Option.bind_some, if_true, ho, opX, opE]
      cases evL fr args.toList with
      | none => rfl
      | some xs =>
        simp only [Option.bind_some]
        simp only [stOK, if_true, dBuiltin, Option.map_map]
        rfl
end Go.SL

/- Operations of a region that have no bearing on each other, where the places that they go to are known. -/
namespace Go.SL
set_option linter.unusedVariables false
variable {P : Program} {cfg : Cfg} {ce : CallE} {m n : Nat} {ops : Array Oper} {o1 o2 o : Oper}

theorem cells_put_ne {H : Hp} {id id' ver off : Nat} {ys : List CV} (h : id' ≠ id) : cellsAt (putH H id' off ys) id ver = cellsAt H id ver := by
  unfold cellsAt putH
  rw [List.getElem?_modify_ne _ _ h]
theorem cells_put_is {H : Hp} {id id' ver off : Nat} {ys : List CV} : (cellsAt (putH H id' off ys) id ver).isSome = (cellsAt H id ver).isSome := by
  by_cases h : id' = id
  · subst h
    unfold cellsAt putH
    rw [List.getElem?_modify]
    simp only [if_true]
    cases H[id']? with
    | none => rfl
    | some o =>
      cases o with
      | cells v cs e => simp only [Option.map_eq_map, Option.map_some]; by_cases hv : v = ver <;> simp [hv]
      | _ => rfl
  · rw [cells_put_ne h]

/-- What some slots hold. -/
def SlotJ (V : List (Nat × CV)) : JT := fun fr _ => ∀ p ∈ V, fr p.1 = p.2
theorem keep_slot {V : List (Nat × CV)} (h : (V.all fun p => o.dst != some p.1) = true) : KeepJ (SlotJ V) P cfg ce m n ops o := by
  intro fr H s hj hs p hp
  obtain ⟨y, _, h2⟩ := Option.bind_eq_some_iff.1 hs
  obtain ⟨fr', h3, rfl⟩ := Option.map_eq_some_iff.1 h2
  have hne : o.dst ≠ some p.1 := by have := List.all_eq_true.1 h p hp; simpa using this
  show fr' p.1 = p.2
  unfold putC at h3
  split at h3
  · cases h3; exact hj p hp
  · rename_i d hd
    split at h3
    · cases h3
      have : p.1 ≠ d := fun e => hne (by rw [hd, e])
      simp only [this, if_false]; exact hj p hp
    · cases h3
theorem keep_slots {V : List (Nat × CV)} (h : (ops.toList.all fun o => (V.map Prod.fst).all fun k => o.dst != some k) = true) : ∀ o ∈ ops, KeepJ (SlotJ V) P cfg ce m n ops o := by
  intro o ho
  refine keep_slot ?_
  have := List.all_eq_true.1 h o (Array.mem_toList_iff.2 ho)
  rw [List.all_eq_true] at this ⊢
  exact fun p hp => this p.1 (List.mem_map.2 ⟨p, hp, rfl⟩)
theorem want_none {fr : Fr} {o : Oper} (h : o.guard = none) : wantC fr ops o = some true := by unfold wantC; rw [h]
theorem actX_plain {fr : Fr} {H : Hp} (h : o.guard = none) : actX P cfg ce m ops o fr H = opX P cfg ce m fr (oldC fr o.dst) H o.op := by unfold actX; rw [want_none h]; rfl
theorem act_store {fr : Fr} {H : Hp} {y : CV × Hp} {t : TypeId} {a b : Operand} (h : o.guard = none) (ho : o.op = .store t a b) (hy : actX P cfg ce m ops o fr H = some y) : ∃ x z, evO fr a = some x ∧ evO fr b = some z ∧ dStore P t x z H = some y.2 := by
  rw [actX_plain h, ho] at hy
  simp only [opX] at hy
  split at hy
  · simp only [opE] at hy
    obtain ⟨x, h1, hy⟩ := Option.bind_eq_some_iff.1 hy
    obtain ⟨z, h2, hy⟩ := Option.bind_eq_some_iff.1 hy
    obtain ⟨H2, h3, rfl⟩ := Option.map_eq_some_iff.1 hy
    exact ⟨x, z, h1, h2, h3⟩
  · cases hy
theorem store_put {t : TypeId} {id ver off : Nat} {z : CV} {H H2 : Hp} (h : dStore P t (.ptr id ver off) z H = some H2) : ∃ ys, H2 = putH H id off ys := by
  unfold dStore at h
  simp only [] at h
  obtain ⟨i, h1, h⟩ := Option.bind_eq_some_iff.1 h
  obtain ⟨ys, h2, h⟩ := Option.bind_eq_some_iff.1 h
  obtain ⟨cs, h3, h⟩ := Option.bind_eq_some_iff.1 h
  split at h
  · cases h; exact ⟨ys, rfl⟩
  · cases h
theorem load_put {t : TypeId} {id ver off id' off' : Nat} {ys : List CV} {H : Hp} (h : id' ≠ id) : dLoad P t (.ptr id ver off) (putH H id' off' ys) = dLoad P t (.ptr id ver off) H := by
  unfold dLoad
  simp only [atP, cells_put_ne h]
theorem len_put {t : TypeId} {x : CV} {id' off' : Nat} {ys : List CV} {H : Hp} : dLenS P t x (putH H id' off' ys) = dLenS P t x H := by
  unfold dLenS
  split
  · rw [cells_put_is]
  · rfl
/-- The one reads, the other writes somewhere else. -/
theorem cmt_ls {V : List (Nat × CV)} {t1 t2 : TypeId} {s1 s2 : Nat} {b : Operand} {i1 v1 f1 i2 v2 f2 : Nat} (hap : o1.apart ops o2 = true) (g1 : o1.guard = none) (g2 : o2.guard = none) (h1 : o1.op = .load t1 (.tmp s1)) (h2 : o2.op = .store t2 (.tmp s2) b) (hr : rdB cfg.mu o1.op = true)
    (m1 : (s1, CV.ptr i1 v1 f1) ∈ V) (m2 : (s2, CV.ptr i2 v2 f2) ∈ V) (hne : i2 ≠ i1) : CmtJ (SlotJ V) P cfg ce m n ops o1 o2 := by
  refine cmt_rw hap (rd_of hr) fun fr H y hj hy => ?_
  obtain ⟨x, z, e1, e2, e3⟩ := act_store g2 h2 hy
  have a1 : fr s1 = .ptr i1 v1 f1 := hj _ m1
  have a2 : fr s2 = .ptr i2 v2 f2 := hj _ m2
  have : x = .ptr i2 v2 f2 := by have : evO fr (.tmp s2) = some (fr s2) := rfl; rw [this, a2] at e1; cases e1; rfl
  subst this
  obtain ⟨ys, e4⟩ := store_put e3
  rw [e4, actX_plain g1, actX_plain g1, h1]
  simp only [opX, opE, stOK, if_true, show evO fr (.tmp s1) = some (fr s1) from rfl, a1, Option.bind_some, load_put hne, Option.map_map]
  rfl
theorem cmt_lens {V : List (Nat × CV)} {t2 : TypeId} {t1 : TypeId} {s1 s2 : Nat} {b : Operand} {i2 v2 f2 : Nat} (hap : o1.apart ops o2 = true) (g1 : o1.guard = none) (g2 : o2.guard = none) (h1 : o1.op = .call ⟨.builtin .len, #[.tmp s1], #[t1]⟩) (h2 : o2.op = .store t2 (.tmp s2) b) (hr : rdB cfg.mu o1.op = true)
    (m2 : (s2, CV.ptr i2 v2 f2) ∈ V) : CmtJ (SlotJ V) P cfg ce m n ops o1 o2 := by
  refine cmt_rw hap (rd_of hr) fun fr H y hj hy => ?_
  obtain ⟨x, z, e1, e2, e3⟩ := act_store g2 h2 hy
  have a2 : fr s2 = .ptr i2 v2 f2 := hj _ m2
  have : x = .ptr i2 v2 f2 := by have : evO fr (.tmp s2) = some (fr s2) := rfl; rw [this, a2] at e1; cases e1; rfl
  subst this
  obtain ⟨ys, e4⟩ := store_put e3
  rw [e4, actX_plain g1, actX_plain g1, h1]
  simp only [opX, opE, stOK, if_true, dBuiltin, evL, show evO fr (.tmp s1) = some (fr s1) from rfl, Option.bind_some, Option.map_some, len_put, Option.map_map]
  rfl
/-- The length of a slice is read with more objects, too. -/
theorem mon_len {t1 : TypeId} {a : Operand} (ho : o.op = .call ⟨.builtin .len, #[a], #[t1]⟩) : Mon P cfg ce m ops o := by
  refine act_mon fun fr old H z hz L => ?_
  rw [ho] at hz ⊢
  simp only [opX, opE, stOK, if_true, dBuiltin, evL] at hz ⊢
  cases hx : evO fr a with
  | none => rw [hx] at hz; cases hz
  | some x =>
    rw [hx] at hz
    simp only [Option.bind_some, Option.map_some] at hz ⊢
    obtain ⟨y, h1, rfl⟩ := Option.map_eq_some_iff.1 hz
    have : dLenS P t1 x (H ++ L) = some y := by
      unfold dLenS at h1 ⊢
      split at h1
      · rename_i id ver off len sz e he
        split at h1
        · rename_i hc
          obtain ⟨cs, hcs⟩ := Option.isSome_iff_exists.1 hc
          simp only [cellsAt_app L hcs, Option.isSome_some, if_true]; exact h1
        · cases h1
      · exact h1
    simp only [this, Option.map_some]
end Go.SL

/- A region that puts a body behind a head, and tells whether there are parts, in any order. -/
namespace Go.SL
set_option linter.unusedVariables false
variable {P : Program} {cfg : Cfg} {ce : CallE} {m n : Nat} {ops : Array Oper} {o1 o2 o : Oper}

/-- An object from k on, if any. -/
def own (k : Nat) (v : CV) : Prop := ∀ id ver off len sz, v = .sl id ver off len sz → k ≤ id
def clS (v : CV) : Prop := ∀ id ver off len sz, v ≠ .sl id ver off len sz
theorem Grow.own {m : Nat} {H : Hp} {x : CV} {cs : List CV} {n sz : Nat} {e : TypeId} (h : Grow m H x cs n sz e) : SL.own m x := by
  rcases h with ⟨_, _, rfl⟩ | ⟨_, _, _, hm, rfl, _⟩
  · intro _ _ _ _ _ h; cases h
  · intro _ _ _ _ _ h; cases h; exact hm
theorem Cls.clS {y : CV} {cs : List CV} {n sz : Nat} (h : Cls y cs n sz) : SL.clS y := by
  rcases h with rfl | ⟨_, _, rfl⟩ <;> (intro _ _ _ _ _ h; cases h)
theorem app_below {t tx : TypeId} {s x y : CV} {H H2 : Hp} {k : Nat} (h : dAppend P t tx s x H = some (y, H2)) (ho : own k s) (hk : k ≤ H.length) : k ≤ H2.length ∧ ∀ i, i < k → H2[i]? = H[i]? := by
  unfold dAppend at h
  split at h
  · obtain ⟨i, _, h⟩ := Option.bind_eq_some_iff.1 h
    obtain ⟨zs, _, h⟩ := Option.bind_eq_some_iff.1 h
    obtain ⟨xn, _, h⟩ := Option.bind_eq_some_iff.1 h
    split at h
    · split at h
      · split at h
        · cases h; exact ⟨hk, fun _ _ => rfl⟩
        · split at h
          · cases h
            exact ⟨by simp; omega, fun i hi => by rw [List.getElem?_append_left (by omega)]⟩
          · cases h
      · rename_i id ver off len sz
        have hid := ho _ _ _ _ _ rfl
        split at h
        · split at h
          · split at h
            · cases h; exact ⟨hk, fun _ _ => rfl⟩
            · split at h
              · cases h
                exact ⟨by simpa using hk, fun i hi => by rw [List.getElem?_set_ne (by omega)]⟩
              · cases h
          · cases h
        · cases h
      · split at h
        · cases h; exact ⟨hk, fun _ _ => rfl⟩
        · cases h
      · cases h
    · cases h
  · cases h
theorem cells_below {H H2 : Hp} {k id ver : Nat} (h : ∀ i, i < k → H2[i]? = H[i]?) (hi : id < k) : cellsAt H2 id ver = cellsAt H id ver := by unfold cellsAt; rw [h id hi]

/-- What holds in such a region: p is the part's place, h the head, a its copy, e the parts' place, f the parts. -/
structure LJ (p h a e f hl k : Nat) (fv xv qv : CV) (fr : Fr) (H : Hp) : Prop where
  hp : fr p = .ptr hl 0 0
  hk : k ≤ H.length
  hh : own k (fr h)
  ha : own k (fr a)
  hc : cellsAt H hl 0 = some [fv, xv, qv]
  he : fr e = .ptr hl 0 2 ∨ fr e = .tup []
  hf : clS (fr f)
section
variable {p h a e f hl k : Nat} {fv xv qv : CV} (hlk : hl < k) (hcl : clS qv)

theorem step_inv {fr : Fr} {H : Hp} {s : Fr × Hp} (hs : stepX P cfg ce m n ops o fr H = some s) : ∃ y, actX P cfg ce m ops o fr H = some (y, s.2) ∧ ∀ t, s.1 t = if o.dst = some t then y else fr t := by
  obtain ⟨⟨y, H2⟩, h1, h2⟩ := Option.bind_eq_some_iff.1 hs
  obtain ⟨fr', h3, rfl⟩ := Option.map_eq_some_iff.1 h2
  refine ⟨y, h1, fun t => ?_⟩
  unfold putC at h3
  split at h3
  · rename_i hd; cases h3; rw [hd]; simp
  · rename_i d hd
    split at h3
    · cases h3; rw [hd]
      by_cases e : t = d
      · subst e; simp
      · have : ¬ some d = some t := fun h => e (by cases h; rfl)
        simp [e, this]
    · cases h3
theorem keep_rd (hr : Rd P cfg ce m ops o) (hd : o.dst ≠ some p ∧ o.dst ≠ some h ∧ o.dst ≠ some a ∧ o.dst ≠ some e ∧ o.dst ≠ some f) : KeepJ (LJ p h a e f hl k fv xv qv) P cfg ce m n ops o := by
  intro fr H s hj hs
  obtain ⟨y, h1, h2⟩ := step_inv hs
  have e0 : s.2 = H := hr _ _ _ h1
  obtain ⟨d1, d2, d3, d4, d5⟩ := hd
  rw [e0]
  exact ⟨by rw [h2, if_neg d1]; exact hj.hp, hj.hk, by rw [h2, if_neg d2]; exact hj.hh, by rw [h2, if_neg d3]; exact hj.ha, hj.hc, by rw [h2, if_neg d4]; exact hj.he, by rw [h2, if_neg d5]; exact hj.hf⟩
theorem own_unlit {k : Nat} {v : CV} (h : own k v) : own k (unlit v) := by
  intro id ver off len sz e
  cases v <;> simp [unlit] at e
  obtain ⟨rfl, rfl, rfl, rfl, rfl⟩ := e
  exact h _ _ _ _ _ rfl
theorem keep_mv (ho : o.op = .move (.tmp h)) (g : o.guard = none) (hd : o.dst = some a) (hne : a ≠ p ∧ a ≠ h ∧ a ≠ e ∧ a ≠ f) : KeepJ (LJ p h a e f hl k fv xv qv) P cfg ce m n ops o := by
  intro fr H s hj hs
  obtain ⟨y, h1, h2⟩ := step_inv hs
  rw [actX_plain g, ho] at h1
  simp only [opX, opE, stOK, if_true, show evO fr (.tmp h) = some (fr h) from rfl, Option.map_some, Option.some.injEq, Prod.mk.injEq] at h1
  obtain ⟨rfl, e0⟩ := h1
  rw [hd] at h2
  obtain ⟨d1, d2, d4, d5⟩ := hne
  have d1' : ¬ (some a = some p) := fun h => d1 (by cases h; rfl)
  have d2' : ¬ (some a = some h) := fun h => d2 (by cases h; rfl)
  have d4' : ¬ (some a = some e) := fun h => d4 (by cases h; rfl)
  have d5' : ¬ (some a = some f) := fun h => d5 (by cases h; rfl)
  rw [← e0]
  exact ⟨by rw [h2, if_neg d1']; exact hj.hp, hj.hk, by rw [h2, if_neg d2']; exact hj.hh, by rw [h2, if_pos rfl]; exact own_unlit hj.hh, hj.hc, by rw [h2, if_neg d4']; exact hj.he, by rw [h2, if_neg d5']; exact hj.hf⟩
theorem act_app {fr : Fr} {H : Hp} {y : CV × Hp} {t tx : TypeId} {b : Operand} (ho : o.op = .call ⟨.builtin .append, #[.tmp a, b], #[t, tx]⟩) (g : o.guard = none) (h1 : actX P cfg ce m ops o fr H = some y) : ∃ x, dAppend P t tx (fr a) x H = some y := by
  rw [actX_plain g, ho] at h1
  simp only [opX] at h1
  split at h1
  · simp only [opE, evL, show evO fr (.tmp a) = some (fr a) from rfl, Option.bind_some] at h1
    cases hb : evO fr b with
    | none => rw [hb] at h1; cases h1
    | some x => rw [hb] at h1; exact ⟨x, h1⟩
  · cases h1
include hlk in
theorem keep_app {t tx : TypeId} {b : Operand} (ho : o.op = .call ⟨.builtin .append, #[.tmp a, b], #[t, tx]⟩) (g : o.guard = none) (hd : o.dst ≠ some p ∧ o.dst ≠ some h ∧ o.dst ≠ some a ∧ o.dst ≠ some e ∧ o.dst ≠ some f) : KeepJ (LJ p h a e f hl k fv xv qv) P cfg ce m n ops o := by
  intro fr H s hj hs
  obtain ⟨y, h1, h2⟩ := step_inv hs
  obtain ⟨x, h3⟩ := act_app ho g h1
  obtain ⟨h4, h5⟩ := app_below h3 hj.ha hj.hk
  obtain ⟨d1, d2, d3, d4, d5⟩ := hd
  exact ⟨by rw [h2, if_neg d1]; exact hj.hp, h4, by rw [h2, if_neg d2]; exact hj.hh, by rw [h2, if_neg d3]; exact hj.ha, by rw [cells_below h5 hlk]; exact hj.hc, by rw [h2, if_neg d4]; exact hj.he, by rw [h2, if_neg d5]; exact hj.hf⟩
theorem keep_fa {t : TypeId} (hfa : ∀ H y, dFieldAddr P t (.ptr hl 0 0) 2 H = some y → y = .ptr hl 0 2) (ho : o.op = .fieldAddr t (.tmp p) 2) (g : o.guard = none) (hd : o.dst = some e) (hne : e ≠ p ∧ e ≠ h ∧ e ≠ a ∧ e ≠ f) : KeepJ (LJ p h a e f hl k fv xv qv) P cfg ce m n ops o := by
  intro fr H s hj hs
  obtain ⟨y, h1, h2⟩ := step_inv hs
  rw [actX_plain g, ho] at h1
  simp only [opX, opE, stOK, if_true, show evO fr (.tmp p) = some (fr p) from rfl, Option.bind_some, hj.hp] at h1
  obtain ⟨z, h3, h4⟩ := Option.map_eq_some_iff.1 h1
  simp only [Prod.mk.injEq] at h4
  obtain ⟨rfl, e0⟩ := h4
  rw [hd] at h2
  obtain ⟨d1, d2, d3, d5⟩ := hne
  have d1' : ¬ (some e = some p) := fun h => d1 (by cases h; rfl)
  have d2' : ¬ (some e = some h) := fun h => d2 (by cases h; rfl)
  have d3' : ¬ (some e = some a) := fun h => d3 (by cases h; rfl)
  have d5' : ¬ (some e = some f) := fun h => d5 (by cases h; rfl)
  rw [← e0]
  exact ⟨by rw [h2, if_neg d1']; exact hj.hp, hj.hk, by rw [h2, if_neg d2']; exact hj.hh, by rw [h2, if_neg d3']; exact hj.ha, hj.hc, by rw [h2, if_pos rfl]; exact .inl (hfa _ _ h3), by rw [h2, if_neg d5']; exact hj.hf⟩
include hcl in
theorem keep_ld {t : TypeId} (hld : ∀ H y, cellsAt H hl 0 = some [fv, xv, qv] → dLoad P t (.ptr hl 0 2) H = some y → y = qv) (ho : o.op = .load t (.tmp e)) (g : o.guard = none) (hd : o.dst = some f) (hne : f ≠ p ∧ f ≠ h ∧ f ≠ a ∧ f ≠ e) : KeepJ (LJ p h a e f hl k fv xv qv) P cfg ce m n ops o := by
  intro fr H s hj hs
  obtain ⟨y, h1, h2⟩ := step_inv hs
  rw [actX_plain g, ho] at h1
  simp only [opX, opE, stOK, if_true, show evO fr (.tmp e) = some (fr e) from rfl, Option.bind_some] at h1
  obtain ⟨z, h3, h4⟩ := Option.map_eq_some_iff.1 h1
  simp only [Prod.mk.injEq] at h4
  obtain ⟨rfl, e0⟩ := h4
  have hz : z = qv := by
    rcases hj.he with he | he
    · rw [he] at h3; exact hld _ _ hj.hc h3
    · rw [he] at h3
      unfold dLoad at h3
      obtain ⟨_, _, h3⟩ := Option.bind_eq_some_iff.1 h3
      obtain ⟨_, _, h3⟩ := Option.bind_eq_some_iff.1 h3
      cases h3
  rw [hd] at h2
  obtain ⟨d1, d2, d3, d4⟩ := hne
  have d1' : ¬ (some f = some p) := fun h => d1 (by cases h; rfl)
  have d2' : ¬ (some f = some h) := fun h => d2 (by cases h; rfl)
  have d3' : ¬ (some f = some a) := fun h => d3 (by cases h; rfl)
  have d4' : ¬ (some f = some e) := fun h => d4 (by cases h; rfl)
  rw [← e0]
  exact ⟨by rw [h2, if_neg d1']; exact hj.hp, hj.hk, by rw [h2, if_neg d2']; exact hj.hh, by rw [h2, if_neg d3']; exact hj.ha, hj.hc, by rw [h2, if_neg d4']; exact hj.he, by rw [h2, if_pos rfl, hz]; exact hcl⟩

include hlk in
theorem capp_fa {t tx t2 : TypeId} {b : Operand} {i : Nat} (hap : o1.apart ops o2 = true) (h1 : o1.op = .call ⟨.builtin .append, #[.tmp a, b], #[t, tx]⟩) (g1 : o1.guard = none) (h2 : o2.op = .fieldAddr t2 (.tmp p) i) (g2 : o2.guard = none) (hr : rdB cfg.mu o2.op = true) : CmtJ (LJ p h a e f hl k fv xv qv) P cfg ce m n ops o1 o2 := by
  refine cmt_wr hap (rd_of hr) fun fr H y hj hy => ?_
  obtain ⟨x, h3⟩ := act_app h1 g1 hy
  obtain ⟨h4, h5⟩ := app_below h3 hj.ha hj.hk
  rw [actX_plain g2, actX_plain g2, h2]
  have : dFieldAddr P t2 (.ptr hl 0 0) i y.2 = dFieldAddr P t2 (.ptr hl 0 0) i H := by unfold dFieldAddr; simp only [atP, cells_below h5 hlk]
  simp only [opX, opE, stOK, if_true, show evO fr (.tmp p) = some (fr p) from rfl, Option.bind_some, hj.hp, this, Option.map_map]
  rfl
include hlk in
theorem capp_ld {t tx t2 : TypeId} {b : Operand} (hap : o1.apart ops o2 = true) (h1 : o1.op = .call ⟨.builtin .append, #[.tmp a, b], #[t, tx]⟩) (g1 : o1.guard = none) (h2 : o2.op = .load t2 (.tmp e)) (g2 : o2.guard = none) (hr : rdB cfg.mu o2.op = true) : CmtJ (LJ p h a e f hl k fv xv qv) P cfg ce m n ops o1 o2 := by
  refine cmt_wr hap (rd_of hr) fun fr H y hj hy => ?_
  obtain ⟨x, h3⟩ := act_app h1 g1 hy
  obtain ⟨h4, h5⟩ := app_below h3 hj.ha hj.hk
  rw [actX_plain g2, actX_plain g2, h2]
  have : dLoad P t2 (fr e) y.2 = dLoad P t2 (fr e) H := by
    rcases hj.he with he | he <;> rw [he] <;> unfold dLoad <;> simp only [atP, cells_below h5 hlk]
  simp only [opX, opE, stOK, if_true, show evO fr (.tmp e) = some (fr e) from rfl, Option.bind_some, this, Option.map_map]
  rfl
theorem capp_len {t tx t2 : TypeId} {b : Operand} (hap : o1.apart ops o2 = true) (h1 : o1.op = .call ⟨.builtin .append, #[.tmp a, b], #[t, tx]⟩) (g1 : o1.guard = none) (h2 : o2.op = .call ⟨.builtin .len, #[.tmp f], #[t2]⟩) (g2 : o2.guard = none) (hr : rdB cfg.mu o2.op = true) : CmtJ (LJ p h a e f hl k fv xv qv) P cfg ce m n ops o1 o2 := by
  refine cmt_wr hap (rd_of hr) fun fr H y hj hy => ?_
  rw [actX_plain g2, actX_plain g2, h2]
  have : dLenS P t2 (fr f) y.2 = dLenS P t2 (fr f) H := by
    have hf := hj.hf
    unfold dLenS
    split
    · rename_i hx; exact absurd hx (hf _ _ _ _ _)
    · rfl
  simp only [opX, opE, stOK, if_true, dBuiltin, evL, show evO fr (.tmp f) = some (fr f) from rfl, Option.bind_some, Option.map_some, this, Option.map_map]
  rfl
theorem eql_int (t : TypeId) (x : CV) (k : IntKind) (i : Int) (H H' : Hp) : dBin P .eql t x (.v (.int k i)) H = dBin P .eql t x (.v (.int k i)) H' := by
  unfold dBin
  cases x with
  | v x => cases x <;> rfl
  | _ => rfl
theorem capp_eql {t tx t2 t3 : TypeId} {b x : Operand} {k' : IntKind} {i : Int} (hap : o1.apart ops o2 = true) (g2 : o2.guard = none) (h2 : o2.op = .binOp .eql t2 x (.const (.int k' i)) t3) (hr : rdB cfg.mu o2.op = true) : CmtJ (LJ p h a e f hl k fv xv qv) P cfg ce m n ops o1 o2 := by
  refine cmt_wr hap (rd_of hr) fun fr H y hj hy => ?_
  rw [actX_plain g2, actX_plain g2, h2]
  simp only [opX, opE, stOK, if_true]
  cases evO fr x with
  | none => rfl
  | some z =>
    simp only [Option.bind_some, show evO fr (.const (.int k' i)) = some (.v (.int k' i)) from rfl, eql_int (P := P) t2 z k' i y.2 H, Option.map_map]
    rfl
end
end Go.SL

/- The simplifier stops where it is stuck: what is behind such a step is not looked at. -/
namespace Go.SL
set_option linter.unusedVariables false
def stopN : Nat := 0
@[simp] theorem stopN_eq : stopN = 0 := rfl
theorem WX_stop {α : Type} {o o' : Option α} {k : Nat} (K : α → Prop) (hz : stopN = k) (h : o = o') : WX o K = WX o' K := by rw [h]
theorem WC_stop {P : Program} {cs : Cfgs} {m m' : Nat} {f : Tg} {args args' : List CV} {H H' : Hp} {k : Nat} (K : CV → Hp → Prop) (hz : stopN = k) (hm : m = m') (h : args = args') (h2 : H = H') : WC P cs m f args H K = WC P cs m' f args' H' K := by rw [hm, h, h2]
theorem W_stop (x : Cx) (c : Code) {fr fr' : Fr} {H H' : Hp} {k : Nat} (Q : Ex → Fr → Hp → Prop) (hz : stopN = k) (h : fr = fr') (h2 : H = H') : W x c fr H Q = W x c fr' H' Q := by rw [h, h2]
end Go.SL

/- More pairs of operations: what does not read the objects at such a state; calls that leave them. -/
namespace Go.SL
set_option linter.unusedVariables false
variable {P : Program} {cfg : Cfg} {ce : CallE} {m n : Nat} {ops : Array Oper} {o1 o2 o : Oper} {J : JT}

theorem cmt_purJ (hap : o1.apart ops o2 = true) (hp : ∀ fr H H', J fr H → actX P cfg ce m ops o1 fr H' = (actX P cfg ce m ops o1 fr H).map fun y => (y.1, H')) : CmtJ J P cfg ce m n ops o1 o2 := by
  obtain ⟨a1, a2, a3⟩ := Oper.apart_spec hap
  intro fr H s1 s2 hJ h1 h2
  obtain ⟨⟨y1, H1⟩, b1, h1⟩ := Option.bind_eq_some_iff.1 h1
  obtain ⟨fr1, b2, h1⟩ := Option.map_eq_some_iff.1 h1
  cases h1
  obtain ⟨⟨y2, H2⟩, c1, h2⟩ := Option.bind_eq_some_iff.1 h2
  obtain ⟨fr2, c2, h2⟩ := Option.map_eq_some_iff.1 h2
  cases h2
  simp only at b2 c1 c2 ⊢
  rw [actX_put b2 a1 a2] at c1
  obtain ⟨fr', d1, d2⟩ := putC_comm a2 b2 c2
  have back : ∀ K, actX P cfg ce m ops o1 fr' K = actX P cfg ce m ops o1 fr K := fun K => actX_put d1 a3 (fun d hd e => a2 d e hd)
  have e : H1 = H := by
    have := hp fr H H hJ
    rw [b1] at this
    simp only [Option.map_some, Option.some.injEq, Prod.mk.injEq, true_and] at this
    exact this
  subst e
  have k2 := hp fr H1 H2 hJ
  rw [b1] at k2
  refine ⟨(fr', H2), ?_, ?_⟩
  · unfold stepX; rw [c1]; simp only [Option.bind_some, d1, Option.map_some]
  · unfold stepX; simp only [back, k2, Option.map_some, Option.bind_some, d2]
/-- A call with no arguments that leaves the objects. -/
theorem rd_ret {cs : Cfgs} {g : FuncId} {v : CV} {ts : Array TypeId} {k : Nat} (ho : o.op = .call ⟨.value (.func g), #[], ts⟩) (h : ∀ H, Ret P cs m g [] H v H) : Rd P cfg (evCall P cs k) m ops o := by
  intro fr H y hy
  unfold actX at hy
  obtain ⟨b, _, hy⟩ := Option.bind_eq_some_iff.1 hy
  cases b with
  | true =>
    simp only [if_true, ho, opX, evO, Option.bind_some] at hy
    obtain ⟨xs, hxs, hy⟩ := Option.bind_eq_some_iff.1 hy
    have : xs = [] := by simpa [evL] using hxs.symm
    subst this
    have := ((h H).wc fun _ H' => H' = y.2).1 ⟨k, y, hy, rfl⟩
    exact this.symm
  | false => simp only [Bool.false_eq_true, if_false, Option.some.injEq] at hy; rw [← hy]
end Go.SL
namespace Go.SL
variable {P : Program} {cfg : Cfg} {ce : CallE} {m n : Nat} {ops : Array Oper} {o1 o2 o : Oper} {J : JT}
/-- A closed slice, and its copy in another slot. -/
def ImJ (s t : Nat) (cs : List CV) (len sz : Nat) : JT := fun fr _ => fr s = .im cs len sz ∧ (fr t = .im cs len sz ∨ fr t = .tup [])
theorem keep_im {s t : Nat} {cs : List CV} {len sz : Nat} (hd : o.dst ≠ some s ∧ o.dst ≠ some t) : KeepJ (ImJ s t cs len sz) P cfg ce m n ops o := by
  intro fr H z hj hs
  obtain ⟨y, h1, h2⟩ := step_inv hs
  exact ⟨by rw [h2, if_neg hd.1]; exact hj.1, by rw [h2, if_neg hd.2]; exact hj.2⟩
theorem keep_imv {s t : Nat} {cs : List CV} {len sz : Nat} (ho : o.op = .move (.tmp s)) (g : o.guard = none) (hd : o.dst = some t) (hne : t ≠ s) : KeepJ (ImJ s t cs len sz) P cfg ce m n ops o := by
  intro fr H z hj hs
  obtain ⟨y, h1, h2⟩ := step_inv hs
  rw [actX_plain g, ho] at h1
  simp only [opX, opE, stOK, if_true, show evO fr (.tmp s) = some (fr s) from rfl, Option.map_some, Option.some.injEq, Prod.mk.injEq, hj.1] at h1
  obtain ⟨rfl, e0⟩ := h1
  rw [hd] at h2
  have hne' : ¬ some t = some s := fun h => hne (by cases h; rfl)
  exact ⟨by rw [h2, if_neg hne']; exact hj.1, by rw [h2, if_pos rfl]; exact .inl rfl⟩
theorem cmt_im {s t : Nat} {cs : List CV} {len sz : Nat} {ty : TypeId} {lo hi : Option Operand} (hap : o1.apart ops o2 = true) (ho : o1.op = .slice ty (.tmp t) lo hi none) (g : o1.guard = none) : CmtJ (ImJ s t cs len sz) P cfg ce m n ops o1 o2 := by
  refine cmt_purJ hap fun fr H H' hj => ?_
  rw [actX_plain g, actX_plain g, ho]
  have key : ∀ lo hi, dSlice P ty (fr t) lo hi H' = dSlice P ty (fr t) lo hi H := by
    intro lo hi
    rcases hj.2 with h | h <;> rw [h] <;> unfold dSlice <;> split <;> first | rfl | (split <;> first | rfl | (rename_i h2 _ _ _ _; cases h2) | skip)
    all_goals (rename_i h2; cases h2)
  simp only [opX, opE, stOK, if_true, show evO fr (.tmp t) = some (fr t) from rfl, Option.bind_some, key]
  cases evM fr lo with
  | none => rfl
  | some a =>
    cases evM fr hi with
    | none => rfl
    | some b =>
      simp only [Option.bind_some, Option.map_map]
      rfl
end Go.SL

/- A region that puts an element behind a slice that another object holds, in any order. -/
namespace Go.SL
set_option linter.unusedVariables false
variable {P : Program} {cfg : Cfg} {ce : CallE} {m n : Nat} {ops : Array Oper} {o1 o2 o : Oper} {J : JT}

theorem put_comm {H : Hp} {a b x y : Nat} {u v : List CV} (h : a ≠ b) : putH (putH H a x u) b y v = putH (putH H b y v) a x u := by
  unfold putH
  apply List.ext_getElem?
  intro j
  rw [List.getElem?_modify, List.getElem?_modify, List.getElem?_modify, List.getElem?_modify]
  by_cases e1 : a = j
  · subst e1
    have : ¬ b = a := fun e => h e.symm
    simp [this]
  · simp [e1]
theorem iaddr_eq {t e : TypeId} (hu : P.underlying t = some (.slice e)) (x i : CV) (H : Hp) : dIndexAddr P t x i H = match i with
    | .v (.int _ i) => (P.info? e).bind fun inf =>
      match x with
      | .sl id ver off len sz => if 0 ≤ i ∧ i < len ∧ sz = inf.size ∧ (cellsAt H id ver).isSome then some (.ptr id ver (off + i.toNat * sz)) else none
      | .im cs len sz => if 0 ≤ i ∧ i < len ∧ sz = inf.size then some (.ip (cs.drop (i.toNat * sz))) else none
      | _ => none
    | _ => none := by
  unfold dIndexAddr
  rw [hu]
  cases i with
  | v i => cases i <;> rfl
  | _ => rfl
theorem iaddr_put {t e : TypeId} (hu : P.underlying t = some (.slice e)) {x i : CV} {id off : Nat} {ys : List CV} {H : Hp} : dIndexAddr P t x i (putH H id off ys) = dIndexAddr P t x i H := by
  rw [iaddr_eq hu, iaddr_eq hu]
  simp only [cells_put_is]
theorem iaddr_own {t e : TypeId} (hu : P.underlying t = some (.slice e)) {x i : CV} {H : Hp} {id ver off : Nat} (h : dIndexAddr P t x i H = some (.ptr id ver off)) : ∃ off' len sz, x = .sl id ver off' len sz := by
  rw [iaddr_eq hu] at h
  split at h
  · obtain ⟨inf, _, h⟩ := Option.bind_eq_some_iff.1 h
    split at h
    · split at h
      · cases h; exact ⟨_, _, _, rfl⟩
      · cases h
    · split at h <;> cases h
    · cases h
  · cases h
theorem act_store2 {fr : Fr} {H : Hp} {y : CV × Hp} {t : TypeId} {a b : Operand} (h : o.guard = none) (ho : o.op = .store t a b) (hy : actX P cfg ce m ops o fr H = some y) : ∃ x z, evO fr a = some x ∧ evO fr b = some z ∧ dStore P t x z H = some y.2 ∧ y.1 = .tup [] ∧ stOK m fr (.store t a b) = true := by
  rw [actX_plain h, ho] at hy
  simp only [opX] at hy
  split at hy
  · rename_i hst
    simp only [opE] at hy
    obtain ⟨x, h1, hy⟩ := Option.bind_eq_some_iff.1 hy
    obtain ⟨z, h2, hy⟩ := Option.bind_eq_some_iff.1 hy
    obtain ⟨H2, h3, rfl⟩ := Option.map_eq_some_iff.1 hy
    exact ⟨x, z, h1, h2, h3, rfl, hst⟩
  · cases hy
/-- A place that is no object below k. -/
def ptrO (k : Nat) (v : CV) : Prop := ∀ id ver off, v = .ptr id ver off → k ≤ id
def ownA (k : Nat) (v : CV) : Prop := own k v ∧ ∀ cs, v ≠ .agg cs
structure FJ (s a b c io k : Nat) (fr : Fr) (H : Hp) : Prop where
  hs : fr s = .ptr io 0 0
  hk : k ≤ H.length
  ha : ownA k (fr a)
  hb : ownA k (fr b)
  hc : ptrO k (fr c)
  hio : ∃ v, cellsAt H io 0 = some [v] ∧ ownA k v
section
variable {s a b c io k : Nat} (hik : io < k)
theorem fkeep_rd (hr : Rd P cfg ce m ops o) (hd : o.dst ≠ some s ∧ o.dst ≠ some a ∧ o.dst ≠ some b ∧ o.dst ≠ some c) : KeepJ (FJ s a b c io k) P cfg ce m n ops o := by
  intro fr H z hj hs
  obtain ⟨y, h1, h2⟩ := step_inv hs
  have e0 : z.2 = H := hr _ _ _ h1
  obtain ⟨d1, d2, d3, d4⟩ := hd
  rw [e0]
  exact ⟨by rw [h2, if_neg d1]; exact hj.hs, hj.hk, by rw [h2, if_neg d2]; exact hj.ha, by rw [h2, if_neg d3]; exact hj.hb, by rw [h2, if_neg d4]; exact hj.hc, hj.hio⟩
theorem fkeep_gro (hr : Gro P cfg ce m ops o) (hd : o.dst ≠ some s ∧ o.dst ≠ some a ∧ o.dst ≠ some b ∧ o.dst ≠ some c) : KeepJ (FJ s a b c io k) P cfg ce m n ops o := by
  intro fr H z hj hs
  obtain ⟨y, h1, h2⟩ := step_inv hs
  obtain ⟨L, e0⟩ := hr _ _ _ h1
  simp only at e0
  obtain ⟨d1, d2, d3, d4⟩ := hd
  rw [e0]
  obtain ⟨v, hv1, hv2⟩ := hj.hio
  exact ⟨by rw [h2, if_neg d1]; exact hj.hs, by simp; have := hj.hk; omega, by rw [h2, if_neg d2]; exact hj.ha, by rw [h2, if_neg d3]; exact hj.hb, by rw [h2, if_neg d4]; exact hj.hc, v, cellsAt_app L hv1, hv2⟩
theorem fkeep_ld {t : TypeId} (hld : ∀ H v y, cellsAt H io 0 = some [v] → dLoad P t (.ptr io 0 0) H = some y → y = v) (ho : o.op = .load t (.tmp s)) (g : o.guard = none) (hd : o.dst = some a) (hne : a ≠ s ∧ a ≠ b ∧ a ≠ c) : KeepJ (FJ s a b c io k) P cfg ce m n ops o := by
  intro fr H z hj hs
  obtain ⟨y, h1, h2⟩ := step_inv hs
  rw [actX_plain g, ho] at h1
  simp only [opX, opE, stOK, if_true, show evO fr (.tmp s) = some (fr s) from rfl, Option.bind_some, hj.hs] at h1
  obtain ⟨u, h3, h4⟩ := Option.map_eq_some_iff.1 h1
  simp only [Prod.mk.injEq] at h4
  obtain ⟨rfl, e0⟩ := h4
  obtain ⟨v, hv1, hv2⟩ := hj.hio
  have hz := hld _ _ _ hv1 h3
  rw [hd] at h2
  obtain ⟨d1, d2, d3⟩ := hne
  have d1' : ¬ (some a = some s) := fun h => d1 (by cases h; rfl)
  have d2' : ¬ (some a = some b) := fun h => d2 (by cases h; rfl)
  have d3' : ¬ (some a = some c) := fun h => d3 (by cases h; rfl)
  rw [← e0]
  exact ⟨by rw [h2, if_neg d1']; exact hj.hs, hj.hk, by rw [h2, if_pos rfl, hz]; exact hv2, by rw [h2, if_neg d2']; exact hj.hb, by rw [h2, if_neg d3']; exact hj.hc, v, hv1, hv2⟩
theorem app_ownA {t tx : TypeId} {q x y : CV} {H H2 : Hp} {k : Nat} (h : dAppend P t tx q x H = some (y, H2)) (ho : ownA k q) (hk : k ≤ H.length) : ownA k y := by
  have hsl : ∀ id ver off len sz, k ≤ id → ownA k (.sl id ver off len sz) := fun id ver off len sz hid => ⟨fun _ _ _ _ _ e => by cases e; exact hid, fun cs e => by cases e⟩
  unfold dAppend at h
  split at h
  · obtain ⟨i, _, h⟩ := Option.bind_eq_some_iff.1 h
    obtain ⟨zs, _, h⟩ := Option.bind_eq_some_iff.1 h
    obtain ⟨xn, _, h⟩ := Option.bind_eq_some_iff.1 h
    split at h
    · split at h
      · split at h
        · cases h; exact ho
        · split at h
          · cases h; exact hsl _ _ _ _ _ hk
          · cases h
      · rename_i id ver off len sz
        have hid := ho.1 _ _ _ _ _ rfl
        split at h
        · split at h
          · split at h
            · cases h; exact ho
            · split at h
              · cases h; exact hsl _ _ _ _ _ hid
              · cases h
          · cases h
        · cases h
      · split at h
        · cases h; exact ho
        · cases h
      · cases h
    · cases h
  · cases h
include hik in
theorem fkeep_app {t tx : TypeId} {x : Operand} (ho : o.op = .call ⟨.builtin .append, #[.tmp a, x], #[t, tx]⟩) (g : o.guard = none) (hd : o.dst = some b) (hne : b ≠ s ∧ b ≠ a ∧ b ≠ c) : KeepJ (FJ s a b c io k) P cfg ce m n ops o := by
  intro fr H z hj hs
  obtain ⟨y, h1, h2⟩ := step_inv hs
  obtain ⟨x, h3⟩ := act_app ho g h1
  obtain ⟨h4, h5⟩ := app_below h3 hj.ha.1 hj.hk
  rw [hd] at h2
  obtain ⟨d1, d2, d3⟩ := hne
  have d1' : ¬ (some b = some s) := fun h => d1 (by cases h; rfl)
  have d2' : ¬ (some b = some a) := fun h => d2 (by cases h; rfl)
  have d3' : ¬ (some b = some c) := fun h => d3 (by cases h; rfl)
  obtain ⟨v, hv1, hv2⟩ := hj.hio
  exact ⟨by rw [h2, if_neg d1']; exact hj.hs, h4, by rw [h2, if_neg d2']; exact hj.ha, by rw [h2, if_pos rfl]; exact app_ownA h3 hj.ha hj.hk, by rw [h2, if_neg d3']; exact hj.hc, v, by rw [cells_below h5 hik]; exact hv1, hv2⟩
theorem fkeep_ia {t e : TypeId} (hu : P.underlying t = some (.slice e)) {i : Operand} (ho : o.op = .indexAddr t (.tmp b) i) (g : o.guard = none) (hd : o.dst = some c) (hne : c ≠ s ∧ c ≠ a ∧ c ≠ b) : KeepJ (FJ s a b c io k) P cfg ce m n ops o := by
  intro fr H z hj hs
  obtain ⟨y, h1, h2⟩ := step_inv hs
  rw [actX_plain g, ho] at h1
  simp only [opX, opE, stOK, if_true, show evO fr (.tmp b) = some (fr b) from rfl, Option.bind_some] at h1
  obtain ⟨iv, _, h1⟩ := Option.bind_eq_some_iff.1 h1
  obtain ⟨u, h3, h4⟩ := Option.map_eq_some_iff.1 h1
  simp only [Prod.mk.injEq] at h4
  obtain ⟨rfl, e0⟩ := h4
  have hp : ptrO k u := by
    intro id ver off e
    subst e
    obtain ⟨_, _, _, hx⟩ := iaddr_own hu h3
    exact hj.hb.1 _ _ _ _ _ hx
  rw [hd] at h2
  obtain ⟨d1, d2, d3⟩ := hne
  have d1' : ¬ (some c = some s) := fun h => d1 (by cases h; rfl)
  have d2' : ¬ (some c = some a) := fun h => d2 (by cases h; rfl)
  have d3' : ¬ (some c = some b) := fun h => d3 (by cases h; rfl)
  rw [← e0]
  exact ⟨by rw [h2, if_neg d1']; exact hj.hs, hj.hk, by rw [h2, if_neg d2']; exact hj.ha, by rw [h2, if_neg d3']; exact hj.hb, by rw [h2, if_pos rfl]; exact hp, hj.hio⟩
/-- An element of the slice is written: another object than the one that holds the slice. -/
theorem put_len {H : Hp} {id off : Nat} {ys : List CV} : (putH H id off ys).length = H.length := by unfold putH; simp
include hik in
theorem fkeep_st {t : TypeId} {x : Operand} (ho : o.op = .store t (.tmp c) x) (g : o.guard = none) (hd : o.dst = none) : KeepJ (FJ s a b c io k) P cfg ce m n ops o := by
  intro fr H z hj hs
  obtain ⟨y, h1, h2⟩ := step_inv hs
  obtain ⟨u, w, e1, e2, e3, _, _⟩ := act_store2 g ho h1
  have : u = fr c := by have : evO fr (.tmp c) = some (fr c) := rfl; rw [this] at e1; cases e1; rfl
  subst this
  rw [hd] at h2
  simp only [reduceCtorEq, if_false] at h2
  obtain ⟨v, hv1, hv2⟩ := hj.hio
  cases hcv : fr c with
  | ptr id ver off =>
    have hid := hj.hc _ _ _ hcv
    rw [hcv] at e3
    obtain ⟨ys, e4⟩ := store_put e3
    simp only at e4
    rw [e4]
    exact ⟨by rw [h2]; exact hj.hs, by rw [put_len]; exact hj.hk, by rw [h2]; exact hj.ha, by rw [h2]; exact hj.hb, by rw [h2]; exact hj.hc, v, by rw [cells_put_ne (by omega)]; exact hv1, hv2⟩
  | _ => rw [hcv] at e3; cases e3
theorem fkeep_so {t : TypeId} (ho : o.op = .store t (.tmp s) (.tmp b)) (g : o.guard = none) (hd : o.dst = none) (hsz : ∀ i, P.info? t = some i → i.size = 1) : KeepJ (FJ s a b c io k) P cfg ce m n ops o := by
  intro fr H z hj hs
  obtain ⟨y, h1, h2⟩ := step_inv hs
  obtain ⟨u, w, e1, e2, e3, _, _⟩ := act_store2 g ho h1
  have h3 : u = .ptr io 0 0 := by have : evO fr (.tmp s) = some (fr s) := rfl; rw [this, hj.hs] at e1; cases e1; rfl
  have h4 : w = fr b := by have : evO fr (.tmp b) = some (fr b) := rfl; rw [this] at e2; cases e2; rfl
  subst h3 h4
  rw [hd] at h2
  simp only [reduceCtorEq, if_false] at h2
  obtain ⟨v, hv1, hv2⟩ := hj.hio
  unfold dStore at e3
  simp only [] at e3
  obtain ⟨i, f1, e3⟩ := Option.bind_eq_some_iff.1 e3
  obtain ⟨ys, f2, e3⟩ := Option.bind_eq_some_iff.1 e3
  obtain ⟨cs, f3, e3⟩ := Option.bind_eq_some_iff.1 e3
  split at e3
  · rename_i hlen
    have e4 : putH H io 0 ys = z.2 := by simpa using e3
    have hys : ys = [fr b] := by
      have hna := hj.hb.2
      unfold cvCells at f2
      split at f2
      · rename_i cs' hb'; exact absurd hb' (hna _)
      · cases f2
      · cases f2; rfl
    rw [← e4]
    have hcell : cellsAt (putH H io 0 ys) io 0 = some [fr b] := by
      obtain ⟨e, he⟩ := cellsAt_some hv1
      unfold cellsAt putH
      rw [List.getElem?_modify]
      simp [he, hys]
    exact ⟨by rw [h2]; exact hj.hs, by rw [put_len]; exact hj.hk, by rw [h2]; exact hj.ha, by rw [h2]; exact hj.hb, by rw [h2]; exact hj.hc, _, hcell, hj.hb⟩
  · cases e3

theorem fcmt_ia {t e t2 : TypeId} (hu : P.underlying t = some (.slice e)) {i x : Operand} (hap : o1.apart ops o2 = true) (h1 : o1.op = .indexAddr t (.tmp b) i) (g1 : o1.guard = none) (h2 : o2.op = .store t2 (.tmp s) x) (g2 : o2.guard = none) (hr : rdB cfg.mu o1.op = true) : CmtJ (FJ s a b c io k) P cfg ce m n ops o1 o2 := by
  refine cmt_rw hap (rd_of hr) fun fr H y hj hy => ?_
  obtain ⟨u, w, e1, e2, e3, _, _⟩ := act_store2 g2 h2 hy
  have h3 : u = .ptr io 0 0 := by have : evO fr (.tmp s) = some (fr s) := rfl; rw [this, hj.hs] at e1; cases e1; rfl
  subst h3
  obtain ⟨ys, e4⟩ := store_put e3
  rw [e4, actX_plain g1, actX_plain g1, h1]
  simp only [opX, opE, stOK, if_true, show evO fr (.tmp b) = some (fr b) from rfl, Option.bind_some]
  cases evO fr i with
  | none => rfl
  | some iv =>
    simp only [Option.bind_some, iaddr_put hu, Option.map_map]
    rfl
include hik in
theorem fcmt_ss {t t2 : TypeId} {x : Operand} (hap : o1.apart ops o2 = true) (h1 : o1.op = .store t (.tmp c) x) (g1 : o1.guard = none) (d1 : o1.dst = none) (h2 : o2.op = .store t2 (.tmp s) (.tmp b)) (g2 : o2.guard = none) (d2 : o2.dst = none) : CmtJ (FJ s a b c io k) P cfg ce m n ops o1 o2 := by
  intro fr H s1 s2 hJ k1 k2
  obtain ⟨⟨y1, H1⟩, b1, k1⟩ := Option.bind_eq_some_iff.1 k1
  obtain ⟨fr1, b2, k1⟩ := Option.map_eq_some_iff.1 k1
  cases k1
  obtain ⟨⟨y2, H2⟩, c1, k2⟩ := Option.bind_eq_some_iff.1 k2
  obtain ⟨fr2, c2, k2⟩ := Option.map_eq_some_iff.1 k2
  cases k2
  simp only at b2 c1 c2 ⊢
  rw [d1] at b2
  rw [d2] at c2
  have hf1 : fr1 = fr := by unfold putC at b2; cases b2; rfl
  have hf2 : fr2 = fr1 := by unfold putC at c2; cases c2; rfl
  subst hf1 hf2
  obtain ⟨u, w, e1, e2, e3, e4, e5⟩ := act_store2 g1 h1 b1
  obtain ⟨u', w', f1, f2, f3, f4, f5⟩ := act_store2 g2 h2 c1
  simp only at e3 e4 f3 f4
  have h3 : u' = .ptr io 0 0 := by have : evO fr2 (.tmp s) = some (fr2 s) := rfl; rw [this, hJ.hs] at f1; cases f1; rfl
  have h4 : u = fr2 c := by have : evO fr2 (.tmp c) = some (fr2 c) := rfl; rw [this] at e1; cases e1; rfl
  subst h3 h4
  cases hcv : fr2 c with
  | ptr id ver off =>
    have hid := hJ.hc _ _ _ hcv
    have hne : id ≠ io := by omega
    rw [hcv] at e3
    unfold dStore at e3 f3
    simp only [] at e3 f3
    obtain ⟨i1, p1, e3⟩ := Option.bind_eq_some_iff.1 e3
    obtain ⟨ys1, p2, e3⟩ := Option.bind_eq_some_iff.1 e3
    obtain ⟨cs1, p3, e3⟩ := Option.bind_eq_some_iff.1 e3
    split at e3
    · rename_i hl1
      cases e3
      obtain ⟨i2, q1, f3⟩ := Option.bind_eq_some_iff.1 f3
      obtain ⟨ys2, q2, f3⟩ := Option.bind_eq_some_iff.1 f3
      obtain ⟨cs2, q3, f3⟩ := Option.bind_eq_some_iff.1 f3
      split at f3
      · rename_i hl2
        cases f3
        rw [cells_put_ne hne] at q3
        have A : actX P cfg ce m ops o2 fr2 H = some (.tup [], putH H io 0 ys2) := by
          rw [actX_plain g2, h2]
          simp only [opX, f5, if_true, opE, f1, f2, Option.bind_some, dStore, q1, q2, q3]
          rw [if_pos hl2]; rfl
        have B : actX P cfg ce m ops o1 fr2 (putH H io 0 ys2) = some (.tup [], putH (putH H io 0 ys2) id off ys1) := by
          rw [actX_plain g1, h1]
          have p3' : cellsAt (putH H io 0 ys2) id ver = some cs1 := by rw [cells_put_ne (fun e => hne e.symm)]; exact p3
          simp only [opX, e5, if_true, opE, e1, e2, Option.bind_some, hcv, dStore, p1, p2, p3']
          rw [if_pos hl1]; rfl
        refine ⟨(fr2, putH H io 0 ys2), ?_, ?_⟩
        · unfold stepX; rw [A, d2]; rfl
        · unfold stepX; simp only [B, d1, putC, Option.bind_some, Option.map_some, put_comm hne]
      · cases f3
    · cases e3
  | _ => rw [hcv] at e3; cases e3
end
end Go.SL

/- Bits of numbers without a sign. -/
namespace Go.SL
set_option linter.unusedVariables false
theorem wrapU8 (x : Nat) (h : x < 256) : IntKind.u8.wrap (x : Int) = (x : Int) := by simp [IntKind.wrap, IntKind.bits, IntKind.signed]; omega
theorem wrapU32 (x : Nat) (h : x < 4294967296) : IntKind.u32.wrap (x : Int) = (x : Int) := by simp [IntKind.wrap, IntKind.bits, IntKind.signed]; omega
theorem wrapU64 (x : Nat) (h : x < 18446744073709551616) : IntKind.u64.wrap (x : Int) = (x : Int) := by simp [IntKind.wrap, IntKind.bits, IntKind.signed]; omega
theorem bits_or_u32 (a b : Nat) (ha : a < 4294967296) (hb : b < 4294967296) : bits .or .u32 (a : Int) (b : Int) = ((a ||| b : Nat) : Int) := by
  have hx : a ||| b < 2 ^ 32 := Nat.or_lt_two_pow (by omega) (by omega)
  have h1 : (BitVec.ofInt 32 (a : Int)).toNat = a := by rw [BitVec.ofInt_natCast, BitVec.toNat_ofNat]; exact Nat.mod_eq_of_lt (by omega)
  have h2 : (BitVec.ofInt 32 (b : Int)).toNat = b := by rw [BitVec.ofInt_natCast, BitVec.toNat_ofNat]; exact Nat.mod_eq_of_lt (by omega)
  show IntKind.u32.wrap ((BitVec.ofInt 32 (a : Int) ||| BitVec.ofInt 32 (b : Int)).toNat : Int) = _
  rw [BitVec.toNat_or, h1, h2, wrapU32 _ (by omega)]
theorem bits_and_u32 (a b : Nat) (ha : a < 4294967296) (hb : b < 4294967296) : bits .and .u32 (a : Int) (b : Int) = ((a &&& b : Nat) : Int) := by
  have hx : a &&& b < 2 ^ 32 := Nat.and_lt_two_pow _ (by omega)
  have h1 : (BitVec.ofInt 32 (a : Int)).toNat = a := by rw [BitVec.ofInt_natCast, BitVec.toNat_ofNat]; exact Nat.mod_eq_of_lt (by omega)
  have h2 : (BitVec.ofInt 32 (b : Int)).toNat = b := by rw [BitVec.ofInt_natCast, BitVec.toNat_ofNat]; exact Nat.mod_eq_of_lt (by omega)
  show IntKind.u32.wrap ((BitVec.ofInt 32 (a : Int) &&& BitVec.ofInt 32 (b : Int)).toNat : Int) = _
  rw [BitVec.toNat_and, h1, h2, wrapU32 _ (by omega)]
theorem bits_or_u8 (a b : Nat) (ha : a < 256) (hb : b < 256) : bits .or .u8 (a : Int) (b : Int) = ((a ||| b : Nat) : Int) := by
  have hx : a ||| b < 2 ^ 8 := Nat.or_lt_two_pow (by omega) (by omega)
  have h1 : (BitVec.ofInt 8 (a : Int)).toNat = a := by rw [BitVec.ofInt_natCast, BitVec.toNat_ofNat]; exact Nat.mod_eq_of_lt (by omega)
  have h2 : (BitVec.ofInt 8 (b : Int)).toNat = b := by rw [BitVec.ofInt_natCast, BitVec.toNat_ofNat]; exact Nat.mod_eq_of_lt (by omega)
  show IntKind.u8.wrap ((BitVec.ofInt 8 (a : Int) ||| BitVec.ofInt 8 (b : Int)).toNat : Int) = _
  rw [BitVec.toNat_or, h1, h2, wrapU8 _ (by omega)]
theorem or_shift (a b k : Nat) (h : b < 2 ^ k) : a * 2 ^ k ||| b = a * 2 ^ k + b := by
  rw [← Nat.shiftLeft_eq, Nat.shiftLeft_add_eq_or_of_lt h]
variable {P : Program} {t : TypeId}
theorem or_u32 (a b : Nat) (k : Nat) (H : Hp) (hb : b < 2 ^ k) (ha : a * 2 ^ k + b < 4294967296) : dBin P .or t (.v (.int .u32 ((a * 2 ^ k : Nat) : Int))) (.v (.int .u32 (b : Nat))) H = some (.v (.int .u32 ((a * 2 ^ k + b : Nat) : Int))) := by
  simp only [dBin_int, binA, if_true, bits_or_u32 _ _ (Nat.lt_of_le_of_lt (Nat.le_add_right _ b) ha) (Nat.lt_of_le_of_lt (Nat.le_add_left b _) ha), or_shift a b k hb, Option.map_some]
theorem shl_u32 (a k : Nat) (q : IntKind) (H : Hp) (hk : k ≤ 32) (ha : a * 2 ^ k < 4294967296) : dBin P .shl t (.v (.int .u32 (a : Nat))) (.v (.int q (k : Nat))) H = some (.v (.int .u32 ((a * 2 ^ k : Nat) : Int))) := by
  have h1 : min (k : Int).toNat IntKind.u32.bits = k := by rw [Int.toNat_natCast]; exact Nat.min_eq_left hk
  have h2 : ((a : Nat) : Int) * 2 ^ k = ((a * 2 ^ k : Nat) : Int) := by push_cast; rfl
  simp only [dBin, binA]
  rw [if_pos (by omega), h1, h2, wrapU32 _ ha]; rfl
theorem shr_u32 (a k : Nat) (q : IntKind) (H : Hp) (hk : k ≤ 32) : dBin P .shr t (.v (.int .u32 (a : Nat))) (.v (.int q (k : Nat))) H = some (.v (.int .u32 ((a / 2 ^ k : Nat) : Int))) := by
  have h1 : min (k : Int).toNat IntKind.u32.bits = k := by rw [Int.toNat_natCast]; exact Nat.min_eq_left hk
  simp only [dBin, binA]
  rw [if_pos (by omega), h1, Int.fdiv_eq_ediv_of_nonneg _ (by exact_mod_cast Nat.zero_le _)]
  simp
theorem and_u32 (a k : Nat) (H : Hp) (ha : a < 4294967296) (hk : k ≤ 32) : dBin P .and t (.v (.int .u32 (a : Nat))) (.v (.int .u32 ((2 ^ k - 1 : Nat) : Int))) H = some (.v (.int .u32 ((a % 2 ^ k : Nat) : Int))) := by
  have h2 : 2 ^ k ≤ 2 ^ 32 := Nat.pow_le_pow_right (by omega) hk
  have h3 : 0 < 2 ^ k := Nat.pow_pos (by omega)
  simp only [dBin_int, binA, if_true, bits_and_u32 _ _ ha (show 2 ^ k - 1 < 4294967296 by omega), Nat.and_two_pow_sub_one_eq_mod, Option.map_some]
@[simp] theorem binA_mul (k : IntKind) (a b : Int) : binA .mul (.int k a) (.int k b) = some (.int k (k.wrap (a * b))) := by simp [binA]
theorem rem_nat (a b : Nat) (H : Hp) (hb : b ≠ 0) : dBin P .rem t (.v (.int .i64 (a : Nat))) (.v (.int .i64 (b : Nat))) H = some (.v (.int .i64 ((a % b : Nat) : Int))) := by
  have h1 : (b : Int) ≠ 0 := by omega
  simp only [dBin_int, binA]
  rw [if_pos ⟨trivial, h1⟩, Int.tmod_eq_emod_of_nonneg (by omega)]
  rfl
theorem or_u8 (a b : Nat) (k : Nat) (H : Hp) (hb : b < 2 ^ k) (ha : a * 2 ^ k + b < 256) : dBin P .or t (.v (.int .u8 ((a * 2 ^ k : Nat) : Int))) (.v (.int .u8 (b : Nat))) H = some (.v (.int .u8 ((a * 2 ^ k + b : Nat) : Int))) := by
  simp only [dBin_int, binA, if_true, bits_or_u8 _ _ (Nat.lt_of_le_of_lt (Nat.le_add_right _ b) ha) (Nat.lt_of_le_of_lt (Nat.le_add_left b _) ha), or_shift a b k hb, Option.map_some]
theorem shl_u8 (a k : Nat) (q : IntKind) (H : Hp) (hk : k ≤ 8) (ha : a * 2 ^ k < 256) : dBin P .shl t (.v (.int .u8 (a : Nat))) (.v (.int q (k : Nat))) H = some (.v (.int .u8 ((a * 2 ^ k : Nat) : Int))) := by
  have h1 : min (k : Int).toNat IntKind.u8.bits = k := by rw [Int.toNat_natCast]; exact Nat.min_eq_left hk
  have h2 : ((a : Nat) : Int) * 2 ^ k = ((a * 2 ^ k : Nat) : Int) := by push_cast; rfl
  simp only [dBin, binA]
  rw [if_pos (by omega), h1, h2, wrapU8 _ ha]; rfl
end Go.SL

/- Objects that are closed ahead of a region: rules. -/
namespace Go.SL
set_option linter.unusedVariables false
@[simp] theorem rpl_v (id ver : Nat) (cs : List CV) (x : Value) : rpl id ver cs (.v x) = .v x := (rfl)
@[simp] theorem rpl_str (id ver : Nat) (cs : List CV) (l : Bs) : rpl id ver cs (str l) = str l := (rfl)
@[simp] theorem rpl_ptr (id ver : Nat) (cs : List CV) (a b c : Nat) : rpl id ver cs (.ptr a b c) = .ptr a b c := (rfl)
@[simp] theorem rpl_im (id ver : Nat) (cs l : List CV) (a b : Nat) : rpl id ver cs (.im l a b) = .im l a b := (rfl)
@[simp] theorem rpl_ip (id ver : Nat) (cs l : List CV) : rpl id ver cs (.ip l) = .ip l := (rfl)
@[simp] theorem rpl_lit (id ver : Nat) (cs l : List CV) (a b : Nat) : rpl id ver cs (.lit l a b) = .lit l a b := (rfl)
@[simp] theorem rpl_mp (id ver : Nat) (cs : List CV) (a b : Nat) : rpl id ver cs (.mp a b) = .mp a b := (rfl)
@[simp] theorem rpl_fn (id ver : Nat) (cs : List CV) (f : Fn) (a b : List CV) : rpl id ver cs (.fn f a b) = .fn f a b := (rfl)
@[simp] theorem rpl_ifc (id ver : Nat) (cs : List CV) (t : TypeId) (x : CV) : rpl id ver cs (.ifc t x) = .ifc t x := (rfl)
@[simp] theorem rpl_tup (id ver : Nat) (cs l : List CV) : rpl id ver cs (.tup l) = .tup l := (rfl)
@[simp] theorem rpl_agg (id ver : Nat) (cs l : List CV) : rpl id ver cs (.agg l) = .agg (l.map (rpl1 id ver cs)) := (rfl)
@[simp] theorem rpl_sl (id ver : Nat) (cs : List CV) (i v off len sz : Nat) : rpl id ver cs (.sl i v off len sz) = if i = id ∧ v = ver ∧ off + len * sz ≤ cs.length then .im ((cs.drop off).take (len * sz)) len sz else .sl i v off len sz := (rfl)
theorem rpl1_clo {id ver : Nat} {cs : List CV} {x : CV} (h : ∀ i v off len sz, x ≠ .sl i v off len sz) : rpl1 id ver cs x = x := by
  unfold rpl1
  split
  · exact absurd rfl (h _ _ _ _ _)
  · rfl
theorem Cls.rpl1 {y : CV} {cs l : List CV} {n sz id ver : Nat} (h : Cls y cs n sz) : SL.rpl1 id ver l y = y := rpl1_clo fun i v off len s => by rcases h with rfl | ⟨_, _, rfl⟩ <;> intro e <;> cases e
/-- One object, at the front of those from m on, holds a slice that is closed. -/
theorem cloR_at {H L : Hp} {fr : Fr} {t ver n sz e e2 k : Nat} {a b cs : List CV} (ht : fr t = .ptr H.length 0 0) (ha : ∀ x ∈ a, ∀ i v off len sz, x ≠ .sl i v off len sz) (hb : ∀ x ∈ b, ∀ i v off len sz, x ≠ .sl i v off len sz)
    (hk : L[k]? = some (.cells ver cs e2)) (hc : cs.all clB = true) (hn : n * sz ≤ cs.length) :
    ∃ L', cloR H.length [t] (fr, H ++ .cells 0 (a ++ .sl (H.length + (k + 1)) ver 0 n sz :: b) e :: L) = (fun u => rpl (H.length + (k + 1)) ver cs (fr u), H ++ .cells 0 (a ++ .im (cs.take (n * sz)) n sz :: b) e :: L') := by
  have hL : ∀ (l : List CV) (p : Fr × Hp), (∀ x ∈ l, ∀ i v off len sz, x ≠ .sl i v off len sz) → cloL H.length l p = p := by
    intro l
    induction l with
    | nil => intro p _; rfl
    | cons x l ih =>
      intro p hx
      have h1 := hx x (by simp)
      have h2 := ih p fun y hy => hx y (by simp [hy])
      cases x with
      | sl => exact absurd rfl (h1 _ _ _ _ _)
      | _ => exact h2
  have hLa : ∀ (l r : List CV) (p : Fr × Hp), (∀ x ∈ l, ∀ i v off len sz, x ≠ .sl i v off len sz) → cloL H.length (l ++ r) p = cloL H.length r p := by
    intro l
    induction l with
    | nil => intro r p _; rfl
    | cons x l ih =>
      intro r p hx
      have h1 := hx x (by simp)
      have h2 := ih r p fun y hy => hx y (by simp [hy])
      cases x with
      | sl => exact absurd rfl (h1 _ _ _ _ _)
      | _ => exact h2
  refine ⟨(L.set k (.gone (ver + 1))).map (rplO (H.length + (k + 1)) ver cs), ?_⟩
  simp only [cloR, ht, cloT, at_own0, at_zero, if_true, hLa a _ _ ha, cloL]
  rw [hL b _ hb]
  unfold cloA
  have hget : (H ++ CO.cells 0 (a ++ .sl (H.length + (k + 1)) ver 0 n sz :: b) e :: L)[H.length + (k + 1)]? = some (.cells ver cs e2) := by
    rw [List.getElem?_append_right (by omega)]
    have : H.length + (k + 1) - H.length = k + 1 := by omega
    rw [this, List.getElem?_cons_succ, hk]
  simp only [hget]
  rw [if_pos ⟨by omega, trivial, hc⟩]
  congr 1
  rw [List.take_left' rfl, List.set_append_right _ _ (by omega), List.drop_left' rfl]
  have : H.length + (k + 1) - H.length = k + 1 := by omega
  rw [this, List.set_cons_succ, List.map_cons]
  congr 2
  simp only [rplO, List.map_append, List.map_cons]
  congr 1
  · congr 1
    · conv => rhs; rw [← List.map_id a]
      exact List.map_congr_left fun x hx => rpl1_clo (ha x hx)
    · congr 1
      · simp only [SL.rpl1, true_and, Nat.zero_add, hn, if_true, List.drop_zero]
      · conv => rhs; rw [← List.map_id b]
        exact List.map_congr_left fun x hx => rpl1_clo (hb x hx)
theorem W_closedE {x : Cx} {i : Nat} {ops : Array Oper} {fr fr2 : Fr} {H : Hp} {H2 : Hp → Hp} {Q : Ex → Fr → Hp → Prop} {ts : List Tmp} (hc : x.cfg.clo i = ts) (he : ∃ L, cloR x.m ts (fr, H) = (fr2, H2 L)) (h : ∀ L, WO x ops ops.toList fr2 (H2 L) (Q .norm)) : W x (.region i ops false) fr H Q := by
  obtain ⟨L, he⟩ := he
  rw [W_regionC, hc, he]; exact h L
theorem W_closed {x : Cx} {i : Nat} {ops : Array Oper} {fr fr2 : Fr} {H H2 : Hp} {Q : Ex → Fr → Hp → Prop} {ts : List Tmp} (hc : x.cfg.clo i = ts) (he : cloR x.m ts (fr, H) = (fr2, H2)) (h : WO x ops ops.toList fr2 H2 (Q .norm)) : W x (.region i ops false) fr H Q := by
  rw [W_regionC, hc, he]; exact h
end Go.SL

/- Regions that draw, with a call that is known where it can be carried out at all. -/
namespace Go.SL
set_option linter.unusedVariables false
/-- Both leave the heap, at such states. -/
theorem cmt_rdJ {J : JT} {P : Program} {cfg : Cfg} {ce : CallE} {m n : Nat} {ops : Array Oper} {o1 o2 : Oper} (hap : o1.apart ops o2 = true) (hr1 : ∀ fr H y, J fr H → actX P cfg ce m ops o1 fr H = some y → y.2 = H) (hr2 : ∀ fr H y, J fr H → actX P cfg ce m ops o2 fr H = some y → y.2 = H) : CmtJ J P cfg ce m n ops o1 o2 := by
  obtain ⟨a1, a2, a3⟩ := Oper.apart_spec hap
  intro fr H s1 s2 hJ h1 h2
  obtain ⟨⟨y1, H1⟩, b1, h1⟩ := Option.bind_eq_some_iff.1 h1
  obtain ⟨fr1, b2, h1⟩ := Option.map_eq_some_iff.1 h1
  cases h1
  obtain ⟨⟨y2, H2⟩, c1, h2⟩ := Option.bind_eq_some_iff.1 h2
  obtain ⟨fr2, c2, h2⟩ := Option.map_eq_some_iff.1 h2
  cases h2
  simp only at b2 c1 c2 ⊢
  rw [actX_put b2 a1 a2] at c1
  obtain ⟨fr', d1, d2⟩ := putC_comm a2 b2 c2
  have back : ∀ K, actX P cfg ce m ops o1 fr' K = actX P cfg ce m ops o1 fr K := fun K => actX_put d1 a3 (fun d hd e => a2 d e hd)
  have e1 : H1 = H := hr1 _ _ _ hJ b1
  subst e1
  have e2 : H2 = H1 := hr2 _ _ _ hJ c1
  subst e2
  refine ⟨(fr', H2), ?_, ?_⟩
  · unfold stepX; rw [c1]; simp only [Option.bind_some, d1, Option.map_some]
  · unfold stepX; simp only [back, b1, Option.bind_some, d2, Option.map_some]
/-- What is said of the frame stays. -/
theorem keep_fr {V : Fr → Prop} {P : Program} {cfg : Cfg} {ce : CallE} {m n : Nat} {ops : Array Oper} {o : Oper} (h : ∀ fr H y H2, V fr → actX P cfg ce m ops o fr H = some (y, H2) → ∀ fr2 : Fr, (∀ t, fr2 t = if o.dst = some t then y else fr t) → V fr2) : KeepJ (fun fr _ => V fr) P cfg ce m n ops o := by
  intro fr H s hj hs
  obtain ⟨y, h1, h2⟩ := step_inv hs
  exact h fr H y s.2 hj h1 s.1 h2
theorem call_ret {P : Program} {cs : Cfgs} {m : Nat} {f : FuncId} {args : List CV} {H : Hp} {y : CV} (h : Ret P cs m f args H y H) {k : Nat} {r : CV × Hp} (hr : evCall P cs k m (.f f) args H = some r) : r.2 = H := by
  have := (h.wc fun _ H' => H' = r.2).1 ⟨k, r, hr, rfl⟩
  exact this.symm
theorem call_not {P : Program} {cs : Cfgs} {m : Nat} {f : FuncId} {args : List CV} {H : Hp} (h : WC P cs m (.f f) args H fun _ _ => True → False) (h2 : ∀ K, ¬ WC P cs m (.f f) args H K) {k : Nat} {r : CV × Hp} (hr : evCall P cs k m (.f f) args H = some r) : False := h2 (fun _ _ => True) ⟨k, r, hr, trivial⟩
theorem rd_blds {P : Program} {cfg : Cfg} {ce : CallE} {m : Nat} {ops : Array Oper} {o : Oper} {t e : TypeId} {s : Tmp} {fr : Fr} {H : Hp} {y : CV × Hp} (ho : o.op = .buildSlice t 1 #[(0, .tmp s)]) (g : o.guard = none) (hm : cfg.mu = false) (ht : P.underlying t = some (.slice e)) (he : zeroL P e = some [.v (.int .u8 0)]) (hv : fr s = .tup [] ∨ ∃ v, fr s = .v v) (hy : actX P cfg ce m ops o fr H = some y) : y.2 = H := by
  rw [actX_plain g, ho] at hy
  simp only [opX, opE, stOK, if_true] at hy
  have hp : evP fr [(0, Operand.tmp s)] = some [(0, fr s)] := rfl
  simp only [hp, Option.bind_some, dBuildSlice, ht, he, hm] at hy
  obtain ⟨i, _, hy⟩ := Option.bind_eq_some_iff.1 hy
  split at hy
  · rename_i hc
    obtain ⟨out, h1, h2⟩ := Option.map_eq_some_iff.1 hy
    have hz : out.all clB = true := by
      have hsz : i.size = 1 := by simpa using hc.2.symm
      rcases hv with hv | ⟨v, hv⟩
      · rw [hv] at h1; simp [fillC, cvCells] at h1
      · rw [hv, hsz] at h1
        simp [fillC, cvCells, zerosC] at h1
        subst h1; simp [clB]
    rw [hz] at h2
    simp at h2
    rw [← h2]
  · cases hy
end Go.SL

/- Regions that draw: slots that hold nothing yet, or what is known. -/
namespace Go.SL
set_option linter.unusedVariables false
/-- V: slots that are known; W: slots that hold nothing, or what is known. -/
def OrJ (V W : List (Nat × CV)) : JT := fun fr _ => (∀ p ∈ V, fr p.1 = p.2) ∧ ∀ p ∈ W, fr p.1 = .tup [] ∨ fr p.1 = p.2
theorem keep_or {V W : List (Nat × CV)} {P : Program} {cfg : Cfg} {ce : CallE} {m n : Nat} {ops : Array Oper} {o : Oper} (hV : (V.all fun p => o.dst != some p.1) = true)
    (hW : ∀ p ∈ W, o.dst = some p.1 → ∀ fr H y, OrJ V W fr H → actX P cfg ce m ops o fr H = some y → y.1 = p.2) : KeepJ (OrJ V W) P cfg ce m n ops o := by
  intro fr H s hj hs
  obtain ⟨y, h1, h2⟩ := step_inv hs
  refine ⟨fun p hp => ?_, fun p hp => ?_⟩
  · have hne : o.dst ≠ some p.1 := by have := List.all_eq_true.1 hV p hp; simpa using this
    rw [h2, if_neg hne]; exact hj.1 p hp
  · by_cases hd : o.dst = some p.1
    · rw [h2, if_pos hd]; exact .inr (hW p hp hd fr H _ hj h1)
    · rw [h2, if_neg hd]; exact hj.2 p hp
theorem call_ret_no {P : Program} {cs : Cfgs} {m : Nat} {f : FuncId} {args : List CV} {H : Hp} (h : ∀ K, ¬ WC P cs m (.f f) args H K) {k : Nat} {r : CV × Hp} (hr : evCall P cs k m (.f f) args H = some r) : False := h (fun _ _ => True) ⟨k, r, hr, trivial⟩
end Go.SL

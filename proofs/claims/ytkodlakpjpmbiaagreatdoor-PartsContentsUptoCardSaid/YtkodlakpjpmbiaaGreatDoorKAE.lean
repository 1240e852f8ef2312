/- What the evaluator comes to, the model's calls come to. -/
import Derived.Test.YtkodlakpjpmbiaaGreatDoorKAC
import Derived.LoopNIn
import Derived.OrdersIn
import Derived.TacticsIn
import Derived.Scope
import Derived.RangeFuncLeaves
import Derived.RangeFuncRecord

set_option linter.all false

namespace Go.SL
variable [BaseC]
set_option linter.unusedVariables false

/-- The machine's fence: none; in a round of the loop whose record lies there, or in none. -/
def FW (ro : Option Nat) : Fence := { Fence.wide with round := ro }
theorem callsFW {ro : Option Nat} {n : Nat} {P : Program} {f : FuncId} {args : Array Value} {w : World} {R : Ending → World → Prop} (h : Calls P f args w R) : CallsIn (FW ro) n P f args w R :=
  (callsIn_wide (n := n)).2 h
theorem wpIn_exec {ro : Option Nat} {P : Program} {o : Oper} {a : Act} {w : World} {K : Act → World → Prop} {Q : Exit → Act → World → Prop} (hd : ∀ c, o.op ≠ .defer c) (h : o.uponIn (FW ro) 0 P a K Q ((execOp a.eval o).run P w)) : o.wpIn (FW ro) 0 P a w K Q :=
  ⟨fun _ _ => trivial, by rw [Oper.semAt_eq _ _ _ hd]; exact h⟩

/-- A call's end. -/
def RetP (g : Gh) (H : Hp) (w : World) (r : CV) (H2 : Hp) : Ending → World → Prop :=
  fun e w2 => ∃ v g2, e = .returned v ∧ VR g2 r v ∧ WR g2 H2 w2 ∧ Evo g H w g2 H2 w2

/-- A function, called with such arguments, comes to this. -/
def CallS (P : Program) (m : Nat) (f : FuncId) (args : List CV) (H : Hp) (r : CV) (H2 : Hp) : Prop :=
  ∀ g w vs, WR g H w → ListR g args vs → Keeps m H H2 ∧
    ((∃ v g2 w2, (callFunc f vs).run P w = .ok (.value v) w2 ∧ VR g2 r v ∧ WR g2 H2 w2 ∧ Evo g H w g2 H2 w2) ∨
     ((callFunc f vs).run P w = .ok (.enter f vs) w ∧ Calls P f vs w (RetP g H w r H2)))

theorem getD_some {tmps : Array Value} {d : Nat} {v : Value} (h : tmps.getD d undef = v) (hv : v ≠ undef) : tmps[d]? = some v := by
  rw [Array.getD_eq_getD_getElem?] at h
  cases hd : tmps[d]? with
  | none => rw [hd] at h; exact absurd h.symm hv
  | some u => rw [hd] at h; simp at h; rw [h]

theorem wantC_eq {g : Gh} {fr : Fr} {a : Act} (hf : FrR g fr a) {ops : Array Oper} {o : Oper} {b : Bool} (h : wantC fr ops o = some b) : Region.wanted o (yielded ops a.tmps) = b := by
  unfold wantC at h
  unfold Region.wanted
  split at h
  · rename_i hg; cases h; rw [hg]
  · rename_i j want hg
    rw [hg]
    simp only []
    unfold yielded
    split at h
    · rename_i hd; cases h
      rw [hd]; simp
    · rename_i d hd
      rw [hd]
      simp only [Option.bind_some]
      have hv := hf d
      split at h
      · rename_i q hq
        cases h
        rw [hq] at hv
        obtain ⟨hv, _⟩ := hv.atom
        rw [getD_some hv (by simp [undef])]
        simp only []
        cases q <;> cases want <;> rfl
      · rename_i hq
        cases h
        rw [hq] at hv
        obtain ⟨vs, h1, h2, _⟩ := hv.tup_inv
        have : vs = #[] := by
          have : vs.size = 0 := by simpa using h2.symm
          exact Array.eq_empty_of_size_eq_zero this
        subst this
        cases hd2 : a.tmps[d]? with
        | none => simp
        | some u =>
          rw [Array.getD_eq_getD_getElem?, hd2] at h1
          simp at h1
          subst h1
          simp
      · cases h

theorem putC_put {g : Gh} {fr fr2 : Fr} {a : Act} {n : Nat} {d : Option Tmp} {x : CV} {v : Value} (hf : FrR g fr a) (hn : a.tmps.size = n) (hx : VR g x v) (h : putC n fr d x = some fr2) :
    FrR g fr2 (a.put d v) ∧ (a.put d v).tmps.size = n ∧ (a.put d v).defers = a.defers := by
  unfold putC at h
  cases d with
  | none => cases h; exact ⟨hf, hn, rfl⟩
  | some d =>
    simp only [] at h
    by_cases hd : d < n
    · rw [if_pos hd] at h
      have hd2 : d < a.tmps.size := by rw [hn]; exact hd
      cases h
      refine ⟨fun t => ?_, by simp [Act.put, hn], rfl⟩
      simp only [Act.put]
      by_cases e : t = d
      · subst e
        simp only [if_true]
        rw [Array.getD_eq_getD_getElem?, Array.getElem?_setIfInBounds_self_of_lt hd2]
        exact hx
      · simp only [e, if_false]
        rw [Array.getD_eq_getD_getElem?, Array.getElem?_setIfInBounds_ne (Ne.symm e), ← Array.getD_eq_getD_getElem?]
        exact hf t
    · rw [if_neg hd] at h; cases h

theorem FrR.evo {g g2 : Gh} {H H2 : Hp} {w w2 : World} {fr : Fr} {a : Act} (h : FrR g fr a) (e : Evo g H w g2 H2 w2) : FrR g2 fr a := fun t => e.vr (h t)

theorem ListR.unlit {g : Gh} {xs : List CV} {vs : Array Value} (h : ListR g xs vs) : ListR g (xs.map unlit) vs := by
  obtain ⟨h1, h2⟩ := h
  refine ⟨by simpa using h1, fun i hi hi' => ?_⟩
  rw [List.getElem_map]
  exact (h2 i (by simpa using hi) hi').unlit

theorem ListR.app {g : Gh} {xs ys : List CV} {vs us : Array Value} (h : ListR g xs vs) (k : ListR g ys us) : ListR g (xs ++ ys) (vs ++ us) := by
  obtain ⟨h1, h2⟩ := h
  obtain ⟨k1, k2⟩ := k
  refine ⟨by simp at h1 k1 ⊢; omega, fun i hi hi' => ?_⟩
  simp only [Array.toList_append]
  by_cases hlt : i < xs.length
  · rw [List.getElem_append_left hlt, List.getElem_append_left (by omega)]
    exact h2 i hlt (by omega)
  · rw [List.getElem_append_right (by omega), List.getElem_append_right (by omega)]
    simp only [List.length_append] at hi
    have : i - vs.toList.length = i - xs.length := by rw [h1]
    simp only [this]
    exact k2 (i - xs.length) (by omega) (by omega)

theorem ListR.of {g : Gh} {xs : List CV} {vs : Array Value} (hl : xs.length = vs.size) (h : ∀ i (hi : i < xs.length) (hi' : i < vs.size), VR g xs[i] vs[i]) : ListR g xs vs :=
  ⟨by simpa using hl, fun i hi hi' => by simpa using h i hi (by simpa using hi')⟩

theorem VR.fn_inv {g : Gh} {f : FuncId} {fs cs : List CV} {v : Value} (h : VR g (.fn (.func f) fs cs) v) : ∃ fs' cs', v = .func (.func f) fs' cs' ∧ ListR g fs fs' ∧ ListR g cs cs' := by
  cases h with
  | cl h => cases h
  | fn hl hl2 h h2 _ => exact ⟨_, _, rfl, .of hl h, .of hl2 h2⟩

/-- A round comes to this. -/
def RoundS (P : Program) (m id ver : Nat) (args : List CV) (H : Hp) (r : CV) (H2 : Hp) : Prop :=
  ∀ g w vs fv, WR g H w → ListR g args vs → VR g (.yl id ver) fv → Keeps m H H2 ∧ (∃ v g2 w2, VR g2 r v ∧ WR g2 H2 w2 ∧ Evo g H w g2 H2 w2) ∧
    ∃ l fn tmps assign body, fv = .func (.yield l) #[] #[] ∧ (Instr.yield l vs).run P w = .ok (.round l fn tmps assign body) w ∧ RoundIn (FW none) 0 P l fn tmps assign body w (RetP g H w r H2)
def CeOK (P : Program) (ce : CallE) : Prop := (∀ m f args H r H2, ce m (.f f) args H = some (r, H2) → CallS P m f args H r H2) ∧ ∀ m id ver args H r H2, ce m (.y id ver) args H = some (r, H2) → RoundS P m id ver args H r H2

/-- A call's operation. -/
theorem call_exec {P : Program} {w : World} {a : Act} {f : Operand} {args : Array Operand} {ats : Array TypeId} {dst : Option Tmp} {ty : TypeId} {pos : String} {after : Array Edge} {guard : Option (Nat × Bool)} {n : FuncId} {fs cs : Array Value}
    (h : a.eval f = .func (.func n) fs cs) : (execOp a.eval ⟨dst, .call ⟨.value f, args, ats⟩, ty, pos, after, guard⟩).run P w = (callFunc n (fs ++ args.map a.eval ++ cs)).run P w := by
  unfold execOp
  simp only [resolve, h, Deferred.ofValue, Sem.run_bind, Sem.run_pure, Result.andThen_ok, invoke]

theorem yield_exec {P : Program} {w : World} {a : Act} {f : Operand} {args : Array Operand} {ats : Array TypeId} {dst : Option Tmp} {ty : TypeId} {pos : String} {after : Array Edge} {guard : Option (Nat × Bool)} {l : Nat}
    (h : a.eval f = .func (.yield l) #[] #[]) : (execOp a.eval ⟨dst, .call ⟨.value f, args, ats⟩, ty, pos, after, guard⟩).run P w = (Instr.yield l (args.map a.eval)).run P w := by
  unfold execOp
  simp only [resolve, h, Deferred.ofValue, Sem.run_bind, Sem.run_pure, Result.andThen_ok, invoke]
  simp

theorem opX_good {ro : Option Nat} {P : Program} {cfg : Cfg} {ce : CallE} (hce : CeOK P ce) {m : Nat} {g : Gh} {H H2 : Hp} {w : World} {fr : Fr} {a : Act} {old y : CV} (hw : WR g H w) (hf : FrR g fr a) (o : Oper) (h : opX P cfg ce m fr old H o.op = some (y, H2)) :
    Keeps m H H2 ∧ (∃ v g2 w2, VR g2 y v ∧ WR g2 H2 w2 ∧ Evo g H w g2 H2 w2) ∧ ∀ (K : Act → World → Prop) (Q : Exit → Act → World → Prop), (∀ v g2 w2, VR g2 y v → WR g2 H2 w2 → Evo g H w g2 H2 w2 → K (a.put o.dst v) w2) → o.wpIn (FW ro) 0 P a w K Q := by
  have plain : stOK m fr o.op = true → opE P cfg fr old H o.op = some (y, H2) → Keeps m H H2 ∧ (∃ v g2 w2, VR g2 y v ∧ WR g2 H2 w2 ∧ Evo g H w g2 H2 w2) ∧ ∀ (K : Act → World → Prop) (Q : Exit → Act → World → Prop), (∀ v g2 w2, VR g2 y v → WR g2 H2 w2 → Evo g H w g2 H2 w2 → K (a.put o.dst v) w2) → o.wpIn (FW ro) 0 P a w K Q := by
    intro hok hE
    obtain ⟨v, g2, w2, h1, h2, h3, h4⟩ := opE_good hw hf o hE
    refine ⟨opE_keeps (w := w) hf o.op hok hE, ⟨v, g2, w2, h2, h3, h4⟩, fun K Q hK => ?_⟩
    refine wpIn_exec (fun c e => ?_) ?_
    · rw [e] at hE; cases hE
    rcases h1 with h1 | ⟨h1, rfl⟩
    · rw [h1]; exact hK v g2 w2 h2 h3 h4
    · rw [h1]; exact hK _ g2 w2 h2 h3 h4
  have call : ∀ (n : FuncId) (xs : List CV) (vs : Array Value), ce m (.f n) xs H = some (y, H2) → ListR g xs vs → (execOp a.eval o).run P w = (callFunc n vs).run P w → (∀ c, o.op ≠ .defer c) →
      Keeps m H H2 ∧ (∃ v g2 w2, VR g2 y v ∧ WR g2 H2 w2 ∧ Evo g H w g2 H2 w2) ∧ ∀ (K : Act → World → Prop) (Q : Exit → Act → World → Prop), (∀ v g2 w2, VR g2 y v → WR g2 H2 w2 → Evo g H w g2 H2 w2 → K (a.put o.dst v) w2) → o.wpIn (FW ro) 0 P a w K Q := by
    intro n xs vs hc hl hx hnd
    obtain ⟨hk, hr⟩ := hce.1 m n xs H y H2 hc g w vs hw hl
    rcases hr with ⟨v, g2, w2, h1, h2, h3, h4⟩ | ⟨h1, h2⟩
    · refine ⟨hk, ⟨v, g2, w2, h2, h3, h4⟩, fun K Q hK => ?_⟩
      refine wpIn_exec hnd ?_
      rw [hx, h1]
      exact hK v g2 w2 h2 h3 h4
    · refine ⟨hk, ?_, fun K Q hK => ?_⟩
      · obtain ⟨e, w2, _, ⟨v, g2, _, h3, h4, h5⟩, _⟩ := h2 []
        exact ⟨v, g2, w2, h3, h4, h5⟩
      · refine wpIn_exec hnd ?_
        rw [hx, h1]
        refine ⟨fun e => (by cases e), callsFW (Calls.mono h2 fun e w2 he => ?_)⟩
        obtain ⟨v, g2, rfl, h3, h4, h5⟩ := he
        exact hK v g2 w2 h3 h4 h5
  obtain ⟨dst, op, ty, pos, after, guard⟩ := o
  simp only at h plain call
  unfold opX at h
  split at h
  · rename_i f args ats
    obtain ⟨fv, h1, k1⟩ := Option.bind_eq_some_iff.1 h
    obtain ⟨xs, h2, k2⟩ := Option.bind_eq_some_iff.1 k1
    clear h k1
    have hfv := evO_vr hf h1
    have hxs := (evL_list hf h2).unlit
    cases fv with
    | v q =>
      cases q with
      | func f' q1 q2 =>
        cases f' with
        | func n =>
          simp only [] at k2
          obtain ⟨hv, ha⟩ := hfv.atom
          simp [atomV] at ha
          obtain ⟨rfl, rfl⟩ := ha
          refine call n _ (args.map a.eval) k2 hxs ?_ (fun c e => by cases e)
          rw [call_exec hv]; simp
        | _ => cases k2
      | _ => cases k2
    | fn f' fs cs =>
      cases f' with
      | func n =>
        simp only [] at k2
        obtain ⟨fs', cs', hv, hfs, hcs⟩ := hfv.fn_inv
        exact call n _ (fs' ++ args.map a.eval ++ cs') k2 ((hfs.app hxs).app hcs) (call_exec hv) (fun c e => by cases e)
      | _ => cases k2
    | yl id ver =>
      simp only [] at k2
      obtain ⟨r1, r2, l, fn, tmps, assign, body, hv, hy, hr⟩ := hce.2 m id ver _ H y H2 k2 g w _ _ hw hxs hfv
      refine ⟨r1, r2, fun K Q hK => wpIn_exec (fun c e => by cases e) ?_⟩
      rw [yield_exec hv, hy]
      refine ⟨fun e => (by cases e), RoundIn.mono (show RoundIn (FW ro) 0 P l fn tmps assign body w (RetP g H w y H2) from hr) fun e w2 he => ?_⟩
      obtain ⟨v, g2, rfl, h3, h4, h5⟩ := he
      exact hK v g2 w2 h3 h4 h5
    | _ => cases k2
  · split at h
    · rename_i hok; exact plain hok h
    · cases h

theorem evOps_good {ro : Option Nat} {P : Program} {cfg : Cfg} {ce : CallE} (hce : CeOK P ce) {m n : Nat} {ops : Array Oper} : ∀ (l : List Oper) (fr : Fr) (H : Hp) (fr2 : Fr) (H2 : Hp), evOps P cfg ce m n ops l fr H = some (fr2, H2) →
    ∀ (g : Gh) (w : World) (a : Act), WR g H w → FrR g fr a → a.tmps.size = n → Keeps m H H2 ∧ (∃ g2 w2 a2, WR g2 H2 w2 ∧ FrR g2 fr2 a2 ∧ a2.tmps.size = n ∧ a2.defers = a.defers ∧ Evo g H w g2 H2 w2) ∧ ∀ (Q : Exit → Act → World → Prop),
      (∀ g2 a2 w2, FrR g2 fr2 a2 → a2.tmps.size = n → a2.defers = a.defers → WR g2 H2 w2 → Evo g H w g2 H2 w2 → Q .normal a2 w2) → wpListIn (FW ro) 0 P ops Q l a w
  | [], fr, H, fr2, H2, h, g, w, a, hw, hf, hn => by
    simp only [evOps, Option.some.injEq, Prod.mk.injEq] at h
    obtain ⟨rfl, rfl⟩ := h
    exact ⟨Keeps.refl _ _, ⟨g, w, a, hw, hf, hn, rfl, Evo.refl g H w⟩, fun Q hQ => hQ g a w hf hn rfl hw (Evo.refl g H w)⟩
  | o :: rest, fr, H, fr2, H2, h, g, w, a, hw, hf, hn => by
    unfold evOps at h
    obtain ⟨b, hb, h⟩ := Option.bind_eq_some_iff.1 h
    have hwant := wantC_eq hf hb
    split at h
    · rename_i htrue
      obtain ⟨⟨y, H1⟩, hy, h⟩ := Option.bind_eq_some_iff.1 h
      obtain ⟨fr1, hfr1, h⟩ := Option.bind_eq_some_iff.1 h
      obtain ⟨k1, ⟨v0, g0, w0, v1, v2, v3⟩, k2⟩ := opX_good hce hw hf o hy
      obtain ⟨p1, p2, p3⟩ := putC_put (hf.evo v3) hn v1 hfr1
      obtain ⟨r1, ⟨g9, w9, a9, z1, z2, z3, z4, z5⟩, r3⟩ := evOps_good (ro := ro) hce rest fr1 H1 fr2 H2 h g0 w0 (a.put o.dst v0) v2 p1 p2
      refine ⟨k1.trans r1, ⟨g9, w9, a9, z1, z2, z3, z4.trans p3, v3.trans z5⟩, fun Q hQ => ?_⟩
      unfold wpListIn
      rw [if_pos (by rw [hwant, htrue])]
      refine k2 _ Q fun v g2 w2 q1 q2 q3 => ?_
      obtain ⟨p1, p2, p3⟩ := putC_put (hf.evo q3) hn q1 hfr1
      obtain ⟨_, _, r3⟩ := evOps_good (ro := ro) hce rest fr1 H1 fr2 H2 h g2 w2 (a.put o.dst v) q2 p1 p2
      exact r3 Q fun g3 a3 w3 s1 s2 s3 s4 s5 => hQ g3 a3 w3 s1 s2 (s3.trans p3) s4 (q3.trans s5)
    · rename_i hfalse
      obtain ⟨fr1, hfr1, h⟩ := Option.bind_eq_some_iff.1 h
      obtain ⟨p1, p2, p3⟩ := putC_put hf hn (VR.undef g) hfr1
      obtain ⟨r1, ⟨g9, w9, a9, z1, z2, z3, z4, z5⟩, r3⟩ := evOps_good (ro := ro) hce rest fr1 H fr2 H2 h g w (a.put o.dst undef) hw p1 p2
      refine ⟨r1, ⟨g9, w9, a9, z1, z2, z3, z4.trans p3, z5⟩, fun Q hQ => ?_⟩
      unfold wpListIn
      rw [if_neg (by rw [hwant]; exact hfalse)]
      refine ⟨fun _ _ => trivial, ?_⟩
      exact r3 Q fun g3 a3 w3 s1 s2 s3 s4 s5 => hQ g3 a3 w3 s1 s2 (s3.trans p3) s4 s5

/-- How many are not listed yet. -/
def left (ops : Array Oper) (listed : Array Bool) : Nat := ((List.range ops.size).filter fun j => !listed.getD j true).length
theorem left_set {ops : Array Oper} {listed : Array Bool} {i : Nat} (h : i ∈ Region.ready .any ops listed) : left ops (listed.setIfInBounds i true) < left ops listed := by
  obtain ⟨h0, o, ho, _⟩ := mem_ready.1 h
  have hi : i < ops.size := (Array.getElem?_eq_some_iff.1 ho).1
  have hsub : (List.range ops.size).filter (fun j => !(listed.setIfInBounds i true).getD j true) = ((List.range ops.size).filter fun j => !listed.getD j true).filter fun j => j != i := by
    rw [List.filter_filter]
    refine List.filter_congr fun j hj => ?_
    by_cases e : i = j
    · subst e
      have hlt : i < listed.size := by
        rcases Nat.lt_or_ge i listed.size with h' | h'
        · exact h'
        · simp [Array.getElem?_eq_none h'] at h0
      simp [hlt]
    · rw [getD_set_ne true e]
      have : (j != i) = true := by simpa using Ne.symm e
      rw [this]; simp
  unfold left
  rw [hsub]
  refine List.length_filter_lt_length_iff_exists.2 ⟨i, List.mem_filter.2 ⟨List.mem_range.2 hi, by rw [h0]; rfl⟩, by simp⟩
theorem LinX.exist {ops : Array Oper} : ∀ (n : Nat) (listed : Array Bool), left ops listed ≤ n → ∃ l, LinX ops l listed
  | n, listed, hn => by
    cases hr : Region.ready .any ops listed with
    | nil => exact ⟨[], hr⟩
    | cons i rs =>
      have hi : i ∈ Region.ready .any ops listed := by rw [hr]; simp
      have := left_set hi
      cases n with
      | zero => omega
      | succ n =>
        obtain ⟨l, hl⟩ := LinX.exist (ops := ops) n (listed.setIfInBounds i true) (by omega)
        exact ⟨i :: l, hi, hl⟩

theorem evAny_good {ro : Option Nat} {P : Program} {cfg : Cfg} {ce : CallE} (hce : CeOK P ce) {m n : Nat} {ops : Array Oper} {fr2 : Fr} {H2 : Hp} : ∀ (k : Nat) (listed : Array Bool), left ops listed ≤ k → ∀ (fr : Fr) (H : Hp) (g : Gh) (w : World) (a : Act), WR g H w → FrR g fr a → a.tmps.size = n →
    (∀ l, LinX ops l listed → evIx P cfg ce m n ops l fr H = some (fr2, H2)) → ∀ (Q : Exit → Act → World → Prop),
      (∀ g2 a2 w2, FrR g2 fr2 a2 → a2.tmps.size = n → a2.defers = a.defers → WR g2 H2 w2 → Evo g H w g2 H2 w2 → Q .normal a2 w2) → wpAnyIn (FW ro) 0 P .any ops Q k listed a w := by
  intro k
  have done : ∀ (listed : Array Bool) (fr : Fr) (H : Hp) (g : Gh) (w : World) (a : Act), WR g H w → FrR g fr a → a.tmps.size = n →
      (∀ l, LinX ops l listed → evIx P cfg ce m n ops l fr H = some (fr2, H2)) → ∀ (Q : Exit → Act → World → Prop),
      (∀ g2 a2 w2, FrR g2 fr2 a2 → a2.tmps.size = n → a2.defers = a.defers → WR g2 H2 w2 → Evo g H w g2 H2 w2 → Q .normal a2 w2) → Region.ready .any ops listed = [] → Q .normal a w := by
    intro listed fr H g w a hw hf hn hall Q hQ hr
    have := hall [] hr
    simp only [evIx, List.filterMap_nil, evOps, Option.some.injEq, Prod.mk.injEq] at this
    obtain ⟨rfl, rfl⟩ := this
    exact hQ g a w hf hn rfl hw (Evo.refl g H w)
  induction k with
  | zero =>
    intro listed hk fr H g w a hw hf hn hall Q hQ
    have hr : Region.ready .any ops listed = [] := by
      cases hr : Region.ready .any ops listed with
      | nil => rfl
      | cons i rs => have := left_set (i := i) (ops := ops) (listed := listed) (by rw [hr]; simp); omega
    exact ⟨hr, done listed fr H g w a hw hf hn hall Q hQ hr⟩
  | succ k ih =>
    intro listed hk fr H g w a hw hf hn hall Q hQ
    refine ⟨done listed fr H g w a hw hf hn hall Q hQ, fun i hi => ?_⟩
    have hlt := left_set hi
    obtain ⟨_, o, ho, _⟩ := mem_ready.1 hi
    obtain ⟨l0, hl0⟩ := LinX.exist (ops := ops) _ (listed.setIfInBounds i true) (Nat.le_refl _)
    have h0 := hall (i :: l0) ⟨hi, hl0⟩
    have hcons : ∀ l, (i :: l).filterMap (ops[·]?) = o :: l.filterMap (ops[·]?) := fun l => by rw [List.filterMap_cons, ho]
    unfold wpOpIn
    simp only [ho]
    have h := h0
    unfold evIx at h
    rw [hcons] at h
    unfold evOps at h
    obtain ⟨b, hb, h⟩ := Option.bind_eq_some_iff.1 h
    have hwant := wantC_eq hf hb
    cases b with
    | true =>
      simp only [if_true] at h
      obtain ⟨⟨y, H1⟩, hy, h⟩ := Option.bind_eq_some_iff.1 h
      obtain ⟨fr1, hfr1, h⟩ := Option.bind_eq_some_iff.1 h
      obtain ⟨_, _, k2⟩ := opX_good hce hw hf o hy
      rw [if_pos hwant]
      refine k2 _ Q fun v g2 w2 q1 q2 q3 => ?_
      obtain ⟨p1, p2, p3⟩ := putC_put (hf.evo q3) hn q1 hfr1
      refine ih _ (by omega) fr1 H1 g2 w2 _ q2 p1 p2 (fun l hl => ?_) Q fun g3 a3 w3 s1 s2 s3 s4 s5 => hQ g3 a3 w3 s1 s2 (s3.trans p3) s4 (q3.trans s5)
      have h' := hall (i :: l) ⟨hi, hl⟩
      unfold evIx at h'
      rw [hcons] at h'
      unfold evOps at h'
      simp only [hb, Option.bind_some, if_true, hy, hfr1] at h'
      exact h'
    | false =>
      simp only [Bool.false_eq_true, if_false] at h
      obtain ⟨fr1, hfr1, h⟩ := Option.bind_eq_some_iff.1 h
      obtain ⟨p1, p2, p3⟩ := putC_put hf hn (VR.undef g) hfr1
      rw [if_neg (by rw [hwant]; simp)]
      refine ⟨fun _ _ => trivial, ?_⟩
      refine ih _ (by omega) fr1 H g w _ hw p1 p2 (fun l hl => ?_) Q fun g3 a3 w3 s1 s2 s3 s4 s5 => hQ g3 a3 w3 s1 s2 (s3.trans p3) s4 s5
      have h' := hall (i :: l) ⟨hi, hl⟩
      unfold evIx at h'
      rw [hcons] at h'
      unfold evOps at h'
      simp only [hb, Option.bind_some, Bool.false_eq_true, if_false, hfr1] at h'
      exact h'

theorem left_all (ops : Array Oper) : left ops (Array.replicate ops.size false) ≤ ops.size := by
  unfold left
  exact Nat.le_trans (List.length_filter_le _ _) (by simp)

theorem later_drawn (w : World) : Later w { w with drawn := w.drawn + 1 } := ⟨rfl, rfl, rfl, Nat.le_refl _, fun _ _ => rfl⟩

def Ex.to : Ex → Exit
  | .norm => .normal
  | .exit id => .exit id
  | .goto l => .goto l
  | .ret => .ret

/-- The marks of the loops that have been gone through: their blocks are nobody's, and younger than the call. -/
def DefOK (B : Nat) (g : Gh) (H : Hp) (ds : List Deferred) (w : World) : Prop :=
  ds.Pairwise (· ≠ ·) ∧ ∀ d ∈ ds, ∃ D, d = { target := .collected D, args := #[] } ∧ B ≤ D ∧ w.heap[D]? = some (.deferred (some [])) ∧ ¬ Mine g H D
theorem DefOK.evo {B : Nat} {g g2 : Gh} {H H2 : Hp} {ds : List Deferred} {w w2 : World} (h : DefOK B g H ds w) (e : Evo g H w g2 H2 w2) : DefOK B g2 H2 ds w2 := by
  refine ⟨h.1, fun d hd => ?_⟩
  obtain ⟨D, h1, h2, h3, h4⟩ := h.2 d hd
  have hlt := (Array.getElem?_eq_some_iff.1 h3).1
  exact ⟨D, h1, h2, (e.keep D hlt h4).trans h3, fun hm => (e.grow D hm).elim (fun h5 => by omega) h4⟩

theorem DefOK.nil (B : Nat) (g : Gh) (H : Hp) (w : World) : DefOK B g H [] w := ⟨.nil, fun d hd => by cases hd⟩

/-- A block that is nobody's is turned. -/
theorem WR.other {g : Gh} {H : Hp} {w : World} (h : WR g H w) {D : Nat} {x : Option (List Deferred)} {o' : Obj} (hD : w.heap[D]? = some (.deferred x)) (hm : ¬ Mine g H D) : WR g H (w.putObj D o') := by
  refine ⟨h.len, fun id x l a b => ?_, h.inj, fun b q v hb => ?_, h.dis, fun b hb => by rw [World.putObj_size]; exact h.own b hb, h.base, h.org, fun b c hb => by
    obtain ⟨e2, f2, h2⟩ := h.blk b c hb
    exact ⟨e2, f2, by rw [World.putObj_heap_other (by rintro rfl; rw [hD] at h2; cases h2)]; exact h2⟩⟩
  · by_cases hlv : x.live = true
    · refine (h.obj id x l a b).congr (World.putObj_heap_other fun e => hm ?_)
      exact .inr ⟨id, x, l, a, hlv, b, e⟩
    · cases x with
      | gone ver => exact h.obj id _ l a b
      | cells => simp [CO.live] at hlv
      | map => simp [CO.live] at hlv
      | loop => simp [CO.live] at hlv
  · have := h.im b q v hb
    refine ⟨?_, this.2⟩
    have hne : b ≠ D := by
      rintro rfl
      have h1 := this.1
      simp [World.cell?, hD] at h1
    rw [World.cell?_of_block (w := w) (w' := w.putObj D o') (a := ⟨b, q, none⟩) (World.putObj_heap_other hne)]
    exact this.1

theorem leaves_marks {P : Program} {fn : Func} {tmps : Array Value} {R : Ending → World → Prop} {B : Nat} {g g0 : Gh} {H H0 : Hp} {w0 : World} (hB : w0.heap.size ≤ B) : ∀ (ds : List Deferred) (w : World), WR g H w → Evo g0 H0 w0 g H w → DefOK B g H ds w →
    (∀ w', WR g H w' → Evo g0 H0 w0 g H w' → ∃ v, (results fn tmps).run P w' = .ok v w' ∧ R (.returned v) w') → LeavesInM (FW none) 0 P fn tmps R ds .returning w
  | [], w, hw, he, hd, hK => hK w hw he
  | d :: ds, w, hw, he, hd, hK => by
    obtain ⟨D, rfl, h2, h3, h4⟩ := hd.2 d (by simp)
    have hD := (Array.getElem?_eq_some_iff.1 h3).1
    refine ⟨fun e => (by cases e), .inl ⟨D, _, rfl, run_takeDeferred h3, ?_⟩⟩
    have hp := List.pairwise_cons.1 hd.1
    refine leaves_marks hB ds _ (hw.other h3 h4) ⟨he.os, he.tape, he.output, by rw [World.putObj_size]; exact he.size, fun b hb hm => ?_, he.grow, he.im, he.locs, he.ownm⟩ ⟨hp.2, fun d' hd' => ?_⟩ hK
    · rw [World.putObj_heap_other (by omega)]; exact he.keep b hb hm
    · obtain ⟨D', k1, k2, k3, k4⟩ := hd.2 d' (by simp [hd'])
      have hne : D' ≠ D := fun e => hp.1 d' hd' (by rw [k1, e])
      exact ⟨D', k1, k2, by rw [World.putObj_heap_other hne]; exact k3, k4⟩

/-- What code comes to. -/
def CodeG (ro : Option Nat) (P : Program) (m n : Nat) (c : Code) (fr : Fr) (H : Hp) (e : Ex) (fr2 : Fr) (H2 : Hp) : Prop :=
  ∀ (B : Nat) (g : Gh) (w : World) (a : Act), WR g H w → FrR g fr a → a.tmps.size = n → B ≤ w.heap.size → DefOK B g H a.defers w →
    Keeps m H H2 ∧ (∃ g2 w2 a2, WR g2 H2 w2 ∧ FrR g2 fr2 a2 ∧ a2.tmps.size = n ∧ DefOK B g2 H2 a2.defers w2 ∧ Evo g H w g2 H2 w2) ∧ ∀ (Q : Exit → Act → World → Prop),
      (∀ g2 a2 w2, FrR g2 fr2 a2 → a2.tmps.size = n → DefOK B g2 H2 a2.defers w2 → WR g2 H2 w2 → Evo g H w g2 H2 w2 → Q e.to a2 w2) → c.wpIn (FW ro) 0 P Q a w

theorem CodeG.now {ro : Option Nat} {P : Program} {m n : Nat} {c : Code} {fr : Fr} {H : Hp} {e : Ex} (h : ∀ (Q : Exit → Act → World → Prop) a w, Q e.to a w → c.wpIn (FW ro) 0 P Q a w) : CodeG ro P m n c fr H e fr H :=
  fun B g w a hw hf hn hB hd => ⟨Keeps.refl _ _, ⟨g, w, a, hw, hf, hn, hd, Evo.refl g H w⟩, fun Q hQ => h Q a w (hQ g a w hf hn hd hw (Evo.refl g H w))⟩

theorem loop_at {g : Gh} {H : Hp} {w : World} (h : WR g H w) {id v : Nat} {fn : FuncId} {ts : List CV} {ps : Array Tmp} {a b : Code} {st : LoopState} {pe : Option Code} (ho : H[id]? = some (.loop v fn ts ps a b st pe)) :
    ∃ l r, g.locs[id]? = some l ∧ l.ver = v ∧ w.heap[l.b]? = some (.loop r) ∧ (∀ i, VR g (ts.getD i (.tup [])) (r.tmps.getD i undef)) ∧ r.tmps.size = ts.length ∧ r.params = ps ∧ r.assign = a ∧ r.body = b ∧ r.state = st ∧ r.pending = pe := by
  have hid := (List.getElem?_eq_some_iff.1 ho).1
  have hl : id < g.locs.length := by rw [h.len]; exact hid
  obtain ⟨h1, r, h2⟩ := h.obj id _ _ ho (List.getElem?_eq_getElem hl)
  exact ⟨_, r, List.getElem?_eq_getElem hl, h1, h2⟩
theorem loop_set {g : Gh} {H : Hp} {w : World} (h : WR g H w) {id v : Nat} {fn : FuncId} {ts : List CV} {ps : Array Tmp} {a b : Code} {st : LoopState} {pe : Option Code} (ho : H[id]? = some (.loop v fn ts ps a b st pe)) {l : Loc} {r : Loop} (hl : g.locs[id]? = some l)
    (hr : w.heap[l.b]? = some (.loop r)) (st' : LoopState) (pe' : Option Code) : WR g (H.set id (.loop v fn ts ps a b st' pe')) (w.putObj l.b (.loop { r with state := st', pending := pe' })) ∧ Evo g H w g (H.set id (.loop v fn ts ps a b st' pe')) (w.putObj l.b (.loop { r with state := st', pending := pe' })) := by
  obtain ⟨l', r', k1, k2, k3, k4, k5, k6, k7, k8, k9, k10⟩ := loop_at h ho
  rw [hl] at k1; cases k1
  rw [hr] at k3; cases k3
  have hlt := (Array.getElem?_eq_some_iff.1 hr).1
  exact h.upd ho rfl rfl hl rfl rfl rfl World.putObj_size.symm (fun q hq => World.putObj_heap_other hq) ⟨k2, _, World.putObj_heap_same hlt, k4, k5, k6, k7, k8, rfl, rfl⟩ (fun _ _ h => by cases h)
theorem same_loc {g g1 : Gh} {H H1 : Hp} {w w1 : World} (e : Evo g H w g1 H1 w1) {id : Nat} {l l1 : Loc} (h : g.locs[id]? = some l) (h1 : g1.locs[id]? = some l1) (hv : l1.ver = l.ver) : l1 = l := by
  obtain ⟨l2, h2, h3⟩ := e.locs id l h
  rw [h1] at h2; cases h2
  rcases h3 with h3 | h3
  · omega
  · exact h3

theorem Mine.lt {g : Gh} {H : Hp} {w : World} (hw : WR g H w) {b : Nat} (h : Mine g H b) : b < w.heap.size := by
  rcases h with h | ⟨id, o, l, h1, h2, h3, h4⟩
  · exact (hw.own b h).1
  · rw [← h4]; exact (hw.obj id o l h1 h3).lt h2

/-- A range over a function comes to what its evaluation says. -/
theorem range_good {P : Program} {cfg : Cfg} {ce : CallE} (hce : CeOK P ce) (hname : ∀ (f : FuncId) (fn : Func), P.funcs[f]? = some fn → fn.name ≠ "runtime.NumGoroutine") {m n k : Nat} {f : Operand} {ps : Array Tmp} {x y : Code} {fr fr2 : Fr} {H H2 : Hp} {e : Ex}
    (h : ev P cfg ce m n (k + 1) (.rangeFunc f ps x y) fr H = some (e, fr2, H2)) : CodeG none P m n (.rangeFunc f ps x y) fr H e fr2 H2 := by
  simp only [ev] at h
  split at h
  · cases h
  obtain ⟨fv, hfv, hA⟩ := Option.bind_eq_some_iff.1 h
  clear h
  split at hA
  rotate_left
  · cases hA
  rename_i gf cap
  split at hA
  rotate_left
  · cases hA
  rename_i hbody
  obtain ⟨⟨r, HH⟩, hcall, hB⟩ := Option.bind_eq_some_iff.1 hA
  clear hA
  simp only at hB
  split at hB
  rotate_left
  · cases hB
  rename_i fn1 ts1 ps1 a1 b1 st pe hHH
  split at hB
  · cases hB
  rename_i hst
  obtain ⟨e', he', hB⟩ := Option.map_eq_some_iff.1 hB
  simp only [Prod.mk.injEq] at hB
  obtain ⟨rfl, rfl, rfl⟩ := hB
  intro B g w a hw hf hn hBs hd
  obtain ⟨fs', cap', hv, hfs, hcap⟩ := (evO_vr hf hfv).fn_inv
  have hfs' : fs' = #[] := by
    have := hfs.1
    apply Array.eq_empty_of_size_eq_zero
    simpa using this.symm
  subst hfs'
  obtain ⟨fn0, hfn0, hb0⟩ := Option.isSome_iff_exists.1 hbody |>.elim fun c hc => Option.bind_eq_some_iff.1 hc |>.elim fun fn0 h => (⟨fn0, h.1, by rw [h.2]; rfl⟩ : ∃ fn0, P.funcs[gf]? = some fn0 ∧ fn0.body.isSome = true)
  obtain ⟨c0, hc0⟩ := Option.isSome_iff_exists.1 hb0
  have henter : ∀ args w, (callFunc gf args).run P w = .ok (.enter gf args) w := fun args w => by
    have := hname gf fn0 hfn0
    simp [callFunc, hfn0, this, hc0]
  obtain ⟨l, hl⟩ : ∃ l : Loc, l = ⟨w.heap.size + 1, 0, 0, 0⟩ := ⟨_, rfl⟩
  have hlb : l.b = w.heap.size + 1 := by rw [hl]
  have hlv : l.ver = 0 := by rw [hl]
  have start : ∀ fn : FuncId, ∃ W1, (Instr.enterLoop fn a.tmps ps x y none).run P w = .ok (l.b, [{ target := .collected w.heap.size, args := #[] }]) W1 ∧ WR (g.add l) (H ++ [.loop 0 cfg.fn ((List.range n).map fr) ps x y .ready none]) W1 ∧
      Evo g H w (g.add l) (H ++ [.loop 0 cfg.fn ((List.range n).map fr) ps x y .ready none]) W1 ∧ W1.heap[w.heap.size]? = some (.deferred (some [])) := by
    intro fn
    have h1 := run_enterLoop_outer (P := P) (w := w) fn a.tmps ps x y
    rw [← hlb] at h1
    refine ⟨_, h1, ?_⟩
    have lat : Later w ((w.alloc (.deferred (some []))).alloc (.loop { state := .ready, pending := none, fn, tmps := a.tmps, params := ps, assign := x, body := y, defers := w.heap.size })) :=
      ⟨rfl, rfl, rfl, by simp; omega, fun b hb => by rw [heap_alloc_lt _ _ _ (by simp; omega), heap_alloc_lt _ _ _ hb]⟩
    obtain ⟨f1, f2, f3⟩ := hw.free_new (show w.heap.size ≤ w.heap.size + 1 by omega)
    rw [← hlb] at f1 f2 f3
    refine ⟨(hw.later lat).add _ l f1 f2 f3 ⟨hlv, { state := .ready, pending := none, fn, tmps := a.tmps, params := ps, assign := x, body := y, defers := w.heap.size }, ?_, fun i => ?_, by simpa using hn, rfl, rfl, rfl, rfl, rfl⟩ (fun _ _ h => by cases h),
      ⟨rfl, rfl, rfl, lat.size, fun b hb _ => lat.old b hb, fun b hb => (hb.add hw.len).imp (fun e => by rw [e, hlb]; omega) id, fun _ _ _ h => h, locs_app g _, fun _ h => h⟩, ?_⟩
    · rw [hlb]
      have := World.alloc_heap_new (w.alloc (.deferred (some []))) (.loop { state := .ready, pending := none, fn, tmps := a.tmps, params := ps, assign := x, body := y, defers := w.heap.size })
      rwa [World.size_alloc] at this
    · refine VR.mono (g := g) (g2 := g.add l) (fun _ _ _ x => x) (locs_app g _) (fun _ h => h) ?_
      by_cases hi : i < n
      · rw [List.getD_eq_getElem?_getD]
        simp only [List.getElem?_map, List.getElem?_range hi, Option.map_some, Option.getD_some]
        exact hf i
      · rw [List.getD_eq_getElem?_getD, List.getElem?_eq_none (by simp; omega), Array.getD_eq_getD_getElem?, Array.getElem?_eq_none (by show a.tmps.size ≤ i; omega)]
        exact VR.undef _
    · rw [heap_alloc_lt _ _ _ (by simp)]; exact World.alloc_heap_new w _
  have hloc : (g.add l).locs[H.length]? = some l := g.add_last hw l
  have args : ListR (g.add l) (.yl H.length 0 :: cap) (#[.func (.yield l.b) #[] #[]] ++ cap') := by
    have h1 : ListR (g.add l) [.yl H.length 0] #[.func (.yield l.b) #[] #[]] := ⟨rfl, fun i hi hi' => by
      have : i = 0 := by simp at hi; omega
      subst this; exact .yl hloc hlv.symm⟩
    have h2 : ListR (g.add l) cap cap' := ⟨hcap.1, fun i hi hi' => VR.mono (g := g) (g2 := g.add l) (fun _ _ _ x => x) (locs_app g _) (fun _ h => h) (hcap.2 i hi hi')⟩
    exact h1.app h2
  have marks : ∀ W1, Evo g H w (g.add l) (H ++ [.loop 0 cfg.fn ((List.range n).map fr) ps x y .ready none]) W1 → W1.heap[w.heap.size]? = some (.deferred (some [])) →
      DefOK B (g.add l) (H ++ [.loop 0 cfg.fn ((List.range n).map fr) ps x y .ready none]) ({ target := .collected w.heap.size, args := #[] } :: a.defers) W1 := by
    intro W1 he hD
    have h1 := hd.evo he
    refine ⟨List.pairwise_cons.2 ⟨fun d' hd' => ?_, h1.1⟩, fun d' hd' => ?_⟩
    · obtain ⟨D', k1, k2, k3, k4⟩ := hd.2 d' hd'
      have := (Array.getElem?_eq_some_iff.1 k3).1
      rw [k1]
      simp only [ne_eq, Deferred.mk.injEq, Target.collected.injEq, and_true]
      omega
    · rcases List.mem_cons.1 hd' with rfl | hd'
      · refine ⟨_, rfl, hBs, hD, fun hm => ?_⟩
        rcases hm.add hw.len with e | e
        · rw [hlb] at e; omega
        · exact absurd (e.lt hw) (by omega)
      · exact h1.2 d' hd'
  have fin : ∀ W1 g2 w2, WR g2 HH w2 → Evo (g.add l) (H ++ [.loop 0 cfg.fn ((List.range n).map fr) ps x y .ready none]) W1 g2 HH w2 → ∃ r2, w2.heap[l.b]? = some (.loop r2) ∧ r2.state ≠ .busy ∧ r2.pending = pe ∧
      WR g2 (HH.set H.length (.loop 0 fn1 ts1 ps1 a1 b1 .exhausted pe)) (w2.putObj l.b (.loop { r2 with state := .exhausted })) ∧ Evo g2 HH w2 g2 (HH.set H.length (.loop 0 fn1 ts1 ps1 a1 b1 .exhausted pe)) (w2.putObj l.b (.loop { r2 with state := .exhausted })) := by
    intro W1 g2 w2 hw2 he2
    obtain ⟨l', r2, q1, q2, q3, _, _, _, _, _, q9, q10⟩ := loop_at hw2 hHH
    obtain rfl := same_loc he2 hloc q1 (by omega)
    obtain ⟨s1, s2⟩ := loop_set hw2 hHH q1 q3 .exhausted pe
    have e : ({ r2 with state := .exhausted, pending := pe } : Loop) = { r2 with state := .exhausted } := by rw [← q10]
    rw [e] at s1 s2
    exact ⟨r2, q3, by rw [q9]; exact hst, q10, s1, s2⟩
  obtain ⟨W0, st1, st2, st3, st4⟩ := start 0
  obtain ⟨K1, hcs⟩ := hce.1 m gf _ _ r HH hcall (g.add l) W0 _ st2 args
  have hset : Keeps m HH (HH.set H.length (.loop 0 fn1 ts1 ps1 a1 b1 .exhausted pe)) := Keeps.set fun m' _ _ h3 h4 => (show topLeL m' ts1 = true from h3 _ _ h4 hHH)
  refine ⟨(Keeps.app m H _).trans (K1.trans hset), ?_, fun Q hQ => wpIn_rangeFunc fun fn _ => ?_⟩
  · rcases hcs with ⟨v, g2, w2, q1, _⟩ | ⟨_, q2⟩
    · rw [henter] at q1; cases q1
    · obtain ⟨e0, w2, _, ⟨v, g2, _, h3, h4, h5⟩, _⟩ := q2 []
      obtain ⟨r2, n1, n2, n3, n4, n5⟩ := fin W0 g2 w2 h4 h5
      have E := st3.trans (h5.trans n5)
      exact ⟨g2, _, { a with defers := { target := .collected w.heap.size, args := #[] } :: a.defers }, n4, hf.evo E, hn, (marks W0 st3 st4).evo (h5.trans n5), E⟩
  · obtain ⟨W1, s1, s2, s3, s4⟩ := start fn
    obtain ⟨_, hcs⟩ := hce.1 m gf _ _ r HH hcall (g.add l) W1 _ s2 args
    refine ⟨l.b, [{ target := .collected w.heap.size, args := #[] }], W1, { target := .fn (.func gf) cap', args := #[.func (.yield l.b) #[] #[]] }, W1, gf, #[.func (.yield l.b) #[] #[]] ++ cap', W1, s1, ?_, fun _ _ => trivial, ?_, fun e => (by cases e), ?_⟩
    · simp [resolve, rangeCall, hv, Deferred.ofValue]; rfl
    · simp only [invoke, henter]
    · rcases hcs with ⟨v, g2, w2, q1, _⟩ | ⟨_, q2⟩
      · rw [henter] at q1; cases q1
      · refine callsFW (Calls.mono q2 fun e0 w2 he0 => ?_)
        obtain ⟨v, g2, rfl, h3, h4, h5⟩ := he0
        obtain ⟨r2, n1, n2, n3, n4, n5⟩ := fin W1 g2 w2 h4 h5
        have E := s3.trans (h5.trans n5)
        refine ⟨_, _, run_endLoop n1 n2, ?_⟩
        have hQ' := hQ g2 { a with defers := { target := .collected w.heap.size, args := #[] } :: a.defers } _ (hf.evo E) hn ((marks W1 s3 s4).evo (h5.trans n5)) n4 E
        rw [n3] at hQ' ⊢
        unfold jumpEx at he'
        split at he'
        · cases he'; exact hQ'
        · cases he'; exact wpIn_exit hQ'
        · cases he'; exact wpIn_goto hQ'
        · cases he'; exact wpIn_ret hQ'
        · cases he'

theorem stepR_scope {P : Program} {b : Frame} {a : Act} {k : List Item} {cs : List Frame} {w : World} {c : Code} : step P (lone (b.atR a (.code (.scope c) :: k)) cs w) = .next (lone (b.atR a (.code c :: .inScope c :: k)) cs w) :=
  step_lone_go (by simp [stepG, stepG.exec, Frame.atR])
theorem stepR_inScope {P : Program} {b : Frame} {a : Act} {k : List Item} {cs : List Frame} {w : World} {c : Code} : step P (lone (b.atR a (.inScope c :: k)) cs w) = .next (lone (b.atR a k) cs w) :=
  step_lone_go (by simp [stepG, stepG.exec, Frame.atR])
/-- A scope through which no jump to a label goes. -/
theorem wpIn_scope {F : Fence} {n : Nat} {P : Program} {Q : Exit → Act → World → Prop} {a : Act} {w : World} {c : Code} (h : c.wpIn F n P (fun e a w => (∀ l, e ≠ .goto l) ∧ Q e a w) a w) : (Code.scope c).wpIn F n P Q a w := by
  intro b k cs hro hb hr
  have h0 : (lone (b.atR a (.code (.scope c) :: k)) cs w).fenced P F := fenced_calm hb hr rfl
  obtain ⟨e, a₁, w₁, ⟨hng, hq⟩, harr⟩ := h b (.inScope c :: k) cs hro hb hr
  cases e with
  | normal => exact ⟨.normal, a₁, w₁, hq, .head h0 stepR_scope (StepsIn.trans harr (.one (fenced_calm hb hr rfl) stepR_inScope))⟩
  | exit id' =>
    have hx : exitTo id' (.inScope c :: k) = exitTo id' k := by simp [exitTo]
    exact ⟨.exit id', a₁, w₁, hq, fun k' hk => .head h0 stepR_scope (harr.1 k' (by rw [hx]; exact hk)),
      fun hr' hk => let ⟨k₁, h1, h2⟩ := harr.2 hr' (by rw [hx]; exact hk); ⟨k₁, h1, .head h0 stepR_scope h2⟩⟩
  | goto l => exact absurd rfl (hng l)
  | ret => exact ⟨_, a₁, w₁, hq, .of_steps (.one h0 stepR_scope) harr⟩
  | panic ch => exact ⟨_, a₁, w₁, hq, .of_steps (.one h0 stepR_scope) harr⟩
  | outgrown => exact ⟨_, a₁, w₁, hq, .of_steps (.one h0 stepR_scope) harr⟩

theorem ev_good {ro : Option Nat} {P : Program} (hname : ∀ (f : FuncId) (fn : Func), P.funcs[f]? = some fn → fn.name ≠ "runtime.NumGoroutine") {cfg : Cfg} (hro : cfg.inR = false → ro = none) {ce : CallE} (hce : CeOK P ce) {m n : Nat} : ∀ (k : Nat) (c : Code) (fr : Fr) (H : Hp) (e : Ex) (fr2 : Fr) (H2 : Hp), ev P cfg ce m n k c fr H = some (e, fr2, H2) →
    CodeG ro P m n c fr H e fr2 H2 ∧ (∀ c', c = .loop c' → ∀ (B : Nat) (g : Gh) (w : World) (a : Act), WR g H w → FrR g fr a → a.tmps.size = n → B ≤ w.heap.size → DefOK B g H a.defers w → ∀ (Q : Exit → Act → World → Prop),
      (∀ g2 a2 w2, FrR g2 fr2 a2 → a2.tmps.size = n → DefOK B g2 H2 a2.defers w2 → WR g2 H2 w2 → Evo g H w g2 H2 w2 → Q e.to a2 w2) → Code.roundsIn (FW ro) 0 P c' Q k a w) := by
  intro k
  induction k with
  | zero => intro c fr H e fr2 H2 h; cases h
  | succ k ih =>
    intro c fr H e fr2 H2 h
    cases c with
    | skip => cases h; exact ⟨.now fun Q a w q => wpIn_skip q, fun c' hc => by cases hc⟩
    | label l => cases h; exact ⟨.now fun Q a w q => wpIn_label q, fun c' hc => by cases hc⟩
    | exit id => cases h; exact ⟨.now fun Q a w q => wpIn_exit q, fun c' hc => by cases hc⟩
    | goto l => cases h; exact ⟨.now fun Q a w q => wpIn_goto q, fun c' hc => by cases hc⟩
    | ret => cases h; exact ⟨.now fun Q a w q => wpIn_ret q, fun c' hc => by cases hc⟩
    | region id ops draw =>
      have hclo : ∀ (g : Gh) (w : World) (a : Act), WR g H w → FrR g fr a → ∃ g1, WR g1 (cloR m (cfg.clo id) (fr, H)).2 w ∧ FrR g1 (cloR m (cfg.clo id) (fr, H)).1 a ∧ Evo g H w g1 (cloR m (cfg.clo id) (fr, H)).2 w := fun g w a hw hf => by
        obtain ⟨g1, q1, q2, q3⟩ := (cloR_good (m := m) (cfg.clo id) (p := (fr, H)) hw).gho
        exact ⟨g1, q1, fun t => q3 t _ (hf t), q2⟩
      have hkeep : ∀ (g : Gh) (w : World), WR g H w → Keeps m H (cloR m (cfg.clo id) (fr, H)).2 := fun g w hw => by
        have := cloR_good (m := m) (cfg.clo id) (p := (fr, H)) hw
        exact ⟨by rw [this.len]; exact Nat.le_refl _, fun m' h1 _ h3 => this.kept m' h1 h3⟩
      obtain ⟨fr1, hfr1⟩ : ∃ fr1, fr1 = (cloR m (cfg.clo id) (fr, H)).1 := ⟨_, rfl⟩
      obtain ⟨H1, hH1⟩ : ∃ H1, H1 = (cloR m (cfg.clo id) (fr, H)).2 := ⟨_, rfl⟩
      rw [← hfr1, ← hH1] at hclo
      rw [← hH1] at hkeep
      cases draw with
      | true =>
        obtain ⟨⟨fr', H'⟩, h1, h2⟩ := Option.map_eq_some_iff.1 h
        cases h2
        rw [← hfr1, ← hH1] at h1
        refine ⟨fun B g w a hw hf hn hB hd => ?_, fun c' hc => by cases hc⟩
        obtain ⟨g1, hw1, hf1, he1⟩ := hclo g w a hw hf
        unfold evDraw at h1
        split at h1
        · rename_i hm
          obtain ⟨r0, h3, h4⟩ := Option.bind_eq_some_iff.1 h1
          split at h4
          · rename_i hall
            cases h4
            obtain ⟨r1, ⟨g9, w9, a9, z1, z2, z3, z4, z5⟩, _⟩ := evOps_good (ro := ro) hce ops.toList fr1 H1 _ _ h3 g1 w a hw1 hf1 hn
            refine ⟨(hkeep g w hw).trans r1, ⟨g9, w9, a9, z1, z2, z3, z4 ▸ hd.evo (he1.trans z5), he1.trans z5⟩, fun Q hQ => wpIn_region_any hm ?_⟩
            exact evAny_good hce _ _ (left_all ops) fr1 H1 g1 _ a (hw1.later (later_drawn w)) hf1 hn hall Q fun g2 a2 w2 t1 t2 t3 t4 t5 =>
              hQ g2 a2 w2 t1 t2 (t3 ▸ hd.evo (he1.trans ((later_drawn w).evo.trans t5))) t4 (he1.trans ((later_drawn w).evo.trans t5))
          · cases h4
        · cases h1
      | false =>
        obtain ⟨⟨fr', H'⟩, h1, h2⟩ := Option.map_eq_some_iff.1 h
        cases h2
        rw [← hfr1, ← hH1] at h1
        refine ⟨fun B g w a hw hf hn hB hd => ?_, fun c' hc => by cases hc⟩
        obtain ⟨g1, hw1, hf1, he1⟩ := hclo g w a hw hf
        obtain ⟨r1, ⟨g9, w9, a9, z1, z2, z3, z4, z5⟩, r3⟩ := evOps_good (ro := ro) hce ops.toList fr1 H1 _ _ h1 g1 w a hw1 hf1 hn
        exact ⟨(hkeep g w hw).trans r1, ⟨g9, w9, a9, z1, z2, z3, z4 ▸ hd.evo (he1.trans z5), he1.trans z5⟩, fun Q hQ => wpIn_region_list (r3 Q fun g2 a2 w2 t1 t2 t3 t4 t5 => hQ g2 a2 w2 t1 t2 (t3 ▸ hd.evo (he1.trans t5)) t4 (he1.trans t5))⟩
    | seq a b =>
      obtain ⟨⟨e1, fr1, H1⟩, h1, h⟩ := Option.bind_eq_some_iff.1 h
      refine ⟨fun B g w act hw hf hn hB hd => ?_, fun c' hc => by cases hc⟩
      obtain ⟨r1, ⟨g1, w1, a1, q1, q2, q3, q4, q5⟩, r3⟩ := (ih a fr H e1 fr1 H1 h1).1 B g w act hw hf hn hB hd
      cases e1 with
      | norm =>
        simp only [] at h
        obtain ⟨s1, ⟨g9, w9, a9, z1, z2, z3, z4, z5⟩, s3⟩ := (ih b fr1 H1 e fr2 H2 h).1 B g1 w1 a1 q1 q2 q3 (Nat.le_trans hB q5.size) q4
        refine ⟨r1.trans s1, ⟨g9, w9, a9, z1, z2, z3, z4, q5.trans z5⟩, fun Q hQ => wpIn_seq (r3 _ fun g2 a2 w2 t1 t2 t3 t4 t5 => ?_)⟩
        obtain ⟨_, _, s3⟩ := (ih b fr1 H1 e fr2 H2 h).1 B g2 w2 a2 t4 t1 t2 (Nat.le_trans hB t5.size) t3
        exact s3 Q fun g3 a3 w3 u1 u2 u3 u4 u5 => hQ g3 a3 w3 u1 u2 u3 u4 (t5.trans u5)
      | _ =>
        simp only [] at h
        cases h
        exact ⟨r1, ⟨g1, w1, a1, q1, q2, q3, q4, q5⟩, fun Q hQ => wpIn_seq (r3 _ fun g2 a2 w2 t1 t2 t3 t4 t5 => hQ g2 a2 w2 t1 t2 t3 t4 t5)⟩
    | cond c a b =>
      obtain ⟨cv, h1, h⟩ := Option.bind_eq_some_iff.1 h
      split at h
      · rename_i t
        refine ⟨fun B g w act hw hf hn hB hd => ?_, fun c' hc => by cases hc⟩
        obtain ⟨hv, _⟩ := (evO_vr hf h1).atom
        obtain ⟨r1, r2, r3⟩ := (ih _ fr H e fr2 H2 h).1 B g w act hw hf hn hB hd
        exact ⟨r1, r2, fun Q hQ => wpIn_cond hv (r3 Q hQ)⟩
      · cases h
    | block id c =>
      obtain ⟨⟨e1, fr1, H1⟩, h1, h2⟩ := Option.map_eq_some_iff.1 h
      clear h
      refine ⟨fun B g w act hw hf hn hB hd => ?_, fun c' hc => by cases hc⟩
      obtain ⟨r1, r2, r3⟩ := (ih c fr H e1 fr1 H1 h1).1 B g w act hw hf hn hB hd
      cases e1 with
      | exit id' =>
        simp only [] at h2
        by_cases hid : id' = id
        · rw [if_pos hid] at h2
          cases h2
          exact ⟨r1, r2, fun Q hQ => wpIn_block (r3 _ fun g2 a2 w2 t1 t2 t3 t4 t5 => by
            simp only [Ex.to, Exit.inBlock, if_pos hid]; exact hQ g2 a2 w2 t1 t2 t3 t4 t5)⟩
        · rw [if_neg hid] at h2
          cases h2
          exact ⟨r1, r2, fun Q hQ => wpIn_block (r3 _ fun g2 a2 w2 t1 t2 t3 t4 t5 => by
            simp only [Ex.to, Exit.inBlock, if_neg hid]; exact hQ g2 a2 w2 t1 t2 t3 t4 t5)⟩
      | _ =>
        simp only [] at h2
        cases h2
        exact ⟨r1, r2, fun Q hQ => wpIn_block (r3 _ fun g2 a2 w2 t1 t2 t3 t4 t5 => hQ g2 a2 w2 t1 t2 t3 t4 t5)⟩
    | scope c =>
      obtain ⟨⟨e1, fr1, H1⟩, h1, h2⟩ := Option.bind_eq_some_iff.1 h
      clear h
      refine ⟨fun B g w act hw hf hn hB hd => ?_, fun c' hc => by cases hc⟩
      obtain ⟨r1, r2, r3⟩ := (ih c fr H e1 fr1 H1 h1).1 B g w act hw hf hn hB hd
      cases e1 with
      | goto l => cases h2
      | _ =>
        cases h2
        exact ⟨r1, r2, fun Q hQ => wpIn_scope (r3 _ fun g2 a2 w2 t1 t2 t3 t4 t5 => ⟨fun l => by simp [Ex.to], hQ g2 a2 w2 t1 t2 t3 t4 t5⟩)⟩
    | loop c =>
      obtain ⟨⟨e1, fr1, H1⟩, h1, h⟩ := Option.bind_eq_some_iff.1 h
      have main : ∀ (B : Nat) (g : Gh) (w : World) (act : Act), WR g H w → FrR g fr act → act.tmps.size = n → B ≤ w.heap.size → DefOK B g H act.defers w → Keeps m H H2 ∧ (∃ g2 w2 a2, WR g2 H2 w2 ∧ FrR g2 fr2 a2 ∧ a2.tmps.size = n ∧ DefOK B g2 H2 a2.defers w2 ∧ Evo g H w g2 H2 w2) ∧ ∀ (Q : Exit → Act → World → Prop),
          (∀ g2 a2 w2, FrR g2 fr2 a2 → a2.tmps.size = n → DefOK B g2 H2 a2.defers w2 → WR g2 H2 w2 → Evo g H w g2 H2 w2 → Q e.to a2 w2) → Code.roundsIn (FW ro) 0 P c Q (k + 1) act w := by
        intro B g w act hw hf hn hB hd
        obtain ⟨r1, ⟨g1, w1, a1, q1, q2, q3, q4, q5⟩, r3⟩ := (ih c fr H e1 fr1 H1 h1).1 B g w act hw hf hn hB hd
        cases e1 with
        | norm =>
          simp only [] at h
          obtain ⟨s1, ⟨g9, w9, a9, z1, z2, z3, z4, z5⟩, _⟩ := (ih (.loop c) fr1 H1 e fr2 H2 h).1 B g1 w1 a1 q1 q2 q3 (Nat.le_trans hB q5.size) q4
          refine ⟨r1.trans s1, ⟨g9, w9, a9, z1, z2, z3, z4, q5.trans z5⟩, fun Q hQ => ?_⟩
          rw [roundsIn_succ]
          refine r3 _ fun g2 a2 w2 t1 t2 t3 t4 t5 => ?_
          exact (ih (.loop c) fr1 H1 e fr2 H2 h).2 c rfl B g2 w2 a2 t4 t1 t2 (Nat.le_trans hB t5.size) t3 Q fun g3 a3 w3 u1 u2 u3 u4 u5 => hQ g3 a3 w3 u1 u2 u3 u4 (t5.trans u5)
        | _ =>
          simp only [] at h
          cases h
          refine ⟨r1, ⟨g1, w1, a1, q1, q2, q3, q4, q5⟩, fun Q hQ => ?_⟩
          rw [roundsIn_succ]
          exact r3 _ fun g2 a2 w2 t1 t2 t3 t4 t5 => hQ g2 a2 w2 t1 t2 t3 t4 t5
      refine ⟨fun B g w act hw hf hn hB hd => ?_, fun c' hc B g w act hw hf hn hB hd Q hQ => ?_⟩
      · obtain ⟨r1, r2, r3⟩ := main B g w act hw hf hn hB hd
        exact ⟨r1, r2, fun Q hQ => wpIn_loop_rounds (k + 1) (r3 Q hQ)⟩
      · cases hc
        exact (main B g w act hw hf hn hB hd).2.2 Q hQ
    | rangeFunc f ps x y =>
      refine ⟨?_, fun c' hc => by cases hc⟩
      cases hr : cfg.inR with
      | true => simp only [ev, hr, if_true] at h; cases h
      | false => cases hro hr; exact range_good hce hname h
    | refuse why => cases h

/-- A result. -/
def resV (tmps : Array Value) : ResultVar → Sem Value
  | .tmp t => pure (tmps.getD t undef)
  | .cell a t => do loadVar t (← asAddr (tmps.getD a undef))

theorem results_eq (fn : Func) (tmps : Array Value) : results fn tmps = (do let vs ← fn.results.mapM (resV tmps); pure (if h : vs.size = 1 then vs[0] else .tuple vs)) := by
  unfold results
  congr 1

/-- The results. -/
theorem resC_run {P : Program} {g : Gh} {H : Hp} {w : World} {fr : Fr} {a : Act} (hw : WR g H w) (hf : FrR g fr a) : ∀ (rs : List ResultVar) (xs : List CV), resC P fr H rs = some xs →
    ∃ vs : List Value, (rs.mapM (resV a.tmps)).run P w = .ok vs w ∧ xs.length = vs.length ∧ ∀ i (hi : i < xs.length) (hi' : i < vs.length), VR g xs[i] vs[i]
  | [], xs, h => by simp only [resC, Option.some.injEq] at h; subst h; exact ⟨[], rfl, rfl, fun i hi => absurd hi (by simp)⟩
  | .tmp t :: rs, xs, h => by
    unfold resC at h
    obtain ⟨ys, h1, h2⟩ := Option.map_eq_some_iff.1 h
    subst h2
    obtain ⟨vs, k1, k2, k3⟩ := resC_run hw hf rs ys h1
    refine ⟨a.tmps.getD t undef :: vs, ?_, by simp [k2], fun i hi hi' => ?_⟩
    · simp only [List.mapM_cons, Sem.run_bind, resV, Sem.run_pure, Result.andThen_ok, k1]
    · cases i with
      | zero => exact (hf t).unlit
      | succ i => simpa using k3 i (by simpa using hi) (by simpa using hi')
  | .cell ad t :: rs, xs, h => by
    unfold resC at h
    obtain ⟨x, h0, h⟩ := Option.bind_eq_some_iff.1 h
    obtain ⟨ys, h1, h2⟩ := Option.map_eq_some_iff.1 h
    subst h2
    obtain ⟨vs, k1, k2, k3⟩ := resC_run hw hf rs ys h1
    have hat : ∃ rest, atP H (fr ad) = some rest := by
      unfold dLoad at h0
      obtain ⟨_, _, h0⟩ := Option.bind_eq_some_iff.1 h0
      obtain ⟨_, _, h0⟩ := Option.bind_eq_some_iff.1 h0
      obtain ⟨rest, hr, _⟩ := Option.bind_eq_some_iff.1 h0
      exact ⟨rest, hr⟩
    obtain ⟨rest, hrest⟩ := hat
    obtain ⟨b, o, hv, _⟩ := hw.at_ptr (hf ad) hrest
    have hld := dLoad_good hw (hf ad) h0
    have hsame : ∃ u, (Instr.loadAt t (a.tmps.getD ad undef)).run P w = .ok u w ∧ VR g x u := by
      -- a load leaves the world
      unfold dLoad at h0
      obtain ⟨d, hd, h0⟩ := Option.bind_eq_some_iff.1 h0
      obtain ⟨i, hi, h0⟩ := Option.bind_eq_some_iff.1 h0
      rw [hrest] at h0
      simp only [Option.bind_some] at h0
      obtain ⟨b', o', hv', hh⟩ := hw.at_ptr (hf ad) hrest
      rw [hv']
      have hrun : (Instr.loadAt t (.pointer (some ⟨b', o', none⟩))).run P w =
          if aggB d then ((loadCells ⟨b', o', none⟩ i.size).run P w).andThen fun cs w' => .ok (.agg cs) w' else (load ⟨b', o', none⟩).run P w := by
        simp only [Instr.loadAt, Instr.sureAddr, loadVar, Sem.run_bind, Sem.run_pure, Result.andThen_ok, run_isAgg hd, Sem.run_ite, run_sizeOf hi]
      rw [hrun]
      split at h0
      · rename_i ha
        split at h0
        · cases h0
          obtain ⟨us, h3, h4, h5⟩ := (hh.take i.size).loadCells P
          have e1 : (rest.take i.size).length = i.size := by simp; omega
          rw [e1] at h3
          exact ⟨_, by rw [if_pos ha, h3]; rfl, .agg h4 h5⟩
        · cases h0
      · rename_i ha
        cases hrr : rest with
        | nil => rw [hrr] at h0; cases h0
        | cons c cs =>
          rw [hrr] at h0; cases h0
          obtain ⟨u, h1, h2, h3⟩ := hh 0 (by rw [hrr]; simp)
          refine ⟨u, ?_, by simpa [hrr] using h3⟩
          rw [if_neg ha]; simp only [run_load]; rw [show o' = o' + 0 from rfl, h1]
    obtain ⟨u, hu1, hu2⟩ := hsame
    rw [hv] at hu1
    refine ⟨u :: vs, ?_, by simp [k2], fun i hi hi' => ?_⟩
    · have : (loadVar t ⟨b, o, none⟩).run P w = .ok u w := hu1
      simp only [List.mapM_cons, Sem.run_bind, resV, hv, asAddr, Sem.run_pure, Result.andThen_ok, this, k1]
    · cases i with
      | zero => exact hu2
      | succ i => simpa using k3 i (by simpa using hi) (by simpa using hi')

theorem results_run {P : Program} {g : Gh} {H : Hp} {w : World} {fr : Fr} {a : Act} {fn : Func} {xs : List CV} (hw : WR g H w) (hf : FrR g fr a) (h : resC P fr H fn.results.toList = some xs) :
    ∃ v, (results fn a.tmps).run P w = .ok v w ∧ VR g (one xs) v := by
  obtain ⟨vs, h1, h2, h3⟩ := resC_run hw hf _ _ h
  refine ⟨if h : vs.toArray.size = 1 then vs.toArray[0] else .tuple vs.toArray, ?_, ?_⟩
  · rw [results_eq]
    have hm : ∀ q : ResultVar → Sem Value, fn.results.mapM q = List.toArray <$> fn.results.toList.mapM q := fun q => by rw [← List.mapM_toArray]
    rw [hm]
    simp only [Sem.run_bind, Sem.run_map, h1, Result.andThen_ok, Sem.run_pure]
  · match xs, vs, h2, h3 with
    | [], [], _, _ => exact .tup rfl fun i hi => absurd hi (by simp)
    | [x], [v], _, h3 => exact h3 0 (by simp) (by simp)
    | x :: y :: xs, u :: v :: vs, h2, h3 =>
      rw [dif_neg (by simp)]
      exact .tup (by simpa using h2) fun i hi hi' => by simpa using h3 i hi (by simpa using hi')

theorem frame_ok {g : Gh} {args : List CV} {vs : Array Value} {nt : Nat} (h : ListR g args vs) : FrR g (frame args) { tmps := vs ++ Array.replicate (nt - vs.size) undef, defers := [] } ∧ (vs ++ Array.replicate (nt - vs.size) undef).size = args.length + (nt - args.length) := by
  obtain ⟨h1, h2⟩ := h
  have hs : args.length = vs.size := by simpa using h1
  refine ⟨fun t => ?_, by simp [hs]⟩
  simp only [frame, Array.getD_eq_getD_getElem?, List.getD_eq_getElem?_getD]
  by_cases ht : t < args.length
  · rw [List.getElem?_eq_getElem ht, Array.getElem?_append_left (by omega), Array.getElem?_eq_getElem (by omega)]
    have := h2 t ht (by omega)
    simpa using this
  · rw [List.getElem?_eq_none (by omega), Array.getElem?_append_right (by omega)]
    have : ((Array.replicate (nt - vs.size) undef)[t - vs.size]?).getD undef = undef := by
      rw [Array.getElem?_replicate]
      split <;> rfl
    rw [this]
    exact .undef g

/-- The functions known otherwise are as is said. -/
def PrimOK (P : Program) (cs : Cfgs) : Prop := ∀ f p, cs.prim f = some p → ∀ m args H r H2, p args H = some (r, H2) → CallS P m f args H r H2

theorem round_fr {g : Gh} : ∀ (l1 : List (Tmp × CV)) (l2 : List (Tmp × Value)), l1.length = l2.length → (∀ i (hi : i < l1.length) (hi' : i < l2.length), l1[i].1 = l2[i].1 ∧ VR g l1[i].2 l2[i].2) → ∀ (ts : List CV) (tmps : Array Value), tmps.size = ts.length → (∀ i, VR g (ts.getD i (.tup [])) (tmps.getD i undef)) →
    ((l2.foldl (fun tmps p => tmps.setIfInBounds p.1 p.2) tmps).size = ts.length ∧ ∀ i, VR g ((l1.foldl (fun ts p => ts.set p.1 p.2) ts).getD i (.tup [])) ((l2.foldl (fun tmps p => tmps.setIfInBounds p.1 p.2) tmps).getD i undef))
  | [], [], _, _, ts, tmps, hs, h => ⟨hs, h⟩
  | p :: l1, q :: l2, hl, hh, ts, tmps, hs, h => by
    obtain ⟨e1, e2⟩ := hh 0 (by simp) (by simp)
    simp only [List.getElem_cons_zero] at e1 e2
    have := round_fr l1 l2 (by simpa using hl) (fun i hi hi' => by have := hh (i + 1) (by simpa using hi) (by simpa using hi'); simpa only [List.getElem_cons_succ] using this) (ts.set p.1 p.2) (tmps.setIfInBounds q.1 q.2) (by simpa using hs) (fun i => by
      rw [← e1]
      by_cases hi : p.1 = i
      · subst hi
        by_cases hlt : p.1 < ts.length
        · rw [List.getD_eq_getElem?_getD, List.getElem?_set_self hlt, Array.getD_eq_getD_getElem?, Array.getElem?_setIfInBounds_self_of_lt (by rw [hs]; exact hlt)]
          exact e2
        · rw [List.set_eq_of_length_le (Nat.le_of_not_lt hlt), Array.setIfInBounds_eq_of_size_le (by rw [hs]; exact Nat.le_of_not_lt hlt)]
          exact h _
      · have := h i
        rw [List.getD_eq_getElem?_getD, Array.getD_eq_getD_getElem?] at this ⊢
        rw [List.getElem?_set_ne hi, Array.getElem?_setIfInBounds_ne hi]
        exact this)
    simpa using this

theorem round_good {P : Program} {cs : FuncId → Cfg} {ce : CallE} (hname : ∀ (f : FuncId) (fn : Func), P.funcs[f]? = some fn → fn.name ≠ "runtime.NumGoroutine") (hce : CeOK P ce) {m k id ver : Nat} {args : List CV} {H H2 : Hp} {r : CV}
    (h : evRound P cs ce m k id ver args H = some (r, H2)) : RoundS P m id ver args H r H2 := by
  unfold evRound at h
  split at h
  rotate_left
  · cases h
  rename_i v fn ts ps a b h0
  split at h
  rotate_left
  · cases h
  rename_i hcond
  obtain ⟨hver, hargs⟩ := hcond
  obtain ⟨⟨e1, fr1, H1⟩, hev1, hA⟩ := Option.bind_eq_some_iff.1 h
  clear h
  simp only at hA
  split at hA
  rotate_left
  · cases hA
  rename_i v1 fn1 ts1 ps1 a1 b1 h1
  split at hA
  rotate_left
  · cases hA
  rename_i hv1
  obtain ⟨⟨e2, fr2, H3⟩, hev2, hB⟩ := Option.bind_eq_some_iff.1 hA
  clear hA
  simp only at hB
  split at hB
  rotate_left
  · cases hB
  rename_i v2 fn2 ts2 ps2 a2 b2 st2 pe2 h2
  split at hB
  rotate_left
  · cases hB
  rename_i hv2
  simp only [Option.some.injEq, Prod.mk.injEq] at hB
  obtain ⟨rfl, rfl⟩ := hB
  intro g w vs fv hw hl hfv
  obtain ⟨l, rec, k1, k2, k3, k4, k5, k6, k7, k8, k9, k10⟩ := loop_at hw h0
  have hfv2 : fv = .func (.yield l.b) #[] #[] := by
    cases hfv with
    | cl q => cases q
    | yl q1 q2 => rw [k1] at q1; cases q1; rfl
    | syl q1 q2 => rw [k1] at q1; cases q1; omega
  have hsz : vs.size = rec.params.size := by rw [k6, ← hargs]; simpa using hl.1.symm
  have hfr : FrR g (roundFr ts ps args) { tmps := (rec.params.zip vs).foldl (fun tmps (t, a) => tmps.setIfInBounds t a) rec.tmps, defers := [] } ∧ ((rec.params.zip vs).foldl (fun tmps (t, a) => tmps.setIfInBounds t a) rec.tmps).size = ts.length := by
    have := round_fr (g := g) (ps.toList.zip args) (rec.params.zip vs).toList (by simp [k6]; have := hl.1; simp at this; omega) (fun i hi hi' => by
      simp only [List.getElem_zip, Array.toList_zip, k6, Array.getElem_toList, true_and]
      have := hl.2 i (by simp at hi; omega) (by simp at hi' ⊢; omega)
      simpa using this) ts rec.tmps k5 k4
    rw [Array.foldl_toList] at this
    exact ⟨this.2, this.1⟩
  have A := (ev_good (ro := some l.b) hname (fun e => by cases e) hce k a _ H _ fr1 H1 hev1).1
  have Bd := (ev_good (ro := some l.b) hname (fun e => by cases e) hce k b _ _ _ fr2 H3 hev2).1
  -- from the assignments' end on
  have mid : ∀ g1 w1, WR g1 H1 w1 → Evo g H w g1 H1 w1 → ∃ r1, w1.heap[l.b]? = some (.loop r1) ∧ r1.state = .ready ∧ WR g1 (H1.set id (.loop v1 fn1 ts1 ps1 a1 b1 .busy none)) (w1.putObj l.b (.loop { r1 with state := .busy })) ∧
      Evo g1 H1 w1 g1 (H1.set id (.loop v1 fn1 ts1 ps1 a1 b1 .busy none)) (w1.putObj l.b (.loop { r1 with state := .busy })) := by
    intro g1 w1 hw1 he1
    obtain ⟨l', r1, q1, q2, q3, _, _, _, _, _, q9, q10⟩ := loop_at hw1 h1
    obtain rfl := same_loc he1 k1 q1 (by omega)
    obtain ⟨s1, s2⟩ := loop_set hw1 h1 q1 q3 .busy none
    have e : ({ r1 with state := .busy, pending := none } : Loop) = { r1 with state := .busy } := by rw [← q10]
    rw [e] at s1 s2
    exact ⟨r1, q3, q9, s1, s2⟩
  have last : ∀ g3 w3, WR g3 H3 w3 → Evo g H w g3 H3 w3 → ∃ r3, w3.heap[l.b]? = some (.loop r3) ∧ WR g3 (H3.set id (.loop v2 fn2 ts2 ps2 a2 b2 (if e2.jump.isNone then .ready else .done) e2.jump)) (w3.putObj l.b (.loop { r3 with state := if e2.jump.isNone then .ready else .done, pending := e2.jump })) ∧
      Evo g3 H3 w3 g3 (H3.set id (.loop v2 fn2 ts2 ps2 a2 b2 (if e2.jump.isNone then .ready else .done) e2.jump)) (w3.putObj l.b (.loop { r3 with state := if e2.jump.isNone then .ready else .done, pending := e2.jump })) := by
    intro g3 w3 hw3 he3
    obtain ⟨l', r3, q1, q2, q3, _⟩ := loop_at hw3 h2
    obtain rfl := same_loc he3 k1 q1 (by omega)
    obtain ⟨s1, s2⟩ := loop_set hw3 h2 q1 q3 (if e2.jump.isNone then .ready else .done) e2.jump
    exact ⟨r3, q3, s1, s2⟩
  obtain ⟨K1, ⟨g1, w1, c1, z1, z2, z3, z4, z5⟩, R1⟩ := A 0 g w _ hw hfr.1 hfr.2 (Nat.zero_le _) (.nil _ _ _ _)
  obtain ⟨r1, m1, m2, m3, m4⟩ := mid g1 w1 z1 z5
  obtain ⟨K2, ⟨g3, w3, c3, y1, y2, y3, y4, y5⟩, _⟩ := Bd 0 g1 _ c1 m3 (z2.evo m4) z3 (Nat.zero_le _) (z4.evo m4)
  obtain ⟨r3, n1, n2, n3⟩ := last g3 w3 y1 (z5.trans (m4.trans y5))
  have hset1 : Keeps m H1 (H1.set id (.loop v1 fn1 ts1 ps1 a1 b1 .busy none)) := Keeps.set fun m' _ _ h3 h4 => (show topLeL m' ts1 = true from h3 id _ h4 h1)
  have hset2 : Keeps m H3 (H3.set id (.loop v2 fn2 ts2 ps2 a2 b2 (if e2.jump.isNone then .ready else .done) e2.jump)) := Keeps.set fun m' _ _ h3 h4 => (show topLeL m' ts2 = true from h3 id _ h4 h2)
  refine ⟨K1.trans (hset1.trans (K2.trans hset2)), ⟨_, g3, _, VR.of_atom (x := .bool e2.jump.isNone) rfl, n2, (z5.trans (m4.trans y5)).trans n3⟩, l.b, rec.fn, _, rec.assign, rec.body, hfv2, run_yield k3 hsz, ?_⟩
  refine roundIn_of_wpIn (F := FW none) trivial ?_
  rw [k7, k8]
  refine R1 _ fun g1 a1 w1 t1 t2 t3 t4 t5 => ?_
  obtain ⟨r1, m1, m2, m3, m4⟩ := mid g1 w1 t4 t5
  refine ⟨_, run_beginRound m1 m2, ?_⟩
  obtain ⟨_, _, R2⟩ := Bd 0 g1 _ a1 m3 (t1.evo m4) t2 (Nat.zero_le _) (t3.evo m4)
  refine R2 _ fun g3 a3 w3 u1 u2 u3 u4 u5 => ?_
  have e3 := t5.trans (m4.trans u5)
  obtain ⟨r3, n1, n2, n3⟩ := last g3 w3 u4 e3
  have hR : RetP g H w (.v (.bool e2.jump.isNone)) (H3.set id (.loop v2 fn2 ts2 ps2 a2 b2 (if e2.jump.isNone then .ready else .done) e2.jump)) (.returned (.bool e2.jump.isNone)) _ := ⟨_, g3, rfl, VR.of_atom rfl, n2, e3.trans n3⟩
  cases e2 with
  | norm => exact ⟨_, _, run_endRound none n1, hR⟩
  | exit i => exact ⟨_, _, run_endRound (some (.exit i)) n1, hR⟩
  | goto i => exact ⟨_, _, run_endRound (some (.goto i)) n1, hR⟩
  | ret => exact ⟨_, _, run_endRound (some .ret) n1, hR⟩

theorem evCall_good {P : Program} {cs : Cfgs} (hp : PrimOK P cs) (hname : ∀ (f : FuncId) (fn : Func), P.funcs[f]? = some fn → fn.name ≠ "runtime.NumGoroutine") : ∀ k, CeOK P (evCall P cs k) := by
  intro k
  induction k with
  | zero => exact ⟨fun m f args H r H2 h => (by cases h), fun m id ver args H r H2 h => (by cases h)⟩
  | succ k ih =>
    refine ⟨?_, fun m id ver args H r H2 h => round_good (cs := cs.of) hname ih h⟩
    intro m f args H r H2 h
    unfold evCall at h
    split at h
    · rename_i p hpf
      exact hp f p hpf m args H r H2 h
    · obtain ⟨fn, hfn, h⟩ := Option.bind_eq_some_iff.1 h
      obtain ⟨c, hc, h⟩ := Option.bind_eq_some_iff.1 h
      intro g w vs hw hl
      obtain ⟨hf0, hs0⟩ := frame_ok (nt := fn.ntmps) hl
      have henter : (callFunc f vs).run P w = .ok (.enter f vs) w := by
        have := hname f fn hfn
        simp [callFunc, hfn, this, hc]
      split at h
      · -- what is new is dropped
        obtain ⟨⟨e, fr2, H1⟩, hev, h⟩ := Option.bind_eq_some_iff.1 h
        have fin : ∀ he : e.to = .normal ∨ e.to = .ret, ((resC P fr2 H1 fn.results.toList).bind fun xs => (frz H1 H.length (one xs)).map fun y => (y, H1.take H.length)) = some (r, H2) → Keeps m H H2 ∧
            ((∃ v g2 w2, (callFunc f vs).run P w = .ok (.value v) w2 ∧ VR g2 r v ∧ WR g2 H2 w2 ∧ Evo g H w g2 H2 w2) ∨ ((callFunc f vs).run P w = .ok (.enter f vs) w ∧ Calls P f vs w (RetP g H w r H2))) := by
          intro he h
          obtain ⟨xs, hxs, k1⟩ := Option.bind_eq_some_iff.1 h
          obtain ⟨y, hy, k2⟩ := Option.map_eq_some_iff.1 k1
          clear h k1
          simp only [Prod.mk.injEq] at k2
          obtain ⟨rfl, rfl⟩ := k2
          obtain ⟨r1, _, r3⟩ := (ev_good (ro := none) hname (fun _ => rfl) ih k c _ H e fr2 H1 hev).1 w.heap.size g w _ hw hf0 hs0 (Nat.le_refl _) (.nil _ _ _ _)
          have hlen := r1.1
          have hseal : Sealed H1 H.length := r1.2 H.length (Nat.le_refl _) (Nat.le_refl _) hw.sealed
          refine ⟨⟨by simp [hlen], fun m' h1 h2 h3 id o hid ho => ?_⟩, .inr ⟨henter, callsIn_wide.1 (callsIn_of_wp_marks (F := FW none) (n := 0) hfn hc trivial (r3 _ fun g2 a2 w2 t1 t2 t3 t4' t5' => ?_))⟩⟩
          · have hs2 := r1.2 m' h2 h2 h3
            exact hs2 id o hid (take_get ho).2
          · have fin2 : LeavesInM (FW none) 0 P fn a2.tmps (RetP g H w y (H1.take H.length)) a2.defers .returning w2 := leaves_marks (Nat.le_refl _) _ _ t4' t5' t3 fun w2 t4 t5 => ?_
            · rcases he with he | he
              · rw [he]; exact fin2
              · rw [he]; exact fin2
            obtain ⟨v, hv1, hv2⟩ := results_run t4 t1 hxs
            obtain ⟨g3, c3, v3⟩ := frz_good t4 _ _ _ _ (Clo.first t4 hseal) hv2 hy
            have hpost : RetP g H w y (H1.take H.length) (.returned v) w2 := by
              refine ⟨v, g3, rfl, v3, c3.wr, ⟨t5.os, t5.tape, t5.output, t5.size, t5.keep, fun b hb => ?_, fun b o u hu => c3.im _ _ _ (t5.im _ _ _ hu), fun id l hl => ?_, fun b hb => c3.ownm b (t5.ownm b hb)⟩⟩
              · have hmine : Mine g2 H1 b := by
                  rcases hb with hb | ⟨id, o, l, b1, b2, b3, b4⟩
                  · exact c3.mine b hb
                  · rw [c3.locs] at b3
                    exact .inr ⟨id, o, l, (take_get b1).2, b2, (take_get b3).2, b4⟩
                exact t5.grow b hmine
              · obtain ⟨l2, hl2, hl3⟩ := t5.locs id l hl
                refine ⟨l2, ?_, hl3⟩
                rw [c3.locs, List.getElem?_take, if_pos]
                · exact hl2
                · rw [← hw.len]; exact (List.getElem?_eq_some_iff.1 hl).1
            exact ⟨v, hv1, hpost⟩
        cases e with
        | norm => exact fin (.inl rfl) h
        | ret => exact fin (.inr rfl) h
        | _ => cases h
      · obtain ⟨⟨e, fr2, H1⟩, hev, h⟩ := Option.bind_eq_some_iff.1 h
        have fin : ∀ he : e.to = .normal ∨ e.to = .ret, ((resC P fr2 H1 fn.results.toList).map fun xs => (one xs, H1)) = some (r, H2) → Keeps m H H2 ∧
            ((∃ v g2 w2, (callFunc f vs).run P w = .ok (.value v) w2 ∧ VR g2 r v ∧ WR g2 H2 w2 ∧ Evo g H w g2 H2 w2) ∨ ((callFunc f vs).run P w = .ok (.enter f vs) w ∧ Calls P f vs w (RetP g H w r H2))) := by
          intro he h
          obtain ⟨xs, hxs, k2⟩ := Option.map_eq_some_iff.1 h
          clear h
          simp only [Prod.mk.injEq] at k2
          obtain ⟨rfl, rfl⟩ := k2
          obtain ⟨r1, _, r3⟩ := (ev_good (ro := none) hname (fun _ => rfl) ih k c _ H e fr2 H1 hev).1 w.heap.size g w _ hw hf0 hs0 (Nat.le_refl _) (.nil _ _ _ _)
          refine ⟨r1, .inr ⟨henter, callsIn_wide.1 (callsIn_of_wp_marks (F := FW none) (n := 0) hfn hc trivial (r3 _ fun g2 a2 w2 t1 t2 t3 t4' t5' => ?_))⟩⟩
          have fin2 : LeavesInM (FW none) 0 P fn a2.tmps (RetP g H w (one xs) H1) a2.defers .returning w2 := leaves_marks (Nat.le_refl _) _ _ t4' t5' t3 fun w2 t4 t5 => ?_
          · rcases he with he | he
            · rw [he]; exact fin2
            · rw [he]; exact fin2
          obtain ⟨v, hv1, hv2⟩ := results_run t4 t1 hxs
          exact ⟨v, hv1, v, g2, rfl, hv2, t4, t5⟩
        cases e with
        | norm => exact fin (.inl rfl) h
        | ret => exact fin (.inr rfl) h
        | _ => cases h

end Go.SL

/- More fuel answers the same: what code comes to, without a number of steps. -/
namespace Go.SL
/-- None, where nothing is said. -/
instance (priority := low) noBase : BaseC := { im := fun _ _ => none }
set_option linter.unusedVariables false

def OLe {α : Type} (a b : Option α) : Prop := ∀ r, a = some r → b = some r

theorem OLe.refl {α : Type} (a : Option α) : OLe a a := fun _ h => h
theorem OLe.none {α : Type} (b : Option α) : OLe Option.none b := fun _ h => nomatch h
theorem OLe.bind {α β : Type} {a b : Option α} {f g : α → Option β} (h : OLe a b) (hf : ∀ x, OLe (f x) (g x)) : OLe (a.bind f) (b.bind g) := by
  intro r hr
  obtain ⟨x, h1, h2⟩ := Option.bind_eq_some_iff.1 hr
  exact Option.bind_eq_some_iff.2 ⟨x, h _ h1, hf _ _ h2⟩
theorem OLe.bind' {α β : Type} {a b : Option α} {f g : α → Option β} (h : OLe a b) (hf : ∀ x, a = some x → OLe (f x) (g x)) : OLe (a.bind f) (b.bind g) := by
  intro r hr
  obtain ⟨x, h1, h2⟩ := Option.bind_eq_some_iff.1 hr
  exact Option.bind_eq_some_iff.2 ⟨x, h _ h1, hf _ h1 _ h2⟩
theorem OLe.map {α β : Type} {a b : Option α} {f : α → β} (h : OLe a b) : OLe (a.map f) (b.map f) := by
  intro r hr
  obtain ⟨x, h1, h2⟩ := Option.map_eq_some_iff.1 hr
  exact Option.map_eq_some_iff.2 ⟨x, h _ h1, h2⟩
theorem OLe.ite {α : Type} {c : Prop} [Decidable c] {a a' b b' : Option α} (h : OLe a a') (h' : OLe b b') : OLe (if c then a else b) (if c then a' else b') := by
  split <;> assumption

def CLe (a b : CallE) : Prop := ∀ m f args H, OLe (a m f args H) (b m f args H)

theorem opX_mono {P : Program} {cfg : Cfg} {a b : CallE} (h : CLe a b) (m : Nat) (fr : Fr) (old : CV) (H : Hp) (o : Op) : OLe (opX P cfg a m fr old H o) (opX P cfg b m fr old H o) := by
  cases o with
  | call c =>
    obtain ⟨callee, args, ts⟩ := c
    cases callee with
    | value f =>
      refine OLe.bind (.refl _) fun fv => OLe.bind (.refl _) fun xs => ?_
      split
      · exact h _ _ _ _
      · exact h _ _ _ _
      · exact h _ _ _ _
      · exact .none _
    | _ => exact .refl _
  | _ => exact .refl _

theorem evOps_mono {P : Program} {cfg : Cfg} {a b : CallE} (h : CLe a b) (m n : Nat) (ops : Array Oper) : ∀ (l : List Oper) (fr : Fr) (H : Hp), OLe (evOps P cfg a m n ops l fr H) (evOps P cfg b m n ops l fr H)
  | [], fr, H => .refl _
  | o :: rest, fr, H => by
    unfold evOps
    refine OLe.bind (.refl _) fun t => OLe.ite ?_ ?_
    · exact OLe.bind (opX_mono h _ _ _ _ _) fun y => OLe.bind (.refl _) fun fr2 => evOps_mono h m n ops rest _ _
    · exact OLe.bind (.refl _) fun fr2 => evOps_mono h m n ops rest _ _

theorem evDraw_mono {P : Program} {cfg : Cfg} {a b : CallE} (h : CLe a b) (m n : Nat) (ops : Array Oper) (fr : Fr) (H : Hp) : OLe (evDraw P cfg a m n ops fr H) (evDraw P cfg b m n ops fr H) := by
  unfold evDraw
  split
  · refine OLe.bind' (evOps_mono h m n ops _ _ _) fun r hr => ?_
    intro r' hr'
    split at hr'
    · rename_i hall
      cases hr'
      have hall' : ∀ l, LinX ops l (Array.replicate ops.size false) → evIx P cfg b m n ops l fr H = some r := fun l hl => evOps_mono h m n ops _ _ _ _ (hall l hl)
      rw [if_pos hall']
    · cases hr'
  · exact .refl _

theorem ev_mono {P : Program} {cfg : Cfg} {a b : CallE} (h : CLe a b) (m n : Nat) : ∀ {k k' : Nat} (hk : k ≤ k') (c : Code) (fr : Fr) (H : Hp), OLe (ev P cfg a m n k c fr H) (ev P cfg b m n k' c fr H)
  | 0, k', hk, c, fr, H => .none _
  | k + 1, 0, hk, c, fr, H => absurd hk (by omega)
  | k + 1, k' + 1, hk, c, fr, H => by
    have hk' : k ≤ k' := by omega
    cases c with
    | region i ops d =>
      cases d with
      | true => exact OLe.map (evDraw_mono h m n ops _ _)
      | false => exact OLe.map (evOps_mono h m n ops _ _ _)
    | seq x y =>
      refine OLe.bind (ev_mono h m n hk' x fr H) fun r => ?_
      split
      · exact ev_mono h m n hk' y _ _
      · exact .refl _
    | cond q x y =>
      refine OLe.bind (.refl _) fun c => ?_
      split
      · exact ev_mono h m n hk' _ _ _
      · exact .refl _
    | block i x => exact OLe.map (ev_mono h m n hk' x fr H)
    | scope x =>
      refine OLe.bind (ev_mono h m n hk' x fr H) fun r => ?_
      split <;> exact .refl _
    | loop x =>
      refine OLe.bind (ev_mono h m n hk' x fr H) fun r => ?_
      split
      · exact ev_mono h m n hk' (.loop x) _ _
      · exact .refl _
    | rangeFunc f ps x y =>
      refine OLe.ite (.refl _) (OLe.bind (.refl _) fun fv => ?_)
      split
      · exact OLe.ite (OLe.bind (h _ _ _ _) fun r => .refl _) (.refl _)
      · exact .refl _
    | _ => exact .refl _

theorem evRound_mono {P : Program} {cs : FuncId → Cfg} {a b : CallE} (h : CLe a b) (m : Nat) {k k' : Nat} (hk : k ≤ k') (id ver : Nat) (args : List CV) (H : Hp) : OLe (evRound P cs a m k id ver args H) (evRound P cs b m k' id ver args H) := by
  unfold evRound
  split
  · refine OLe.ite (OLe.bind (ev_mono h _ _ hk _ _ _) fun r => ?_) (.refl _)
    split
    · exact OLe.ite (OLe.bind (ev_mono h _ _ hk _ _ _) fun q => .refl _) (.refl _)
    · exact .refl _
  · exact .refl _

theorem evCall_mono {P : Program} {cs : Cfgs} : ∀ {k k' : Nat} (hk : k ≤ k'), CLe (evCall P cs k) (evCall P cs k')
  | 0, k', hk => fun _ _ _ _ => .none _
  | k + 1, 0, hk => absurd hk (by omega)
  | k + 1, k' + 1, hk => by
    have hk' : k ≤ k' := by omega
    intro m f args H
    cases f with
    | y id ver => exact evRound_mono (evCall_mono hk') _ hk' _ _ _ _
    | f f =>
      unfold evCall
      split
      · exact .refl _
      · refine OLe.bind (.refl _) fun fn => OLe.bind (.refl _) fun c => OLe.ite ?_ ?_
        · exact OLe.bind (ev_mono (evCall_mono hk') _ _ hk' _ _ _) fun r => .refl _
        · exact OLe.bind (ev_mono (evCall_mono hk') _ _ hk' _ _ _) fun r => .refl _

/-- What code comes to. -/
structure Cx where
  P : Program
  cs : Cfgs
  cfg : Cfg
  m : Nat
  n : Nat

def W (x : Cx) (c : Code) (fr : Fr) (H : Hp) (Q : Ex → Fr → Hp → Prop) : Prop :=
  ∃ k r, ev x.P x.cfg (evCall x.P x.cs k) x.m x.n k c fr H = some r ∧ Q r.1 r.2.1 r.2.2
def WO (x : Cx) (ops : Array Oper) (l : List Oper) (fr : Fr) (H : Hp) (K : Fr → Hp → Prop) : Prop :=
  ∃ k r, evOps x.P x.cfg (evCall x.P x.cs k) x.m x.n ops l fr H = some r ∧ K r.1 r.2
def WP (x : Cx) (o : Op) (old : CV) (fr : Fr) (H : Hp) (K : CV → Hp → Prop) : Prop :=
  ∃ k r, opX x.P x.cfg (evCall x.P x.cs k) x.m fr old H o = some r ∧ K r.1 r.2
def WC (P : Program) (cs : Cfgs) (m : Nat) (f : Tg) (args : List CV) (H : Hp) (K : CV → Hp → Prop) : Prop :=
  ∃ k r, evCall P cs k m f args H = some r ∧ K r.1 r.2
def WX {α : Type} (o : Option α) (K : α → Prop) : Prop := ∃ r, o = some r ∧ K r

theorem WX_some {α : Type} (x : α) (K : α → Prop) : WX (some x) K ↔ K x := by simp [WX]
theorem WX_none {α : Type} (K : α → Prop) : WX none K ↔ False := by simp [WX]
theorem WX_bind {α β : Type} (o : Option α) (f : α → Option β) (K : β → Prop) : WX (o.bind f) K ↔ WX o fun x => WX (f x) K := by
  cases o <;> simp [WX]
theorem WX_map {α β : Type} (o : Option α) (f : α → β) (K : β → Prop) : WX (o.map f) K ↔ WX o fun x => K (f x) := by
  cases o <;> simp [WX]
theorem WX_ite {α : Type} (c : Prop) [Decidable c] (a b : Option α) (K : α → Prop) : WX (if c then a else b) K ↔ if c then WX a K else WX b K := by
  split <;> rfl

theorem W_at {x : Cx} {c : Code} {fr : Fr} {H : Hp} {Q : Ex → Fr → Hp → Prop} {k : Nat} {r : Ex × Fr × Hp} (h : ev x.P x.cfg (evCall x.P x.cs k) x.m x.n k c fr H = some r) : W x c fr H Q ↔ Q r.1 r.2.1 r.2.2 := by
  constructor
  · rintro ⟨k', r', h', hq⟩
    have a := ev_mono (evCall_mono (Nat.le_max_left k k')) x.m x.n (Nat.le_max_left k k') c fr H _ h
    have b := ev_mono (evCall_mono (Nat.le_max_right k k')) x.m x.n (Nat.le_max_right k k') c fr H _ h'
    rw [a] at b; cases b; exact hq
  · exact fun hq => ⟨k, r, h, hq⟩

def seqQ (x : Cx) (b : Code) (Q : Ex → Fr → Hp → Prop) : Ex → Fr → Hp → Prop
  | .norm, fr, H => W x b fr H Q
  | e, fr, H => Q e fr H
def blkQ (id : Nat) (Q : Ex → Fr → Hp → Prop) : Ex → Fr → Hp → Prop
  | .exit i, fr, H => if i = id then Q .norm fr H else Q (.exit i) fr H
  | e, fr, H => Q e fr H

theorem W_skip (x : Cx) (fr : Fr) (H : Hp) (Q : Ex → Fr → Hp → Prop) : W x .skip fr H Q ↔ Q .norm fr H := W_at (k := 1) (r := (.norm, fr, H)) rfl
theorem W_label (x : Cx) (l : Nat) (fr : Fr) (H : Hp) (Q : Ex → Fr → Hp → Prop) : W x (.label l) fr H Q ↔ Q .norm fr H := W_at (k := 1) (r := (.norm, fr, H)) rfl
theorem W_exit (x : Cx) (i : Nat) (fr : Fr) (H : Hp) (Q : Ex → Fr → Hp → Prop) : W x (.exit i) fr H Q ↔ Q (.exit i) fr H := W_at (k := 1) (r := (.exit i, fr, H)) rfl
theorem W_ret (x : Cx) (fr : Fr) (H : Hp) (Q : Ex → Fr → Hp → Prop) : W x .ret fr H Q ↔ Q .ret fr H := W_at (k := 1) (r := (.ret, fr, H)) rfl

theorem W_seq (x : Cx) (a b : Code) (fr : Fr) (H : Hp) (Q : Ex → Fr → Hp → Prop) : W x (.seq a b) fr H Q ↔ W x a fr H (seqQ x b Q) := by
  constructor
  · rintro ⟨k, r, h, hq⟩
    cases k with
    | zero => cases h
    | succ k =>
      obtain ⟨r1, h1, h2⟩ := Option.bind_eq_some_iff.1 h
      refine ⟨k + 1, r1, ev_mono (fun _ _ _ _ => .refl _) x.m x.n (Nat.le_succ k) a fr H _ h1, ?_⟩
      obtain ⟨e, fr1, H1⟩ := r1
      cases e <;> first
        | (cases h2; exact hq)
        | exact ⟨k + 1, r, ev_mono (fun _ _ _ _ => .refl _) x.m x.n (Nat.le_succ k) b fr1 H1 _ h2, hq⟩
  · rintro ⟨k, ⟨e, fr1, H1⟩, h, hq⟩
    have key : ∀ k', k ≤ k' → ev x.P x.cfg (evCall x.P x.cs (k' + 1)) x.m x.n k' a fr H = some (e, fr1, H1) := fun k' hk => ev_mono (evCall_mono (by omega)) x.m x.n hk a fr H _ h
    cases e with
    | norm =>
      obtain ⟨k2, r, h2, hq⟩ := hq
      refine ⟨max k k2 + 1, r, ?_, hq⟩
      refine Option.bind_eq_some_iff.2 ⟨_, key _ (Nat.le_max_left _ _), ?_⟩
      exact ev_mono (evCall_mono (by omega)) x.m x.n (Nat.le_max_right _ _) b fr1 H1 _ h2
    | exit i => exact ⟨k + 1, _, Option.bind_eq_some_iff.2 ⟨_, key _ (Nat.le_refl _), rfl⟩, hq⟩
    | goto i => exact ⟨k + 1, _, Option.bind_eq_some_iff.2 ⟨_, key _ (Nat.le_refl _), rfl⟩, hq⟩
    | ret => exact ⟨k + 1, _, Option.bind_eq_some_iff.2 ⟨_, key _ (Nat.le_refl _), rfl⟩, hq⟩

/-- What a scope hands on: no jump to a label. -/
def scoQ (Q : Ex → Fr → Hp → Prop) : Ex → Fr → Hp → Prop
  | .goto _, _, _ => False
  | e, fr, H => Q e fr H
theorem W_scope (x : Cx) (c : Code) (fr : Fr) (H : Hp) (Q : Ex → Fr → Hp → Prop) : W x (.scope c) fr H Q ↔ W x c fr H (scoQ Q) := by
  constructor
  · rintro ⟨k, r, h, hq⟩
    cases k with
    | zero => cases h
    | succ k =>
      obtain ⟨⟨e, fr1, H1⟩, h1, h2⟩ := Option.bind_eq_some_iff.1 h
      refine ⟨k + 1, _, ev_mono (fun _ _ _ _ => .refl _) x.m x.n (Nat.le_succ k) c fr H _ h1, ?_⟩
      cases e with
      | goto l => cases h2
      | _ => cases h2; exact hq
  · rintro ⟨k, ⟨e, fr1, H1⟩, h, hq⟩
    have h1 := ev_mono (evCall_mono (Nat.le_succ k)) x.m x.n (Nat.le_refl k) c fr H _ h
    cases e with
    | goto l => exact hq.elim
    | _ => exact ⟨k + 1, _, Option.bind_eq_some_iff.2 ⟨_, h1, rfl⟩, hq⟩

theorem W_block (x : Cx) (i : Nat) (c : Code) (fr : Fr) (H : Hp) (Q : Ex → Fr → Hp → Prop) : W x (.block i c) fr H Q ↔ W x c fr H (blkQ i Q) := by
  constructor
  · rintro ⟨k, r, h, hq⟩
    cases k with
    | zero => cases h
    | succ k =>
      obtain ⟨⟨e, fr1, H1⟩, h1, h2⟩ := Option.map_eq_some_iff.1 h
      refine ⟨k + 1, _, ev_mono (fun _ _ _ _ => .refl _) x.m x.n (Nat.le_succ k) c fr H _ h1, ?_⟩
      cases e with
      | exit j =>
        simp only [] at h2
        simp only [blkQ]
        split at h2 <;> (subst h2; rename_i hj; simp only [hj, if_true, if_false]; exact hq)
      | _ => subst h2; exact hq
  · rintro ⟨k, ⟨e, fr1, H1⟩, h, hq⟩
    have h1 := ev_mono (evCall_mono (Nat.le_succ k)) x.m x.n (Nat.le_refl k) c fr H _ h
    refine ⟨k + 1, _, Option.map_eq_some_iff.2 ⟨_, h1, rfl⟩, ?_⟩
    cases e with
    | exit j =>
      simp only [blkQ] at hq
      simp only []
      split <;> (rename_i hj; simp only [hj, if_true, if_false] at hq; exact hq)
    | _ => exact hq

theorem W_loop (x : Cx) (c : Code) (fr : Fr) (H : Hp) (Q : Ex → Fr → Hp → Prop) : W x (.loop c) fr H Q ↔ W x c fr H (seqQ x (.loop c) Q) := by
  constructor
  · rintro ⟨k, r, h, hq⟩
    cases k with
    | zero => cases h
    | succ k =>
      obtain ⟨r1, h1, h2⟩ := Option.bind_eq_some_iff.1 h
      refine ⟨k + 1, r1, ev_mono (fun _ _ _ _ => .refl _) x.m x.n (Nat.le_succ k) c fr H _ h1, ?_⟩
      obtain ⟨e, fr1, H1⟩ := r1
      cases e <;> first
        | (cases h2; exact hq)
        | exact ⟨k + 1, r, ev_mono (fun _ _ _ _ => .refl _) x.m x.n (Nat.le_succ k) (.loop c) fr1 H1 _ h2, hq⟩
  · rintro ⟨k, ⟨e, fr1, H1⟩, h, hq⟩
    have key : ∀ k', k ≤ k' → ev x.P x.cfg (evCall x.P x.cs (k' + 1)) x.m x.n k' c fr H = some (e, fr1, H1) := fun k' hk => ev_mono (evCall_mono (by omega)) x.m x.n hk c fr H _ h
    cases e with
    | norm =>
      obtain ⟨k2, r, h2, hq⟩ := hq
      refine ⟨max k k2 + 1, r, ?_, hq⟩
      refine Option.bind_eq_some_iff.2 ⟨_, key _ (Nat.le_max_left _ _), ?_⟩
      exact ev_mono (evCall_mono (by omega)) x.m x.n (Nat.le_max_right _ _) (.loop c) fr1 H1 _ h2
    | exit i => exact ⟨k + 1, _, Option.bind_eq_some_iff.2 ⟨_, key _ (Nat.le_refl _), rfl⟩, hq⟩
    | goto i => exact ⟨k + 1, _, Option.bind_eq_some_iff.2 ⟨_, key _ (Nat.le_refl _), rfl⟩, hq⟩
    | ret => exact ⟨k + 1, _, Option.bind_eq_some_iff.2 ⟨_, key _ (Nat.le_refl _), rfl⟩, hq⟩

def condQ (A B : Prop) : CV → Prop
  | .v (.bool t) => if t = true then A else B
  | _ => False

theorem W_cond (x : Cx) (c : Operand) (a b : Code) (fr : Fr) (H : Hp) (Q : Ex → Fr → Hp → Prop) : W x (.cond c a b) fr H Q ↔ WX (evO fr c) (condQ (W x a fr H Q) (W x b fr H Q)) := by
  constructor
  · rintro ⟨k, r, h, hq⟩
    cases k with
    | zero => cases h
    | succ k =>
      obtain ⟨cv, h1, h2⟩ := Option.bind_eq_some_iff.1 h
      refine ⟨cv, h1, ?_⟩
      split at h2
      · rename_i t
        cases t
        · exact ⟨k + 1, r, ev_mono (fun _ _ _ _ => .refl _) x.m x.n (Nat.le_succ k) _ fr H _ h2, hq⟩
        · exact ⟨k + 1, r, ev_mono (fun _ _ _ _ => .refl _) x.m x.n (Nat.le_succ k) _ fr H _ h2, hq⟩
      · cases h2
  · rintro ⟨cv, h1, h2⟩
    unfold condQ at h2
    split at h2
    · rename_i t
      cases t
      · obtain ⟨k, r, h, hq⟩ := h2
        exact ⟨k + 1, r, Option.bind_eq_some_iff.2 ⟨_, h1, ev_mono (evCall_mono (Nat.le_succ k)) x.m x.n (Nat.le_refl k) b fr H _ h⟩, hq⟩
      · obtain ⟨k, r, h, hq⟩ := h2
        exact ⟨k + 1, r, Option.bind_eq_some_iff.2 ⟨_, h1, ev_mono (evCall_mono (Nat.le_succ k)) x.m x.n (Nat.le_refl k) a fr H _ h⟩, hq⟩
    · exact h2.elim

theorem W_regionC (x : Cx) (i : Nat) (ops : Array Oper) (fr : Fr) (H : Hp) (Q : Ex → Fr → Hp → Prop) : W x (.region i ops false) fr H Q ↔ WO x ops ops.toList (cloR x.m (x.cfg.clo i) (fr, H)).1 (cloR x.m (x.cfg.clo i) (fr, H)).2 (Q .norm) := by
  constructor
  · rintro ⟨k, r, h, hq⟩
    cases k with
    | zero => cases h
    | succ k =>
      obtain ⟨r1, h1, h2⟩ := Option.map_eq_some_iff.1 h
      cases h2
      exact ⟨k + 1, r1, h1, hq⟩
  · rintro ⟨k, r, h, hq⟩
    exact ⟨k + 1, _, Option.map_eq_some_iff.2 ⟨_, evOps_mono (evCall_mono (Nat.le_succ k)) x.m x.n ops _ _ _ _ h, rfl⟩, hq⟩
theorem W_region (x : Cx) (i : Nat) (ops : Array Oper) (fr : Fr) (H : Hp) (Q : Ex → Fr → Hp → Prop) (hc : x.cfg.clo i = []) : W x (.region i ops false) fr H Q ↔ WO x ops ops.toList fr H (Q .norm) := by
  rw [W_regionC, hc]; rfl

/-- A loop, with what holds at each of its rounds. -/
theorem W_rounds {x : Cx} {c : Code} {Q : Ex → Fr → Hp → Prop} (I : Nat → Fr → Hp → Prop) (h : ∀ j fr H, I j fr H → W x c fr H fun e fr H => match e with | .norm => ∃ j', j' < j ∧ I j' fr H | e => Q e fr H) : ∀ j fr H, I j fr H → W x (.loop c) fr H Q := by
  intro j
  induction j using Nat.strongRecOn with
  | ind j ih =>
    intro fr H hi
    rw [W_loop]
    obtain ⟨k, ⟨e, fr1, H1⟩, h1, h2⟩ := h j fr H hi
    refine ⟨k, _, h1, ?_⟩
    cases e with
    | norm =>
      obtain ⟨j', hj, hi'⟩ := h2
      exact ih j' hj fr1 H1 hi'
    | _ => exact h2

theorem W_mono {x : Cx} {c : Code} {fr : Fr} {H : Hp} {Q Q' : Ex → Fr → Hp → Prop} (h : W x c fr H Q) (hq : ∀ e fr H, Q e fr H → Q' e fr H) : W x c fr H Q' :=
  let ⟨k, r, h1, h2⟩ := h
  ⟨k, r, h1, hq _ _ _ h2⟩

/-- A frame with one entry more. -/
def upd (fr : Fr) (d : Tmp) (x : CV) : Fr := fun t => if t = d then x else fr t
theorem upd_same (fr : Fr) (d : Tmp) (x : CV) : upd fr d x d = x := by simp [upd]
theorem upd_ne (fr : Fr) (d : Tmp) (x : CV) (t : Tmp) (h : (t == d) = false) : upd fr d x t = fr t := by
  have : t ≠ d := by simpa using h
  simp [upd, this]

/-- Where the operations of a region leave their values. -/
def wantQ (A B : Prop) (fr : Fr) (d : Option Tmp) (want : Bool) : Prop :=
  match d with
  | none => B
  | some d => match fr d with
    | .v (.bool b) => if b = want then A else B
    | .tup [] => B
    | _ => False

theorem WO_nil (x : Cx) (ops : Array Oper) (fr : Fr) (H : Hp) (K : Fr → Hp → Prop) : WO x ops [] fr H K ↔ K fr H := by
  simp [WO, evOps]

theorem evOps_do {P : Program} {cfg : Cfg} {ce : CallE} {m n : Nat} {ops : Array Oper} {o : Oper} {rest : List Oper} {fr : Fr} {H : Hp} (hw : wantC fr ops o = some true) :
    evOps P cfg ce m n ops (o :: rest) fr H = (opX P cfg ce m fr (oldC fr o.dst) H o.op).bind fun y => (putC n fr o.dst y.1).bind fun fr2 => evOps P cfg ce m n ops rest fr2 y.2 := by
  simp only [evOps, hw, Option.bind_some, if_true]
theorem evOps_not {P : Program} {cfg : Cfg} {ce : CallE} {m n : Nat} {ops : Array Oper} {o : Oper} {rest : List Oper} {fr : Fr} {H : Hp} (hw : wantC fr ops o = some false) :
    evOps P cfg ce m n ops (o :: rest) fr H = (putC n fr o.dst (.tup [])).bind fun fr2 => evOps P cfg ce m n ops rest fr2 H := by
  simp only [evOps, hw, Option.bind_some, Bool.false_eq_true, if_false]
theorem evOps_none {P : Program} {cfg : Cfg} {ce : CallE} {m n : Nat} {ops : Array Oper} {o : Oper} {rest : List Oper} {fr : Fr} {H : Hp} (hw : wantC fr ops o = none) :
    evOps P cfg ce m n ops (o :: rest) fr H = none := by
  simp only [evOps, hw, Option.bind_none]

theorem WO_do {x : Cx} {ops : Array Oper} {o : Oper} {rest : List Oper} {fr : Fr} {H : Hp} {K : Fr → Hp → Prop} (hw : wantC fr ops o = some true) :
    WO x ops (o :: rest) fr H K ↔ WP x o.op (oldC fr o.dst) fr H fun y H2 => WX (putC x.n fr o.dst y) fun fr2 => WO x ops rest fr2 H2 K := by
  constructor
  · rintro ⟨k, r, h, hk⟩
    rw [evOps_do hw] at h
    obtain ⟨y, h1, h⟩ := Option.bind_eq_some_iff.1 h
    obtain ⟨fr2, h2, h3⟩ := Option.bind_eq_some_iff.1 h
    exact ⟨k, y, h1, fr2, h2, k, r, h3, hk⟩
  · rintro ⟨k, y, h1, fr2, h2, k2, r, h3, hk⟩
    refine ⟨max k k2, r, ?_, hk⟩
    rw [evOps_do hw]
    refine Option.bind_eq_some_iff.2 ⟨y, opX_mono (evCall_mono (Nat.le_max_left _ _)) _ _ _ _ _ _ h1, Option.bind_eq_some_iff.2 ⟨fr2, h2, ?_⟩⟩
    exact evOps_mono (evCall_mono (Nat.le_max_right _ _)) _ _ _ _ _ _ _ h3

theorem WO_not {x : Cx} {ops : Array Oper} {o : Oper} {rest : List Oper} {fr : Fr} {H : Hp} {K : Fr → Hp → Prop} (hw : wantC fr ops o = some false) :
    WO x ops (o :: rest) fr H K ↔ WX (putC x.n fr o.dst (.tup [])) fun fr2 => WO x ops rest fr2 H K := by
  constructor
  · rintro ⟨k, r, h, hk⟩
    rw [evOps_not hw] at h
    obtain ⟨fr2, h2, h3⟩ := Option.bind_eq_some_iff.1 h
    exact ⟨fr2, h2, k, r, h3, hk⟩
  · rintro ⟨fr2, h2, k, r, h3, hk⟩
    refine ⟨k, r, ?_, hk⟩
    rw [evOps_not hw]
    exact Option.bind_eq_some_iff.2 ⟨fr2, h2, h3⟩

theorem putC_some {n : Nat} {fr : Fr} {d : Tmp} {x : CV} (h : d < n) : putC n fr (some d) x = some (upd fr d x) := by
  simp only [putC, h, if_true]; rfl

/-- An operation without a condition. -/
theorem WO_one (x : Cx) (ops : Array Oper) (d : Tmp) (op : Op) (ty : TypeId) (pos : String) (after : Array Edge) (rest : List Oper) (fr : Fr) (H : Hp) (K : Fr → Hp → Prop) (h : d < x.n) :
    WO x ops (⟨some d, op, ty, pos, after, none⟩ :: rest) fr H K ↔ WP x op (fr d) fr H fun y H2 => WO x ops rest (upd fr d y) H2 K := by
  rw [WO_do rfl]
  simp only [oldC, putC_some h, WX_some]
theorem WO_eff (x : Cx) (ops : Array Oper) (op : Op) (ty : TypeId) (pos : String) (after : Array Edge) (rest : List Oper) (fr : Fr) (H : Hp) (K : Fr → Hp → Prop) :
    WO x ops (⟨none, op, ty, pos, after, none⟩ :: rest) fr H K ↔ WP x op (.tup []) fr H fun y H2 => WO x ops rest fr H2 K := by
  rw [WO_do rfl]
  simp only [oldC, putC, WX_some]

end Go.SL

/- What each operation comes to, as rules that rewrite. -/
namespace Go.SL
set_option linter.unusedVariables false

theorem WP_E {x : Cx} {o : Op} {old : CV} {fr : Fr} {H : Hp} {K : CV → Hp → Prop} {e : Option (CV × Hp)} (h : ∀ ce, opX x.P x.cfg ce x.m fr old H o = e) : WP x o old fr H K ↔ WX e fun r => K r.1 r.2 := by
  constructor
  · rintro ⟨k, r, h1, h2⟩; rw [h] at h1; exact ⟨r, h1, h2⟩
  · rintro ⟨r, h1, h2⟩; exact ⟨0, r, by rw [h]; exact h1, h2⟩

variable (x : Cx) (old : CV) (fr : Fr) (H : Hp) (K : CV → Hp → Prop)

theorem opX_eq {P : Program} {cfg : Cfg} {ce : CallE} {m : Nat} {fr : Fr} {old : CV} {H : Hp} {o : Op} (hc : ∀ f a t, o ≠ .call ⟨.value f, a, t⟩) : opX P cfg ce m fr old H o = if stOK m fr o then opE P cfg fr old H o else none := by
  cases o with
  | call c =>
    obtain ⟨callee, args, ts⟩ := c
    cases callee with
    | value f => exact absurd rfl (hc f args ts)
    | _ => rfl
  | _ => rfl
theorem guard_iff {c : Bool} {α : Type} {e : Option α} {L : α → Prop} {B : Prop} (h : WX e L ↔ B) : WX (if c = true then e else none) L ↔ c = true ∧ B := by
  cases c <;> simp [WX_none, h]
theorem WP_st (o : Op) (hc : ∀ f a t, o ≠ .call ⟨.value f, a, t⟩) : WP x o old fr H K ↔ WX (if stOK x.m fr o then opE x.P x.cfg fr old H o else none) fun r => K r.1 r.2 :=
  WP_E fun ce => opX_eq hc

theorem WP_move (a : Operand) : WP x (.move a) old fr H K ↔ WX (evO fr a) fun y => K (unlit y) H := by
  rw [WP_st _ _ _ _ _ _ (by intros; simp)]; simp only [opE, WX_map, stOK, if_true]
theorem WP_assign (a : Operand) : WP x (.assign a) old fr H K ↔ WX (evO fr a) fun y => K (unlit y) H := by
  rw [WP_st _ _ _ _ _ _ (by intros; simp)]; simp only [opE, WX_map, stOK, if_true]
theorem condQ_iff (A B : Prop) (o : Option CV) (f : CV → Option (CV × Hp)) (K : CV × Hp → Prop) (h1 : WX (f (.v (.bool true))) K ↔ A) (h2 : WX (f (.v (.bool false))) K ↔ B) (h3 : ∀ c, (∀ b, c ≠ .v (.bool b)) → f c = none) :
    WX (o.bind f) K ↔ WX o (condQ A B) := by
  rw [WX_bind]
  cases o with
  | none => simp [WX]
  | some c =>
    simp only [WX_some]
    by_cases hc : ∃ b, c = .v (.bool b)
    · obtain ⟨b, rfl⟩ := hc
      cases b
      · simp [condQ, h2]
      · simp [condQ, h1]
    · rw [h3 c (fun b e => hc ⟨b, e⟩), WX_none]
      unfold condQ
      split
      · exact absurd ⟨_, rfl⟩ hc
      · exact Iff.rfl
theorem WP_pick (c a b : Operand) : WP x (.pick c a b) old fr H K ↔ WX (evO fr c) (condQ (WX (evO fr a) fun y => K y H) (WX (evO fr b) fun y => K y H)) := by
  rw [WP_st _ _ _ _ _ _ (by intros; simp)]
  simp only [opE, stOK, if_true]
  refine condQ_iff _ _ _ _ _ ?_ ?_ ?_
  · simp only [WX_map, if_true]
  · simp only [WX_map, Bool.false_eq_true, if_false]
  · intro c hc
    split
    · exact absurd rfl (hc _)
    · rfl
def aQ (P : Program) (t : TypeId) (old : CV) (H : Hp) (K : CV → Hp → Prop) (re : Bool) : Prop :=
  if re then WX (match dRealloc P t old H with | some r => some r | none => dAlloc P t H) fun r => K r.1 r.2 else WX (dAlloc P t H) fun r => K r.1 r.2
theorem WP_alloc (t : TypeId) : WP x (.alloc t) old fr H K ↔ aQ x.P t old H K x.cfg.reuse := by
  rw [WP_st _ _ _ _ _ _ (by intros; simp)]
  simp only [opE, stOK, if_true, aQ]
  split <;> rfl
theorem WP_box (t : TypeId) (a : Operand) : WP x (.box t a) old fr H K ↔ WX (evO fr a) fun y => WX (cvCells y) fun cs => K (.ptr H.length 0 0) (H ++ [.cells 0 cs t]) := by
  rw [WP_st _ _ _ _ _ _ (by intros; simp)]; simp only [opE, WX_map, WX_bind, dBox, stOK, if_true]
theorem WP_build (t : TypeId) (ps : Array (Nat × Operand)) : WP x (.build t ps) old fr H K ↔ WX (evP fr ps.toList) fun ps => WX (dBuild x.P t ps) fun y => K y H := by
  rw [WP_st _ _ _ _ _ _ (by intros; simp)]; simp only [opE, WX_map, WX_bind, stOK, if_true]
theorem WP_buildSlice (t : TypeId) (n : Nat) (ps : Array (Nat × Operand)) : WP x (.buildSlice t n ps) old fr H K ↔ WX (evP fr ps.toList) fun ps => WX (dBuildSlice x.P t n ps H x.cfg.mu) fun r => K r.1 r.2 := by
  rw [WP_st _ _ _ _ _ _ (by intros; simp)]; simp only [opE, WX_map, WX_bind, stOK, if_true]
theorem WP_load (t : TypeId) (a : Operand) : WP x (.load t a) old fr H K ↔ WX (evO fr a) fun a => WX (dLoad x.P t a H) fun y => K y H := by
  rw [WP_st _ _ _ _ _ _ (by intros; simp)]; simp only [opE, WX_map, WX_bind, stOK, if_true]
def stQ (m : Nat) (a b : CV) : Bool :=
  match a with
  | .ptr id _ _ => decide (m ≤ id) || topLe 0 b
  | _ => true
theorem WP_store (t : TypeId) (a b : Operand) : WP x (.store t a b) old fr H K ↔ WX (evO fr a) fun a => WX (evO fr b) fun b => stQ x.m a b = true ∧ WX (dStore x.P t a b H) fun H2 => K (.tup []) H2 := by
  rw [WP_st _ _ _ _ _ _ (by intros; simp)]
  simp only [opE, stOK, WX_ite, WX_none]
  obtain ⟨ea, h1⟩ : ∃ e, evO fr a = e := ⟨_, rfl⟩
  obtain ⟨eb, h2⟩ : ∃ e, evO fr b = e := ⟨_, rfl⟩
  simp only [h1, h2]
  cases ea with
  | none => simp [WX]
  | some u =>
    cases eb with
    | none => simp [WX]
    | some v =>
      simp only [WX_some, Option.bind_some, WX_map]
      cases u <;> simp only [stQ, true_and] <;> first
        | exact guard_iff (by simp only [WX_map])
        | simp only [if_true, WX_map]
theorem WP_nilCheck (a : Operand) : WP x (.nilCheck a) old fr H K ↔ WX (evO fr a) fun y => (atP H y).isSome = true ∧ K y H := by
  rw [WP_st _ _ _ _ _ _ (by intros; simp)]; simp only [opE, WX_bind, WX_ite, WX_none, WX_some, stOK, if_true]
  constructor
  · rintro ⟨y, h1, h2⟩
    split at h2
    · rename_i h; exact ⟨y, h1, h, h2⟩
    · exact h2.elim
  · rintro ⟨y, h1, h, h2⟩; exact ⟨y, h1, by simp only [h, if_true]; exact h2⟩
theorem WP_binOp (op : BinOp) (t : TypeId) (a b : Operand) (q : TypeId) : WP x (.binOp op t a b q) old fr H K ↔ WX (evO fr a) fun a => WX (evO fr b) fun b => WX (dBin x.P op t a b H) fun y => K y H := by
  rw [WP_st _ _ _ _ _ _ (by intros; simp)]; simp only [opE, WX_map, WX_bind, stOK, if_true]
theorem WP_unOp (op : UnOp) (t : TypeId) (a : Operand) : WP x (.unOp op t a) old fr H K ↔ WX (evO fr a) fun a => WX (dUn op a) fun y => K y H := by
  rw [WP_st _ _ _ _ _ _ (by intros; simp)]; simp only [opE, WX_map, WX_bind, stOK, if_true]
def cvt (P : Program) (mu : Bool) (s d : TypeId) (x : CV) (H : Hp) : Option (CV × Hp) :=
  match dConv P s d x H with
  | some y => some (y, H)
  | none => match dB2B P s d x with
    | some y => some (y, H)
    | none => dS2B P s d x H mu
theorem WP_convert (s d : TypeId) (a : Operand) : WP x (.convert s d a) old fr H K ↔ WX (evO fr a) fun a => WX (cvt x.P x.cfg.mu s d a H) fun r => K r.1 r.2 := by
  rw [WP_st _ _ _ _ _ _ (by intros; simp)]; simp only [opE, WX_bind, stOK, if_true]; rfl
theorem WP_makeInterface (t : TypeId) (a : Operand) : WP x (.makeInterface t a) old fr H K ↔ WX (evO fr a) fun a => x.P.concrete t = true ∧ K (.ifc t (unlit a)) H := by
  rw [WP_st _ _ _ _ _ _ (by intros; simp)]; simp only [opE, WX_bind, WX_ite, WX_none, WX_some, stOK, if_true]
  constructor
  · rintro ⟨y, h1, h2⟩
    split at h2
    · rename_i h; exact ⟨y, h1, h, h2⟩
    · exact h2.elim
  · rintro ⟨y, h1, h, h2⟩; exact ⟨y, h1, by simp only [h, if_true]; exact h2⟩
theorem WP_makeFunc (f : FuncId) (a b : Array Operand) : WP x (.makeFunc (.func f) a b) old fr H K ↔ WX (evL fr a.toList) fun a => WX (evL fr b.toList) fun b => K (.fn (.func f) a b) H := by
  rw [WP_st _ _ _ _ _ _ (by intros; simp)]; simp only [opE, WX_map, WX_bind, stOK, if_true]
theorem WP_makeMap (t : TypeId) : WP x (.makeMap t none) old fr H K ↔ K (.mp H.length 0) (H ++ [.map 0 [] 0]) := by
  rw [WP_st _ _ _ _ _ _ (by intros; simp)]; simp only [opE, WX_some, stOK, if_true]
theorem WP_slice (t : TypeId) (a : Operand) (lo hi : Option Operand) : WP x (.slice t a lo hi none) old fr H K ↔ WX (evO fr a) fun a => WX (evM fr lo) fun lo => WX (evM fr hi) fun hi => WX (dSlice x.P t a lo hi H) fun y => K y H := by
  rw [WP_st _ _ _ _ _ _ (by intros; simp)]; simp only [opE, WX_map, WX_bind, stOK, if_true]
theorem WP_fieldAddr (t : TypeId) (a : Operand) (f : Nat) : WP x (.fieldAddr t a f) old fr H K ↔ WX (evO fr a) fun a => WX (dFieldAddr x.P t a f H) fun y => K y H := by
  rw [WP_st _ _ _ _ _ _ (by intros; simp)]; simp only [opE, WX_map, WX_bind, stOK, if_true]
theorem WP_field (t : TypeId) (a : Operand) (f : Nat) : WP x (.field t a f) old fr H K ↔ WX (evO fr a) fun a => WX (dField x.P t a f) fun y => K y H := by
  rw [WP_st _ _ _ _ _ _ (by intros; simp)]; simp only [opE, WX_map, WX_bind, stOK, if_true]
theorem WP_indexAddr (t : TypeId) (a i : Operand) : WP x (.indexAddr t a i) old fr H K ↔ WX (evO fr a) fun a => WX (evO fr i) fun i => WX (dIndexAddr x.P t a i H) fun y => K y H := by
  rw [WP_st _ _ _ _ _ _ (by intros; simp)]; simp only [opE, WX_map, WX_bind, stOK, if_true]
theorem WP_index (t : TypeId) (a i : Operand) : WP x (.index t a i) old fr H K ↔ WX (evO fr a) fun a => WX (evO fr i) fun i => WX (dIndex x.P t a i) fun y => K y H := by
  rw [WP_st _ _ _ _ _ _ (by intros; simp)]; simp only [opE, WX_map, WX_bind, stOK, if_true]
theorem WP_lookup (t : TypeId) (a i : Operand) (ok : Bool) : WP x (.lookup t a i ok) old fr H K ↔ WX (evO fr a) fun a => WX (evO fr i) fun i => WX (dLookup x.P t a i ok H) fun y => K y H := by
  rw [WP_st _ _ _ _ _ _ (by intros; simp)]; simp only [opE, WX_map, WX_bind, stOK, if_true]
def muQ (m : Nat) (a b : CV) : Bool :=
  match a with
  | .mp id _ => decide (m ≤ id) || topLe 0 b
  | _ => true
theorem WP_mapUpdate (t : TypeId) (a i b : Operand) : WP x (.mapUpdate t a i b) old fr H K ↔ WX (evO fr a) fun a => WX (evO fr i) fun i => WX (evO fr b) fun b => muQ x.m a b = true ∧ WX (dMapUpd x.P t a i b H) fun H2 => K (.tup []) H2 := by
  rw [WP_st _ _ _ _ _ _ (by intros; simp)]
  simp only [opE, stOK, WX_ite, WX_none]
  obtain ⟨ea, h1⟩ : ∃ e, evO fr a = e := ⟨_, rfl⟩
  obtain ⟨eb, h2⟩ : ∃ e, evO fr b = e := ⟨_, rfl⟩
  obtain ⟨ei, h3⟩ : ∃ e, evO fr i = e := ⟨_, rfl⟩
  simp only [h1, h2, h3]
  cases ea with
  | none => simp [WX]
  | some u =>
    cases ei with
    | none => simp [WX]
    | some z =>
      cases eb with
      | none => simp [WX]
      | some v =>
        simp only [WX_some, Option.bind_some, WX_map]
        cases u <;> simp only [muQ, true_and] <;> first
          | exact guard_iff (by simp only [WX_map])
          | simp only [if_true, WX_map]
theorem WP_insert (t : TypeId) (a i b : Operand) : WP x (.insert t a i b) old fr H K ↔ WX (evO fr a) fun a => WX (evO fr i) fun i => WX (evO fr b) fun b => muQ x.m a b = true ∧ WX (dMapUpd x.P t a i b H) fun H2 => K (.tup []) H2 :=
  WP_mapUpdate x old fr H K t a i b
theorem WP_extract (a : Operand) (i : Nat) : WP x (.extract a i) old fr H K ↔ WX (evO fr a) fun a => WX (dExtract a i) fun y => K y H := by
  rw [WP_st _ _ _ _ _ _ (by intros; simp)]; simp only [opE, WX_map, WX_bind, stOK, if_true]
theorem WP_len (t : TypeId) (a : Operand) : WP x (.call ⟨.builtin .len, #[a], #[t]⟩) old fr H K ↔ WX (evO fr a) fun a => WX (dLenS x.P t a H) fun y => K y H := by
  rw [WP_st _ _ _ _ _ _ (by intros; simp)]; simp only [opE, evL, dBuiltin, Option.map_some, WX_map, WX_bind, WX_some, stOK, if_true]
theorem WP_max (ts : Array TypeId) (as : Array Operand) : WP x (.call ⟨.builtin .max, as, ts⟩) old fr H K ↔ WX (evL fr as.toList) fun xs => WX (dMax mx xs) fun y => K y H := by
  rw [WP_st _ _ _ _ _ _ (by intros; simp)]; simp only [opE, dBuiltin, WX_map, WX_bind, stOK, if_true]
theorem WP_min (ts : Array TypeId) (as : Array Operand) : WP x (.call ⟨.builtin .min, as, ts⟩) old fr H K ↔ WX (evL fr as.toList) fun xs => WX (dMax mn xs) fun y => K y H := by
  rw [WP_st _ _ _ _ _ _ (by intros; simp)]; simp only [opE, dBuiltin, WX_map, WX_bind, stOK, if_true]
theorem WP_copy (t u : TypeId) (a b : Operand) : WP x (.call ⟨.builtin .copy, #[a, b], #[t, u]⟩) old fr H K ↔ WX (evO fr a) fun a => WX (evO fr b) fun b => WX (dCopy x.P t a b H) fun r => K r.1 r.2 := by
  rw [WP_st _ _ _ _ _ _ (by intros; simp)]; simp only [opE, evL, dBuiltin, Option.map_some, WX_map, WX_bind, WX_some, stOK, if_true]
theorem WP_unsD (t : TypeId) (a : Operand) : WP x (.call ⟨.builtin .unsafeSliceData, #[a], #[t]⟩) old fr H K ↔ WX (evO fr a) fun a => WX (dUnsD a H) fun y => K y H := by
  rw [WP_st _ _ _ _ _ _ (by intros; simp)]; simp only [opE, evL, dBuiltin, Option.map_some, WX_map, WX_bind, WX_some, stOK, if_true]
theorem WP_unsS (t u : TypeId) (a b : Operand) : WP x (.call ⟨.builtin .unsafeString, #[a, b], #[t, u]⟩) old fr H K ↔ WX (evO fr a) fun a => WX (evO fr b) fun b => WX (dUnsS x.P t a b H) fun r => K r.1 r.2 := by
  rw [WP_st _ _ _ _ _ _ (by intros; simp)]; simp only [opE, evL, dBuiltin, Option.map_some, WX_map, WX_bind, WX_some, stOK, if_true]
def apQ (m : Nat) (a b : CV) : Bool :=
  match a with
  | .sl id _ _ _ _ => decide (m ≤ id) || clB b
  | _ => true
theorem WP_append (t tx : TypeId) (a b : Operand) : WP x (.call ⟨.builtin .append, #[a, b], #[t, tx]⟩) old fr H K ↔ WX (evO fr a) fun a => WX (evO fr b) fun b => apQ x.m a b = true ∧ WX (dAppend x.P t tx a b H) fun r => K r.1 r.2 := by
  rw [WP_st _ _ _ _ _ _ (by intros; simp)]
  simp only [opE, evL, dBuiltin, stOK, WX_ite, WX_none]
  obtain ⟨ea, h1⟩ : ∃ e, evO fr a = e := ⟨_, rfl⟩
  obtain ⟨eb, h2⟩ : ∃ e, evO fr b = e := ⟨_, rfl⟩
  simp only [h1, h2]
  cases ea with
  | none => simp [WX]
  | some u =>
    cases eb with
    | none => simp [WX]
    | some v =>
      simp only [WX_some, Option.bind_some, Option.map_some]
      cases u <;> simp only [apQ, true_and] <;> first
        | exact guard_iff (by simp only [WX_map])
        | simp only [if_true, WX_map]
/-- A call. -/
def callQ (x : Cx) (H : Hp) (K : CV → Hp → Prop) (xs : List CV) : CV → Prop
  | .v (.func (.func f) _ _) => WC x.P x.cs x.m (.f f) (xs.map unlit) H K
  | .fn (.func f) fs cs => WC x.P x.cs x.m (.f f) (fs ++ xs.map unlit ++ cs) H K
  | .yl id ver => WC x.P x.cs x.m (.y id ver) (xs.map unlit) H K
  | _ => False
theorem WP_call (f : Operand) (as : Array Operand) (ts : Array TypeId) : WP x (.call ⟨.value f, as, ts⟩) old fr H K ↔ WX (evO fr f) fun f => WX (evL fr as.toList) fun xs => callQ x H K xs f := by
  constructor
  · rintro ⟨k, r, h, hk⟩
    obtain ⟨fv, h1, h⟩ := Option.bind_eq_some_iff.1 h
    obtain ⟨xs, h2, h⟩ := Option.bind_eq_some_iff.1 h
    refine ⟨fv, h1, xs, h2, ?_⟩
    unfold callQ
    split at h
    · exact ⟨k, r, h, hk⟩
    · exact ⟨k, r, h, hk⟩
    · exact ⟨k, r, h, hk⟩
    · cases h
  · rintro ⟨fv, h1, xs, h2, h⟩
    unfold callQ at h
    split at h
    · obtain ⟨k, r, h, hk⟩ := h
      exact ⟨k, r, Option.bind_eq_some_iff.2 ⟨_, h1, Option.bind_eq_some_iff.2 ⟨_, h2, h⟩⟩, hk⟩
    · obtain ⟨k, r, h, hk⟩ := h
      exact ⟨k, r, Option.bind_eq_some_iff.2 ⟨_, h1, Option.bind_eq_some_iff.2 ⟨_, h2, h⟩⟩, hk⟩
    · obtain ⟨k, r, h, hk⟩ := h
      exact ⟨k, r, Option.bind_eq_some_iff.2 ⟨_, h1, Option.bind_eq_some_iff.2 ⟨_, h2, h⟩⟩, hk⟩
    · exact h.elim

/-- A function's answer. -/
def Ret (P : Program) (cs : Cfgs) (m : Nat) (f : FuncId) (args : List CV) (H : Hp) (y : CV) (H2 : Hp) : Prop := WC P cs m (.f f) args H fun y' H' => y' = y ∧ H' = H2
theorem Ret.wc {P : Program} {cs : Cfgs} {m : Nat} {f : FuncId} {args : List CV} {H H2 : Hp} {y : CV} (h : Ret P cs m f args H y H2) (K : CV → Hp → Prop) : WC P cs m (.f f) args H K ↔ K y H2 := by
  obtain ⟨k, ⟨y', H'⟩, h1, rfl, rfl⟩ := h
  constructor
  · rintro ⟨k', r, h2, hk⟩
    have a := evCall_mono (P := P) (cs := cs) (Nat.le_max_left k k') _ _ _ _ _ h1
    have b := evCall_mono (P := P) (cs := cs) (Nat.le_max_right k k') _ _ _ _ _ h2
    rw [a] at b; cases b; exact hk
  · exact fun hk => ⟨k, _, h1, hk⟩

/-- What a function's code leaves. -/
def retQ (P : Program) (m : Nat) (rs : List ResultVar) (K : CV → Hp → Prop) : Ex → Fr → Hp → Prop
  | .norm, fr, H => WX (resC P fr H rs) fun xs => WX (frz H m (one xs)) fun y => K y (H.take m)
  | .ret, fr, H => WX (resC P fr H rs) fun xs => WX (frz H m (one xs)) fun y => K y (H.take m)
  | _, _, _ => False
/-- A function that is dropped at its end. -/
theorem WC_drop {P : Program} {cs : Cfgs} {m : Nat} {f : FuncId} {args : List CV} {H : Hp} {K : CV → Hp → Prop} {fn : Func} {c : Code} (hp : cs.prim f = none) (hf : P.funcs[f]? = some fn) (hc : fn.body = some c) (hd : cs.drop f = true) :
    WC P cs m (.f f) args H K ↔ W ⟨P, cs, { cs.of f with inR := false, fn := f }, H.length, args.length + (fn.ntmps - args.length)⟩ c (frame args) H (retQ P H.length fn.results.toList K) := by
  constructor
  · rintro ⟨k, r, h, hk⟩
    cases k with
    | zero => cases h
    | succ k =>
      simp only [evCall, hp, hf, hc, hd, Option.bind_some, if_true] at h
      obtain ⟨⟨e, fr1, H1⟩, h1, h⟩ := Option.bind_eq_some_iff.1 h
      refine ⟨k, _, h1, ?_⟩
      cases e with
      | norm =>
        obtain ⟨xs, h2, h⟩ := Option.bind_eq_some_iff.1 h
        obtain ⟨y, h3, h⟩ := Option.map_eq_some_iff.1 h
        subst h
        exact ⟨xs, h2, y, h3, hk⟩
      | ret =>
        obtain ⟨xs, h2, h⟩ := Option.bind_eq_some_iff.1 h
        obtain ⟨y, h3, h⟩ := Option.map_eq_some_iff.1 h
        subst h
        exact ⟨xs, h2, y, h3, hk⟩
      | _ => cases h
  · rintro ⟨k, ⟨e, fr1, H1⟩, h1, hq⟩
    cases e with
    | norm =>
      obtain ⟨xs, h2, y, h3, hk⟩ := hq
      refine ⟨k + 1, (y, H1.take H.length), ?_, hk⟩
      simp only [evCall, hp, hf, hc, hd, Option.bind_some, if_true]
      exact Option.bind_eq_some_iff.2 ⟨_, h1, Option.bind_eq_some_iff.2 ⟨xs, h2, Option.map_eq_some_iff.2 ⟨y, h3, rfl⟩⟩⟩
    | ret =>
      obtain ⟨xs, h2, y, h3, hk⟩ := hq
      refine ⟨k + 1, (y, H1.take H.length), ?_, hk⟩
      simp only [evCall, hp, hf, hc, hd, Option.bind_some, if_true]
      exact Option.bind_eq_some_iff.2 ⟨_, h1, Option.bind_eq_some_iff.2 ⟨xs, h2, Option.map_eq_some_iff.2 ⟨y, h3, rfl⟩⟩⟩
    | _ => exact hq.elim
def rawQ (P : Program) (rs : List ResultVar) (K : CV → Hp → Prop) : Ex → Fr → Hp → Prop
  | .norm, fr, H => WX (resC P fr H rs) fun xs => K (one xs) H
  | .ret, fr, H => WX (resC P fr H rs) fun xs => K (one xs) H
  | _, _, _ => False
/-- A function that keeps its objects. -/
theorem WC_raw {P : Program} {cs : Cfgs} {m : Nat} {f : FuncId} {args : List CV} {H : Hp} {K : CV → Hp → Prop} {fn : Func} {c : Code} (hp : cs.prim f = none) (hf : P.funcs[f]? = some fn) (hc : fn.body = some c) (hd : cs.drop f = false) :
    WC P cs m (.f f) args H K ↔ W ⟨P, cs, { cs.of f with inR := false, fn := f }, m, args.length + (fn.ntmps - args.length)⟩ c (frame args) H (rawQ P fn.results.toList K) := by
  constructor
  · rintro ⟨k, r, h, hk⟩
    cases k with
    | zero => cases h
    | succ k =>
      simp only [evCall, hp, hf, hc, hd, Option.bind_some, Bool.false_eq_true, if_false] at h
      obtain ⟨⟨e, fr1, H1⟩, h1, h⟩ := Option.bind_eq_some_iff.1 h
      refine ⟨k, _, h1, ?_⟩
      cases e with
      | norm =>
        obtain ⟨xs, h2, h⟩ := Option.map_eq_some_iff.1 h
        subst h
        exact ⟨xs, h2, hk⟩
      | ret =>
        obtain ⟨xs, h2, h⟩ := Option.map_eq_some_iff.1 h
        subst h
        exact ⟨xs, h2, hk⟩
      | _ => cases h
  · rintro ⟨k, ⟨e, fr1, H1⟩, h1, hq⟩
    cases e with
    | norm =>
      obtain ⟨xs, h2, hk⟩ := hq
      refine ⟨k + 1, (one xs, H1), ?_, hk⟩
      simp only [evCall, hp, hf, hc, hd, Option.bind_some, Bool.false_eq_true, if_false]
      exact Option.bind_eq_some_iff.2 ⟨_, h1, Option.map_eq_some_iff.2 ⟨xs, h2, rfl⟩⟩
    | ret =>
      obtain ⟨xs, h2, hk⟩ := hq
      refine ⟨k + 1, (one xs, H1), ?_, hk⟩
      simp only [evCall, hp, hf, hc, hd, Option.bind_some, Bool.false_eq_true, if_false]
      exact Option.bind_eq_some_iff.2 ⟨_, h1, Option.map_eq_some_iff.2 ⟨xs, h2, rfl⟩⟩
    | _ => exact hq.elim

/-- The variable of an operation that a condition names. -/
def gT : List Oper → Nat → Option Tmp
  | [], _ => none
  | o :: _, 0 => o.dst
  | _ :: os, n + 1 => gT os n
theorem gT_eq : ∀ (l : List Oper) (j : Nat), gT l j = (l[j]?).bind (·.dst)
  | [], j => by simp [gT]
  | o :: os, 0 => by simp [gT]
  | o :: os, n + 1 => by simp [gT, gT_eq os n]
def guardT (ops : Array Oper) (j : Nat) : Option Tmp := gT ops.toList j
def gQ (A B : Prop) (fr : Fr) (want : Bool) : Option Tmp → Prop
  | none => B
  | some t => match fr t with
    | .v (.bool b) => if b = want then A else B
    | .tup [] => B
    | _ => False
theorem gQ_none (A B : Prop) (fr : Fr) (want : Bool) : gQ A B fr want none ↔ B := Iff.rfl
def gQ2 (A B : Prop) (want : Bool) : CV → Prop
  | .v (.bool b) => if b = want then A else B
  | .tup [] => B
  | _ => False
theorem gQ_some (A B : Prop) (fr : Fr) (want : Bool) (t : Tmp) : gQ A B fr want (some t) ↔ gQ2 A B want (fr t) := Iff.rfl

theorem WO_if {ops : Array Oper} {o : Oper} {rest : List Oper} {KO : Fr → Hp → Prop} {j : Nat} {want : Bool} (hg : o.guard = some (j, want)) :
    WO x ops (o :: rest) fr H KO ↔ gQ (WP x o.op (oldC fr o.dst) fr H fun y H2 => WX (putC x.n fr o.dst y) fun fr2 => WO x ops rest fr2 H2 KO) (WX (putC x.n fr o.dst (.tup [])) fun fr2 => WO x ops rest fr2 H KO) fr want (guardT ops j) := by
  have e : guardT ops j = (ops[j]?).bind (·.dst) := by rw [guardT, gT_eq]; simp
  rw [e]
  cases hd : (ops[j]?).bind (·.dst) with
  | none => rw [gQ_none, WO_not (by simp only [wantC, hg, hd])]
  | some t =>
    rw [gQ_some]
    cases ht : fr t with
    | v q =>
      cases q with
      | bool b =>
        simp only [gQ2]
        by_cases hb : b = want
        · rw [if_pos hb, WO_do (by simp only [wantC, hg, hd, ht]; simp [hb])]
        · rw [if_neg hb, WO_not (by simp only [wantC, hg, hd, ht]; simpa using hb)]
      | _ => simp only [gQ2]; simp only [WO]; constructor
             · rintro ⟨k, r, h, _⟩; rw [evOps_none (by simp only [wantC, hg, hd, ht])] at h; cases h
             · exact fun h => h.elim
    | tup l =>
      cases l with
      | nil => simp only [gQ2]; rw [WO_not (by simp only [wantC, hg, hd, ht])]
      | cons a l => simp only [gQ2]; simp only [WO]; constructor
                    · rintro ⟨k, r, h, _⟩; rw [evOps_none (by simp only [wantC, hg, hd, ht])] at h; cases h
                    · exact fun h => h.elim
    | _ => simp only [gQ2]; simp only [WO]; constructor
           · rintro ⟨k, r, h, _⟩; rw [evOps_none (by simp only [wantC, hg, hd, ht])] at h; cases h
           · exact fun h => h.elim
theorem WO_if1 (ops : Array Oper) (d : Tmp) (op : Op) (ty : TypeId) (pos : String) (after : Array Edge) (j : Nat) (want : Bool) (rest : List Oper) (KO : Fr → Hp → Prop) (h : d < x.n) :
    WO x ops (⟨some d, op, ty, pos, after, some (j, want)⟩ :: rest) fr H KO ↔ gQ (WP x op (fr d) fr H fun y H2 => WO x ops rest (upd fr d y) H2 KO) (WO x ops rest (upd fr d (.tup [])) H KO) fr want (guardT ops j) := by
  rw [WO_if (hg := rfl)]
  simp only [oldC, putC_some h, WX_some]
theorem WO_ifE (ops : Array Oper) (op : Op) (ty : TypeId) (pos : String) (after : Array Edge) (j : Nat) (want : Bool) (rest : List Oper) (KO : Fr → Hp → Prop) :
    WO x ops (⟨none, op, ty, pos, after, some (j, want)⟩ :: rest) fr H KO ↔ gQ (WP x op (.tup []) fr H fun y H2 => WO x ops rest fr H2 KO) (WO x ops rest fr H KO) fr want (guardT ops j) := by
  rw [WO_if (hg := rfl)]
  simp only [oldC, putC, WX_some]

end Go.SL

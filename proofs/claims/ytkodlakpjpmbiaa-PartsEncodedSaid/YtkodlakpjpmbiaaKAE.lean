/- More fuel answers the same: what code comes to, without a number of steps. -/
import Derived.Test.YtkodlakpjpmbiaaKAC
import Derived.Laws.Strings
import Derived.IntWalk

set_option linter.all false

namespace Go.SL
/-- None, where nothing is said. -/
instance (priority := low) noBase : BaseC := { im := fun _ _ => none }
set_option linter.unusedVariables false

def OLe {α : Type} (a b : Option α) : Prop := ∀ r, a = some r → b = some r

theorem OLe.refl {α : Type} (a : Option α) : OLe a a := fun _ h => h
theorem OLe.none {α : Type} (b : Option α) : OLe Option.none b := fun _ h => nomatch h
theorem OLe.bind {α β : Type} {a b : Option α} {f g : α → Option β} (h : OLe a b) (hf : ∀ x, OLe (f x) (g x)) : OLe (a.bind f) (b.bind g) := by
  intro r hr
  obtain ⟨x, h1, h2⟩ := Option.bind_eq_some_iff.1 hr
  exact Option.bind_eq_some_iff.2 ⟨x, h _ h1, hf _ _ h2⟩
theorem OLe.bind' {α β : Type} {a b : Option α} {f g : α → Option β} (h : OLe a b) (hf : ∀ x, a = some x → OLe (f x) (g x)) : OLe (a.bind f) (b.bind g) := by
  intro r hr
  obtain ⟨x, h1, h2⟩ := Option.bind_eq_some_iff.1 hr
  exact Option.bind_eq_some_iff.2 ⟨x, h _ h1, hf _ h1 _ h2⟩
theorem OLe.map {α β : Type} {a b : Option α} {f : α → β} (h : OLe a b) : OLe (a.map f) (b.map f) := by
  intro r hr
  obtain ⟨x, h1, h2⟩ := Option.map_eq_some_iff.1 hr
  exact Option.map_eq_some_iff.2 ⟨x, h _ h1, h2⟩
theorem OLe.ite {α : Type} {c : Prop} [Decidable c] {a a' b b' : Option α} (h : OLe a a') (h' : OLe b b') : OLe (if c then a else b) (if c then a' else b') := by
  split <;> assumption

def CLe (a b : CallE) : Prop := ∀ m f args H, OLe (a m f args H) (b m f args H)

theorem opX_mono {P : Program} {cfg : Cfg} {a b : CallE} (h : CLe a b) (m : Nat) (fr : Fr) (old : CV) (H : Hp) (o : Op) : OLe (opX P cfg a m fr old H o) (opX P cfg b m fr old H o) := by
  cases o with
  | call c =>
    obtain ⟨callee, args, ts⟩ := c
    cases callee with
    | value f =>
      refine OLe.bind (.refl _) fun fv => OLe.bind (.refl _) fun xs => ?_
      split
      · exact h _ _ _ _
      · exact h _ _ _ _
      · exact h _ _ _ _
      · exact .none _
    | _ => exact .refl _
  | _ => exact .refl _

theorem evOps_mono {P : Program} {cfg : Cfg} {a b : CallE} (h : CLe a b) (m n : Nat) (ops : Array Oper) : ∀ (l : List Oper) (fr : Fr) (H : Hp), OLe (evOps P cfg a m n ops l fr H) (evOps P cfg b m n ops l fr H)
  | [], fr, H => .refl _
  | o :: rest, fr, H => by
    unfold evOps
    refine OLe.bind (.refl _) fun t => OLe.ite ?_ ?_
    · exact OLe.bind (opX_mono h _ _ _ _ _) fun y => OLe.bind (.refl _) fun fr2 => evOps_mono h m n ops rest _ _
    · exact OLe.bind (.refl _) fun fr2 => evOps_mono h m n ops rest _ _

theorem evDraw_mono {P : Program} {cfg : Cfg} {a b : CallE} (h : CLe a b) (m n : Nat) (ops : Array Oper) (fr : Fr) (H : Hp) : OLe (evDraw P cfg a m n ops fr H) (evDraw P cfg b m n ops fr H) := by
  unfold evDraw
  split
  · refine OLe.bind' (evOps_mono h m n ops _ _ _) fun r hr => ?_
    intro r' hr'
    split at hr'
    · rename_i hall
      cases hr'
      have hall' : ∀ l, LinX ops l (Array.replicate ops.size false) → evIx P cfg b m n ops l fr H = some r := fun l hl => evOps_mono h m n ops _ _ _ _ (hall l hl)
      rw [if_pos hall']
    · cases hr'
  · exact .refl _

theorem ev_mono {P : Program} {cfg : Cfg} {a b : CallE} (h : CLe a b) (m n : Nat) : ∀ {k k' : Nat} (hk : k ≤ k') (c : Code) (fr : Fr) (H : Hp), OLe (ev P cfg a m n k c fr H) (ev P cfg b m n k' c fr H)
  | 0, k', hk, c, fr, H => .none _
  | k + 1, 0, hk, c, fr, H => absurd hk (by omega)
  | k + 1, k' + 1, hk, c, fr, H => by
    have hk' : k ≤ k' := by omega
    cases c with
    | region i ops d =>
      cases d with
      | true => exact OLe.map (evDraw_mono h m n ops _ _)
      | false => exact OLe.map (evOps_mono h m n ops _ _ _)
    | seq x y =>
      refine OLe.bind (ev_mono h m n hk' x fr H) fun r => ?_
      split
      · exact ev_mono h m n hk' y _ _
      · exact .refl _
    | cond q x y =>
      refine OLe.bind (.refl _) fun c => ?_
      split
      · exact ev_mono h m n hk' _ _ _
      · exact .refl _
    | block i x => exact OLe.map (ev_mono h m n hk' x fr H)
    | scope x =>
      refine OLe.bind (ev_mono h m n hk' x fr H) fun r => ?_
      split <;> exact .refl _
    | loop x =>
      refine OLe.bind (ev_mono h m n hk' x fr H) fun r => ?_
      split
      · exact ev_mono h m n hk' (.loop x) _ _
      · exact .refl _
    | rangeFunc f ps x y =>
      refine OLe.ite (.refl _) (OLe.bind (.refl _) fun fv => ?_)
      split
      · exact OLe.ite (OLe.bind (h _ _ _ _) fun r => .refl _) (.refl _)
      · exact .refl _
    | _ => exact .refl _

theorem evRound_mono {P : Program} {cs : FuncId → Cfg} {a b : CallE} (h : CLe a b) (m : Nat) {k k' : Nat} (hk : k ≤ k') (id ver : Nat) (args : List CV) (H : Hp) : OLe (evRound P cs a m k id ver args H) (evRound P cs b m k' id ver args H) := by
  unfold evRound
  split
  · refine OLe.ite (OLe.bind (ev_mono h _ _ hk _ _ _) fun r => ?_) (.refl _)
    split
    · exact OLe.ite (OLe.bind (ev_mono h _ _ hk _ _ _) fun q => .refl _) (.refl _)
    · exact .refl _
  · exact .refl _

theorem evCall_mono {P : Program} {cs : Cfgs} : ∀ {k k' : Nat} (hk : k ≤ k'), CLe (evCall P cs k) (evCall P cs k')
  | 0, k', hk => fun _ _ _ _ => .none _
  | k + 1, 0, hk => absurd hk (by omega)
  | k + 1, k' + 1, hk => by
    have hk' : k ≤ k' := by omega
    intro m f args H
    cases f with
    | y id ver => exact evRound_mono (evCall_mono hk') _ hk' _ _ _ _
    | f f =>
      unfold evCall
      split
      · exact .refl _
      · refine OLe.bind (.refl _) fun fn => OLe.bind (.refl _) fun c => OLe.ite ?_ ?_
        · exact OLe.bind (ev_mono (evCall_mono hk') _ _ hk' _ _ _) fun r => .refl _
        · exact OLe.bind (ev_mono (evCall_mono hk') _ _ hk' _ _ _) fun r => .refl _

/-- What code comes to. -/
structure Cx where
  P : Program
  cs : Cfgs
  cfg : Cfg
  m : Nat
  n : Nat

def W (x : Cx) (c : Code) (fr : Fr) (H : Hp) (Q : Ex → Fr → Hp → Prop) : Prop :=
  ∃ k r, ev x.P x.cfg (evCall x.P x.cs k) x.m x.n k c fr H = some r ∧ Q r.1 r.2.1 r.2.2
def WO (x : Cx) (ops : Array Oper) (l : List Oper) (fr : Fr) (H : Hp) (K : Fr → Hp → Prop) : Prop :=
  ∃ k r, evOps x.P x.cfg (evCall x.P x.cs k) x.m x.n ops l fr H = some r ∧ K r.1 r.2
def WP (x : Cx) (o : Op) (old : CV) (fr : Fr) (H : Hp) (K : CV → Hp → Prop) : Prop :=
  ∃ k r, opX x.P x.cfg (evCall x.P x.cs k) x.m fr old H o = some r ∧ K r.1 r.2
def WC (P : Program) (cs : Cfgs) (m : Nat) (f : Tg) (args : List CV) (H : Hp) (K : CV → Hp → Prop) : Prop :=
  ∃ k r, evCall P cs k m f args H = some r ∧ K r.1 r.2
def WX {α : Type} (o : Option α) (K : α → Prop) : Prop := ∃ r, o = some r ∧ K r

theorem WX_some {α : Type} (x : α) (K : α → Prop) : WX (some x) K ↔ K x := by simp [WX]
theorem WX_none {α : Type} (K : α → Prop) : WX none K ↔ False := by simp [WX]
theorem WX_bind {α β : Type} (o : Option α) (f : α → Option β) (K : β → Prop) : WX (o.bind f) K ↔ WX o fun x => WX (f x) K := by
  cases o <;> simp [WX]
theorem WX_map {α β : Type} (o : Option α) (f : α → β) (K : β → Prop) : WX (o.map f) K ↔ WX o fun x => K (f x) := by
  cases o <;> simp [WX]
theorem WX_ite {α : Type} (c : Prop) [Decidable c] (a b : Option α) (K : α → Prop) : WX (if c then a else b) K ↔ if c then WX a K else WX b K := by
  split <;> rfl

theorem W_at {x : Cx} {c : Code} {fr : Fr} {H : Hp} {Q : Ex → Fr → Hp → Prop} {k : Nat} {r : Ex × Fr × Hp} (h : ev x.P x.cfg (evCall x.P x.cs k) x.m x.n k c fr H = some r) : W x c fr H Q ↔ Q r.1 r.2.1 r.2.2 := by
  constructor
  · rintro ⟨k', r', h', hq⟩
    have a := ev_mono (evCall_mono (Nat.le_max_left k k')) x.m x.n (Nat.le_max_left k k') c fr H _ h
    have b := ev_mono (evCall_mono (Nat.le_max_right k k')) x.m x.n (Nat.le_max_right k k') c fr H _ h'
    rw [a] at b; cases b; exact hq
  · exact fun hq => ⟨k, r, h, hq⟩

def seqQ (x : Cx) (b : Code) (Q : Ex → Fr → Hp → Prop) : Ex → Fr → Hp → Prop
  | .norm, fr, H => W x b fr H Q
  | e, fr, H => Q e fr H
def blkQ (id : Nat) (Q : Ex → Fr → Hp → Prop) : Ex → Fr → Hp → Prop
  | .exit i, fr, H => if i = id then Q .norm fr H else Q (.exit i) fr H
  | e, fr, H => Q e fr H

theorem W_skip (x : Cx) (fr : Fr) (H : Hp) (Q : Ex → Fr → Hp → Prop) : W x .skip fr H Q ↔ Q .norm fr H := W_at (k := 1) (r := (.norm, fr, H)) rfl
theorem W_label (x : Cx) (l : Nat) (fr : Fr) (H : Hp) (Q : Ex → Fr → Hp → Prop) : W x (.label l) fr H Q ↔ Q .norm fr H := W_at (k := 1) (r := (.norm, fr, H)) rfl
theorem W_exit (x : Cx) (i : Nat) (fr : Fr) (H : Hp) (Q : Ex → Fr → Hp → Prop) : W x (.exit i) fr H Q ↔ Q (.exit i) fr H := W_at (k := 1) (r := (.exit i, fr, H)) rfl
theorem W_ret (x : Cx) (fr : Fr) (H : Hp) (Q : Ex → Fr → Hp → Prop) : W x .ret fr H Q ↔ Q .ret fr H := W_at (k := 1) (r := (.ret, fr, H)) rfl

theorem W_seq (x : Cx) (a b : Code) (fr : Fr) (H : Hp) (Q : Ex → Fr → Hp → Prop) : W x (.seq a b) fr H Q ↔ W x a fr H (seqQ x b Q) := by
  constructor
  · rintro ⟨k, r, h, hq⟩
    cases k with
    | zero => cases h
    | succ k =>
      obtain ⟨r1, h1, h2⟩ := Option.bind_eq_some_iff.1 h
      refine ⟨k + 1, r1, ev_mono (fun _ _ _ _ => .refl _) x.m x.n (Nat.le_succ k) a fr H _ h1, ?_⟩
      obtain ⟨e, fr1, H1⟩ := r1
      cases e <;> first
        | (cases h2; exact hq)
        | exact ⟨k + 1, r, ev_mono (fun _ _ _ _ => .refl _) x.m x.n (Nat.le_succ k) b fr1 H1 _ h2, hq⟩
  · rintro ⟨k, ⟨e, fr1, H1⟩, h, hq⟩
    have key : ∀ k', k ≤ k' → ev x.P x.cfg (evCall x.P x.cs (k' + 1)) x.m x.n k' a fr H = some (e, fr1, H1) := fun k' hk => ev_mono (evCall_mono (by omega)) x.m x.n hk a fr H _ h
    cases e with
    | norm =>
      obtain ⟨k2, r, h2, hq⟩ := hq
      refine ⟨max k k2 + 1, r, ?_, hq⟩
      refine Option.bind_eq_some_iff.2 ⟨_, key _ (Nat.le_max_left _ _), ?_⟩
      exact ev_mono (evCall_mono (by omega)) x.m x.n (Nat.le_max_right _ _) b fr1 H1 _ h2
    | exit i => exact ⟨k + 1, _, Option.bind_eq_some_iff.2 ⟨_, key _ (Nat.le_refl _), rfl⟩, hq⟩
    | goto i => exact ⟨k + 1, _, Option.bind_eq_some_iff.2 ⟨_, key _ (Nat.le_refl _), rfl⟩, hq⟩
    | ret => exact ⟨k + 1, _, Option.bind_eq_some_iff.2 ⟨_, key _ (Nat.le_refl _), rfl⟩, hq⟩

/-- What a scope hands on: no jump to a label. -/
def scoQ (Q : Ex → Fr → Hp → Prop) : Ex → Fr → Hp → Prop
  | .goto _, _, _ => False
  | e, fr, H => Q e fr H
theorem W_scope (x : Cx) (c : Code) (fr : Fr) (H : Hp) (Q : Ex → Fr → Hp → Prop) : W x (.scope c) fr H Q ↔ W x c fr H (scoQ Q) := by
  constructor
  · rintro ⟨k, r, h, hq⟩
    cases k with
    | zero => cases h
    | succ k =>
      obtain ⟨⟨e, fr1, H1⟩, h1, h2⟩ := Option.bind_eq_some_iff.1 h
      refine ⟨k + 1, _, ev_mono (fun _ _ _ _ => .refl _) x.m x.n (Nat.le_succ k) c fr H _ h1, ?_⟩
      cases e with
      | goto l => cases h2
      | _ => cases h2; exact hq
  · rintro ⟨k, ⟨e, fr1, H1⟩, h, hq⟩
    have h1 := ev_mono (evCall_mono (Nat.le_succ k)) x.m x.n (Nat.le_refl k) c fr H _ h
    cases e with
    | goto l => exact hq.elim
    | _ => exact ⟨k + 1, _, Option.bind_eq_some_iff.2 ⟨_, h1, rfl⟩, hq⟩

theorem W_block (x : Cx) (i : Nat) (c : Code) (fr : Fr) (H : Hp) (Q : Ex → Fr → Hp → Prop) : W x (.block i c) fr H Q ↔ W x c fr H (blkQ i Q) := by
  constructor
  · rintro ⟨k, r, h, hq⟩
    cases k with
    | zero => cases h
    | succ k =>
      obtain ⟨⟨e, fr1, H1⟩, h1, h2⟩ := Option.map_eq_some_iff.1 h
      refine ⟨k + 1, _, ev_mono (fun _ _ _ _ => .refl _) x.m x.n (Nat.le_succ k) c fr H _ h1, ?_⟩
      cases e with
      | exit j =>
        simp only [] at h2
        simp only [blkQ]
        split at h2 <;> (subst h2; rename_i hj; simp only [hj, if_true, if_false]; exact hq)
      | _ => subst h2; exact hq
  · rintro ⟨k, ⟨e, fr1, H1⟩, h, hq⟩
    have h1 := ev_mono (evCall_mono (Nat.le_succ k)) x.m x.n (Nat.le_refl k) c fr H _ h
    refine ⟨k + 1, _, Option.map_eq_some_iff.2 ⟨_, h1, rfl⟩, ?_⟩
    cases e with
    | exit j =>
      simp only [blkQ] at hq
      simp only []
      split <;> (rename_i hj; simp only [hj, if_true, if_false] at hq; exact hq)
    | _ => exact hq

theorem W_loop (x : Cx) (c : Code) (fr : Fr) (H : Hp) (Q : Ex → Fr → Hp → Prop) : W x (.loop c) fr H Q ↔ W x c fr H (seqQ x (.loop c) Q) := by
  constructor
  · rintro ⟨k, r, h, hq⟩
    cases k with
    | zero => cases h
    | succ k =>
      obtain ⟨r1, h1, h2⟩ := Option.bind_eq_some_iff.1 h
      refine ⟨k + 1, r1, ev_mono (fun _ _ _ _ => .refl _) x.m x.n (Nat.le_succ k) c fr H _ h1, ?_⟩
      obtain ⟨e, fr1, H1⟩ := r1
      cases e <;> first
        | (cases h2; exact hq)
        | exact ⟨k + 1, r, ev_mono (fun _ _ _ _ => .refl _) x.m x.n (Nat.le_succ k) (.loop c) fr1 H1 _ h2, hq⟩
  · rintro ⟨k, ⟨e, fr1, H1⟩, h, hq⟩
    have key : ∀ k', k ≤ k' → ev x.P x.cfg (evCall x.P x.cs (k' + 1)) x.m x.n k' c fr H = some (e, fr1, H1) := fun k' hk => ev_mono (evCall_mono (by omega)) x.m x.n hk c fr H _ h
    cases e with
    | norm =>
      obtain ⟨k2, r, h2, hq⟩ := hq
      refine ⟨max k k2 + 1, r, ?_, hq⟩
      refine Option.bind_eq_some_iff.2 ⟨_, key _ (Nat.le_max_left _ _), ?_⟩
      exact ev_mono (evCall_mono (by omega)) x.m x.n (Nat.le_max_right _ _) (.loop c) fr1 H1 _ h2
    | exit i => exact ⟨k + 1, _, Option.bind_eq_some_iff.2 ⟨_, key _ (Nat.le_refl _), rfl⟩, hq⟩
    | goto i => exact ⟨k + 1, _, Option.bind_eq_some_iff.2 ⟨_, key _ (Nat.le_refl _), rfl⟩, hq⟩
    | ret => exact ⟨k + 1, _, Option.bind_eq_some_iff.2 ⟨_, key _ (Nat.le_refl _), rfl⟩, hq⟩

def condQ (A B : Prop) : CV → Prop
  | .v (.bool t) => if t = true then A else B
  | _ => False

theorem W_cond (x : Cx) (c : Operand) (a b : Code) (fr : Fr) (H : Hp) (Q : Ex → Fr → Hp → Prop) : W x (.cond c a b) fr H Q ↔ WX (evO fr c) (condQ (W x a fr H Q) (W x b fr H Q)) := by
  constructor
  · rintro ⟨k, r, h, hq⟩
    cases k with
    | zero => cases h
    | succ k =>
      obtain ⟨cv, h1, h2⟩ := Option.bind_eq_some_iff.1 h
      refine ⟨cv, h1, ?_⟩
      split at h2
      · rename_i t
        cases t
        · exact ⟨k + 1, r, ev_mono (fun _ _ _ _ => .refl _) x.m x.n (Nat.le_succ k) _ fr H _ h2, hq⟩
        · exact ⟨k + 1, r, ev_mono (fun _ _ _ _ => .refl _) x.m x.n (Nat.le_succ k) _ fr H _ h2, hq⟩
      · cases h2
  · rintro ⟨cv, h1, h2⟩
    unfold condQ at h2
    split at h2
    · rename_i t
      cases t
      · obtain ⟨k, r, h, hq⟩ := h2
        exact ⟨k + 1, r, Option.bind_eq_some_iff.2 ⟨_, h1, ev_mono (evCall_mono (Nat.le_succ k)) x.m x.n (Nat.le_refl k) b fr H _ h⟩, hq⟩
      · obtain ⟨k, r, h, hq⟩ := h2
        exact ⟨k + 1, r, Option.bind_eq_some_iff.2 ⟨_, h1, ev_mono (evCall_mono (Nat.le_succ k)) x.m x.n (Nat.le_refl k) a fr H _ h⟩, hq⟩
    · exact h2.elim

theorem W_region (x : Cx) (i : Nat) (ops : Array Oper) (fr : Fr) (H : Hp) (Q : Ex → Fr → Hp → Prop) : W x (.region i ops false) fr H Q ↔ WO x ops ops.toList fr H (Q .norm) := by
  constructor
  · rintro ⟨k, r, h, hq⟩
    cases k with
    | zero => cases h
    | succ k =>
      obtain ⟨r1, h1, h2⟩ := Option.map_eq_some_iff.1 h
      cases h2
      exact ⟨k + 1, r1, h1, hq⟩
  · rintro ⟨k, r, h, hq⟩
    exact ⟨k + 1, _, Option.map_eq_some_iff.2 ⟨_, evOps_mono (evCall_mono (Nat.le_succ k)) x.m x.n ops _ fr H _ h, rfl⟩, hq⟩

/-- A loop, with what holds at each of its rounds. -/
theorem W_rounds {x : Cx} {c : Code} {Q : Ex → Fr → Hp → Prop} (I : Nat → Fr → Hp → Prop) (h : ∀ j fr H, I j fr H → W x c fr H fun e fr H => match e with | .norm => ∃ j', j' < j ∧ I j' fr H | e => Q e fr H) : ∀ j fr H, I j fr H → W x (.loop c) fr H Q := by
  intro j
  induction j using Nat.strongRecOn with
  | ind j ih =>
    intro fr H hi
    rw [W_loop]
    obtain ⟨k, ⟨e, fr1, H1⟩, h1, h2⟩ := h j fr H hi
    refine ⟨k, _, h1, ?_⟩
    cases e with
    | norm =>
      obtain ⟨j', hj, hi'⟩ := h2
      exact ih j' hj fr1 H1 hi'
    | _ => exact h2

theorem W_mono {x : Cx} {c : Code} {fr : Fr} {H : Hp} {Q Q' : Ex → Fr → Hp → Prop} (h : W x c fr H Q) (hq : ∀ e fr H, Q e fr H → Q' e fr H) : W x c fr H Q' :=
  let ⟨k, r, h1, h2⟩ := h
  ⟨k, r, h1, hq _ _ _ h2⟩

/-- A frame with one entry more. -/
def upd (fr : Fr) (d : Tmp) (x : CV) : Fr := fun t => if t = d then x else fr t
theorem upd_same (fr : Fr) (d : Tmp) (x : CV) : upd fr d x d = x := by simp [upd]
theorem upd_ne (fr : Fr) (d : Tmp) (x : CV) (t : Tmp) (h : (t == d) = false) : upd fr d x t = fr t := by
  have : t ≠ d := by simpa using h
  simp [upd, this]

/-- Where the operations of a region leave their values. -/
def wantQ (A B : Prop) (fr : Fr) (d : Option Tmp) (want : Bool) : Prop :=
  match d with
  | none => B
  | some d => match fr d with
    | .v (.bool b) => if b = want then A else B
    | .tup [] => B
    | _ => False

theorem WO_nil (x : Cx) (ops : Array Oper) (fr : Fr) (H : Hp) (K : Fr → Hp → Prop) : WO x ops [] fr H K ↔ K fr H := by
  simp [WO, evOps]

theorem evOps_do {P : Program} {cfg : Cfg} {ce : CallE} {m n : Nat} {ops : Array Oper} {o : Oper} {rest : List Oper} {fr : Fr} {H : Hp} (hw : wantC fr ops o = some true) :
    evOps P cfg ce m n ops (o :: rest) fr H = (opX P cfg ce m fr (oldC fr o.dst) H o.op).bind fun y => (putC n fr o.dst y.1).bind fun fr2 => evOps P cfg ce m n ops rest fr2 y.2 := by
  simp only [evOps, hw, Option.bind_some, if_true]
theorem evOps_not {P : Program} {cfg : Cfg} {ce : CallE} {m n : Nat} {ops : Array Oper} {o : Oper} {rest : List Oper} {fr : Fr} {H : Hp} (hw : wantC fr ops o = some false) :
    evOps P cfg ce m n ops (o :: rest) fr H = (putC n fr o.dst (.tup [])).bind fun fr2 => evOps P cfg ce m n ops rest fr2 H := by
  simp only [evOps, hw, Option.bind_some, Bool.false_eq_true, if_false]
theorem evOps_none {P : Program} {cfg : Cfg} {ce : CallE} {m n : Nat} {ops : Array Oper} {o : Oper} {rest : List Oper} {fr : Fr} {H : Hp} (hw : wantC fr ops o = none) :
    evOps P cfg ce m n ops (o :: rest) fr H = none := by
  simp only [evOps, hw, Option.bind_none]

theorem WO_do {x : Cx} {ops : Array Oper} {o : Oper} {rest : List Oper} {fr : Fr} {H : Hp} {K : Fr → Hp → Prop} (hw : wantC fr ops o = some true) :
    WO x ops (o :: rest) fr H K ↔ WP x o.op (oldC fr o.dst) fr H fun y H2 => WX (putC x.n fr o.dst y) fun fr2 => WO x ops rest fr2 H2 K := by
  constructor
  · rintro ⟨k, r, h, hk⟩
    rw [evOps_do hw] at h
    obtain ⟨y, h1, h⟩ := Option.bind_eq_some_iff.1 h
    obtain ⟨fr2, h2, h3⟩ := Option.bind_eq_some_iff.1 h
    exact ⟨k, y, h1, fr2, h2, k, r, h3, hk⟩
  · rintro ⟨k, y, h1, fr2, h2, k2, r, h3, hk⟩
    refine ⟨max k k2, r, ?_, hk⟩
    rw [evOps_do hw]
    refine Option.bind_eq_some_iff.2 ⟨y, opX_mono (evCall_mono (Nat.le_max_left _ _)) _ _ _ _ _ _ h1, Option.bind_eq_some_iff.2 ⟨fr2, h2, ?_⟩⟩
    exact evOps_mono (evCall_mono (Nat.le_max_right _ _)) _ _ _ _ _ _ _ h3

theorem WO_not {x : Cx} {ops : Array Oper} {o : Oper} {rest : List Oper} {fr : Fr} {H : Hp} {K : Fr → Hp → Prop} (hw : wantC fr ops o = some false) :
    WO x ops (o :: rest) fr H K ↔ WX (putC x.n fr o.dst (.tup [])) fun fr2 => WO x ops rest fr2 H K := by
  constructor
  · rintro ⟨k, r, h, hk⟩
    rw [evOps_not hw] at h
    obtain ⟨fr2, h2, h3⟩ := Option.bind_eq_some_iff.1 h
    exact ⟨fr2, h2, k, r, h3, hk⟩
  · rintro ⟨fr2, h2, k, r, h3, hk⟩
    refine ⟨k, r, ?_, hk⟩
    rw [evOps_not hw]
    exact Option.bind_eq_some_iff.2 ⟨fr2, h2, h3⟩

theorem putC_some {n : Nat} {fr : Fr} {d : Tmp} {x : CV} (h : d < n) : putC n fr (some d) x = some (upd fr d x) := by
  simp only [putC, h, if_true]; rfl

/-- An operation without a condition. -/
theorem WO_one (x : Cx) (ops : Array Oper) (d : Tmp) (op : Op) (ty : TypeId) (pos : String) (after : Array Edge) (rest : List Oper) (fr : Fr) (H : Hp) (K : Fr → Hp → Prop) (h : d < x.n) :
    WO x ops (⟨some d, op, ty, pos, after, none⟩ :: rest) fr H K ↔ WP x op (fr d) fr H fun y H2 => WO x ops rest (upd fr d y) H2 K := by
  rw [WO_do rfl]
  simp only [oldC, putC_some h, WX_some]
theorem WO_eff (x : Cx) (ops : Array Oper) (op : Op) (ty : TypeId) (pos : String) (after : Array Edge) (rest : List Oper) (fr : Fr) (H : Hp) (K : Fr → Hp → Prop) :
    WO x ops (⟨none, op, ty, pos, after, none⟩ :: rest) fr H K ↔ WP x op (.tup []) fr H fun y H2 => WO x ops rest fr H2 K := by
  rw [WO_do rfl]
  simp only [oldC, putC, WX_some]

end Go.SL

/- What each operation comes to, as rules that rewrite. -/
namespace Go.SL
set_option linter.unusedVariables false

theorem WP_E {x : Cx} {o : Op} {old : CV} {fr : Fr} {H : Hp} {K : CV → Hp → Prop} {e : Option (CV × Hp)} (h : ∀ ce, opX x.P x.cfg ce x.m fr old H o = e) : WP x o old fr H K ↔ WX e fun r => K r.1 r.2 := by
  constructor
  · rintro ⟨k, r, h1, h2⟩; rw [h] at h1; exact ⟨r, h1, h2⟩
  · rintro ⟨r, h1, h2⟩; exact ⟨0, r, by rw [h]; exact h1, h2⟩

variable (x : Cx) (old : CV) (fr : Fr) (H : Hp) (K : CV → Hp → Prop)

theorem opX_eq {P : Program} {cfg : Cfg} {ce : CallE} {m : Nat} {fr : Fr} {old : CV} {H : Hp} {o : Op} (hc : ∀ f a t, o ≠ .call ⟨.value f, a, t⟩) : opX P cfg ce m fr old H o = if stOK m fr o then opE P cfg fr old H o else none := by
  cases o with
  | call c =>
    obtain ⟨callee, args, ts⟩ := c
    cases callee with
    | value f => exact absurd rfl (hc f args ts)
    | _ => rfl
  | _ => rfl
theorem guard_iff {c : Bool} {α : Type} {e : Option α} {L : α → Prop} {B : Prop} (h : WX e L ↔ B) : WX (if c = true then e else none) L ↔ c = true ∧ B := by
  cases c <;> simp [WX_none, h]
theorem WP_st (o : Op) (hc : ∀ f a t, o ≠ .call ⟨.value f, a, t⟩) : WP x o old fr H K ↔ WX (if stOK x.m fr o then opE x.P x.cfg fr old H o else none) fun r => K r.1 r.2 :=
  WP_E fun ce => opX_eq hc

theorem WP_move (a : Operand) : WP x (.move a) old fr H K ↔ WX (evO fr a) fun y => K (unlit y) H := by
  rw [WP_st _ _ _ _ _ _ (by intros; simp)]; simp only [opE, WX_map, stOK, if_true]
theorem WP_assign (a : Operand) : WP x (.assign a) old fr H K ↔ WX (evO fr a) fun y => K (unlit y) H := by
  rw [WP_st _ _ _ _ _ _ (by intros; simp)]; simp only [opE, WX_map, stOK, if_true]
theorem condQ_iff (A B : Prop) (o : Option CV) (f : CV → Option (CV × Hp)) (K : CV × Hp → Prop) (h1 : WX (f (.v (.bool true))) K ↔ A) (h2 : WX (f (.v (.bool false))) K ↔ B) (h3 : ∀ c, (∀ b, c ≠ .v (.bool b)) → f c = none) :
    WX (o.bind f) K ↔ WX o (condQ A B) := by
  rw [WX_bind]
  cases o with
  | none => simp [WX]
  | some c =>
    simp only [WX_some]
    by_cases hc : ∃ b, c = .v (.bool b)
    · obtain ⟨b, rfl⟩ := hc
      cases b
      · simp [condQ, h2]
      · simp [condQ, h1]
    · rw [h3 c (fun b e => hc ⟨b, e⟩), WX_none]
      unfold condQ
      split
      · exact absurd ⟨_, rfl⟩ hc
      · exact Iff.rfl
theorem WP_pick (c a b : Operand) : WP x (.pick c a b) old fr H K ↔ WX (evO fr c) (condQ (WX (evO fr a) fun y => K y H) (WX (evO fr b) fun y => K y H)) := by
  rw [WP_st _ _ _ _ _ _ (by intros; simp)]
  simp only [opE, stOK, if_true]
  refine condQ_iff _ _ _ _ _ ?_ ?_ ?_
  · simp only [WX_map, if_true]
  · simp only [WX_map, Bool.false_eq_true, if_false]
  · intro c hc
    split
    · exact absurd rfl (hc _)
    · rfl
def aQ (P : Program) (t : TypeId) (old : CV) (H : Hp) (K : CV → Hp → Prop) (re : Bool) : Prop :=
  if re then WX (match dRealloc P t old H with | some r => some r | none => dAlloc P t H) fun r => K r.1 r.2 else WX (dAlloc P t H) fun r => K r.1 r.2
theorem WP_alloc (t : TypeId) : WP x (.alloc t) old fr H K ↔ aQ x.P t old H K x.cfg.reuse := by
  rw [WP_st _ _ _ _ _ _ (by intros; simp)]
  simp only [opE, stOK, if_true, aQ]
  split <;> rfl
theorem WP_box (t : TypeId) (a : Operand) : WP x (.box t a) old fr H K ↔ WX (evO fr a) fun y => WX (cvCells y) fun cs => K (.ptr H.length 0 0) (H ++ [.cells 0 cs t]) := by
  rw [WP_st _ _ _ _ _ _ (by intros; simp)]; simp only [opE, WX_map, WX_bind, dBox, stOK, if_true]
theorem WP_build (t : TypeId) (ps : Array (Nat × Operand)) : WP x (.build t ps) old fr H K ↔ WX (evP fr ps.toList) fun ps => WX (dBuild x.P t ps) fun y => K y H := by
  rw [WP_st _ _ _ _ _ _ (by intros; simp)]; simp only [opE, WX_map, WX_bind, stOK, if_true]
theorem WP_buildSlice (t : TypeId) (n : Nat) (ps : Array (Nat × Operand)) : WP x (.buildSlice t n ps) old fr H K ↔ WX (evP fr ps.toList) fun ps => WX (dBuildSlice x.P t n ps H x.cfg.mu) fun r => K r.1 r.2 := by
  rw [WP_st _ _ _ _ _ _ (by intros; simp)]; simp only [opE, WX_map, WX_bind, stOK, if_true]
theorem WP_load (t : TypeId) (a : Operand) : WP x (.load t a) old fr H K ↔ WX (evO fr a) fun a => WX (dLoad x.P t a H) fun y => K y H := by
  rw [WP_st _ _ _ _ _ _ (by intros; simp)]; simp only [opE, WX_map, WX_bind, stOK, if_true]
def stQ (m : Nat) (a b : CV) : Bool :=
  match a with
  | .ptr id _ _ => decide (m ≤ id) || topLe 0 b
  | _ => true
theorem WP_store (t : TypeId) (a b : Operand) : WP x (.store t a b) old fr H K ↔ WX (evO fr a) fun a => WX (evO fr b) fun b => stQ x.m a b = true ∧ WX (dStore x.P t a b H) fun H2 => K (.tup []) H2 := by
  rw [WP_st _ _ _ _ _ _ (by intros; simp)]
  simp only [opE, stOK, WX_ite, WX_none]
  obtain ⟨ea, h1⟩ : ∃ e, evO fr a = e := ⟨_, rfl⟩
  obtain ⟨eb, h2⟩ : ∃ e, evO fr b = e := ⟨_, rfl⟩
  simp only [h1, h2]
  cases ea with
  | none => simp [WX]
  | some u =>
    cases eb with
    | none => simp [WX]
    | some v =>
      simp only [WX_some, Option.bind_some, WX_map]
      cases u <;> simp only [stQ, true_and] <;> first
        | exact guard_iff (by simp only [WX_map])
        | simp only [if_true, WX_map]
theorem WP_nilCheck (a : Operand) : WP x (.nilCheck a) old fr H K ↔ WX (evO fr a) fun y => (atP H y).isSome = true ∧ K y H := by
  rw [WP_st _ _ _ _ _ _ (by intros; simp)]; simp only [opE, WX_bind, WX_ite, WX_none, WX_some, stOK, if_true]
  constructor
  · rintro ⟨y, h1, h2⟩
    split at h2
    · rename_i h; exact ⟨y, h1, h, h2⟩
    · exact h2.elim
  · rintro ⟨y, h1, h, h2⟩; exact ⟨y, h1, by simp only [h, if_true]; exact h2⟩
theorem WP_binOp (op : BinOp) (t : TypeId) (a b : Operand) (q : TypeId) : WP x (.binOp op t a b q) old fr H K ↔ WX (evO fr a) fun a => WX (evO fr b) fun b => WX (dBin x.P op t a b H) fun y => K y H := by
  rw [WP_st _ _ _ _ _ _ (by intros; simp)]; simp only [opE, WX_map, WX_bind, stOK, if_true]
theorem WP_unOp (op : UnOp) (t : TypeId) (a : Operand) : WP x (.unOp op t a) old fr H K ↔ WX (evO fr a) fun a => WX (dUn op a) fun y => K y H := by
  rw [WP_st _ _ _ _ _ _ (by intros; simp)]; simp only [opE, WX_map, WX_bind, stOK, if_true]
def cvt (P : Program) (mu : Bool) (s d : TypeId) (x : CV) (H : Hp) : Option (CV × Hp) :=
  match dConv P s d x H with
  | some y => some (y, H)
  | none => match dB2B P s d x with
    | some y => some (y, H)
    | none => dS2B P s d x H mu
theorem WP_convert (s d : TypeId) (a : Operand) : WP x (.convert s d a) old fr H K ↔ WX (evO fr a) fun a => WX (cvt x.P x.cfg.mu s d a H) fun r => K r.1 r.2 := by
  rw [WP_st _ _ _ _ _ _ (by intros; simp)]; simp only [opE, WX_bind, stOK, if_true]; rfl
theorem WP_makeInterface (t : TypeId) (a : Operand) : WP x (.makeInterface t a) old fr H K ↔ WX (evO fr a) fun a => x.P.concrete t = true ∧ K (.ifc t (unlit a)) H := by
  rw [WP_st _ _ _ _ _ _ (by intros; simp)]; simp only [opE, WX_bind, WX_ite, WX_none, WX_some, stOK, if_true]
  constructor
  · rintro ⟨y, h1, h2⟩
    split at h2
    · rename_i h; exact ⟨y, h1, h, h2⟩
    · exact h2.elim
  · rintro ⟨y, h1, h, h2⟩; exact ⟨y, h1, by simp only [h, if_true]; exact h2⟩
theorem WP_makeFunc (f : FuncId) (a b : Array Operand) : WP x (.makeFunc (.func f) a b) old fr H K ↔ WX (evL fr a.toList) fun a => WX (evL fr b.toList) fun b => K (.fn (.func f) a b) H := by
  rw [WP_st _ _ _ _ _ _ (by intros; simp)]; simp only [opE, WX_map, WX_bind, stOK, if_true]
theorem WP_makeMap (t : TypeId) : WP x (.makeMap t none) old fr H K ↔ K (.mp H.length 0) (H ++ [.map 0 [] 0]) := by
  rw [WP_st _ _ _ _ _ _ (by intros; simp)]; simp only [opE, WX_some, stOK, if_true]
theorem WP_slice (t : TypeId) (a : Operand) (lo hi : Option Operand) : WP x (.slice t a lo hi none) old fr H K ↔ WX (evO fr a) fun a => WX (evM fr lo) fun lo => WX (evM fr hi) fun hi => WX (dSlice x.P t a lo hi H) fun y => K y H := by
  rw [WP_st _ _ _ _ _ _ (by intros; simp)]; simp only [opE, WX_map, WX_bind, stOK, if_true]
theorem WP_fieldAddr (t : TypeId) (a : Operand) (f : Nat) : WP x (.fieldAddr t a f) old fr H K ↔ WX (evO fr a) fun a => WX (dFieldAddr x.P t a f H) fun y => K y H := by
  rw [WP_st _ _ _ _ _ _ (by intros; simp)]; simp only [opE, WX_map, WX_bind, stOK, if_true]
theorem WP_field (t : TypeId) (a : Operand) (f : Nat) : WP x (.field t a f) old fr H K ↔ WX (evO fr a) fun a => WX (dField x.P t a f) fun y => K y H := by
  rw [WP_st _ _ _ _ _ _ (by intros; simp)]; simp only [opE, WX_map, WX_bind, stOK, if_true]
theorem WP_indexAddr (t : TypeId) (a i : Operand) : WP x (.indexAddr t a i) old fr H K ↔ WX (evO fr a) fun a => WX (evO fr i) fun i => WX (dIndexAddr x.P t a i H) fun y => K y H := by
  rw [WP_st _ _ _ _ _ _ (by intros; simp)]; simp only [opE, WX_map, WX_bind, stOK, if_true]
theorem WP_index (t : TypeId) (a i : Operand) : WP x (.index t a i) old fr H K ↔ WX (evO fr a) fun a => WX (evO fr i) fun i => WX (dIndex x.P t a i) fun y => K y H := by
  rw [WP_st _ _ _ _ _ _ (by intros; simp)]; simp only [opE, WX_map, WX_bind, stOK, if_true]
theorem WP_lookup (t : TypeId) (a i : Operand) (ok : Bool) : WP x (.lookup t a i ok) old fr H K ↔ WX (evO fr a) fun a => WX (evO fr i) fun i => WX (dLookup x.P t a i ok H) fun y => K y H := by
  rw [WP_st _ _ _ _ _ _ (by intros; simp)]; simp only [opE, WX_map, WX_bind, stOK, if_true]
def muQ (m : Nat) (a b : CV) : Bool :=
  match a with
  | .mp id _ => decide (m ≤ id) || topLe 0 b
  | _ => true
theorem WP_mapUpdate (t : TypeId) (a i b : Operand) : WP x (.mapUpdate t a i b) old fr H K ↔ WX (evO fr a) fun a => WX (evO fr i) fun i => WX (evO fr b) fun b => muQ x.m a b = true ∧ WX (dMapUpd x.P t a i b H) fun H2 => K (.tup []) H2 := by
  rw [WP_st _ _ _ _ _ _ (by intros; simp)]
  simp only [opE, stOK, WX_ite, WX_none]
  obtain ⟨ea, h1⟩ : ∃ e, evO fr a = e := ⟨_, rfl⟩
  obtain ⟨eb, h2⟩ : ∃ e, evO fr b = e := ⟨_, rfl⟩
  obtain ⟨ei, h3⟩ : ∃ e, evO fr i = e := ⟨_, rfl⟩
  simp only [h1, h2, h3]
  cases ea with
  | none => simp [WX]
  | some u =>
    cases ei with
    | none => simp [WX]
    | some z =>
      cases eb with
      | none => simp [WX]
      | some v =>
        simp only [WX_some, Option.bind_some, WX_map]
        cases u <;> simp only [muQ, true_and] <;> first
          | exact guard_iff (by simp only [WX_map])
          | simp only [if_true, WX_map]
theorem WP_insert (t : TypeId) (a i b : Operand) : WP x (.insert t a i b) old fr H K ↔ WX (evO fr a) fun a => WX (evO fr i) fun i => WX (evO fr b) fun b => muQ x.m a b = true ∧ WX (dMapUpd x.P t a i b H) fun H2 => K (.tup []) H2 :=
  WP_mapUpdate x old fr H K t a i b
theorem WP_extract (a : Operand) (i : Nat) : WP x (.extract a i) old fr H K ↔ WX (evO fr a) fun a => WX (dExtract a i) fun y => K y H := by
  rw [WP_st _ _ _ _ _ _ (by intros; simp)]; simp only [opE, WX_map, WX_bind, stOK, if_true]
theorem WP_len (t : TypeId) (a : Operand) : WP x (.call ⟨.builtin .len, #[a], #[t]⟩) old fr H K ↔ WX (evO fr a) fun a => WX (dLenS x.P t a H) fun y => K y H := by
  rw [WP_st _ _ _ _ _ _ (by intros; simp)]; simp only [opE, evL, dBuiltin, Option.map_some, WX_map, WX_bind, WX_some, stOK, if_true]
theorem WP_max (ts : Array TypeId) (as : Array Operand) : WP x (.call ⟨.builtin .max, as, ts⟩) old fr H K ↔ WX (evL fr as.toList) fun xs => WX (dMax mx xs) fun y => K y H := by
  rw [WP_st _ _ _ _ _ _ (by intros; simp)]; simp only [opE, dBuiltin, WX_map, WX_bind, stOK, if_true]
theorem WP_min (ts : Array TypeId) (as : Array Operand) : WP x (.call ⟨.builtin .min, as, ts⟩) old fr H K ↔ WX (evL fr as.toList) fun xs => WX (dMax mn xs) fun y => K y H := by
  rw [WP_st _ _ _ _ _ _ (by intros; simp)]; simp only [opE, dBuiltin, WX_map, WX_bind, stOK, if_true]
theorem WP_copy (t u : TypeId) (a b : Operand) : WP x (.call ⟨.builtin .copy, #[a, b], #[t, u]⟩) old fr H K ↔ WX (evO fr a) fun a => WX (evO fr b) fun b => WX (dCopy x.P t a b H) fun r => K r.1 r.2 := by
  rw [WP_st _ _ _ _ _ _ (by intros; simp)]; simp only [opE, evL, dBuiltin, Option.map_some, WX_map, WX_bind, WX_some, stOK, if_true]
theorem WP_unsD (t : TypeId) (a : Operand) : WP x (.call ⟨.builtin .unsafeSliceData, #[a], #[t]⟩) old fr H K ↔ WX (evO fr a) fun a => WX (dUnsD a H) fun y => K y H := by
  rw [WP_st _ _ _ _ _ _ (by intros; simp)]; simp only [opE, evL, dBuiltin, Option.map_some, WX_map, WX_bind, WX_some, stOK, if_true]
theorem WP_unsS (t u : TypeId) (a b : Operand) : WP x (.call ⟨.builtin .unsafeString, #[a, b], #[t, u]⟩) old fr H K ↔ WX (evO fr a) fun a => WX (evO fr b) fun b => WX (dUnsS x.P t a b H) fun r => K r.1 r.2 := by
  rw [WP_st _ _ _ _ _ _ (by intros; simp)]; simp only [opE, evL, dBuiltin, Option.map_some, WX_map, WX_bind, WX_some, stOK, if_true]
def apQ (m : Nat) (a b : CV) : Bool :=
  match a with
  | .sl id _ _ _ _ => decide (m ≤ id) || clB b
  | _ => true
theorem WP_append (t tx : TypeId) (a b : Operand) : WP x (.call ⟨.builtin .append, #[a, b], #[t, tx]⟩) old fr H K ↔ WX (evO fr a) fun a => WX (evO fr b) fun b => apQ x.m a b = true ∧ WX (dAppend x.P t tx a b H) fun r => K r.1 r.2 := by
  rw [WP_st _ _ _ _ _ _ (by intros; simp)]
  simp only [opE, evL, dBuiltin, stOK, WX_ite, WX_none]
  obtain ⟨ea, h1⟩ : ∃ e, evO fr a = e := ⟨_, rfl⟩
  obtain ⟨eb, h2⟩ : ∃ e, evO fr b = e := ⟨_, rfl⟩
  simp only [h1, h2]
  cases ea with
  | none => simp [WX]
  | some u =>
    cases eb with
    | none => simp [WX]
    | some v =>
      simp only [WX_some, Option.bind_some, Option.map_some]
      cases u <;> simp only [apQ, true_and] <;> first
        | exact guard_iff (by simp only [WX_map])
        | simp only [if_true, WX_map]
/-- A call. -/
def callQ (x : Cx) (H : Hp) (K : CV → Hp → Prop) (xs : List CV) : CV → Prop
  | .v (.func (.func f) _ _) => WC x.P x.cs x.m (.f f) (xs.map unlit) H K
  | .fn (.func f) fs cs => WC x.P x.cs x.m (.f f) (fs ++ xs.map unlit ++ cs) H K
  | .yl id ver => WC x.P x.cs x.m (.y id ver) (xs.map unlit) H K
  | _ => False
theorem WP_call (f : Operand) (as : Array Operand) (ts : Array TypeId) : WP x (.call ⟨.value f, as, ts⟩) old fr H K ↔ WX (evO fr f) fun f => WX (evL fr as.toList) fun xs => callQ x H K xs f := by
  constructor
  · rintro ⟨k, r, h, hk⟩
    obtain ⟨fv, h1, h⟩ := Option.bind_eq_some_iff.1 h
    obtain ⟨xs, h2, h⟩ := Option.bind_eq_some_iff.1 h
    refine ⟨fv, h1, xs, h2, ?_⟩
    unfold callQ
    split at h
    · exact ⟨k, r, h, hk⟩
    · exact ⟨k, r, h, hk⟩
    · exact ⟨k, r, h, hk⟩
    · cases h
  · rintro ⟨fv, h1, xs, h2, h⟩
    unfold callQ at h
    split at h
    · obtain ⟨k, r, h, hk⟩ := h
      exact ⟨k, r, Option.bind_eq_some_iff.2 ⟨_, h1, Option.bind_eq_some_iff.2 ⟨_, h2, h⟩⟩, hk⟩
    · obtain ⟨k, r, h, hk⟩ := h
      exact ⟨k, r, Option.bind_eq_some_iff.2 ⟨_, h1, Option.bind_eq_some_iff.2 ⟨_, h2, h⟩⟩, hk⟩
    · obtain ⟨k, r, h, hk⟩ := h
      exact ⟨k, r, Option.bind_eq_some_iff.2 ⟨_, h1, Option.bind_eq_some_iff.2 ⟨_, h2, h⟩⟩, hk⟩
    · exact h.elim

/-- A function's answer. -/
def Ret (P : Program) (cs : Cfgs) (m : Nat) (f : FuncId) (args : List CV) (H : Hp) (y : CV) (H2 : Hp) : Prop := WC P cs m (.f f) args H fun y' H' => y' = y ∧ H' = H2
theorem Ret.wc {P : Program} {cs : Cfgs} {m : Nat} {f : FuncId} {args : List CV} {H H2 : Hp} {y : CV} (h : Ret P cs m f args H y H2) (K : CV → Hp → Prop) : WC P cs m (.f f) args H K ↔ K y H2 := by
  obtain ⟨k, ⟨y', H'⟩, h1, rfl, rfl⟩ := h
  constructor
  · rintro ⟨k', r, h2, hk⟩
    have a := evCall_mono (P := P) (cs := cs) (Nat.le_max_left k k') _ _ _ _ _ h1
    have b := evCall_mono (P := P) (cs := cs) (Nat.le_max_right k k') _ _ _ _ _ h2
    rw [a] at b; cases b; exact hk
  · exact fun hk => ⟨k, _, h1, hk⟩

/-- What a function's code leaves. -/
def retQ (P : Program) (m : Nat) (rs : List ResultVar) (K : CV → Hp → Prop) : Ex → Fr → Hp → Prop
  | .norm, fr, H => WX (resC P fr H rs) fun xs => WX (frz H m (one xs)) fun y => K y (H.take m)
  | .ret, fr, H => WX (resC P fr H rs) fun xs => WX (frz H m (one xs)) fun y => K y (H.take m)
  | _, _, _ => False
/-- A function that is dropped at its end. -/
theorem WC_drop {P : Program} {cs : Cfgs} {m : Nat} {f : FuncId} {args : List CV} {H : Hp} {K : CV → Hp → Prop} {fn : Func} {c : Code} (hp : cs.prim f = none) (hf : P.funcs[f]? = some fn) (hc : fn.body = some c) (hd : cs.drop f = true) :
    WC P cs m (.f f) args H K ↔ W ⟨P, cs, { cs.of f with inR := false, fn := f }, H.length, args.length + (fn.ntmps - args.length)⟩ c (frame args) H (retQ P H.length fn.results.toList K) := by
  constructor
  · rintro ⟨k, r, h, hk⟩
    cases k with
    | zero => cases h
    | succ k =>
      simp only [evCall, hp, hf, hc, hd, Option.bind_some, if_true] at h
      obtain ⟨⟨e, fr1, H1⟩, h1, h⟩ := Option.bind_eq_some_iff.1 h
      refine ⟨k, _, h1, ?_⟩
      cases e with
      | norm =>
        obtain ⟨xs, h2, h⟩ := Option.bind_eq_some_iff.1 h
        obtain ⟨y, h3, h⟩ := Option.map_eq_some_iff.1 h
        subst h
        exact ⟨xs, h2, y, h3, hk⟩
      | ret =>
        obtain ⟨xs, h2, h⟩ := Option.bind_eq_some_iff.1 h
        obtain ⟨y, h3, h⟩ := Option.map_eq_some_iff.1 h
        subst h
        exact ⟨xs, h2, y, h3, hk⟩
      | _ => cases h
  · rintro ⟨k, ⟨e, fr1, H1⟩, h1, hq⟩
    cases e with
    | norm =>
      obtain ⟨xs, h2, y, h3, hk⟩ := hq
      refine ⟨k + 1, (y, H1.take H.length), ?_, hk⟩
      simp only [evCall, hp, hf, hc, hd, Option.bind_some, if_true]
      exact Option.bind_eq_some_iff.2 ⟨_, h1, Option.bind_eq_some_iff.2 ⟨xs, h2, Option.map_eq_some_iff.2 ⟨y, h3, rfl⟩⟩⟩
    | ret =>
      obtain ⟨xs, h2, y, h3, hk⟩ := hq
      refine ⟨k + 1, (y, H1.take H.length), ?_, hk⟩
      simp only [evCall, hp, hf, hc, hd, Option.bind_some, if_true]
      exact Option.bind_eq_some_iff.2 ⟨_, h1, Option.bind_eq_some_iff.2 ⟨xs, h2, Option.map_eq_some_iff.2 ⟨y, h3, rfl⟩⟩⟩
    | _ => exact hq.elim
def rawQ (P : Program) (rs : List ResultVar) (K : CV → Hp → Prop) : Ex → Fr → Hp → Prop
  | .norm, fr, H => WX (resC P fr H rs) fun xs => K (one xs) H
  | .ret, fr, H => WX (resC P fr H rs) fun xs => K (one xs) H
  | _, _, _ => False
/-- A function that keeps its objects. -/
theorem WC_raw {P : Program} {cs : Cfgs} {m : Nat} {f : FuncId} {args : List CV} {H : Hp} {K : CV → Hp → Prop} {fn : Func} {c : Code} (hp : cs.prim f = none) (hf : P.funcs[f]? = some fn) (hc : fn.body = some c) (hd : cs.drop f = false) :
    WC P cs m (.f f) args H K ↔ W ⟨P, cs, { cs.of f with inR := false, fn := f }, m, args.length + (fn.ntmps - args.length)⟩ c (frame args) H (rawQ P fn.results.toList K) := by
  constructor
  · rintro ⟨k, r, h, hk⟩
    cases k with
    | zero => cases h
    | succ k =>
      simp only [evCall, hp, hf, hc, hd, Option.bind_some, Bool.false_eq_true, if_false] at h
      obtain ⟨⟨e, fr1, H1⟩, h1, h⟩ := Option.bind_eq_some_iff.1 h
      refine ⟨k, _, h1, ?_⟩
      cases e with
      | norm =>
        obtain ⟨xs, h2, h⟩ := Option.map_eq_some_iff.1 h
        subst h
        exact ⟨xs, h2, hk⟩
      | ret =>
        obtain ⟨xs, h2, h⟩ := Option.map_eq_some_iff.1 h
        subst h
        exact ⟨xs, h2, hk⟩
      | _ => cases h
  · rintro ⟨k, ⟨e, fr1, H1⟩, h1, hq⟩
    cases e with
    | norm =>
      obtain ⟨xs, h2, hk⟩ := hq
      refine ⟨k + 1, (one xs, H1), ?_, hk⟩
      simp only [evCall, hp, hf, hc, hd, Option.bind_some, Bool.false_eq_true, if_false]
      exact Option.bind_eq_some_iff.2 ⟨_, h1, Option.map_eq_some_iff.2 ⟨xs, h2, rfl⟩⟩
    | ret =>
      obtain ⟨xs, h2, hk⟩ := hq
      refine ⟨k + 1, (one xs, H1), ?_, hk⟩
      simp only [evCall, hp, hf, hc, hd, Option.bind_some, Bool.false_eq_true, if_false]
      exact Option.bind_eq_some_iff.2 ⟨_, h1, Option.map_eq_some_iff.2 ⟨xs, h2, rfl⟩⟩
    | _ => exact hq.elim

/-- The variable of an operation that a condition names. -/
def gT : List Oper → Nat → Option Tmp
  | [], _ => none
  | o :: _, 0 => o.dst
  | _ :: os, n + 1 => gT os n
theorem gT_eq : ∀ (l : List Oper) (j : Nat), gT l j = (l[j]?).bind (·.dst)
  | [], j => by simp [gT]
  | o :: os, 0 => by simp [gT]
  | o :: os, n + 1 => by simp [gT, gT_eq os n]
def guardT (ops : Array Oper) (j : Nat) : Option Tmp := gT ops.toList j
def gQ (A B : Prop) (fr : Fr) (want : Bool) : Option Tmp → Prop
  | none => B
  | some t => match fr t with
    | .v (.bool b) => if b = want then A else B
    | .tup [] => B
    | _ => False
theorem gQ_none (A B : Prop) (fr : Fr) (want : Bool) : gQ A B fr want none ↔ B := Iff.rfl
def gQ2 (A B : Prop) (want : Bool) : CV → Prop
  | .v (.bool b) => if b = want then A else B
  | .tup [] => B
  | _ => False
theorem gQ_some (A B : Prop) (fr : Fr) (want : Bool) (t : Tmp) : gQ A B fr want (some t) ↔ gQ2 A B want (fr t) := Iff.rfl

theorem WO_if {ops : Array Oper} {o : Oper} {rest : List Oper} {KO : Fr → Hp → Prop} {j : Nat} {want : Bool} (hg : o.guard = some (j, want)) :
    WO x ops (o :: rest) fr H KO ↔ gQ (WP x o.op (oldC fr o.dst) fr H fun y H2 => WX (putC x.n fr o.dst y) fun fr2 => WO x ops rest fr2 H2 KO) (WX (putC x.n fr o.dst (.tup [])) fun fr2 => WO x ops rest fr2 H KO) fr want (guardT ops j) := by
  have e : guardT ops j = (ops[j]?).bind (·.dst) := by rw [guardT, gT_eq]; simp
  rw [e]
  cases hd : (ops[j]?).bind (·.dst) with
  | none => rw [gQ_none, WO_not (by simp only [wantC, hg, hd])]
  | some t =>
    rw [gQ_some]
    cases ht : fr t with
    | v q =>
      cases q with
      | bool b =>
        simp only [gQ2]
        by_cases hb : b = want
        · rw [if_pos hb, WO_do (by simp only [wantC, hg, hd, ht]; simp [hb])]
        · rw [if_neg hb, WO_not (by simp only [wantC, hg, hd, ht]; simpa using hb)]
      | _ => simp only [gQ2]; simp only [WO]; constructor
             · rintro ⟨k, r, h, _⟩; rw [evOps_none (by simp only [wantC, hg, hd, ht])] at h; cases h
             · exact fun h => h.elim
    | tup l =>
      cases l with
      | nil => simp only [gQ2]; rw [WO_not (by simp only [wantC, hg, hd, ht])]
      | cons a l => simp only [gQ2]; simp only [WO]; constructor
                    · rintro ⟨k, r, h, _⟩; rw [evOps_none (by simp only [wantC, hg, hd, ht])] at h; cases h
                    · exact fun h => h.elim
    | _ => simp only [gQ2]; simp only [WO]; constructor
           · rintro ⟨k, r, h, _⟩; rw [evOps_none (by simp only [wantC, hg, hd, ht])] at h; cases h
           · exact fun h => h.elim
theorem WO_if1 (ops : Array Oper) (d : Tmp) (op : Op) (ty : TypeId) (pos : String) (after : Array Edge) (j : Nat) (want : Bool) (rest : List Oper) (KO : Fr → Hp → Prop) (h : d < x.n) :
    WO x ops (⟨some d, op, ty, pos, after, some (j, want)⟩ :: rest) fr H KO ↔ gQ (WP x op (fr d) fr H fun y H2 => WO x ops rest (upd fr d y) H2 KO) (WO x ops rest (upd fr d (.tup [])) H KO) fr want (guardT ops j) := by
  rw [WO_if (hg := rfl)]
  simp only [oldC, putC_some h, WX_some]
theorem WO_ifE (ops : Array Oper) (op : Op) (ty : TypeId) (pos : String) (after : Array Edge) (j : Nat) (want : Bool) (rest : List Oper) (KO : Fr → Hp → Prop) :
    WO x ops (⟨none, op, ty, pos, after, some (j, want)⟩ :: rest) fr H KO ↔ gQ (WP x op (.tup []) fr H fun y H2 => WO x ops rest fr H2 KO) (WO x ops rest fr H KO) fr want (guardT ops j) := by
  rw [WO_if (hg := rfl)]
  simp only [oldC, putC, WX_some]

end Go.SL

/- The rules, told to the simplifier. -/
namespace Go.SL
set_option linter.unusedVariables false

@[congr] theorem WX_congr {α : Type} {o o' : Option α} (K : α → Prop) (h : o = o') : WX o K = WX o' K := by rw [h]
@[congr] theorem gQ_congr (A B : Prop) (fr : Fr) (want : Bool) {t t' : Option Tmp} (h : t = t') : gQ A B fr want t = gQ A B fr want t' := by rw [h]
@[congr] theorem gQ2_congr (A B : Prop) (want : Bool) {t t' : CV} (h : t = t') : gQ2 A B want t = gQ2 A B want t' := by rw [h]
@[congr] theorem condQ_congr (A B : Prop) {t t' : CV} (h : t = t') : condQ A B t = condQ A B t' := by rw [h]

/-- A condition: each way knows it. -/
def gR2 (A B : Fr → Prop) (fr : Fr) (want : Bool) (t : Tmp) : CV → Prop
  | .v (.bool b) => if b = want then A (upd fr t (.v (.bool want))) else B (upd fr t (.v (.bool !want)))
  | .tup [] => B fr
  | _ => False
def gR (A B : Fr → Prop) (fr : Fr) (want : Bool) : Option Tmp → Prop
  | none => B fr
  | some t => gR2 A B fr want t (fr t)
theorem upd_self (fr : Fr) (t : Tmp) : upd fr t (fr t) = fr := by
  funext u; unfold upd; split
  · rename_i h; rw [h]
  · rfl
theorem gR2_gQ {A B : Fr → Prop} {fr : Fr} {want : Bool} {t : Tmp} (c : CV) (hc : fr t = c) : gQ2 (A fr) (B fr) want c ↔ gR2 A B fr want t c := by
  cases c with
  | v q =>
    cases q with
    | bool b =>
      simp only [gQ2, gR2]
      by_cases hb : b = want
      · subst hb; rw [if_pos rfl, if_pos rfl, ← hc, upd_self]
      · have : b = !want := by cases b <;> cases want <;> simp_all
        rw [if_neg hb, if_neg hb, ← this, ← hc, upd_self]
    | _ => exact Iff.rfl
  | tup l => cases l <;> exact Iff.rfl
  | _ => exact Iff.rfl
theorem gR_gQ {A B : Fr → Prop} {fr : Fr} {want : Bool} {o : Option Tmp} : gQ (A fr) (B fr) fr want o ↔ gR A B fr want o := by
  cases o with
  | none => exact Iff.rfl
  | some t => exact gR2_gQ _ rfl
@[simp] theorem gR_none (A B : Fr → Prop) (fr : Fr) (want : Bool) : gR A B fr want none ↔ B fr := (Iff.rfl)
@[simp] theorem gR_some (A B : Fr → Prop) (fr : Fr) (want : Bool) (t : Tmp) : gR A B fr want (some t) ↔ gR2 A B fr want t (fr t) := (Iff.rfl)
@[congr] theorem gR_congr (A B : Fr → Prop) (fr : Fr) (want : Bool) {t t' : Option Tmp} (h : t = t') : gR A B fr want t = gR A B fr want t' := by rw [h]
@[congr] theorem gR2_congr (A B : Fr → Prop) (fr : Fr) (want : Bool) (t : Tmp) {c c' : CV} (h : c = c') : gR2 A B fr want t c = gR2 A B fr want t c' := by rw [h]
@[simp] theorem gR2_v (A B : Fr → Prop) (fr : Fr) (want : Bool) (t : Tmp) (b : Bool) : gR2 A B fr want t (.v (.bool b)) ↔ if b = want then A (upd fr t (.v (.bool want))) else B (upd fr t (.v (.bool !want))) := (Iff.rfl)
@[simp] theorem gR2_t (A B : Fr → Prop) (fr : Fr) (want : Bool) (t : Tmp) : gR2 A B fr want t (.tup []) ↔ B fr := (Iff.rfl)
@[simp ↓] theorem WO_ifd (x : Cx) (ops : Array Oper) (d : Tmp) (op : Op) (ty : TypeId) (pos : String) (after : Array Edge) (j : Nat) (want : Bool) (rest : List Oper) (fr : Fr) (H : Hp) (KO : Fr → Hp → Prop) (h : d < x.n) :
    WO x ops (⟨some d, op, ty, pos, after, some (j, want)⟩ :: rest) fr H KO ↔ gR (fun fr => WP x op (fr d) fr H fun y H2 => WO x ops rest (upd fr d y) H2 KO) (fun fr => WO x ops rest (upd fr d (.tup [])) H KO) fr want (guardT ops j) := by
  rw [← gR_gQ]; exact WO_if1 x fr H ops d op ty pos after j want rest KO h
@[simp ↓] theorem WO_ife (x : Cx) (ops : Array Oper) (op : Op) (ty : TypeId) (pos : String) (after : Array Edge) (j : Nat) (want : Bool) (rest : List Oper) (fr : Fr) (H : Hp) (KO : Fr → Hp → Prop) :
    WO x ops (⟨none, op, ty, pos, after, some (j, want)⟩ :: rest) fr H KO ↔ gR (fun fr => WP x op (.tup []) fr H fun y H2 => WO x ops rest fr H2 KO) (fun fr => WO x ops rest fr H KO) fr want (guardT ops j) := by
  rw [← gR_gQ]; exact WO_ifE x fr H ops op ty pos after j want rest KO
attribute [simp ↓] W_skip W_scope W_label W_exit W_ret W_seq W_block W_cond WO_nil WO_one WO_eff WP_move WP_assign WP_pick WP_alloc WP_box WP_build WP_buildSlice WP_load WP_store WP_nilCheck WP_binOp WP_unOp WP_convert WP_makeInterface WP_makeFunc WP_makeMap WP_slice WP_fieldAddr WP_field WP_indexAddr WP_index WP_lookup WP_mapUpdate WP_insert WP_extract WP_len WP_max WP_min WP_append WP_copy WP_unsD WP_unsS WP_call
attribute [simp] WX_some WX_none WX_map WX_bind gQ_some gQ_none upd_same
@[simp ↓] theorem W_region' (x : Cx) (i : Nat) (l : List Oper) (fr : Fr) (H : Hp) (Q : Ex → Fr → Hp → Prop) : W x (.region i (List.toArray l) false) fr H Q ↔ WO x (List.toArray l) l fr H (Q .norm) := W_region x i _ fr H Q
@[simp ↓] theorem guardT_mk (l : List Oper) (j : Nat) : guardT (List.toArray l) j = gT l j := (rfl)
@[simp ↓] theorem gT_zero (o : Oper) (l : List Oper) : gT (o :: l) 0 = o.dst := (rfl)
@[simp ↓] theorem gT_succ (o : Oper) (l : List Oper) (n : Nat) : gT (o :: l) (n + 1) = gT l n := (rfl)
@[simp] theorem upd_ne' (fr : Fr) (d : Tmp) (x : CV) (t : Tmp) (h : ¬ t = d) : upd fr d x t = fr t := by simp [upd, h]
@[simp ↓] theorem seqQ_norm (x : Cx) (b : Code) (Q : Ex → Fr → Hp → Prop) (fr : Fr) (H : Hp) : seqQ x b Q .norm fr H ↔ W x b fr H Q := (Iff.rfl)
@[simp ↓] theorem seqQ_exit (x : Cx) (b : Code) (Q : Ex → Fr → Hp → Prop) (fr : Fr) (H : Hp) (i : Nat) : seqQ x b Q (.exit i) fr H ↔ Q (.exit i) fr H := (Iff.rfl)
@[simp ↓] theorem seqQ_ret (x : Cx) (b : Code) (Q : Ex → Fr → Hp → Prop) (fr : Fr) (H : Hp) : seqQ x b Q .ret fr H ↔ Q .ret fr H := (Iff.rfl)
@[simp ↓] theorem scoQ_norm (Q : Ex → Fr → Hp → Prop) (fr : Fr) (H : Hp) : scoQ Q .norm fr H ↔ Q .norm fr H := (Iff.rfl)
@[simp ↓] theorem scoQ_ret (Q : Ex → Fr → Hp → Prop) (fr : Fr) (H : Hp) : scoQ Q .ret fr H ↔ Q .ret fr H := (Iff.rfl)
@[simp ↓] theorem scoQ_exit (j : Nat) (Q : Ex → Fr → Hp → Prop) (fr : Fr) (H : Hp) : scoQ Q (.exit j) fr H ↔ Q (.exit j) fr H := (Iff.rfl)
@[simp ↓] theorem blkQ_norm (i : Nat) (Q : Ex → Fr → Hp → Prop) (fr : Fr) (H : Hp) : blkQ i Q .norm fr H ↔ Q .norm fr H := (Iff.rfl)
@[simp ↓] theorem blkQ_ret (i : Nat) (Q : Ex → Fr → Hp → Prop) (fr : Fr) (H : Hp) : blkQ i Q .ret fr H ↔ Q .ret fr H := (Iff.rfl)
@[simp ↓] theorem blkQ_exit (i j : Nat) (Q : Ex → Fr → Hp → Prop) (fr : Fr) (H : Hp) : blkQ i Q (.exit j) fr H ↔ if j = i then Q .norm fr H else Q (.exit j) fr H := (Iff.rfl)
@[simp] theorem condQ_v (A B : Prop) (t : Bool) : condQ A B (.v (.bool t)) ↔ if t = true then A else B := (Iff.rfl)
@[simp] theorem gQ2_v (A B : Prop) (w t : Bool) : gQ2 A B w (.v (.bool t)) ↔ if t = w then A else B := (Iff.rfl)
@[simp] theorem gQ2_t (A B : Prop) (w : Bool) : gQ2 A B w (.tup []) ↔ B := (Iff.rfl)
@[simp] theorem evO_tmp (fr : Fr) (t : Tmp) : evO fr (.tmp t) = some (fr t) := (rfl)
@[simp] theorem evO_int (fr : Fr) (k : IntKind) (n : Int) : evO fr (.const (.int k n)) = some (.v (.int k n)) := (rfl)
@[simp] theorem evO_bool (fr : Fr) (b : Bool) : evO fr (.const (.bool b)) = some (.v (.bool b)) := (rfl)
@[simp] theorem evO_str (fr : Fr) (b : ByteArray) : evO fr (.const (.string b)) = some (.v (.string b)) := (rfl)
@[simp] theorem evO_func (fr : Fr) (f : FuncId) : evO fr (.func f) = some (.v (.func (.func f) #[] #[])) := (rfl)
@[simp] theorem evO_nil (fr : Fr) : evO fr (.const .nilIface) = some (.v .nilIface) := (rfl)
@[simp] theorem evO_slice (fr : Fr) : evO fr (.const (.slice none 0 0)) = some (.v (.slice none 0 0)) := (rfl)
@[simp] theorem evO_ptr (fr : Fr) : evO fr (.const (.pointer none)) = some (.v (.pointer none)) := (rfl)
@[simp] theorem unlit_v (v : Value) : unlit (.v v) = .v v := (rfl)
@[simp] theorem unlit_im (l : List CV) (a b : Nat) : unlit (.im l a b) = .im l a b := (rfl)
@[simp] theorem unlit_ptr (a b c : Nat) : unlit (.ptr a b c) = .ptr a b c := (rfl)
@[simp] theorem unlit_sl (a b c d e : Nat) : unlit (.sl a b c d e) = .sl a b c d e := (rfl)
@[simp] theorem unlit_agg (l : List CV) : unlit (.agg l) = .agg l := (rfl)
@[simp] theorem unlit_tup (l : List CV) : unlit (.tup l) = .tup l := (rfl)
@[simp] theorem unlit_lit (l : List CV) (a b : Nat) : unlit (.lit l a b) = .im l a b := (rfl)
@[simp] theorem unlit_ifc (t : TypeId) (x : CV) : unlit (.ifc t x) = .ifc t x := (rfl)
@[simp] theorem unlit_ip (l : List CV) : unlit (.ip l) = .ip l := (rfl)
@[simp] theorem unlit_mp (a b : Nat) : unlit (.mp a b) = .mp a b := (rfl)
@[simp] theorem unlit_fn (f : Fn) (a b : List CV) : unlit (.fn f a b) = .fn f a b := (rfl)
@[simp] theorem dBin_int (P : Program) (op : BinOp) (t : TypeId) (k : IntKind) (a b : Int) (H : Hp) : dBin P op t (.v (.int k a)) (.v (.int k b)) H = (binA op (.int k a) (.int k b)).map .v := (rfl)
@[simp] theorem dBin_str (P : Program) (op : BinOp) (t : TypeId) (a b : ByteArray) (H : Hp) : dBin P op t (.v (.string a)) (.v (.string b)) H = (binA op (.string a) (.string b)).map .v := (rfl)
@[simp] theorem binA_lss (k : IntKind) (a b : Int) : binA .lss (.int k a) (.int k b) = some (.bool (decide (a < b))) := by simp [binA]
@[simp] theorem binA_leq (k : IntKind) (a b : Int) : binA .leq (.int k a) (.int k b) = some (.bool (decide (a ≤ b))) := by simp [binA]
@[simp] theorem binA_gtr (k : IntKind) (a b : Int) : binA .gtr (.int k a) (.int k b) = some (.bool (decide (b < a))) := by simp [binA]
@[simp] theorem binA_geq (k : IntKind) (a b : Int) : binA .geq (.int k a) (.int k b) = some (.bool (decide (b ≤ a))) := by simp [binA]
@[simp] theorem binA_eql (k : IntKind) (a b : Int) : binA .eql (.int k a) (.int k b) = some (.bool (decide (a = b))) := by simp [binA]; rfl
@[simp] theorem binA_neq (k : IntKind) (a b : Int) : binA .neq (.int k a) (.int k b) = some (.bool (!decide (a = b))) := by simp [binA, bne]; rfl
@[simp] theorem binA_add (k : IntKind) (a b : Int) : binA .add (.int k a) (.int k b) = some (.int k (k.wrap (a + b))) := by simp [binA]
@[simp] theorem binA_sub (k : IntKind) (a b : Int) : binA .sub (.int k a) (.int k b) = some (.int k (k.wrap (a - b))) := by simp [binA]
@[simp] theorem dLenS_str {P : Program} {t : TypeId} (h : P.underlying t = some .string) (s : ByteArray) (H : Hp) : dLenS P t (.v (.string s)) H = some (.v (.int .i64 s.size)) := by simp [dLenS, dLen, h]
@[simp] theorem dIndex_str {P : Program} {t : TypeId} (h : P.underlying t = some .string) (s : ByteArray) (k : IntKind) (i : Int) : dIndex P t (.v (.string s)) (.v (.int k i)) = if 0 ≤ i ∧ i < s.size then some (.v (.int .u8 (s.get! i.toNat).toNat)) else none := by simp [dIndex, h]
@[simp ↓] theorem retQ_ret (P : Program) (m : Nat) (rs : List ResultVar) (K : CV → Hp → Prop) (fr : Fr) (H : Hp) : retQ P m rs K .ret fr H ↔ WX (resC P fr H rs) fun xs => WX (frz H m (one xs)) fun y => K y (H.take m) := (Iff.rfl)
@[simp ↓] theorem retQ_norm (P : Program) (m : Nat) (rs : List ResultVar) (K : CV → Hp → Prop) (fr : Fr) (H : Hp) : retQ P m rs K .norm fr H ↔ WX (resC P fr H rs) fun xs => WX (frz H m (one xs)) fun y => K y (H.take m) := (Iff.rfl)
@[simp ↓] theorem rawQ_ret (P : Program) (rs : List ResultVar) (K : CV → Hp → Prop) (fr : Fr) (H : Hp) : rawQ P rs K .ret fr H ↔ WX (resC P fr H rs) fun xs => K (one xs) H := (Iff.rfl)
@[simp ↓] theorem rawQ_norm (P : Program) (rs : List ResultVar) (K : CV → Hp → Prop) (fr : Fr) (H : Hp) : rawQ P rs K .norm fr H ↔ WX (resC P fr H rs) fun xs => K (one xs) H := (Iff.rfl)
attribute [simp] topLe
@[simp] theorem resC_nil (P : Program) (fr : Fr) (H : Hp) : resC P fr H [] = some [] := (rfl)
@[simp] theorem resC_tmp (P : Program) (fr : Fr) (H : Hp) (t : Tmp) (rs : List ResultVar) : resC P fr H (.tmp t :: rs) = (resC P fr H rs).map (unlit (fr t) :: ·) := (rfl)
@[simp] theorem resC_cell (P : Program) (fr : Fr) (H : Hp) (a : Tmp) (t : TypeId) (rs : List ResultVar) : resC P fr H (.cell a t :: rs) = (dLoad P t (fr a) H).bind fun x => (resC P fr H rs).map (x :: ·) := (rfl)
@[simp] theorem one_one (x : CV) : one [x] = x := (rfl)
@[simp] theorem one_nil : one [] = .tup [] := (rfl)
@[simp] theorem one_more (x y : CV) (l : List CV) : one (x :: y :: l) = .tup (x :: y :: l) := (rfl)
@[simp] theorem frzL_nil (f : CV → Option CV) : frzL f [] = some [] := (rfl)
@[simp] theorem frzL_cons (f : CV → Option CV) (x : CV) (xs : List CV) : frzL f (x :: xs) = (f x).bind fun y => (frzL f xs).map (y :: ·) := (rfl)
@[simp] theorem frz_v (H : Hp) (m : Nat) (x : Value) : frz H m (.v x) = frz1 H m (.v x) := (rfl)
@[simp] theorem frz2_v (H : Hp) (m : Nat) (x : Value) : frz2 H m (.v x) = frz1 H m (.v x) := (rfl)
@[simp] theorem frz_ptr (H : Hp) (m : Nat) (a b c : Nat) : frz H m (.ptr a b c) = frz1 H m (.ptr a b c) := (rfl)
@[simp] theorem frz2_ptr (H : Hp) (m : Nat) (a b c : Nat) : frz2 H m (.ptr a b c) = frz1 H m (.ptr a b c) := (rfl)
@[simp] theorem frz_sl (H : Hp) (m : Nat) (a b c d e : Nat) : frz H m (.sl a b c d e) = frz1 H m (.sl a b c d e) := (rfl)
@[simp] theorem frz2_sl (H : Hp) (m : Nat) (a b c d e : Nat) : frz2 H m (.sl a b c d e) = frz1 H m (.sl a b c d e) := (rfl)
@[simp] theorem frz_im (H : Hp) (m : Nat) (l : List CV) (a b : Nat) : frz H m (.im l a b) = frz1 H m (.im l a b) := (rfl)
@[simp] theorem frz2_im (H : Hp) (m : Nat) (l : List CV) (a b : Nat) : frz2 H m (.im l a b) = frz1 H m (.im l a b) := (rfl)
@[simp] theorem frz_ip (H : Hp) (m : Nat) (l : List CV) : frz H m (.ip l) = frz1 H m (.ip l) := (rfl)
@[simp] theorem frz2_ip (H : Hp) (m : Nat) (l : List CV) : frz2 H m (.ip l) = frz1 H m (.ip l) := (rfl)
@[simp] theorem frz_lit (H : Hp) (m : Nat) (l : List CV) (a b : Nat) : frz H m (.lit l a b) = frz1 H m (.lit l a b) := (rfl)
@[simp] theorem frz2_lit (H : Hp) (m : Nat) (l : List CV) (a b : Nat) : frz2 H m (.lit l a b) = frz1 H m (.lit l a b) := (rfl)
@[simp] theorem frz_mp (H : Hp) (m : Nat) (a b : Nat) : frz H m (.mp a b) = frz1 H m (.mp a b) := (rfl)
@[simp] theorem frz2_mp (H : Hp) (m : Nat) (a b : Nat) : frz2 H m (.mp a b) = frz1 H m (.mp a b) := (rfl)
@[simp] theorem frz_fn (H : Hp) (m : Nat) (f : Fn) (a b : List CV) : frz H m (.fn f a b) = frz1 H m (.fn f a b) := (rfl)
@[simp] theorem frz2_fn (H : Hp) (m : Nat) (f : Fn) (a b : List CV) : frz2 H m (.fn f a b) = frz1 H m (.fn f a b) := (rfl)
@[simp] theorem frz_ifc (H : Hp) (m : Nat) (t : TypeId) (x : CV) : frz H m (.ifc t x) = frz1 H m (.ifc t x) := (rfl)
@[simp] theorem frz2_ifc (H : Hp) (m : Nat) (t : TypeId) (x : CV) : frz2 H m (.ifc t x) = frz1 H m (.ifc t x) := (rfl)
@[simp] theorem frz_agg (H : Hp) (m : Nat) (l : List CV) : frz H m (.agg l) = (frzL (frz1 H m) l).map .agg := (rfl)
@[simp] theorem frz2_agg (H : Hp) (m : Nat) (l : List CV) : frz2 H m (.agg l) = (frzL (frz1 H m) l).map .agg := (rfl)
@[simp] theorem frz_tup (H : Hp) (m : Nat) (l : List CV) : frz H m (.tup l) = (frzL (frz2 H m) l).map .tup := (rfl)
@[simp] theorem frz1_v (H : Hp) (m : Nat) (x : Value) : frz1 H m (.v x) = some (.v x) := (rfl)
@[simp] theorem frz1_im (H : Hp) (m : Nat) (l : List CV) (a b : Nat) : frz1 H m (.im l a b) = some (.im l a b) := (rfl)
@[simp] theorem frz1_ip (H : Hp) (m : Nat) (l : List CV) : frz1 H m (.ip l) = some (.ip l) := (rfl)
@[simp] theorem frz1_lit (H : Hp) (m : Nat) (l : List CV) (a b : Nat) : frz1 H m (.lit l a b) = some (.im l a b) := (rfl)
@[simp] theorem frz1_sl (H : Hp) (m id ver off len sz : Nat) : frz1 H m (.sl id ver off len sz) = if id < m then some (.sl id ver off len sz) else (atS H (.sl id ver off len sz)).bind fun cn => if cn.1.all clB && decide (cn.1.length = len * sz) then some (.im cn.1 len sz) else none := (rfl)
@[simp] theorem frz1_ptr (H : Hp) (m id ver off : Nat) : frz1 H m (.ptr id ver off) = if id < m then some (.ptr id ver off) else none := by simp [frz1, topLe]
@[simp] theorem frz1_mp (H : Hp) (m id ver : Nat) : frz1 H m (.mp id ver) = if id < m then some (.mp id ver) else none := by simp [frz1, topLe]
@[simp] theorem frz1_ifc (H : Hp) (m : Nat) (t : TypeId) (x : CV) : frz1 H m (.ifc t x) = if topLe m x = true then some (.ifc t x) else none := by
  cases h : topLe m x <;> simp [frz1, topLe, h]
@[simp] theorem frame_at (args : List CV) (t : Tmp) : frame args t = args.getD t (.tup []) := (rfl)
end Go.SL

/- A region whose order is drawn, where what has no order has no bearing on each other: as in the text's order. -/
namespace Go.SL
set_option linter.unusedVariables false

theorem evL_congr {fr fr' : Fr} : ∀ {l : List Operand}, (∀ x ∈ l, evO fr x = evO fr' x) → evL fr l = evL fr' l
  | [], _ => rfl
  | o :: os, h => by
    unfold evL
    rw [h o (by simp), evL_congr fun x hx => h x (by simp [hx])]
theorem evP_congr {fr fr' : Fr} : ∀ {l : List (Nat × Operand)}, (∀ x ∈ l.map (·.2), evO fr x = evO fr' x) → evP fr l = evP fr' l
  | [], _ => rfl
  | o :: os, h => by
    unfold evP
    rw [h o.2 (by simp), evP_congr fun x hx => h x (by simp only [List.map_cons, List.mem_cons]; exact .inr hx)]
theorem evM_congr {fr fr' : Fr} {o : Option Operand} (h : ∀ x ∈ o.toArray, evO fr x = evO fr' x) : evM fr o = evM fr' o := by
  cases o with
  | none => rfl
  | some x => show (evO fr x).map some = (evO fr' x).map some; rw [h x (by simp)]

theorem opX_congr {P : Program} {cfg : Cfg} {ce : CallE} {m : Nat} {fr fr' : Fr} {old : CV} {H : Hp} (o : Op) (h : ∀ x ∈ o.operands, evO fr x = evO fr' x) : opX P cfg ce m fr old H o = opX P cfg ce m fr' old H o := by
  cases o <;> simp only [Op.operands] at h
  case call c =>
    obtain ⟨callee, args, ts⟩ := c
    have ha : evL fr args.toList = evL fr' args.toList := evL_congr fun x hx => h x (by simp only [Call.operands]; exact Array.mem_append.2 (.inr (by simpa using hx)))
    cases callee with
    | value f =>
      have hf := h f (by simp [Call.operands])
      simp only [opX, ha, hf]
    | invoke r q => simp only [opX, opE, stOK]
    | builtin b =>
      have e1 : stOK m fr (.call ⟨.builtin b, args, ts⟩) = stOK m fr' (.call ⟨.builtin b, args, ts⟩) := by cases b <;> simp only [stOK, ha]
      have e2 : opE P cfg fr old H (.call ⟨.builtin b, args, ts⟩) = opE P cfg fr' old H (.call ⟨.builtin b, args, ts⟩) := by simp only [opE, ha]
      show (if stOK m fr _ then opE P cfg fr old H _ else none) = _
      rw [e1, e2]; rfl
  case build t ps => simp only [opX, opE, stOK, evP_congr (l := ps.toList) fun x hx => h x (by simpa using hx)]
  case buildSlice t n ps => simp only [opX, opE, stOK, evP_congr (l := ps.toList) fun x hx => h x (by simpa using hx)]
  case makeFunc f a b =>
    have ha : evL fr a.toList = evL fr' a.toList := evL_congr fun x hx => h x (Array.mem_append.2 (.inl (by simpa using hx)))
    have hb : evL fr b.toList = evL fr' b.toList := evL_congr fun x hx => h x (Array.mem_append.2 (.inr (by simpa using hx)))
    cases f <;> simp only [opX, opE, stOK, ha, hb]
  case makeMap t r => cases r <;> simp only [opX, opE, stOK]
  case slice t x lo hi mx' =>
    have hx := h x (by simp)
    have hl := evM_congr (fr := fr) (fr' := fr') (o := lo) fun y hy => h y (by simp only [Array.mem_append]; exact .inl (.inl (.inr hy)))
    have hh := evM_congr (fr := fr) (fr' := fr') (o := hi) fun y hy => h y (by simp only [Array.mem_append]; exact .inl (.inr hy))
    cases mx' <;> simp only [opX, opE, stOK, hx, hl, hh]
  case mapUpdate t q k x =>
    have h1 := h q (by simp)
    have h2 := h k (by simp)
    have h3 := h x (by simp)
    have e1 : stOK m fr (.mapUpdate t q k x) = stOK m fr' (.mapUpdate t q k x) := by simp only [stOK, h1, h3]
    have e2 : opE P cfg fr old H (.mapUpdate t q k x) = opE P cfg fr' old H (.mapUpdate t q k x) := by simp only [opE, h1, h2, h3]
    show (if stOK m fr _ then opE P cfg fr old H _ else none) = _
    rw [e1, e2]; rfl
  case insert t q k x =>
    have h1 := h q (by simp)
    have h2 := h k (by simp)
    have h3 := h x (by simp)
    have e1 : stOK m fr (.insert t q k x) = stOK m fr' (.insert t q k x) := by simp only [stOK, h1, h3]
    have e2 : opE P cfg fr old H (.insert t q k x) = opE P cfg fr' old H (.insert t q k x) := by simp only [opE, h1, h2, h3]
    show (if stOK m fr _ then opE P cfg fr old H _ else none) = _
    rw [e1, e2]; rfl
  case store t q x =>
    have h1 := h q (by simp)
    have h3 := h x (by simp)
    have e1 : stOK m fr (.store t q x) = stOK m fr' (.store t q x) := by simp only [stOK, h1, h3]
    have e2 : opE P cfg fr old H (.store t q x) = opE P cfg fr' old H (.store t q x) := by simp only [opE, h1, h3]
    show (if stOK m fr _ then opE P cfg fr old H _ else none) = _
    rw [e1, e2]; rfl
  case pick c a b =>
    have h1 := h c (by simp)
    have h2 := h a (by simp)
    have h3 := h b (by simp)
    simp only [opX, opE, stOK, h1]
    congr 1
    congr 1
    funext c
    split
    · rename_i t; cases t <;> simp [h2, h3]
    · rfl
  all_goals (first
    | (simp only [opX, opE, stOK]; done)
    | (rename_i a; have h1 := h a (by simp); simp only [opX, opE, stOK, h1]; done)
    | (rename_i a b; have h1 := h a (by simp); simp only [opX, opE, stOK, h1]; done)
    | (rename_i a b; have h1 := h b (by simp); simp only [opX, opE, stOK, h1]; done)
    | (rename_i a b; have h1 := h a (by simp); have h2 := h b (by simp); simp only [opX, opE, stOK, h1, h2]; done)
    | (rename_i a b c; have h1 := h b (by simp); simp only [opX, opE, stOK, h1]; done)
    | (rename_i a b c; have h1 := h b (by simp); have h2 := h c (by simp); simp only [opX, opE, stOK, h1, h2]; done)
    | (rename_i a b c d; have h1 := h b (by simp); have h2 := h c (by simp); simp only [opX, opE, stOK, h1, h2]; done)
    | (rename_i a b c d; have h1 := h b (by simp); have h2 := h c (by simp); have h3 := h d (by simp); simp only [opX, opE, stOK, h1, h2, h3]; done)
    | (rename_i a b c d e; have h1 := h c (by simp); have h2 := h d (by simp); simp only [opX, opE, stOK, h1, h2]; done))

/-- What an operation does. -/
def actX (P : Program) (cfg : Cfg) (ce : CallE) (m : Nat) (ops : Array Oper) (o : Oper) (fr : Fr) (H : Hp) : Option (CV × Hp) :=
  (wantC fr ops o).bind fun b => if b then opX P cfg ce m fr (oldC fr o.dst) H o.op else some (.tup [], H)
def stepX (P : Program) (cfg : Cfg) (ce : CallE) (m n : Nat) (ops : Array Oper) (o : Oper) (fr : Fr) (H : Hp) : Option (Fr × Hp) :=
  (actX P cfg ce m ops o fr H).bind fun y => (putC n fr o.dst y.1).map (·, y.2)
theorem evOps_step {P : Program} {cfg : Cfg} {ce : CallE} {m n : Nat} {ops : Array Oper} {o : Oper} {rest : List Oper} {fr : Fr} {H : Hp} :
    evOps P cfg ce m n ops (o :: rest) fr H = (stepX P cfg ce m n ops o fr H).bind fun s => evOps P cfg ce m n ops rest s.1 s.2 := by
  unfold stepX actX
  cases hw : wantC fr ops o with
  | none => rw [evOps_none hw]; rfl
  | some b =>
    cases b with
    | true =>
      rw [evOps_do hw]
      simp only [Option.bind_some, if_true]
      cases opX P cfg ce m fr (oldC fr o.dst) H o.op with
      | none => rfl
      | some y =>
        simp only [Option.bind_some]
        cases putC n fr o.dst y.1 <;> rfl
    | false =>
      rw [evOps_not hw]
      simp only [Option.bind_some, Bool.false_eq_true, if_false]
      cases putC n fr o.dst (.tup []) <;> rfl

theorem actX_put {P : Program} {cfg : Cfg} {ce : CallE} {m n : Nat} {ops : Array Oper} {o1 o2 : Oper} {fr fr1 : Fr} {H : Hp} {y : CV} (hput : putC n fr o1.dst y = some fr1)
    (h : ∀ d, o1.dst = some d → d ∉ o2.looksAt ops) (hd : ∀ d, o1.dst = some d → o2.dst ≠ some d) : actX P cfg ce m ops o2 fr1 H = actX P cfg ce m ops o2 fr H := by
  cases hd1 : o1.dst with
  | none => rw [hd1] at hput; simp only [putC, Option.some.injEq] at hput; rw [hput]
  | some d =>
    rw [hd1] at hput
    have h := h d hd1
    have hd := hd d hd1
    have hfr : ∀ t, t ≠ d → fr1 t = fr t := by
      intro t ht
      simp only [putC] at hput
      split at hput
      · cases hput; simp [ht]
      · cases hput
    have hw : wantC fr1 ops o2 = wantC fr ops o2 := by
      unfold wantC
      cases hg : o2.guard with
      | none => rfl
      | some gw =>
        obtain ⟨j, want⟩ := gw
        simp only []
        cases ht : (ops[j]?).bind (·.dst) with
        | none => rfl
        | some t =>
          have : t ≠ d := fun e => h (by subst e; simp [Oper.looksAt, hg, ht])
          simp only [hfr t this]
    have hold : oldC fr1 o2.dst = oldC fr o2.dst := by
      cases h2 : o2.dst with
      | none => rfl
      | some t => exact hfr t fun e => hd (by rw [h2, e])
    have hop : ∀ x ∈ o2.op.operands, evO fr1 x = evO fr x := by
      intro x hx
      cases x with
      | tmp t =>
        have : t ≠ d := fun e => h (by
          subst e
          exact List.mem_append_left _ (List.mem_filterMap.2 ⟨.tmp t, by simpa using hx, rfl⟩))
        simp only [evO, hfr t this]
      | _ => rfl
    unfold actX
    rw [hw, hold]
    congr 1
    funext b
    split
    · exact opX_congr _ hop
    · rfl

/-- Two operations may change places. -/
def Cmt (P : Program) (cfg : Cfg) (ce : CallE) (m n : Nat) (ops : Array Oper) (o1 o2 : Oper) : Prop :=
  ∀ fr H s1 s2, stepX P cfg ce m n ops o1 fr H = some s1 → stepX P cfg ce m n ops o2 s1.1 s1.2 = some s2 → ∃ t1, stepX P cfg ce m n ops o2 fr H = some t1 ∧ stepX P cfg ce m n ops o1 t1.1 t1.2 = some s2

theorem putC_comm {n : Nat} {fr fr1 fr2 : Fr} {d e : Option Tmp} {x y : CV} (hne : ∀ t, d = some t → e ≠ some t) (h1 : putC n fr d x = some fr1) (h2 : putC n fr1 e y = some fr2) : ∃ fr', putC n fr e y = some fr' ∧ putC n fr' d x = some fr2 := by
  cases d with
  | none => simp only [putC, Option.some.injEq] at h1; subst h1; exact ⟨fr2, h2, rfl⟩
  | some d =>
    cases e with
    | none => simp only [putC, Option.some.injEq] at h2; subst h2; exact ⟨fr, rfl, h1⟩
    | some e =>
      have hde : d ≠ e := fun he => hne d rfl (by rw [he])
      simp only [putC] at h1 h2 ⊢
      split at h1
      · rename_i hd
        cases h1
        split at h2
        · rename_i he
          cases h2
          refine ⟨_, by rw [if_pos he], ?_⟩
          rw [if_pos hd]
          congr 1
          funext t
          by_cases ht : t = d
          · subst ht; simp [hde]
          · simp [ht]
        · cases h2
      · cases h1

def Pur (P : Program) (cfg : Cfg) (ce : CallE) (m : Nat) (ops : Array Oper) (o : Oper) : Prop := ∀ fr H H', actX P cfg ce m ops o fr H = (actX P cfg ce m ops o fr H').map fun y => (y.1, H)
def Rd (P : Program) (cfg : Cfg) (ce : CallE) (m : Nat) (ops : Array Oper) (o : Oper) : Prop := ∀ fr H y, actX P cfg ce m ops o fr H = some y → y.2 = H
theorem Pur.rd {P : Program} {cfg : Cfg} {ce : CallE} {m : Nat} {ops : Array Oper} {o : Oper} (h : Pur P cfg ce m ops o) : Rd P cfg ce m ops o := by
  intro fr H y hy
  rw [h fr H H] at hy
  obtain ⟨z, _, rfl⟩ := Option.map_eq_some_iff.1 hy
  rfl

theorem cmt_of {P : Program} {cfg : Cfg} {ce : CallE} {m n : Nat} {ops : Array Oper} {o1 o2 : Oper} (hap : o1.apart ops o2 = true)
    (h : Pur P cfg ce m ops o1 ∨ Pur P cfg ce m ops o2 ∨ (Rd P cfg ce m ops o1 ∧ Rd P cfg ce m ops o2)) : Cmt P cfg ce m n ops o1 o2 := by
  obtain ⟨a1, a2, a3⟩ := Oper.apart_spec hap
  intro fr H s1 s2 h1 h2
  obtain ⟨⟨y1, H1⟩, b1, h1⟩ := Option.bind_eq_some_iff.1 h1
  obtain ⟨fr1, b2, h1⟩ := Option.map_eq_some_iff.1 h1
  cases h1
  obtain ⟨⟨y2, H2⟩, c1, h2⟩ := Option.bind_eq_some_iff.1 h2
  obtain ⟨fr2, c2, h2⟩ := Option.map_eq_some_iff.1 h2
  cases h2
  simp only at b2 c1 c2 ⊢
  rw [actX_put b2 a1 a2] at c1
  obtain ⟨fr', d1, d2⟩ := putC_comm a2 b2 c2
  have back : ∀ K, actX P cfg ce m ops o1 fr' K = actX P cfg ce m ops o1 fr K := fun K => actX_put d1 a3 (fun d hd e => a2 d e hd)
  have key : ∃ Hm, actX P cfg ce m ops o2 fr H = some (y2, Hm) ∧ actX P cfg ce m ops o1 fr Hm = some (y1, H2) := by
    rcases h with h | h | ⟨h, h'⟩
    · have e : H1 = H := h.rd _ _ _ b1
      subst e
      refine ⟨H2, c1, ?_⟩
      rw [h fr H2 H1, b1]; rfl
    · have e : H2 = H1 := h.rd _ _ _ c1
      subst e
      refine ⟨H, ?_, b1⟩
      rw [h fr H H2, c1]; rfl
    · have e : H1 = H := h _ _ _ b1
      have e' : H2 = H1 := h' _ _ _ c1
      subst e; subst e'
      exact ⟨_, c1, b1⟩
  obtain ⟨Hm, k1, k2⟩ := key
  refine ⟨(fr', Hm), ?_, ?_⟩
  · unfold stepX; rw [k1]; simp only [Option.bind_some, d1, Option.map_some]
  · unfold stepX; simp only [back, k2, Option.bind_some, d2, Option.map_some]

theorem evOps_front {P : Program} {cfg : Cfg} {ce : CallE} {m n : Nat} {ops : Array Oper} {o : Oper} {r : Fr × Hp} : ∀ (A B : List Oper) (fr : Fr) (H : Hp), (∀ x ∈ A, Cmt P cfg ce m n ops x o) → evOps P cfg ce m n ops (A ++ o :: B) fr H = some r → evOps P cfg ce m n ops (o :: (A ++ B)) fr H = some r
  | [], B, fr, H, _, h => h
  | x :: A, B, fr, H, hc, h => by
    rw [List.cons_append, evOps_step] at h
    obtain ⟨s1, h1, h⟩ := Option.bind_eq_some_iff.1 h
    have h2 := evOps_front A B s1.1 s1.2 (fun y hy => hc y (by simp [hy])) h
    rw [evOps_step] at h2
    obtain ⟨s2, h3, h4⟩ := Option.bind_eq_some_iff.1 h2
    obtain ⟨t1, h5, h6⟩ := hc x (by simp) fr H s1 s2 h1 h3
    rw [evOps_step, h5, Option.bind_some, List.cons_append, evOps_step, h6, Option.bind_some, h4]

end Go.SL

/- What can be seen of a region whose order is drawn: that its order has no bearing. -/
namespace Go.SL
set_option linter.unusedVariables false

def purB : Op → Bool
  | .move _ | .assign _ | .pick .. | .unOp .. | .field .. | .index .. | .extract .. | .build .. | .makeFunc .. | .makeInterface .. => true
  | .binOp op .. => match op with | .eql | .neq => false | _ => true
  | _ => false
def rdB (mu : Bool) : Op → Bool
  | .load .. | .nilCheck .. | .binOp .. | .slice .. | .fieldAddr .. | .indexAddr .. | .lookup .. => true
  | .convert .. => !mu
  | .call ⟨.builtin .len, _, _⟩ | .call ⟨.builtin .unsafeSliceData, _, _⟩ => true
  | o => purB o

theorem dBin_pur {P : Program} {op : BinOp} {t : TypeId} {x y : CV} (h1 : op ≠ .eql) (h2 : op ≠ .neq) (H H' : Hp) : dBin P op t x y H = dBin P op t x y H' := by
  unfold dBin
  split
  · rfl
  · split <;> first
      | rfl
      | (cases op <;> first | rfl | exact absurd rfl h1 | exact absurd rfl h2)

theorem opX_pur {P : Program} {cfg : Cfg} {ce : CallE} {m : Nat} {fr : Fr} {old : CV} {o : Op} (h : purB o = true) (H H' : Hp) : opX P cfg ce m fr old H o = (opX P cfg ce m fr old H' o).map fun y => (y.1, H) := by
  cases o <;> simp only [purB, Bool.false_eq_true] at h
  case move a => simp only [opX, opE, stOK, if_true]; cases evO fr a <;> rfl
  case assign a => simp only [opX, opE, stOK, if_true]; cases evO fr a <;> rfl
  case pick c a b =>
    simp only [opX, opE, stOK, if_true]
    cases evO fr c with
    | none => rfl
    | some q =>
      simp only [Option.bind_some]
      split
      · simp only [Option.map_map]; rfl
      · rfl
  case unOp op t a => simp only [opX, opE, stOK, if_true]; cases evO fr a <;> simp [Option.map_map] <;> rfl
  case field t a f => simp only [opX, opE, stOK, if_true]; cases evO fr a <;> simp [Option.map_map] <;> rfl
  case index t a i => simp only [opX, opE, stOK, if_true]; cases evO fr a <;> cases evO fr i <;> simp [Option.map_map] <;> rfl
  case extract a i => simp only [opX, opE, stOK, if_true]; cases evO fr a <;> simp [Option.map_map] <;> rfl
  case build t ps => simp only [opX, opE, stOK, if_true]; cases evP fr ps.toList <;> simp [Option.map_map] <;> rfl
  case makeInterface t a =>
    simp only [opX, opE, stOK, if_true]
    cases evO fr a with
    | none => rfl
    | some q => simp only [Option.bind_some]; split <;> rfl
  case makeFunc f a b =>
    cases f <;> simp only [opX, opE, stOK, if_true] <;> first
      | rfl
      | (cases evL fr a.toList <;> cases evL fr b.toList <;> rfl)
  case binOp op t a b q =>
    have h1 : op ≠ .eql := by intro e; subst e; simp at h
    have h2 : op ≠ .neq := by intro e; subst e; simp at h
    simp only [opX, opE, stOK, if_true]
    cases evO fr a with
    | none => rfl
    | some u =>
      cases evO fr b with
      | none => rfl
      | some v => simp only [Option.bind_some, Option.map_map, dBin_pur h1 h2 H H']; rfl

theorem map_rd {H : Hp} {o : Option CV} {y : CV × Hp} (h : o.map (·, H) = some y) : y.2 = H := by
  obtain ⟨z, _, rfl⟩ := Option.map_eq_some_iff.1 h; rfl

theorem opX_rd {P : Program} {cfg : Cfg} {ce : CallE} {m : Nat} {fr : Fr} {old : CV} {o : Op} (h : rdB cfg.mu o = true) (H : Hp) (y : CV × Hp) (hy : opX P cfg ce m fr old H o = some y) : y.2 = H := by
  have pur : purB o = true → y.2 = H := by
    intro hp
    rw [opX_pur hp H H] at hy
    obtain ⟨z, _, rfl⟩ := Option.map_eq_some_iff.1 hy; rfl
  cases o <;> first
    | (refine pur ?_; simpa only [rdB] using h)
    | (simp only [rdB, purB, Bool.false_eq_true] at h; done)
    | skip
  case load t a =>
    simp only [opX, opE, stOK, if_true] at hy
    obtain ⟨u, _, hy⟩ := Option.bind_eq_some_iff.1 hy
    exact map_rd hy
  case nilCheck a =>
    simp only [opX, opE, stOK, if_true] at hy
    obtain ⟨u, _, hy⟩ := Option.bind_eq_some_iff.1 hy
    split at hy <;> cases hy; rfl
  case binOp op t a b q =>
    simp only [opX, opE, stOK, if_true] at hy
    obtain ⟨u, _, hy⟩ := Option.bind_eq_some_iff.1 hy
    obtain ⟨u, _, hy⟩ := Option.bind_eq_some_iff.1 hy
    exact map_rd hy
  case slice t a lo hi mx' =>
    cases mx' with
    | some q => simp only [opX, opE, stOK, if_true] at hy; cases hy
    | none =>
      simp only [opX, opE, stOK, if_true] at hy
      obtain ⟨u, _, hy⟩ := Option.bind_eq_some_iff.1 hy
      obtain ⟨u, _, hy⟩ := Option.bind_eq_some_iff.1 hy
      obtain ⟨u, _, hy⟩ := Option.bind_eq_some_iff.1 hy
      exact map_rd hy
  case fieldAddr t a f =>
    simp only [opX, opE, stOK, if_true] at hy
    obtain ⟨u, _, hy⟩ := Option.bind_eq_some_iff.1 hy
    exact map_rd hy
  case indexAddr t a i =>
    simp only [opX, opE, stOK, if_true] at hy
    obtain ⟨u, _, hy⟩ := Option.bind_eq_some_iff.1 hy
    obtain ⟨u, _, hy⟩ := Option.bind_eq_some_iff.1 hy
    exact map_rd hy
  case lookup t a i ok =>
    simp only [opX, opE, stOK, if_true] at hy
    obtain ⟨u, _, hy⟩ := Option.bind_eq_some_iff.1 hy
    obtain ⟨u, _, hy⟩ := Option.bind_eq_some_iff.1 hy
    exact map_rd hy
  case convert s d a =>
    have hmu : cfg.mu = false := by simpa [rdB] using h
    simp only [opX, opE, stOK, if_true] at hy
    obtain ⟨u, _, hy⟩ := Option.bind_eq_some_iff.1 hy
    split at hy
    · cases hy; rfl
    · split at hy
      · cases hy; rfl
      · unfold dS2B at hy
        rw [hmu] at hy
        split at hy
        · split at hy
          · cases hy; rfl
          · cases hy
        · cases hy
  case call c =>
    obtain ⟨callee, args, ts⟩ := c
    cases callee with
    | value f => simp [rdB, purB] at h
    | invoke r q => simp [rdB, purB] at h
    | builtin b =>
      cases b <;> simp [rdB, purB] at h
      all_goals
        simp only [opX, opE, stOK, if_true] at hy
        obtain ⟨xs, _, hy⟩ := Option.bind_eq_some_iff.1 hy
        simp only [dBuiltin] at hy
        split at hy
        · exact map_rd hy
        · cases hy

theorem pur_of {P : Program} {cfg : Cfg} {ce : CallE} {m : Nat} {ops : Array Oper} {o : Oper} (h : purB o.op = true) : Pur P cfg ce m ops o := by
  intro fr H H'
  unfold actX
  cases wantC fr ops o with
  | none => rfl
  | some b => cases b with
    | true => simp only [Option.bind_some, if_true]; exact opX_pur h H H'
    | false => rfl
theorem rd_of {P : Program} {cfg : Cfg} {ce : CallE} {m : Nat} {ops : Array Oper} {o : Oper} (h : rdB cfg.mu o.op = true) : Rd P cfg ce m ops o := by
  intro fr H y hy
  unfold actX at hy
  obtain ⟨b, _, hy⟩ := Option.bind_eq_some_iff.1 hy
  cases b with
  | true => simp only [if_true] at hy; exact opX_rd h H y hy
  | false => simp only [Bool.false_eq_true, if_false, Option.some.injEq] at hy; rw [← hy]

/-- What an operation stands behind. -/
def edgesOf (o : Oper) : List Nat := o.after.toList.filterMap fun e => if Region.binds .any e then some e.on else none
def ancM (anc : List Nat) (es : List Nat) : Nat := es.foldl (fun q e => q ||| (1 <<< e) ||| anc.getD e 0) 0
def ancOf : List Oper → List Nat → List Nat
  | [], acc => acc
  | o :: os, acc => ancOf os (acc ++ [ancM acc (edgesOf o)])

theorem ancM_spec {anc : List Nat} {j : Nat} : ∀ (es : List Nat) (q : Nat), (es.foldl (fun q e => q ||| (1 <<< e) ||| anc.getD e 0) q).testBit j = true → q.testBit j = true ∨ ∃ e ∈ es, e = j ∨ (anc.getD e 0).testBit j = true
  | [], q, h => .inl h
  | e :: es, q, h => by
    rw [List.foldl_cons] at h
    rcases ancM_spec es _ h with h | ⟨e', he, h⟩
    · simp only [Nat.testBit_or, Bool.or_eq_true] at h
      rcases h with (h | h) | h
      · exact .inl h
      · refine .inr ⟨e, by simp, .inl ?_⟩
        rw [Nat.one_shiftLeft, Nat.testBit_two_pow] at h
        simpa using h
      · exact .inr ⟨e, by simp, .inr h⟩
    · exact .inr ⟨e', by simp [he], h⟩

def cmB (mu : Bool) (ops : Array Oper) (a b : Oper) : Bool := a.apart ops b && (purB a.op || purB b.op || (rdB mu a.op && rdB mu b.op))
def okX (mu : Bool) (ops : Array Oper) : Bool :=
  let anc := ancOf ops.toList []
  (List.range ops.size).all fun i => match ops[i]? with
    | none => true
    | some o => (edgesOf o).all (fun e => decide (e < i)) && (anc.getD i 0 == ancM anc (edgesOf o)) &&
        (List.range i).all fun j => (anc.getD i 0).testBit j || (match ops[j]? with | none => true | some p => cmB mu ops p o)

/-- What is listed is listed with all that it stands behind. -/
def DC (ops : Array Oper) (listed : Array Bool) : Prop := ∀ i o, listed.getD i false = true → ops[i]? = some o → ∀ e ∈ edgesOf o, listed.getD e false = true

theorem okX_at {mu : Bool} {ops : Array Oper} (h : okX mu ops = true) {i : Nat} {o : Oper} (ho : ops[i]? = some o) :
    (∀ e ∈ edgesOf o, e < i) ∧ (ancOf ops.toList []).getD i 0 = ancM (ancOf ops.toList []) (edgesOf o) ∧
      ∀ j p, j < i → ops[j]? = some p → ((ancOf ops.toList []).getD i 0).testBit j = true ∨ cmB mu ops p o = true := by
  unfold okX at h
  simp only [] at h
  have hi : i < ops.size := (Array.getElem?_eq_some_iff.1 ho).1
  have := List.all_eq_true.1 h i (List.mem_range.2 hi)
  rw [ho] at this
  simp only [Bool.and_eq_true, beq_iff_eq] at this
  obtain ⟨⟨h1, h2⟩, h3⟩ := this
  refine ⟨fun e he => by simpa using List.all_eq_true.1 h1 e he, h2, fun j p hj hp => ?_⟩
  have := List.all_eq_true.1 h3 j (List.mem_range.2 hj)
  rw [hp] at this
  simpa using this

theorem anc_listed {mu : Bool} {ops : Array Oper} (h : okX mu ops = true) {listed : Array Bool} (hd : DC ops listed) : ∀ (i : Nat) (o : Oper), ops[i]? = some o → (∀ e ∈ edgesOf o, listed.getD e false = true) →
    ∀ j, ((ancOf ops.toList []).getD i 0).testBit j = true → listed.getD j false = true := by
  intro i
  induction i using Nat.strongRecOn with
  | ind i ih =>
    intro o ho hl j hj
    obtain ⟨h1, h2, _⟩ := okX_at h ho
    rw [h2] at hj
    rcases ancM_spec _ _ hj with hz | ⟨e, he, hz⟩
    · simp at hz
    · rcases hz with rfl | hz
      · exact hl _ he
      · have hlt := h1 e he
        have hi : i < ops.size := (Array.getElem?_eq_some_iff.1 ho).1
        have hoe : ops[e]? = some (ops[e]'(by omega)) := Array.getElem?_eq_getElem (by omega)
        exact ih e hlt _ hoe (fun e' he' => hd e _ (hl e he) hoe e' he') j hz

def un (ops : Array Oper) (listed : Array Bool) : List Nat := (List.range ops.size).filter fun j => !listed.getD j true

theorem mem_edges {o : Oper} {x : Nat} : x ∈ edgesOf o ↔ ∃ e ∈ o.after, Region.binds .any e = true ∧ e.on = x := by
  unfold edgesOf
  rw [List.mem_filterMap]
  constructor
  · rintro ⟨e, he, h⟩
    split at h
    · rename_i hb; cases h; exact ⟨e, by simpa using he, hb, rfl⟩
    · cases h
  · rintro ⟨e, he, hb, rfl⟩
    exact ⟨e, by simpa using he, by rw [if_pos hb]⟩

theorem getD_both {listed : Array Bool} {i : Nat} (hi : i < listed.size) (d d' : Bool) : listed.getD i d = listed.getD i d' := by
  simp [Array.getD, hi]

theorem draw_ix {P : Program} {cfg : Cfg} {ce : CallE} {m n : Nat} {ops : Array Oper} (hok : okX cfg.mu ops = true) {r : Fr × Hp} : ∀ (l : List Nat) (listed : Array Bool), listed.size = ops.size → DC ops listed → LinX ops l listed →
    ∀ (fr : Fr) (H : Hp), evIx P cfg ce m n ops (un ops listed) fr H = some r → evIx P cfg ce m n ops l fr H = some r
  | [], listed, hsz, hd, hl, fr, H, h => by
    have hr : Region.ready .any ops listed = [] := hl
    have all : ∀ j, j < ops.size → listed.getD j false = true := by
      intro j
      induction j using Nat.strongRecOn with
      | ind j ih =>
        intro hj
        cases hb : listed.getD j false with
        | true => rfl
        | false =>
          have ho : ops[j]? = some (ops[j]'hj) := Array.getElem?_eq_getElem hj
          have : j ∈ Region.ready .any ops listed := mem_ready.2 ⟨by rw [getD_both (by omega) true false, hb], _, ho, fun e he hbind => by
            have hlt := (okX_at hok ho).1 e.on (mem_edges.2 ⟨e, he, hbind, rfl⟩)
            exact ih e.on hlt (by omega)⟩
          rw [hr] at this
          cases this
    have : un ops listed = [] := by
      unfold un
      refine List.filter_eq_nil_iff.2 fun j hj => ?_
      have hj' := List.mem_range.1 hj
      rw [getD_both (by omega) true false, all j hj']; simp
    rw [this] at h
    exact h
  | i :: l, listed, hsz, hd, hl, fr, H, h => by
    obtain ⟨hi, hl⟩ := hl
    obtain ⟨h0, o, ho, hall⟩ := mem_ready.1 hi
    have his : i < ops.size := (Array.getElem?_eq_some_iff.1 ho).1
    have hedge : ∀ e ∈ edgesOf o, listed.getD e false = true := by
      intro x hx
      obtain ⟨e, he, hb, rfl⟩ := mem_edges.1 hx
      exact hall e he hb
    have hmem : i ∈ un ops listed := List.mem_filter.2 ⟨List.mem_range.2 his, by rw [h0]; rfl⟩
    have hsorted : (un ops listed).Pairwise (· < ·) := List.Pairwise.filter _ List.pairwise_lt_range
    obtain ⟨A, B, hAB⟩ := List.append_of_mem hmem
    rw [hAB] at hsorted h
    have hA : ∀ x ∈ A, x < i := fun x hx => (List.pairwise_append.1 hsorted).2.2 x hx i (by simp)
    have hB : ∀ x ∈ B, i < x := fun x hx => (List.pairwise_cons.1 (List.pairwise_append.1 hsorted).2.1).1 x hx
    have hset : un ops (listed.setIfInBounds i true) = A ++ B := by
      have e1 : un ops (listed.setIfInBounds i true) = (un ops listed).filter fun j => j != i := by
        unfold un
        rw [List.filter_filter]
        refine List.filter_congr fun j hj => ?_
        by_cases e : i = j
        · subst e
          have hlt : i < listed.size := by omega
          simp [hlt]
        · rw [getD_set_ne true e]
          have : (j != i) = true := by simpa using Ne.symm e
          rw [this]; simp
      rw [e1, hAB, List.filter_append, List.filter_cons]
      simp only [bne_self_eq_false, Bool.false_eq_true, if_false]
      rw [List.filter_eq_self.2 fun x hx => by have := hA x hx; simp; omega, List.filter_eq_self.2 fun x hx => by have := hB x hx; simp; omega]
    have hfm : (A ++ i :: B).filterMap (ops[·]?) = A.filterMap (ops[·]?) ++ o :: B.filterMap (ops[·]?) := by
      rw [List.filterMap_append, List.filterMap_cons, ho]
    unfold evIx at h
    rw [hfm] at h
    have h2 := evOps_front (P := P) (cfg := cfg) (ce := ce) (m := m) (n := n) (ops := ops) (o := o) _ _ fr H (fun x hx => by
      obtain ⟨j, hj, hjo⟩ := List.mem_filterMap.1 hx
      have hji := hA j hj
      have hjun : j ∈ un ops listed := by rw [hAB]; simp [hj]
      have hjun2 : listed.getD j true = false := by have := (List.mem_filter.1 hjun).2; simpa using this
      rcases (okX_at hok ho).2.2 j x hji hjo with hbit | hcm
      · have := anc_listed hok hd i o ho hedge j hbit
        rw [getD_both (by omega) false true, hjun2] at this
        cases this
      · unfold cmB at hcm
        simp only [Bool.and_eq_true, Bool.or_eq_true] at hcm
        obtain ⟨c1, c2⟩ := hcm
        refine cmt_of c1 ?_
        rcases c2 with (c2 | c2) | c2
        · exact .inl (pur_of c2)
        · exact .inr (.inl (pur_of c2))
        · exact .inr (.inr ⟨rd_of c2.1, rd_of c2.2⟩)) h
    rw [evOps_step] at h2
    obtain ⟨s, h3, h4⟩ := Option.bind_eq_some_iff.1 h2
    rw [← List.filterMap_append, ← hset] at h4
    have ih := draw_ix hok (r := r) l (listed.setIfInBounds i true) (by simp [hsz]) (fun i' o' hi' ho' e he => by
      by_cases e1 : i = i'
      · subst e1
        rw [ho] at ho'; cases ho'
        exact getD_set_true (hedge e he)
      · rw [getD_set_ne false e1] at hi'
        exact getD_set_true (hd i' o' hi' ho' e he)) hl s.1 s.2 h4
    unfold evIx
    rw [List.filterMap_cons, ho]
    simp only []
    rw [evOps_step, h3]
    exact ih

theorem un_all (ops : Array Oper) : (un ops (Array.replicate ops.size false)).filterMap (ops[·]?) = ops.toList := by
  have : un ops (Array.replicate ops.size false) = List.range ops.size := by
    unfold un
    refine List.filter_eq_self.2 fun j hj => ?_
    have := List.mem_range.1 hj
    simp [this]
  rw [this]
  have gen : ∀ l : List Oper, (List.range l.length).filterMap (l[·]?) = l := by
    intro l
    induction l with
    | nil => rfl
    | cons a l ih =>
      rw [List.length_cons, List.range_succ_eq_map, List.filterMap_cons]
      simp only [List.getElem?_cons_zero, List.filterMap_map]
      congr 1
  have := gen ops.toList
  simpa using this

/-- A region whose order is drawn, and whose order has no bearing. -/
theorem W_draw (x : Cx) (i : Nat) (ops : Array Oper) (fr : Fr) (H : Hp) (Q : Ex → Fr → Hp → Prop) (hm : x.P.follows .mixedOrders = true) (hok : okX x.cfg.mu ops = true) : W x (.region i ops true) fr H Q ↔ WO x ops ops.toList fr H (Q .norm) := by
  have key : ∀ ce, evDraw x.P x.cfg ce x.m x.n ops fr H = evOps x.P x.cfg ce x.m x.n ops ops.toList fr H := by
    intro ce
    unfold evDraw
    rw [if_pos hm]
    cases he : evOps x.P x.cfg ce x.m x.n ops ops.toList fr H with
    | none => rfl
    | some r =>
      have : ∀ l, LinX ops l (Array.replicate ops.size false) → evIx x.P x.cfg ce x.m x.n ops l fr H = some r := fun l hl =>
        draw_ix hok l _ (by simp) (fun i o hi => by
          rw [Array.getD_eq_getD_getElem?] at hi
          by_cases hlt : i < ops.size
          · simp [hlt] at hi
          · simp [hlt] at hi) hl fr H (by unfold evIx; rw [un_all, he])
      simp only [Option.bind_some]
      rw [if_pos this]
  constructor
  · rintro ⟨k, r, h, hq⟩
    cases k with
    | zero => cases h
    | succ k =>
      obtain ⟨r1, h1, h2⟩ := Option.map_eq_some_iff.1 h
      cases h2
      rw [key] at h1
      exact ⟨k + 1, r1, h1, hq⟩
  · rintro ⟨k, r, h, hq⟩
    refine ⟨k + 1, _, Option.map_eq_some_iff.2 ⟨r, ?_, rfl⟩, hq⟩
    rw [key]
    exact evOps_mono (evCall_mono (Nat.le_succ k)) x.m x.n ops _ fr H _ h

end Go.SL

/- The objects behind a caller's, and what is read of them, told to the simplifier. -/
namespace Go.SL
set_option linter.unusedVariables false

theorem info_of {P : Program} {t : TypeId} {i : TypeInfo} (h : P.types[t]? = some i) : P.info? t = some i := by
  have hl : t < P.types.size := (Array.getElem?_eq_some_iff.1 h).1
  unfold Tables.info?
  rw [if_pos hl, h]

@[simp] theorem get_old {H L : Hp} {id : Nat} (h : id < H.length) : (H ++ L)[id]? = H[id]? := List.getElem?_append_left h
@[simp] theorem get_own0 (H L : Hp) : (H ++ L)[H.length]? = L[0]? := by rw [List.getElem?_append_right (Nat.le_refl _), Nat.sub_self]
@[simp] theorem get_own (H L : Hp) (i : Nat) : (H ++ L)[H.length + i]? = L[i]? := by rw [List.getElem?_append_right (by omega)]; congr 1; omega
@[simp] theorem at_old {H L : Hp} {id ver : Nat} (h : id < H.length) : cellsAt (H ++ L) id ver = cellsAt H id ver := by unfold cellsAt; rw [get_old h]
@[simp] theorem at_own0 (H L : Hp) (ver : Nat) : cellsAt (H ++ L) H.length ver = cellsAt L 0 ver := by unfold cellsAt; rw [get_own0]
@[simp] theorem at_own (H L : Hp) (i ver : Nat) : cellsAt (H ++ L) (H.length + i) ver = cellsAt L i ver := by unfold cellsAt; rw [get_own]
@[simp] theorem at_zero (v ver : Nat) (cs : List CV) (e : TypeId) (L : Hp) : cellsAt (.cells v cs e :: L) 0 ver = if v = ver then some cs else none := (rfl)
@[simp] theorem at_succ (o : CO) (L : Hp) (i ver : Nat) : cellsAt (o :: L) (i + 1) ver = cellsAt L i ver := (rfl)
@[simp] theorem set_own0 (H L : Hp) (o : CO) : (H ++ L).set H.length o = H ++ L.set 0 o := by rw [List.set_append_right _ _ (Nat.le_refl _), Nat.sub_self]
@[simp] theorem set_own (H L : Hp) (i : Nat) (o : CO) : (H ++ L).set (H.length + i) o = H ++ L.set i o := by rw [List.set_append_right _ _ (by omega)]; congr 2; omega
theorem modify_own (H L : Hp) (i : Nat) (f : CO → CO) : (H ++ L).modify (H.length + i) f = H ++ L.modify i f := by
  apply List.ext_getElem?
  intro j
  rw [List.getElem?_modify]
  by_cases hj : j < H.length
  · rw [List.getElem?_append_left hj, List.getElem?_append_left hj]
    simp [show H.length + i ≠ j by omega]
  · rw [List.getElem?_append_right (by omega), List.getElem?_append_right (by omega), List.getElem?_modify]
    by_cases e : H.length + i = j
    · subst e
      simp
    · have e2 : ¬ i = j - H.length := by omega
      simp [e, e2]
@[simp] theorem put_own (H L : Hp) (i off : Nat) (xs : List CV) : putH (H ++ L) (H.length + i) off xs = H ++ putH L i off xs := modify_own H L i _
@[simp] theorem put_own0 (H L : Hp) (off : Nat) (xs : List CV) : putH (H ++ L) H.length off xs = H ++ putH L 0 off xs := put_own H L 0 off xs
@[simp] theorem put_zero (v : Nat) (cs : List CV) (e : TypeId) (L : Hp) (off : Nat) (xs : List CV) : putH (.cells v cs e :: L) 0 off xs = .cells v (cs.take off ++ xs ++ cs.drop (off + xs.length)) e :: L := (rfl)
@[simp] theorem put_succ (o : CO) (L : Hp) (i off : Nat) (xs : List CV) : putH (o :: L) (i + 1) off xs = o :: putH L i off xs := (rfl)
@[simp] theorem take_own (H L : Hp) : (H ++ L).take H.length = H := List.take_left' rfl

theorem dLenS_sl {P : Program} {t e : TypeId} (h : P.underlying t = some (.slice e)) (id ver off len sz : Nat) (H : Hp) : dLenS P t (.sl id ver off len sz) H = if (cellsAt H id ver).isSome = true then some (.v (.int .i64 len)) else none := by simp [dLenS, h]
theorem dLenS_im {P : Program} {t e : TypeId} (h : P.underlying t = some (.slice e)) (cs : List CV) (len sz : Nat) (H : Hp) : dLenS P t (.im cs len sz) H = some (.v (.int .i64 len)) := by simp [dLenS, dLen, h]
theorem dLenS_nil {P : Program} {t e : TypeId} (h : P.underlying t = some (.slice e)) (a b : Nat) (H : Hp) : dLenS P t (.v (.slice none a b)) H = some (.v (.int .i64 0)) := by simp [dLenS, dLen, h]
end Go.SL

/- Texts and bytes as lists; the operations on them, told to the simplifier. -/
namespace Go.SL
set_option linter.unusedVariables false

abbrev Bs := List UInt8
/-- A text. -/
def str (l : Bs) : CV := .v (.string ⟨l.toArray⟩)
def u8 (b : UInt8) : CV := .v (.int .u8 b.toNat)
def u8s (l : Bs) : List CV := l.map u8
/-- Bytes that no one writes to any more. -/
def byt (l : Bs) : CV := .im (u8s l) l.length 1
def num (n : Int) : CV := .v (.int .i64 n)
def tf (b : Bool) : CV := .v (.bool b)

theorem str_of (s : ByteArray) : CV.v (.string s) = str s.data.toList := by simp [str]
@[simp] theorem u8s_length (l : Bs) : (u8s l).length = l.length := by simp [u8s]
@[simp] theorem u8s_append (a b : Bs) : u8s (a ++ b) = u8s a ++ u8s b := by simp [u8s]
@[simp] theorem u8s_nil : u8s [] = [] := (rfl)
theorem u8s_cons (b : UInt8) (l : Bs) : u8s (b :: l) = u8 b :: u8s l := rfl
theorem u8s_take (n : Nat) (l : Bs) : (u8s l).take n = u8s (l.take n) := by simp [u8s, List.map_take]
theorem u8s_drop (n : Nat) (l : Bs) : (u8s l).drop n = u8s (l.drop n) := by simp [u8s, List.map_drop]
theorem u8s_set (n : Nat) (l : Bs) (b : UInt8) : (u8s l).set n (u8 b) = u8s (l.set n b) := by simp [u8s, List.map_set]
theorem u8s_get (n : Nat) (l : Bs) : (u8s l)[n]? = (l[n]?).map u8 := by simp [u8s]
theorem u8s_get_lt {n : Nat} {l : Bs} (h : n < l.length) : (u8s l)[n]? = some (u8 l[n]) := by simp [u8s, h]
@[simp] theorem u8s_at {n : Nat} {l : Bs} (h : n < (u8s l).length) : (u8s l)[n] = u8 (l[n]'(by simpa using h)) := by simp [u8s]
@[simp] theorem bytesC_eq (l : Bs) : bytesC ⟨l.toArray⟩ = u8s l := by simp only [bytesC, u8s]; rfl
theorem numsOf_u8s : ∀ l : Bs, numsOf (u8s l) = some (l.map fun b => (b.toNat : Int))
  | [] => rfl
  | b :: l => by simp only [u8s_cons, u8, numsOf, numsOf_u8s l, Option.map_some, List.map_cons]
theorem u8s_clB : ∀ l : Bs, (u8s l).all clB = true
  | [] => rfl
  | b :: l => by rw [u8s_cons, List.all_cons, u8s_clB l]; rfl
theorem u8s_top (m : Nat) : ∀ l : Bs, topLeL m (u8s l) = true
  | [] => rfl
  | b :: l => by rw [u8s_cons, topLeL, u8s_top m l]; rfl
theorem u8s_cons_all : ∀ (l : Bs), (u8s l).all oneB = true
  | [] => rfl
  | b :: l => by rw [u8s_cons, List.all_cons, u8s_cons_all l]; rfl

@[simp high] theorem evO_str' (fr : Fr) (l : Bs) : evO fr (.const (.string ⟨List.toArray l⟩)) = some (str l) := (rfl)
@[simp] theorem unlit_str (l : Bs) : unlit (str l) = str l := (rfl)
@[simp] theorem unlit_byt (l : Bs) : unlit (byt l) = byt l := (rfl)
@[simp] theorem unlit_u8 (b : UInt8) : unlit (u8 b) = u8 b := (rfl)
@[simp] theorem unlit_num (n : Int) : unlit (num n) = num n := (rfl)
@[simp] theorem unlit_tf (b : Bool) : unlit (tf b) = tf b := (rfl)
theorem str_inj {a b : Bs} : str a = str b ↔ a = b := by simp [str]

theorem strOf (l : Bs) : strOfNums (l.map fun b => (b.toNat : Int)) = ⟨l.toArray⟩ := by
  simp [strOfNums, Function.comp_def]

variable {P : Program} {t e : TypeId}

theorem len_str (h : P.underlying t = some .string) (l : Bs) (H : Hp) : dLenS P t (str l) H = some (.v (.int .i64 l.length)) := by simp [str, dLenS, dLen, h, ByteArray.size]
theorem len_byt (h : P.underlying t = some (.slice e)) (l : Bs) (H : Hp) : dLenS P t (byt l) H = some (.v (.int .i64 l.length)) := by simp [byt, dLenS, dLen, h]
theorem index_str (h : P.underlying t = some .string) (l : Bs) (k : IntKind) (i : Int) : dIndex P t (str l) (.v (.int k i)) = if 0 ≤ i then (l[i.toNat]?).map u8 else none := by
  simp only [str, dIndex, h]
  by_cases h0 : 0 ≤ i
  · by_cases h1 : i < l.length
    · have h2 : i.toNat < l.length := by omega
      have h3 : 0 ≤ i ∧ i < (ByteArray.size ⟨l.toArray⟩ : Int) := ⟨h0, by simpa [ByteArray.size] using h1⟩
      rw [if_pos h3, if_pos h0, List.getElem?_eq_getElem h2]
      simp [u8, ByteArray.get!, h2]
    · have h2 : l.length ≤ i.toNat := by omega
      have h3 : ¬ (0 ≤ i ∧ i < (ByteArray.size ⟨l.toArray⟩ : Int)) := by simp [ByteArray.size]; omega
      rw [if_neg h3, if_pos h0, List.getElem?_eq_none h2]; rfl
  · rw [if_neg (by omega), if_neg h0]
theorem slice_str (h : P.underlying t = some .string) (l : Bs) (lo hi : Option CV) (H : Hp) : dSlice P t (str l) lo hi H = (dBound hi l.length).bind fun h => (dBound lo 0).bind fun o => if 0 ≤ o ∧ o ≤ h ∧ h ≤ l.length then some (str ((l.take h.toNat).drop o.toNat)) else none := by
  simp only [str, dSlice, h]
  have e1 : ByteArray.size ⟨l.toArray⟩ = l.length := by simp [ByteArray.size]
  rw [e1]
  congr 1
  funext hh
  congr 1
  funext oo
  split
  · rename_i hc
    congr 2
    simp only [Value.string.injEq]
    apply ByteArray.ext
    simp [ByteArray.data_extract, List.extract_eq_take_drop]
    rw [List.drop_take]
  · rfl
theorem bin_str (op : BinOp) (a b : Bs) (H : Hp) : dBin P op t (str a) (str b) H = (binA op (.string ⟨a.toArray⟩) (.string ⟨b.toArray⟩)).map .v := rfl
theorem beq_arr (a b : Bs) : ((⟨a.toArray⟩ : ByteArray).toList == (⟨b.toArray⟩ : ByteArray).toList) = decide (a = b) := by
  rw [ByteArray.toList_mk, ByteArray.toList_mk]
  by_cases h : a = b <;> simp [h]
@[simp] theorem eql_str (a b : Bs) (H : Hp) : dBin P .eql t (str a) (str b) H = some (.v (.bool (decide (a = b)))) := by
  rw [bin_str]; simp only [binA, beq_arr]; rfl
@[simp] theorem neq_str (a b : Bs) (H : Hp) : dBin P .neq t (str a) (str b) H = some (.v (.bool (!decide (a = b)))) := by
  rw [bin_str]; simp only [binA, beq_arr]; rfl
@[simp] theorem add_str (a b : Bs) (H : Hp) : dBin P .add t (str a) (str b) H = if a.length + b.length ≤ 9223372036854775807 then some (str (a ++ b)) else none := by
  rw [bin_str]
  simp only [binA]
  have e1 : ∀ l : Bs, ByteArray.size ⟨l.toArray⟩ = l.length := fun l => by simp [ByteArray.size]
  rw [e1, e1]
  split
  · simp only [Option.map_some, str]
    congr 3
  · rfl
@[simp] theorem clB_str (l : Bs) : clB (str l) = true := (rfl)
@[simp] theorem topLe_str (m : Nat) (l : Bs) : topLe m (str l) = true := (rfl)
@[simp] theorem topLe_byt (m : Nat) (l : Bs) : topLe m (byt l) = true := (rfl)
@[simp] theorem clB_byt (l : Bs) : clB (byt l) = true := by simp only [byt, clB]
@[simp] theorem frz1_str (H : Hp) (m : Nat) (l : Bs) : frz1 H m (str l) = some (str l) := (rfl)
@[simp] theorem frz2_str (H : Hp) (m : Nat) (l : Bs) : frz2 H m (str l) = some (str l) := (rfl)
@[simp] theorem frz_str (H : Hp) (m : Nat) (l : Bs) : frz H m (str l) = some (str l) := (rfl)
@[simp] theorem frz1_byt (H : Hp) (m : Nat) (l : Bs) : frz1 H m (byt l) = some (byt l) := (rfl)
@[simp] theorem frz2_byt (H : Hp) (m : Nat) (l : Bs) : frz2 H m (byt l) = some (byt l) := (rfl)
@[simp] theorem frz_byt (H : Hp) (m : Nat) (l : Bs) : frz H m (byt l) = some (byt l) := (rfl)

/-- Loads and stores of one cell. -/
theorem load_one {d : TypeDesc} {i : TypeInfo} (h : P.underlying t = some d) (ha : aggB d = false) (hi : P.info? t = some i) (id ver off : Nat) (H : Hp) : dLoad P t (.ptr id ver off) H = (cellsAt H id ver).bind fun cs => cs[off]? := by
  simp only [dLoad, h, hi, Option.bind_some, ha, Bool.false_eq_true, if_false, atP]
  cases cellsAt H id ver with
  | none => rfl
  | some cs =>
    simp only [Option.bind_some]
    by_cases hc : off ≤ cs.length
    · rw [if_pos hc]; simp [List.head?_drop]
    · rw [if_neg hc, List.getElem?_eq_none (by omega)]; rfl
theorem load_ip {d : TypeDesc} {i : TypeInfo} (h : P.underlying t = some d) (ha : aggB d = false) (hi : P.info? t = some i) (cs : List CV) (H : Hp) : dLoad P t (.ip cs) H = cs.head? := by
  simp only [dLoad, h, hi, Option.bind_some, ha, Bool.false_eq_true, if_false, atP]
theorem store_at {i : TypeInfo} (hi : P.info? t = some i) (id ver off : Nat) (y : CV) (H : Hp) : dStore P t (.ptr id ver off) y H = (cvCells y).bind fun ys => (cellsAt H id ver).bind fun cs => if ys.length = i.size ∧ off + ys.length ≤ cs.length then some (putH H id off ys) else none := by
  simp only [dStore, hi, Option.bind_some]
@[simp] theorem cells_int (k : IntKind) (n : Int) : cvCells (.v (.int k n)) = some [.v (.int k n)] := (rfl)
@[simp] theorem cells_bool (b : Bool) : cvCells (.v (.bool b)) = some [.v (.bool b)] := (rfl)
@[simp] theorem cells_u8 (b : UInt8) : cvCells (u8 b) = some [u8 b] := (rfl)
@[simp] theorem cells_str (l : Bs) : cvCells (str l) = some [str l] := (rfl)
@[simp] theorem cells_byt (l : Bs) : cvCells (byt l) = some [byt l] := (rfl)
theorem addr_sl {i : TypeInfo} (h : P.underlying t = some (.slice e)) (hi : P.info? e = some i) (id ver off len sz : Nat) (k : IntKind) (n : Int) (H : Hp) : dIndexAddr P t (.sl id ver off len sz) (.v (.int k n)) H = if 0 ≤ n ∧ n < len ∧ sz = i.size ∧ (cellsAt H id ver).isSome = true then some (.ptr id ver (off + n.toNat * sz)) else none := by
  simp only [dIndexAddr, h, hi, Option.bind_some]
theorem addr_byt {i : TypeInfo} (h : P.underlying t = some (.slice e)) (hi : P.info? e = some i) (hz : i.size = 1) (l : Bs) (k : IntKind) (n : Int) (H : Hp) : dIndexAddr P t (byt l) (.v (.int k n)) H = if 0 ≤ n ∧ n < l.length then some (.ip (u8s (l.drop n.toNat))) else none := by
  simp only [dIndexAddr, h, hi, Option.bind_some, byt, hz, and_true, Nat.mul_one, u8s_drop]
theorem slice_byt {i : TypeInfo} (h : P.underlying t = some (.slice e)) (hi : P.info? e = some i) (hz : i.size = 1) (l : Bs) (lo hh : Option CV) (H : Hp) : dSlice P t (byt l) lo hh H = (dBound hh l.length).bind fun h => (dBound lo 0).bind fun o => if 0 ≤ o ∧ o ≤ h ∧ h ≤ l.length then some (byt ((l.take h.toNat).drop o.toNat)) else none := by
  simp only [dSlice, h, hi, Option.bind_some, byt, hz, and_true, Nat.mul_one]
  congr 1
  funext a
  congr 1
  funext b
  split
  · rename_i hc
    congr 1
    rw [u8s_drop, u8s_take, List.drop_take]
    congr 1
    · congr 2; omega
    · simp; omega
  · rfl
@[simp] theorem bound_none (d : Nat) : dBound none d = some (d : Int) := (rfl)
@[simp] theorem bound_some (k : IntKind) (n : Int) (d : Nat) : dBound (some (.v (.int k n))) d = some n := (rfl)
@[simp] theorem evM_none (fr : Fr) : evM fr none = some none := (rfl)
@[simp] theorem evM_some (fr : Fr) (o : Operand) : evM fr (some o) = (evO fr o).map some := (rfl)
/-- Bytes of a text, to be written to. -/
theorem cvt_s2b {s d : TypeId} (h1 : P.underlying s = some .string) (h2 : P.underlying d = some (.slice e)) (h3 : P.underlying e = some (.int .u8)) (l : Bs) (H : Hp) :
    cvt P true s d (str l) H = some (.sl H.length 0 0 l.length 1, H ++ [.cells 0 (u8s l) e]) := by
  have e1 : ByteArray.size ⟨l.toArray⟩ = l.length := by simp [ByteArray.size]
  simp only [cvt, dConv, dB2B, dS2B, h1, h2, h3, isU8, str, if_true, bytesC_eq, e1]
theorem cvt_s2b' {s d : TypeId} (h1 : P.underlying s = some .string) (h2 : P.underlying d = some (.slice e)) (h3 : P.underlying e = some (.int .u8)) (l : Bs) (H : Hp) :
    cvt P false s d (str l) H = some (byt l, H) := by
  have e1 : ByteArray.size ⟨l.toArray⟩ = l.length := by simp [ByteArray.size]
  simp only [cvt, dConv, dB2B, dS2B, h1, h2, h3, isU8, str, if_true, Bool.false_eq_true, if_false, bytesC_eq, e1, byt]
theorem cvt_b2s {s d : TypeId} (mu : Bool) (h1 : P.underlying s = some (.slice e)) (h2 : P.underlying d = some .string) (h3 : P.underlying e = some (.int .u8)) (id ver off : Nat) (l : Bs) (len : Nat) (H : Hp) (h : atS H (.sl id ver off len 1) = some (u8s l, len)) (hl : l.length = len) :
    cvt P mu s d (.sl id ver off len 1) H = some (str l, H) := by
  simp only [cvt, dConv, h1, h2, h3, isU8, if_true, h, Option.bind_some, numsOf_u8s, u8s_length, hl, if_true, strOf, str]
theorem cvt_byt {s d : TypeId} (mu : Bool) (h1 : P.underlying s = some (.slice e)) (h2 : P.underlying d = some .string) (h3 : P.underlying e = some (.int .u8)) (l : Bs) (H : Hp) :
    cvt P mu s d (byt l) H = some (str l, H) := by
  have : atS H (byt l) = some (u8s l, l.length) := by simp [atS, byt]
  simp only [cvt, dConv, h1, h2, h3, isU8, if_true, this, Option.bind_some, numsOf_u8s, u8s_length, if_true, strOf, str]
@[simp] theorem fold_str (l : Bs) : CV.v (.string ⟨List.toArray l⟩) = str l := (rfl)
attribute [simp] u8 numsOf_u8s strOf
theorem u8_fold (b : UInt8) : [CV.v (.int .u8 b.toNat)] = u8s [b] := rfl
@[simp] theorem lit_fold (b : UInt8) : CV.lit [CV.v (.int .u8 b.toNat)] 1 1 = CV.lit (u8s [b]) 1 1 := (rfl)
theorem cvt_sl {s d : TypeId} (mu : Bool) (h1 : P.underlying s = some (.slice e)) (h2 : P.underlying d = some .string) (h3 : P.underlying e = some (.int .u8)) (id ver off len sz : Nat) (H : Hp) :
    cvt P mu s d (.sl id ver off len sz) H = (cellsAt H id ver).bind fun cs => if off + len * sz ≤ cs.length ∧ len * sz = len then (numsOf ((cs.drop off).take (len * sz))).map fun ns => (.v (.string (strOfNums ns)), H) else none := by
  simp only [cvt, dConv, h1, h2, h3, isU8, if_true, atS, dB2B, dS2B]
  cases cellsAt H id ver with
  | none => rfl
  | some cs =>
    simp only [Option.bind_some]
    by_cases hc : off + len * sz ≤ cs.length
    · rw [if_pos hc]
      simp only [Option.bind_some]
      have hl : ((cs.drop off).take (len * sz)).length = len * sz := by simp; omega
      cases hn : numsOf ((cs.drop off).take (len * sz)) with
      | none => simp
      | some ns =>
        simp only [Option.bind_some, hl, hc, true_and, Option.map_some]
        by_cases hz : len * sz = len <;> simp [hz]
    · rw [if_neg hc, if_neg (by omega)]; rfl
theorem cvt_sl' {s d : TypeId} (mu : Bool) (h1 : P.underlying s = some (.slice e)) (h2 : P.underlying d = some .string) (h3 : P.underlying e = some (.int .u8)) {id ver off len : Nat} {H : Hp} {L : Bs} (h : cellsAt H id ver = some (u8s L)) (hl : off + len ≤ L.length) :
    cvt P mu s d (.sl id ver off len 1) H = some (str ((L.drop off).take len), H) := by
  rw [cvt_sl mu h1 h2 h3, h]
  simp only [Option.bind_some, Nat.mul_one, u8s_length, hl, true_and, if_true, u8s_drop, u8s_take, numsOf_u8s, Option.map_some, strOf, fold_str]
@[simp] theorem stQ_own (H : Hp) (i ver off : Nat) (y : CV) : stQ H.length (.ptr (H.length + i) ver off) y = true := by simp [stQ]
@[simp] theorem stQ_own0 (H : Hp) (ver off : Nat) (y : CV) : stQ H.length (.ptr H.length ver off) y = true := by simp [stQ]
@[simp] theorem apQ_own (H : Hp) (i ver off len sz : Nat) (y : CV) : apQ H.length (.sl (H.length + i) ver off len sz) y = true := by simp [apQ]
@[simp] theorem apQ_own0 (H : Hp) (ver off len sz : Nat) (y : CV) : apQ H.length (.sl H.length ver off len sz) y = true := by simp [apQ]
@[simp] theorem apQ_nil (m a b : Nat) (y : CV) : apQ m (.v (.slice none a b)) y = true := (rfl)
@[simp] theorem muQ_own (H : Hp) (i ver : Nat) (y : CV) : muQ H.length (.mp (H.length + i) ver) y = true := by simp [muQ]
@[simp] theorem muQ_own0 (H : Hp) (ver : Nat) (y : CV) : muQ H.length (.mp H.length ver) y = true := by simp [muQ]
attribute [simp] u8s_take u8s_drop
@[simp] theorem u8s_inj {a b : Bs} : u8s a = u8s b ↔ a = b := by
  constructor
  · intro h
    refine List.map_inj_right (f := u8) ?_ |>.1 h
    intro x y hxy
    simp only [u8, CV.v.injEq, Value.int.injEq, true_and] at hxy
    exact UInt8.toNat_inj.1 (by exact_mod_cast hxy)
  · rintro rfl; rfl
/-- Numbers. -/
@[simp] theorem wrap64 {n : Int} (h : -9223372036854775808 ≤ n ∧ n ≤ 9223372036854775807) : IntKind.i64.wrap n = n := IntWalk.i64_in n h
theorem wrap8 {n : Int} (h : 0 ≤ n ∧ n ≤ 255) : IntKind.u8.wrap n = n := IntWalk.u8_in n h
end Go.SL

/- What a range over a function comes to, and a round of it. -/
namespace Go.SL
set_option linter.unusedVariables false

/-- The loop's end: its record, its pending jump. -/
def afterR (id : Nat) (HH : Hp) : Option (Ex × Hp) :=
  match HH[id]? with
  | some (.loop 0 fn1 ts1 ps1 a1 b1 st pe) => match st with
    | .busy => none
    | _ => (jumpEx pe).map fun e => (e, HH.set id (.loop 0 fn1 ts1 ps1 a1 b1 .exhausted pe))
  | _ => none

theorem W_range (x : Cx) (f : Operand) (ps : Array Tmp) (a b : Code) (fr : Fr) (H : Hp) (Q : Ex → Fr → Hp → Prop) {g : FuncId} {cs : List CV} (hr : x.cfg.inR = false) (hf : evO fr f = some (.fn (.func g) [] cs)) (hb : ((x.P.funcs[g]?).bind (·.body)).isSome = true) :
    W x (.rangeFunc f ps a b) fr H Q ↔ WC x.P x.cs x.m (.f g) (.yl H.length 0 :: cs) (H ++ [.loop 0 x.cfg.fn ((List.range x.n).map fr) ps a b .ready none]) fun _ HH => WX (afterR H.length HH) fun r => Q r.1 fr r.2 := by
  have key : ∀ k, ev x.P x.cfg (evCall x.P x.cs k) x.m x.n (k + 1) (.rangeFunc f ps a b) fr H =
      (evCall x.P x.cs k x.m (.f g) (.yl H.length 0 :: cs) (H ++ [.loop 0 x.cfg.fn ((List.range x.n).map fr) ps a b .ready none])).bind fun r => (afterR H.length r.2).map fun q => (q.1, fr, q.2) := by
    intro k
    simp only [ev, hr, hf, hb, Option.bind_some, if_true, Bool.false_eq_true, if_false]
    congr 1
    funext r
    unfold afterR
    split
    · rename_i fn1 ts1 ps1 a1 b1 st pe heq
      rw [heq]
      cases st <;> simp only [Option.map_map, Option.map_none] <;> rfl
    · rename_i hno
      split
      · rename_i heq; exact absurd heq (hno _ _ _ _ _ _ _)
      · rfl
  constructor
  · rintro ⟨k, r, h, hq⟩
    have h' := ev_mono (evCall_mono (Nat.le_refl k)) x.m x.n (Nat.le_succ k) _ fr H _ h
    rw [key] at h'
    obtain ⟨y, h1, h2⟩ := Option.bind_eq_some_iff.1 h'
    obtain ⟨q, h3, h4⟩ := Option.map_eq_some_iff.1 h2
    subst h4
    exact ⟨k, y, h1, q, h3, hq⟩
  · rintro ⟨k, y, h1, q, h3, hq⟩
    refine ⟨k + 1, (q.1, fr, q.2), ?_, hq⟩
    have h' : ev x.P x.cfg (evCall x.P x.cs k) x.m x.n (k + 1) (.rangeFunc f ps a b) fr H = some (q.1, fr, q.2) := by
      rw [key, h1]
      simp only [Option.bind_some, h3, Option.map_some]
    exact ev_mono (evCall_mono (Nat.le_succ k)) x.m x.n (Nat.le_refl _) _ fr H _ h'

/-- The record, busy. -/
def busyR (id ver : Nat) (H : Hp) : Option Hp :=
  match H[id]? with
  | some (.loop v1 fn1 ts1 ps1 a1 b1 .ready none) => if v1 = ver then some (H.set id (.loop v1 fn1 ts1 ps1 a1 b1 .busy none)) else none
  | _ => none
/-- The record behind a round. -/
def doneR (id ver : Nat) (e : Ex) (H : Hp) : Option Hp :=
  match H[id]? with
  | some (.loop v2 fn2 ts2 ps2 a2 b2 _ _) => if v2 = ver then some (H.set id (.loop v2 fn2 ts2 ps2 a2 b2 (if e.jump.isNone then .ready else .done) e.jump)) else none
  | _ => none

theorem WC_round {P : Program} {cs : Cfgs} {m id ver : Nat} {args : List CV} {H : Hp} {K : CV → Hp → Prop} {fn : FuncId} {ts : List CV} {ps : Array Tmp} {a b : Code} (h0 : H[id]? = some (.loop ver fn ts ps a b .ready none)) (ha : args.length = ps.size) :
    WC P cs m (.y id ver) args H K ↔ W ⟨P, cs, { cs.of fn with inR := true }, m, ts.length⟩ a (roundFr ts ps args) H fun e fr1 H1 => e = .norm ∧ WX (busyR id ver H1) fun H1' =>
      W ⟨P, cs, { cs.of fn with inR := true }, m, ts.length⟩ b fr1 H1' fun e2 _ H3 => WX (doneR id ver e2 H3) fun H4 => K (.v (.bool e2.jump.isNone)) H4 := by
  have key : ∀ k, evCall P cs (k + 1) m (.y id ver) args H = (ev P { cs.of fn with inR := true } (evCall P cs k) m ts.length k a (roundFr ts ps args) H).bind fun r => match r.1 with
      | .norm => (busyR id ver r.2.2).bind fun H1' => (ev P { cs.of fn with inR := true } (evCall P cs k) m ts.length k b r.2.1 H1').bind fun q => (doneR id ver q.1 q.2.2).map fun H4 => (.v (.bool q.1.jump.isNone), H4)
      | _ => none := by
    intro k
    simp only [evCall, evRound, h0, ha, and_self, if_true]
    congr 1
    funext r
    obtain ⟨e, fr1, H1⟩ := r
    cases e with
    | norm =>
      simp only [busyR]
      split
      · rename_i heq
        rw [heq]
        simp only []
        split
        · simp only [Option.bind_some]
          congr 1
          funext q
          simp only [doneR]
          split
          · rename_i heq2
            rw [heq2]
            simp only []
            split <;> rfl
          · rename_i hno2
            split
            · rename_i heq2; exact absurd heq2 (hno2 _ _ _ _ _ _ _ _)
            · rfl
        · rfl
      · rename_i hno
        split
        · rename_i heq; exact absurd heq (hno _ _ _ _ _ _ rfl)
        · rfl
    | _ => rfl
  constructor
  · rintro ⟨k, r, h, hk⟩
    cases k with
    | zero => cases h
    | succ k =>
      rw [key] at h
      obtain ⟨⟨e, fr1, H1⟩, h1, h⟩ := Option.bind_eq_some_iff.1 h
      refine ⟨k, _, h1, ?_⟩
      cases e with
      | norm =>
        obtain ⟨H1', h2, h⟩ := Option.bind_eq_some_iff.1 h
        obtain ⟨q, h3, h⟩ := Option.bind_eq_some_iff.1 h
        obtain ⟨H4, h4, h⟩ := Option.map_eq_some_iff.1 h
        subst h
        exact ⟨rfl, H1', h2, k, q, h3, H4, h4, hk⟩
      | _ => cases h
  · rintro ⟨k, ⟨e, fr1, H1⟩, h1, he, H1', h2, k2, q, h3, H4, h4, hk⟩
    simp only at he h2 h3 h4
    subst he
    refine ⟨max k k2 + 1, (.v (.bool q.1.jump.isNone), H4), ?_, hk⟩
    rw [key, ev_mono (evCall_mono (Nat.le_max_left k k2)) _ _ (Nat.le_max_left k k2) _ _ _ _ h1]
    simp only [Option.bind_some, h2]
    rw [ev_mono (evCall_mono (Nat.le_max_right k k2)) _ _ (Nat.le_max_right k k2) _ _ _ _ h3]
    simp only [Option.bind_some, h4, Option.map_some]

end Go.SL

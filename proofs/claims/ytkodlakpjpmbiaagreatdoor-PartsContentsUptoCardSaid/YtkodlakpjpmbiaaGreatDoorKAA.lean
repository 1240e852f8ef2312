/- Abstract values and objects for the deterministic evaluator of the program's code, and how they stand to the model's values and worlds. -/
import Derived.Calls
import Derived.Tactics
import Derived.Laws.CopyRow
import Derived.Laws.Append
import Derived.RowKit3
import Derived.Laws.AppendOwn
import Derived.Laws.Strings
import Derived.Laws.Small
import Derived.Laws.Cover3
import Derived.WalkSpells
import Derived.Deep.AppendSrc
import Derived.Lib.ConvBytes
import Derived.Laws.BytesArg
import Derived.Laws.IdiomCopy
import Derived.Lib.Builder

set_option linter.all false

namespace Go.SL

/-- Abstract values: `v` holds a value without addresses; `ptr`, `sl`, `mp` refer to an object by number and version; `im`, `ip` are a slice of, a pointer to, cells that no one writes any more. -/
inductive CV where
  | v (x : Value)
  | ptr (id ver off : Nat)
  | sl (id ver off len sz : Nat)
  | im (cs : List CV) (len sz : Nat)
  | ip (cs : List CV)
  | lit (cs : List CV) (len sz : Nat)
  | mp (id ver : Nat)
  | yl (id ver : Nat)
  | fn (f : Fn) (first cap : List CV)
  | ifc (t : TypeId) (x : CV)
  | agg (cs : List CV)
  | tup (cs : List CV)
  deriving Inhabited

/-- Abstract objects. -/
inductive CO where
  | cells (ver : Nat) (cs : List CV) (elem : TypeId)
  | map (ver : Nat) (es : List (CV × CV)) (clock : Nat)
  | loop (ver : Nat) (fn : FuncId) (tmps : List CV) (ps : Array Tmp) (assign body : Code) (st : LoopState) (pend : Option Code)
  | gone (ver : Nat)
  deriving Inhabited

abbrev Hp := List CO

def CO.ver : CO → Nat
  | .cells v .. | .map v .. | .loop v .. | .gone v => v
def CO.live : CO → Bool
  | .gone _ => false
  | _ => true

/-- Where an object lies. -/
structure Loc where
  b : Nat
  s : Nat
  ver : Nat
  n : Nat

/-- The places of the objects, and the cells that no one writes any more. -/
structure Gh where
  locs : List Loc
  im : Nat → Nat → Option Value
  own : Nat → Prop

/-- Is a block an object's, or one that was closed? -/
def Mine (g : Gh) (H : Hp) (b : Nat) : Prop := g.own b ∨ ∃ (id : Nat) (o : CO) (l : Loc), H[id]? = some o ∧ o.live = true ∧ g.locs[id]? = some l ∧ l.b = b

/-- A value of one cell without addresses. -/
def atomV : Value → Bool
  | .bool _ | .int .. | .float .. | .complex .. | .string _ | .pointer none | .map none | .chan none | .nilFunc | .nilIface => true
  | .slice none l c => l == 0 && c == 0
  | .func (.func _) a b => a.isEmpty && b.isEmpty
  | _ => false

/-- How closed abstract values stand to the model's. -/
inductive VC (im : Nat → Nat → Option Value) : CV → Value → Prop
  | v {x : Value} (h : atomV x = true) : VC im (.v x) x
  | undef : VC im (.tup []) (.tuple #[])
  | im {cs : List CV} {len sz b o cap : Nat} {a : Addr} {f : Nat → Value} (hl : cs.length = len * sz) (hcap : len ≤ cap) (ha : 0 < len → a = ⟨b, o, none⟩) (hf : ∀ i, i < cs.length → im b (o + i) = some (f i))
      (h : ∀ i (hi : i < cs.length), VC im cs[i] (f i)) : VC im (.im cs len sz) (.slice (some a) len cap)
  | ip {cs : List CV} {b o : Nat} {f : Nat → Value} (hf : ∀ i, i < cs.length → im b (o + i) = some (f i)) (h : ∀ i (hi : i < cs.length), VC im cs[i] (f i)) :
      VC im (.ip cs) (.pointer (some ⟨b, o, none⟩))
  | agg {cs : List CV} {vs : Array Value} (hl : cs.length = vs.size) (h : ∀ i (hi : i < cs.length) (hi' : i < vs.size), VC im cs[i] vs[i]) : VC im (.agg cs) (.agg vs)
  | tup {cs : List CV} {vs : Array Value} (hl : cs.length = vs.size) (h : ∀ i (hi : i < cs.length) (hi' : i < vs.size), VC im cs[i] vs[i]) : VC im (.tup cs) (.tuple vs)
  | ifc {t : TypeId} {x : CV} {v : Value} (h : VC im x v) : VC im (.ifc t x) (.iface t v)

/-- How abstract values stand to the model's. -/
inductive VR (g : Gh) : CV → Value → Prop
  | cl {x : CV} {v : Value} (h : VC g.im x v) : VR g x v
  | ptr {id ver off : Nat} {l : Loc} (h : g.locs[id]? = some l) (hv : ver = l.ver) : VR g (.ptr id ver off) (.pointer (some ⟨l.b, l.s + off, none⟩))
  | sptr {id ver off : Nat} {l : Loc} {v : Value} (h : g.locs[id]? = some l) (hv : ver < l.ver) (h1 : v.oneCell' = true) : VR g (.ptr id ver off) v
  | sl {id ver off len sz o cap : Nat} {l : Loc} (h : g.locs[id]? = some l) (hv : ver = l.ver) (hcap : len ≤ cap) (ho : 0 < len → o = l.s + off) (hg : cap = len ∨ o + cap * sz ≤ l.n) :
      VR g (.sl id ver off len sz) (.slice (some ⟨l.b, o, none⟩) len cap)
  | ssl {id ver off len sz : Nat} {l : Loc} {v : Value} (h : g.locs[id]? = some l) (hv : ver < l.ver) (h1 : v.oneCell' = true) : VR g (.sl id ver off len sz) v
  | lit {cs : List CV} {len sz b o cap : Nat} {f : Nat → Value} (ho : g.own b) (hl : cs.length = len * sz) (hcap : len ≤ cap) (hf : ∀ i, i < cs.length → g.im b (o + i) = some (f i))
      (h : ∀ i (hi : i < cs.length), VC g.im cs[i] (f i)) : VR g (.lit cs len sz) (.slice (some ⟨b, o, none⟩) len cap)
  | mp {id ver : Nat} {l : Loc} (h : g.locs[id]? = some l) (hv : ver = l.ver) : VR g (.mp id ver) (.map (some l.b))
  | yl {id ver : Nat} {l : Loc} (h : g.locs[id]? = some l) (hv : ver = l.ver) : VR g (.yl id ver) (.func (.yield l.b) #[] #[])
  | syl {id ver : Nat} {l : Loc} {v : Value} (h : g.locs[id]? = some l) (hv : ver < l.ver) (h1 : v.oneCell' = true) : VR g (.yl id ver) v
  | smp {id ver : Nat} {l : Loc} {v : Value} (h : g.locs[id]? = some l) (hv : ver < l.ver) (h1 : v.oneCell' = true) : VR g (.mp id ver) v
  | fn {f : Fn} {fs cs : List CV} {fs' cs' : Array Value} (hl : fs.length = fs'.size) (hl2 : cs.length = cs'.size) (h : ∀ i (hi : i < fs.length) (hi' : i < fs'.size), VR g fs[i] fs'[i])
      (h2 : ∀ i (hi : i < cs.length) (hi' : i < cs'.size), VR g cs[i] cs'[i]) (hy : ∀ l, f ≠ .yield l) : VR g (.fn f fs cs) (.func f fs' cs')
  | ifc {t : TypeId} {x : CV} {v : Value} (h : VR g x v) : VR g (.ifc t x) (.iface t v)
  | agg {cs : List CV} {vs : Array Value} (hl : cs.length = vs.size) (h : ∀ i (hi : i < cs.length) (hi' : i < vs.size), VR g cs[i] vs[i]) : VR g (.agg cs) (.agg vs)
  | tup {cs : List CV} {vs : Array Value} (hl : cs.length = vs.size) (h : ∀ i (hi : i < cs.length) (hi' : i < vs.size), VR g cs[i] vs[i]) : VR g (.tup cs) (.tuple vs)

/-- How an abstract object stands to the model's at its place. -/
def OR (g : Gh) (o : CO) (l : Loc) (w : World) : Prop :=
  match o with
  | .cells ver cs e => l.ver = ver ∧ ∃ c fr, w.heap[l.b]? = some (.cells c e fr) ∧ c.size = l.n ∧ l.s + cs.length ≤ c.size ∧
      (∀ i (hi : i < cs.length), ∃ v, c[l.s + i]? = some v ∧ v.oneCell' = true ∧ VR g cs[i] v) ∧ (∀ o, o < c.size → w.frozen? ⟨l.b, o, none⟩ = false)
  | .map ver es k => l.ver = ver ∧ ∃ es', w.heap[l.b]? = some (.map es' k) ∧ es'.size = es.length ∧
      ∀ i (hi : i < es.length) (hi' : i < es'.size), VC g.im es[i].1 es'[i].key ∧ VR g es[i].2 es'[i].val
  | .loop ver fn ts ps assign body st pend => l.ver = ver ∧ ∃ r, w.heap[l.b]? = some (.loop r) ∧ (∀ i, VR g (ts.getD i (.tup [])) (r.tmps.getD i undef)) ∧ r.tmps.size = ts.length ∧ r.params = ps ∧ r.assign = assign ∧ r.body = body ∧ r.state = st ∧ r.pending = pend
  | .gone ver => l.ver = ver

/-- Cells that hold these values, in all worlds that are spoken of. -/
class BaseC where
  im : Nat → Nat → Option Value
  blk : Nat → Option (Array Value) := fun _ => none
  blk_im : ∀ b c, blk b = some c → ∃ o v, im b o = some v := by intro b c h; cases h
variable [BaseC]

/-- How abstract objects stand to a world. -/
structure WR (g : Gh) (H : Hp) (w : World) : Prop where
  len : g.locs.length = H.length
  obj : ∀ (id : Nat) (o : CO) (l : Loc), H[id]? = some o → g.locs[id]? = some l → OR g o l w
  inj : ∀ (i j : Nat) (oi oj : CO) (li lj : Loc), H[i]? = some oi → H[j]? = some oj → oi.live = true → oj.live = true → g.locs[i]? = some li → g.locs[j]? = some lj → li.b = lj.b → i = j
  im : ∀ b o v, g.im b o = some v → w.cell? ⟨b, o, none⟩ = some v ∧ v.oneCell' = true
  dis : ∀ (id : Nat) (o : CO) (l : Loc), H[id]? = some o → o.live = true → g.locs[id]? = some l → ∀ off, g.im l.b off = none
  own : ∀ b, g.own b → b < w.heap.size ∧ ∀ (id : Nat) (o : CO) (l : Loc), H[id]? = some o → o.live = true → g.locs[id]? = some l → l.b ≠ b
  base : ∀ b o v, BaseC.im b o = some v → g.im b o = some v
  org : ∀ (id : Nat) (cs : List CV) (e : TypeId) (l : Loc), H[id]? = some (.cells 0 cs e) → g.locs[id]? = some l → l.s = 0
  blk : ∀ b c, BaseC.blk b = some c → ∃ e fr, w.heap[b]? = some (.cells c e fr)

/-- The blocks that all worlds hold are no object's. -/
theorem WR.ne_base {g : Gh} {H : Hp} {w : World} (h : WR g H w) {id : Nat} {o : CO} {l : Loc} (ho : H[id]? = some o) (hlv : o.live = true) (hl : g.locs[id]? = some l) {b : Nat} {c : Array Value} (hb : BaseC.blk b = some c) : b ≠ l.b := by
  obtain ⟨q, v, hv⟩ := BaseC.blk_im b c hb
  have h1 := h.base _ _ _ hv
  rintro rfl
  rw [h.dis id o l ho hlv hl q] at h1
  cases h1

/-- What may become of the world: what is no object's stays; places change with their version alone. -/
structure Evo (g : Gh) (H : Hp) (w : World) (g2 : Gh) (H2 : Hp) (w2 : World) : Prop where
  os : w2.os = w.os
  tape : w2.tape = w.tape
  output : w2.output = w.output
  size : w.heap.size ≤ w2.heap.size
  keep : ∀ b, b < w.heap.size → ¬ Mine g H b → w2.heap[b]? = w.heap[b]?
  grow : ∀ b, Mine g2 H2 b → w.heap.size ≤ b ∨ Mine g H b
  im : ∀ b o v, g.im b o = some v → g2.im b o = some v
  locs : ∀ (id : Nat) (l : Loc), g.locs[id]? = some l → ∃ l2, g2.locs[id]? = some l2 ∧ (l.ver < l2.ver ∨ l2 = l)
  ownm : ∀ b, g.own b → g2.own b

theorem VC.mono {im im2 : Nat → Nat → Option Value} (h : ∀ b o v, im b o = some v → im2 b o = some v) {x : CV} {v : Value} (hx : VC im x v) : VC im2 x v := by
  induction hx with
  | v h => exact .v h
  | undef => exact .undef
  | im hl hcap ha hf _ ih => exact .im hl hcap ha (fun i hi => h _ _ _ (hf i hi)) ih
  | ip hf _ ih => exact .ip (fun i hi => h _ _ _ (hf i hi)) ih
  | agg hl _ ih => exact .agg hl ih
  | tup hl _ ih => exact .tup hl ih
  | ifc _ ih => exact .ifc ih

theorem VC.one {im : Nat → Nat → Option Value} {x : CV} {v : Value} (h : VC im x v) : (∀ cs, x ≠ .agg cs) → (∀ cs, x ≠ .tup cs) → v.oneCell' = true := by
  intro ha ht
  cases h with
  | v h => unfold atomV at h; unfold Value.oneCell'; split <;> simp_all
  | undef => exact absurd rfl (ht _)
  | agg => exact absurd rfl (ha _)
  | tup => exact absurd rfl (ht _)
  | _ => rfl

theorem VR.mono {g g2 : Gh} (him : ∀ b o v, g.im b o = some v → g2.im b o = some v)
    (hl : ∀ (id : Nat) (l : Loc), g.locs[id]? = some l → ∃ l2, g2.locs[id]? = some l2 ∧ (l.ver < l2.ver ∨ l2 = l)) (hown : ∀ b, g.own b → g2.own b) {x : CV} {v : Value} (hx : VR g x v) : VR g2 x v := by
  induction hx with
  | cl h => exact .cl (h.mono him)
  | ptr h hv =>
    obtain ⟨l2, h2, h3⟩ := hl _ _ h
    rcases h3 with h3 | rfl
    · exact .sptr h2 (by omega) rfl
    · exact .ptr h2 hv
  | sptr h hv h1 =>
    obtain ⟨l2, h2, h3⟩ := hl _ _ h
    exact .sptr h2 (by rcases h3 with h3 | rfl <;> omega) h1
  | sl h hv hcap ho hg =>
    obtain ⟨l2, h2, h3⟩ := hl _ _ h
    rcases h3 with h3 | rfl
    · exact .ssl h2 (by omega) rfl
    · exact .sl h2 hv hcap ho hg
  | ssl h hv h1 =>
    obtain ⟨l2, h2, h3⟩ := hl _ _ h
    exact .ssl h2 (by rcases h3 with h3 | rfl <;> omega) h1
  | lit ho hl hcap hf hh => exact .lit (hown _ ho) hl hcap (fun i hi => him _ _ _ (hf i hi)) (fun i hi => (hh i hi).mono him)
  | yl h hv =>
    obtain ⟨l2, h2, h3⟩ := hl _ _ h
    rcases h3 with h3 | rfl
    · exact .syl h2 (by omega) rfl
    · exact .yl h2 hv
  | syl h hv h1 =>
    obtain ⟨l2, h2, h3⟩ := hl _ _ h
    exact .syl h2 (by rcases h3 with h3 | rfl <;> omega) h1
  | mp h hv =>
    obtain ⟨l2, h2, h3⟩ := hl _ _ h
    rcases h3 with h3 | rfl
    · exact .smp h2 (by omega) rfl
    · exact .mp h2 hv
  | smp h hv h1 =>
    obtain ⟨l2, h2, h3⟩ := hl _ _ h
    exact .smp h2 (by rcases h3 with h3 | rfl <;> omega) h1
  | fn hl hl2 _ _ hy ih ih2 => exact .fn hl hl2 ih ih2 hy
  | ifc _ ih => exact .ifc ih
  | agg hl _ ih => exact .agg hl ih
  | tup hl _ ih => exact .tup hl ih

theorem Evo.vr {g g2 : Gh} {H H2 : Hp} {w w2 : World} (h : Evo g H w g2 H2 w2) {x : CV} {v : Value} (hx : VR g x v) : VR g2 x v := hx.mono h.im h.locs h.ownm

end Go.SL

/- How worlds may go on: new objects, new closed cells, stores. -/
namespace Go.SL
variable [BaseC]

theorem OR.congr {g : Gh} {o : CO} {l : Loc} {w w2 : World} (hb : w2.heap[l.b]? = w.heap[l.b]?) (h : OR g o l w) : OR g o l w2 := by
  unfold OR at *
  cases o with
  | cells ver cs e =>
    obtain ⟨h1, c, fr, h2, h3, h4, h5, h6⟩ := h
    refine ⟨h1, c, fr, hb.trans h2, h3, h4, h5, fun o ho => ?_⟩
    have := h6 o ho
    simp only [World.frozen?, hb] at this ⊢
    exact this
  | map ver es k =>
    obtain ⟨h1, es', h2, h3⟩ := h
    exact ⟨h1, es', hb.trans h2, h3⟩
  | loop ver fn ts ps a b st pe =>
    obtain ⟨h1, r, h2, h3⟩ := h
    exact ⟨h1, r, hb.trans h2, h3⟩
  | gone ver => exact h

theorem OR.mono {g g2 : Gh} {o : CO} {l : Loc} {w : World} (him : ∀ b o v, g.im b o = some v → g2.im b o = some v)
    (hl : ∀ (id : Nat) (l : Loc), g.locs[id]? = some l → ∃ l2, g2.locs[id]? = some l2 ∧ (l.ver < l2.ver ∨ l2 = l)) (hown : ∀ b, g.own b → g2.own b) (h : OR g o l w) : OR g2 o l w := by
  unfold OR at *
  cases o with
  | cells ver cs e =>
    obtain ⟨h1, c, fr, h2, h3, h4, h5, h6⟩ := h
    exact ⟨h1, c, fr, h2, h3, h4, fun i hi => let ⟨v, a, b, d⟩ := h5 i hi; ⟨v, a, b, d.mono him hl hown⟩, h6⟩
  | map ver es k =>
    obtain ⟨h1, es', h2, h3, h4⟩ := h
    exact ⟨h1, es', h2, h3, fun i hi hi' => ⟨(h4 i hi hi').1.mono him, (h4 i hi hi').2.mono him hl hown⟩⟩
  | loop ver fn ts ps a b st pe =>
    obtain ⟨h1, r, h2, h3, h4⟩ := h
    exact ⟨h1, r, h2, fun i => (h3 i).mono him hl hown, h4⟩
  | gone ver => exact h

theorem OR.lt {g : Gh} {o : CO} {l : Loc} {w : World} (ho : o.live = true) (h : OR g o l w) : l.b < w.heap.size := by
  unfold OR at h
  cases o with
  | cells ver cs e => obtain ⟨_, c, fr, h2, _⟩ := h; exact (Array.getElem?_eq_some_iff.1 h2).1
  | map ver es k => obtain ⟨_, es', h2, _⟩ := h; exact (Array.getElem?_eq_some_iff.1 h2).1
  | loop ver fn ts ps a b st pe => obtain ⟨_, r, h2, _⟩ := h; exact (Array.getElem?_eq_some_iff.1 h2).1
  | gone ver => cases ho

theorem locs_refl (g : Gh) : ∀ (id : Nat) (l : Loc), g.locs[id]? = some l → ∃ l2, g.locs[id]? = some l2 ∧ (l.ver < l2.ver ∨ l2 = l) := fun _ l h => ⟨l, h, .inr rfl⟩

theorem Evo.refl (g : Gh) (H : Hp) (w : World) : Evo g H w g H w := ⟨rfl, rfl, rfl, Nat.le_refl _, fun _ _ _ => rfl, fun _ h => .inr h, fun _ _ _ h => h, locs_refl g, fun _ h => h⟩

theorem Evo.trans {g g1 g2 : Gh} {H H1 H2 : Hp} {w w1 w2 : World} (a : Evo g H w g1 H1 w1) (b : Evo g1 H1 w1 g2 H2 w2) : Evo g H w g2 H2 w2 := by
  refine ⟨b.os.trans a.os, b.tape.trans a.tape, b.output.trans a.output, Nat.le_trans a.size b.size, fun k hk hm => ?_, fun k hm => ?_, fun k o v h => b.im _ _ _ (a.im _ _ _ h), fun id l h => ?_, fun k h => b.ownm k (a.ownm k h)⟩
  · rw [b.keep k (Nat.lt_of_lt_of_le hk a.size) (fun h1 => (a.grow k h1).elim (fun h2 => by omega) hm)]
    exact a.keep k hk hm
  · rcases b.grow k hm with h | h
    · exact .inl (Nat.le_trans a.size h)
    · exact a.grow k h
  · obtain ⟨l1, h1, h2⟩ := a.locs id l h
    obtain ⟨l2, h3, h4⟩ := b.locs id l1 h1
    refine ⟨l2, h3, ?_⟩
    rcases h2 with h2 | rfl <;> rcases h4 with h4 | rfl
    · exact .inl (by omega)
    · exact .inl h2
    · exact .inl h4
    · exact .inr rfl

theorem locs_app (g : Gh) (l' : Loc) : ∀ (id : Nat) (l : Loc), g.locs[id]? = some l → ∃ l2, (g.locs ++ [l'])[id]? = some l2 ∧ (l.ver < l2.ver ∨ l2 = l) := by
  intro id l h
  have := (List.getElem?_eq_some_iff.1 h).1
  exact ⟨l, by rw [List.getElem?_append_left this]; exact h, .inr rfl⟩

theorem locs_set (g : Gh) {id : Nat} {l l' : Loc} (hl : g.locs[id]? = some l) (hv : l.ver < l'.ver) :
    ∀ (i : Nat) (m : Loc), g.locs[i]? = some m → ∃ m2, (g.locs.set id l')[i]? = some m2 ∧ (m.ver < m2.ver ∨ m2 = m) := by
  intro i m h
  have hi := (List.getElem?_eq_some_iff.1 h).1
  by_cases e : id = i
  · subst e
    rw [hl] at h; cases h
    exact ⟨l', by simp [List.getElem?_set, hi], .inl hv⟩
  · exact ⟨m, by rw [List.getElem?_set_ne e]; exact h, .inr rfl⟩

/-- The world draws. -/
theorem WR.drew {g : Gh} {H : Hp} {w : World} (h : WR g H w) : WR g H w.drew :=
  ⟨h.len, fun id o l a b => (h.obj id o l a b).congr (w2 := w.drew) rfl, h.inj, fun b o v hb => h.im b o v hb, h.dis, h.own, h.base, h.org, h.blk⟩
theorem Evo.drew (g : Gh) (H : Hp) (w : World) : Evo g H w g H w.drew := ⟨rfl, rfl, rfl, Nat.le_refl _, fun _ _ _ => rfl, fun _ h => .inr h, fun _ _ _ h => h, locs_refl g, fun _ h => h⟩

/-- A new block of cells, taken as an object. -/
def Gh.add (g : Gh) (l : Loc) : Gh := { g with locs := g.locs ++ [l] }
/-- A new block of cells, taken as closed. -/
def Gh.close (g : Gh) (b : Nat) (c : Array Value) : Gh := { g with im := fun b' o => if b' = b then c[o]? else g.im b' o, own := fun b' => b' = b ∨ g.own b' }
/-- An object gets another place. -/
def Gh.move (g : Gh) (id : Nat) (l : Loc) : Gh := { g with locs := g.locs.set id l }

theorem WR.lt_im {g : Gh} {H : Hp} {w : World} (h : WR g H w) {b o : Nat} {v : Value} (hb : g.im b o = some v) : b < w.heap.size :=
  World.block_lt_of_cell? w ⟨b, o, none⟩ (h.im b o v hb).1

theorem heap_alloc_lt (w : World) (o : Obj) (b : Nat) (h : b < w.heap.size) : (w.alloc o).heap[b]? = w.heap[b]? := by
  have e : (w.alloc o).heap = w.heap.push o := rfl
  rw [e, Array.getElem?_push, if_neg (Nat.ne_of_lt h)]

end Go.SL

/- Stores into an object's cells; an object that is laid anew. -/
namespace Go.SL
variable [BaseC]

/-- Cells written over others, from a place on. -/
def ovl (c : Array Value) (o : Nat) (vs : List Value) : Array Value := (c.toList.take o ++ vs ++ c.toList.drop (o + vs.length)).toArray

/-- A block's cells put in the place of those that it has. -/
def putRow (w : World) (b : Nat) (c : Array Value) : World :=
  { w with heap := w.heap.modify b fun | .cells _ e fr => .cells c e fr | x => x }

theorem putRow_heap {w : World} {b : Nat} {c c' : Array Value} {e : TypeId} {fr : Nat × Nat} (h : w.heap[b]? = some (.cells c e fr)) : (putRow w b c').heap[b]? = some (.cells c' e fr) := by
  simp [putRow, Array.getElem?_modify, h]
theorem putRow_other {w : World} {b k : Nat} {c : Array Value} (h : k ≠ b) : (putRow w b c).heap[k]? = w.heap[k]? := by
  simp only [putRow, Array.getElem?_modify]; rw [if_neg (by omega)]
@[simp] theorem putRow_size (w : World) (b : Nat) (c : Array Value) : (putRow w b c).heap.size = w.heap.size := by simp [putRow]
theorem putRow_frozen {w : World} {b : Nat} {c c' : Array Value} {e : TypeId} {fr : Nat × Nat} (h : w.heap[b]? = some (.cells c e fr)) (a : Addr) : (putRow w b c').frozen? a = w.frozen? a := by
  by_cases hb : a.block = b
  · subst hb; simp [World.frozen?, putRow_heap h, h]
  · simp [World.frozen?, putRow_other hb]
theorem setCell_putRow {w : World} {b o : Nat} {c : Array Value} {e : TypeId} {fr : Nat × Nat} (h : w.heap[b]? = some (.cells c e fr)) (v : Value) :
    w.setCell ⟨b, o, none⟩ v = putRow w b (c.setIfInBounds o v) := by
  unfold World.setCell putRow
  congr 1
  apply Array.ext_getElem?
  intro i
  by_cases hi : b = i
  · subst hi; simp [Array.getElem?_modify, h]
  · simp [Array.getElem?_modify, hi]
theorem putRow_putRow {w : World} {b : Nat} {c c1 c2 : Array Value} {e : TypeId} {fr : Nat × Nat} (h : w.heap[b]? = some (.cells c e fr)) : putRow (putRow w b c1) b c2 = putRow w b c2 := by
  unfold putRow
  congr 1
  apply Array.ext_getElem?
  intro i
  by_cases hi : b = i
  · subst hi; simp [Array.getElem?_modify, h]
  · simp [Array.getElem?_modify, hi]
theorem putRow_self {w : World} {b : Nat} {c : Array Value} {e : TypeId} {fr : Nat × Nat} (h : w.heap[b]? = some (.cells c e fr)) : putRow w b c = w := by
  have : w.heap.modify b (fun | .cells _ e fr => .cells c e fr | x => x) = w.heap := by
    apply Array.ext_getElem?
    intro i
    by_cases hi : b = i
    · subst hi; simp [Array.getElem?_modify, h]
    · simp [Array.getElem?_modify, hi]
  unfold putRow
  rw [this]

theorem ovl_nil (c : Array Value) (o : Nat) : ovl c o [] = c := by simp [ovl]
theorem ovl_cons (c : Array Value) (o : Nat) (v : Value) (vs : List Value) (h : o + (vs.length + 1) ≤ c.size) : ovl (c.setIfInBounds o v) (o + 1) vs = ovl c o (v :: vs) := by
  unfold ovl
  congr 1
  rw [Array.toList_setIfInBounds]
  have hl : c.toList.length = c.size := by simp
  rw [List.take_set, List.drop_set]
  simp only [List.length_cons]
  rw [if_pos (by omega), List.take_succ_eq_append_getElem (by omega), List.set_append_right _ _ (by simp; omega)]
  simp only [List.length_take, List.append_assoc, List.cons_append]
  rw [show o - min o c.toList.length = 0 by omega]
  simp only [List.set_cons_zero, List.nil_append, List.cons_append]
  rw [show o + 1 + vs.length = o + (vs.length + 1) by omega]
theorem ovl_size (c : Array Value) (o : Nat) (vs : List Value) (h : o + vs.length ≤ c.size) : (ovl c o vs).size = c.size := by
  simp [ovl]; omega
theorem ovl_get (c : Array Value) (o : Nat) (vs : List Value) (h : o + vs.length ≤ c.size) (j : Nat) :
    (ovl c o vs)[j]? = if o ≤ j ∧ j < o + vs.length then vs[j - o]? else c[j]? := by
  unfold ovl
  rw [List.getElem?_toArray, List.append_assoc]
  have hl : c.toList.length = c.size := by simp
  by_cases h1 : j < o
  · rw [List.getElem?_append_left (by simp; omega), if_neg (by omega), List.getElem?_take, if_pos h1]; simp
  · rw [List.getElem?_append_right (by simp; omega)]
    have : (List.take o c.toList).length = o := by simp; omega
    rw [this]
    by_cases h2 : j < o + vs.length
    · rw [if_pos ⟨by omega, h2⟩, List.getElem?_append_left (by omega)]
    · rw [if_neg (by omega), List.getElem?_append_right (by omega), List.getElem?_drop]
      rw [show o + vs.length + (j - o - vs.length) = j by omega]; simp

theorem run_storeCells_put (P : Program) (b o : Nat) (e : TypeId) (fr : Nat × Nat) : ∀ (vs : List Value) (i : Nat) (c : Array Value) (w : World), w.heap[b]? = some (.cells c e fr) → o + i + vs.length ≤ c.size →
    (∀ v ∈ vs, v.oneCell' = true) → (∀ q, q < c.size → w.frozen? ⟨b, q, none⟩ = false) → (storeCells ⟨b, o, none⟩ vs i).run P w = .ok () (putRow w b (ovl c (o + i) vs)) := by
  intro vs
  induction vs with
  | nil => intro i c w h _ _ _; simp [storeCells, ovl_nil, putRow_self h]
  | cons v vs ih =>
    intro i c w h hl h1 hf
    simp only [List.length_cons] at hl
    have hadd : (⟨b, o, none⟩ : Addr).add i = ⟨b, o + i, none⟩ := by unfold Addr.add; split <;> simp_all
    have hcell : w.cell? ⟨b, o + i, none⟩ = some (c[o + i]'(by omega)) := by simp [World.cell?, h]
    simp only [storeCells, Sem.run_bind, hadd]
    rw [run_store P w _ v .plain (h1 v List.mem_cons_self), hcell]
    simp only [hf (o + i) (by omega), Bool.false_eq_true, if_false, Result.andThen_ok]
    rw [setCell_putRow h]
    have hs : (c.setIfInBounds (o + i) v).size = c.size := by simp
    rw [ih (i + 1) (c.setIfInBounds (o + i) v) _ (putRow_heap h) (by rw [hs]; omega) (fun u hu => h1 u (List.mem_cons_of_mem _ hu))
      (fun q hq => by rw [putRow_frozen h]; exact hf q (by rw [hs] at hq; exact hq))]
    rw [putRow_putRow h, show o + (i + 1) = o + i + 1 by omega, ovl_cons c (o + i) v vs (by omega)]

/-- What the cells of an object hold. -/
def cellsAt (H : Hp) (id ver : Nat) : Option (List CV) :=
  match H[id]? with
  | some (.cells v cs _) => if v = ver then some cs else none
  | _ => none

/-- Cells are written. -/
def putH (H : Hp) (id off : Nat) (xs : List CV) : Hp :=
  H.modify id fun | .cells v cs e => .cells v (cs.take off ++ xs ++ cs.drop (off + xs.length)) e | o => o

theorem cellsAt_some {H : Hp} {id ver : Nat} {cs : List CV} (h : cellsAt H id ver = some cs) : ∃ e, H[id]? = some (.cells ver cs e) := by
  unfold cellsAt at h
  split at h
  · rename_i v c e he
    split at h
    · rename_i hv; subst hv; cases h; exact ⟨e, he⟩
    · cases h
  · cases h

theorem WR.cells {g : Gh} {H : Hp} {w : World} (h : WR g H w) {id ver : Nat} {cs : List CV} {e : TypeId} (hc : H[id]? = some (.cells ver cs e)) :
    ∃ l, g.locs[id]? = some l ∧ l.ver = ver ∧ ∃ c fr, w.heap[l.b]? = some (.cells c e fr) ∧ c.size = l.n ∧ l.s + cs.length ≤ c.size ∧
      (∀ i (hi : i < cs.length), ∃ v, c[l.s + i]? = some v ∧ v.oneCell' = true ∧ VR g cs[i] v) ∧ (∀ o, o < c.size → w.frozen? ⟨l.b, o, none⟩ = false) := by
  have hid := (List.getElem?_eq_some_iff.1 hc).1
  have hl : id < g.locs.length := by rw [h.len]; exact hid
  refine ⟨g.locs[id], List.getElem?_eq_getElem hl, ?_⟩
  exact h.obj id _ _ hc (List.getElem?_eq_getElem hl)

/-- A store into an object's cells. -/
theorem WR.put {g : Gh} {H : Hp} {w : World} (h : WR g H w) {id ver off : Nat} {cs xs : List CV} {e : TypeId} {l : Loc} {c : Array Value} {fr : Nat × Nat} {vs : List Value}
    (hc : H[id]? = some (.cells ver cs e)) (hl : g.locs[id]? = some l) (hb : w.heap[l.b]? = some (.cells c e fr)) (hn : c.size = l.n) (hs : l.s + cs.length ≤ c.size)
    (hcs : ∀ i (hi : i < cs.length), ∃ v, c[l.s + i]? = some v ∧ v.oneCell' = true ∧ VR g cs[i] v) (hf : ∀ o, o < c.size → w.frozen? ⟨l.b, o, none⟩ = false) (hver : l.ver = ver)
    (hlen : xs.length = vs.length) (hoff : off + xs.length ≤ cs.length) (hx : ∀ i (hi : i < xs.length) (hi' : i < vs.length), VR g xs[i] vs[i] ∧ vs[i].oneCell' = true) :
    WR g (putH H id off xs) (putRow w l.b (ovl c (l.s + off) vs)) ∧ Evo g H w g (putH H id off xs) (putRow w l.b (ovl c (l.s + off) vs)) := by
  have hid := (List.getElem?_eq_some_iff.1 hc).1
  have hget : ∀ i (o : CO), (putH H id off xs)[i]? = some o → (i ≠ id ∧ H[i]? = some o) ∨ (i = id ∧ o = .cells ver (cs.take off ++ xs ++ cs.drop (off + xs.length)) e) := by
    intro i o hi
    simp only [putH, List.getElem?_modify] at hi
    by_cases e1 : id = i
    · subst e1; simp only [hc, if_true, Option.map_eq_map, Option.map_some, Option.some.injEq] at hi; exact .inr ⟨rfl, hi.symm⟩
    · simp [e1] at hi; exact .inl ⟨fun e => e1 e.symm, hi⟩
  have hbne : ∀ i (o : CO) (m : Loc), i ≠ id → H[i]? = some o → o.live = true → g.locs[i]? = some m → m.b ≠ l.b := by
    intro i o m hne ho hlv hm e1
    exact hne (h.inj i id o _ m l ho hc hlv rfl hm hl e1)
  have hsz : (ovl c (l.s + off) vs).size = c.size := ovl_size _ _ _ (by omega)
  have lift : ∀ (i : Nat) (o : CO), (putH H id off xs)[i]? = some o → o.live = true → ∃ o' : CO, H[i]? = some o' ∧ o'.live = true := by
    intro i o ho hlv
    rcases hget i o ho with ⟨_, ho⟩ | ⟨rfl, rfl⟩
    · exact ⟨o, ho, hlv⟩
    · exact ⟨_, hc, rfl⟩
  refine ⟨⟨by simp [putH, h.len], ?_, ?_, ?_, ?_, ?_, h.base, fun i cs' e' m hi hm => by
    rcases hget i _ hi with ⟨_, ho⟩ | ⟨rfl, hx⟩
    · exact h.org _ _ _ m ho hm
    · obtain ⟨rfl, _, _⟩ := CO.cells.inj hx
      exact h.org _ _ _ m hc hm, fun b' c' hb' => by
    obtain ⟨e2, f2, h2⟩ := h.blk b' c' hb'
    exact ⟨e2, f2, by rw [putRow_other (h.ne_base hc rfl hl hb')]; exact h2⟩⟩, ⟨rfl, rfl, rfl, by simp, ?_, ?_, fun _ _ _ h => h, locs_refl g, fun _ h => h⟩⟩
  · intro i o m hi hm
    rcases hget i o hi with ⟨hne, ho⟩ | ⟨rfl, rfl⟩
    · by_cases hlv : o.live = true
      · exact (h.obj i o m ho hm).congr (putRow_other (hbne i o m hne ho hlv hm))
      · cases o with
        | gone ver => exact h.obj i _ m ho hm
        | cells => simp [CO.live] at hlv
        | map => simp [CO.live] at hlv
        | loop => simp [CO.live] at hlv
    · rw [hl] at hm; cases hm
      refine ⟨hver, _, fr, putRow_heap hb, by rw [hsz]; exact hn, ?_, ?_, ?_⟩
      · rw [hsz]; simp; omega
      · intro i hi
        have hi2 : i < cs.length := by simp at hi; omega
        rw [ovl_get _ _ _ (by omega)]
        by_cases hin : off ≤ i ∧ i < off + xs.length
        · rw [if_pos (by omega), show l.s + i - (l.s + off) = i - off by omega, List.getElem?_eq_getElem (by omega)]
          refine ⟨_, rfl, (hx (i - off) (by omega) (by omega)).2, ?_⟩
          have : (List.take off cs ++ xs ++ List.drop (off + xs.length) cs)[i] = xs[i - off]'(by omega) := by
            rw [List.getElem_append_left (by simp; omega), List.getElem_append_right (by simp; omega)]
            congr 1
            simp; omega
          rw [this]; exact (hx (i - off) (by omega) (by omega)).1
        · rw [if_neg (by omega)]
          obtain ⟨v, h1, h2, h3⟩ := hcs i hi2
          refine ⟨v, h1, h2, ?_⟩
          have : (List.take off cs ++ xs ++ List.drop (off + xs.length) cs)[i] = cs[i] := by
            by_cases hlt : i < off
            · rw [List.getElem_append_left (by simp; omega), List.getElem_append_left (by simp; omega), List.getElem_take]
            · rw [List.getElem_append_right (by simp; omega), List.getElem_drop]
              congr 1
              simp; omega
          rw [this]; exact h3
      · intro o ho; rw [putRow_frozen hb]; exact hf o (by rw [hsz] at ho; exact ho)
  · intro i j oi oj li lj h1 h2 h3 h4 h5 h6 e1
    obtain ⟨a, ha, ha'⟩ := lift i oi h1 h3
    obtain ⟨d, hd, hd'⟩ := lift j oj h2 h4
    exact h.inj i j a d li lj ha hd ha' hd' h5 h6 e1
  · intro b o v hb'
    have := h.im b o v hb'
    have hbl : b ≠ l.b := by
      intro e1; subst e1
      rw [h.dis id _ l hc rfl hl o] at hb'; cases hb'
    refine ⟨?_, this.2⟩
    rw [World.cell?_of_block (w := w) (w' := putRow w l.b _) (a := ⟨b, o, none⟩) (putRow_other hbl)]
    exact this.1
  · intro i o m hi hlv hm off'
    rcases hget i o hi with ⟨hne, ho⟩ | ⟨rfl, rfl⟩
    · exact h.dis i o m ho hlv hm off'
    · exact h.dis i _ m hc rfl hm off'
  · intro b hb'
    refine ⟨by simpa using (h.own b hb').1, fun i o m hi hlv hm => ?_⟩
    obtain ⟨a, ha, ha'⟩ := lift i o hi hlv
    exact (h.own b hb').2 i a m ha ha' hm
  · intro b hb' hk
    exact putRow_other (fun e1 => hk (.inr ⟨id, _, l, hc, rfl, hl, e1.symm⟩))
  · rintro b (hb' | ⟨i, o, m, hi, hlv, hm, e1⟩)
    · exact .inr (.inl hb')
    · obtain ⟨a, ha, ha'⟩ := lift i o hi hlv
      exact .inr (.inr ⟨i, a, m, ha, ha', hm, e1⟩)

end Go.SL

/- An object laid anew; cells behind pointers and slices. -/
namespace Go.SL
variable [BaseC]

theorem WR.relay {g : Gh} {H : Hp} {w w2 : World} (h : WR g H w) {id : Nat} {o o2 : CO} {l l2 : Loc} (ho : H[id]? = some o) (hlv : o.live = true) (hl : g.locs[id]? = some l)
    (hver : l.ver < l2.ver) (hb : l2.b = l.b ∨ w.heap.size ≤ l2.b) (hos : w2.os = w.os) (ht : w2.tape = w.tape) (hout : w2.output = w.output) (hsz : w.heap.size ≤ w2.heap.size)
    (hk : ∀ b, b < w.heap.size → b ≠ l.b → w2.heap[b]? = w.heap[b]?) (ho2 : OR (g.move id l2) o2 l2 w2) : WR (g.move id l2) (H.set id o2) w2 ∧ Evo g H w (g.move id l2) (H.set id o2) w2 := by
  have hid := (List.getElem?_eq_some_iff.1 ho).1
  have hidl := (List.getElem?_eq_some_iff.1 hl).1
  have hlt : l.b < w.heap.size := (h.obj id o l ho hl).lt hlv
  have hm := locs_set g hl hver
  have hget : ∀ (i : Nat) (x : CO), (H.set id o2)[i]? = some x → (i ≠ id ∧ H[i]? = some x) ∨ (i = id ∧ x = o2) := by
    intro i x hi
    by_cases e1 : id = i
    · subst e1; rw [List.getElem?_set_self hid] at hi; exact .inr ⟨rfl, (Option.some.inj hi).symm⟩
    · rw [List.getElem?_set_ne e1] at hi; exact .inl ⟨fun e => e1 e.symm, hi⟩
  have hloc : ∀ (i : Nat) (m : Loc), (g.move id l2).locs[i]? = some m → (i ≠ id ∧ g.locs[i]? = some m) ∨ (i = id ∧ m = l2) := by
    intro i m hi
    simp only [Gh.move] at hi
    by_cases e1 : id = i
    · subst e1; rw [List.getElem?_set_self hidl] at hi; exact .inr ⟨rfl, (Option.some.inj hi).symm⟩
    · rw [List.getElem?_set_ne e1] at hi; exact .inl ⟨fun e => e1 e.symm, hi⟩
  have hbne : ∀ (i : Nat) (x : CO) (m : Loc), i ≠ id → H[i]? = some x → x.live = true → g.locs[i]? = some m → m.b ≠ l.b ∧ m.b < w.heap.size ∧ m.b ≠ l2.b := by
    intro i x m hne hx hxl hm
    have h1 : m.b ≠ l.b := fun e1 => hne (h.inj i id x o m l hx ho hxl hlv hm hl e1)
    have h2 := (h.obj i x m hx hm).lt hxl
    exact ⟨h1, h2, by rcases hb with hb | hb <;> omega⟩
  refine ⟨⟨by simp [Gh.move, h.len], ?_, ?_, ?_, ?_, ?_, h.base, fun i cs' e' m hi hm' => by
    rcases hget i _ hi with ⟨hne, hx⟩ | ⟨rfl, hx⟩
    · rcases hloc i m hm' with ⟨_, hm'⟩ | ⟨e1, _⟩
      · exact h.org _ _ _ m hx hm'
      · exact absurd e1 hne
    · rw [← hx] at ho2
      have h3 : l2.ver = 0 := ho2.1
      omega, fun b' c' hb' => by
    obtain ⟨e2, f2, h2⟩ := h.blk b' c' hb'
    exact ⟨e2, f2, by rw [hk b' (Array.getElem?_eq_some_iff.1 h2).1 (h.ne_base ho hlv hl hb')]; exact h2⟩⟩, ⟨hos, ht, hout, hsz, fun b hb' hk' => hk b hb' (fun e1 => hk' (.inr ⟨id, o, l, ho, hlv, hl, e1.symm⟩)), ?_, fun _ _ _ h => h, hm, fun _ h => h⟩⟩
  · intro i x m hi hm'
    rcases hget i x hi with ⟨hne, hx⟩ | ⟨rfl, rfl⟩
    · rcases hloc i m hm' with ⟨_, hm'⟩ | ⟨e1, _⟩
      · by_cases hxl : x.live = true
        · obtain ⟨b1, b2, _⟩ := hbne i x m hne hx hxl hm'
          exact (OR.mono (g := g) (g2 := g.move id l2) (fun _ _ _ h => h) hm (fun _ h => h) (h.obj i x m hx hm')).congr (hk _ b2 b1)
        · cases x with
          | gone ver => exact h.obj i _ m hx hm'
          | cells => simp [CO.live] at hxl
          | map => simp [CO.live] at hxl
          | loop => simp [CO.live] at hxl
      · exact absurd e1 hne
    · rcases hloc i m hm' with ⟨e1, _⟩ | ⟨_, rfl⟩
      · exact absurd rfl e1
      · exact ho2
  · intro i j oi oj li lj h1 h2 h3 h4 h5 h6 e1
    rcases hget i oi h1 with ⟨a1, a2⟩ | ⟨rfl, rfl⟩ <;> rcases hget j oj h2 with ⟨b1, b2⟩ | ⟨rfl, rfl⟩
    · rcases hloc i li h5 with ⟨_, c2⟩ | ⟨c1, _⟩
      · rcases hloc j lj h6 with ⟨_, d2⟩ | ⟨d1, _⟩
        · exact h.inj i j oi oj li lj a2 b2 h3 h4 c2 d2 e1
        · exact absurd d1 b1
      · exact absurd c1 a1
    · rcases hloc i li h5 with ⟨_, c2⟩ | ⟨c1, _⟩
      · rcases hloc _ lj h6 with ⟨d1, _⟩ | ⟨_, rfl⟩
        · exact absurd rfl d1
        · exact absurd e1 (hbne i oi li a1 a2 h3 c2).2.2
      · exact absurd c1 a1
    · rcases hloc j lj h6 with ⟨_, c2⟩ | ⟨c1, _⟩
      · rcases hloc _ li h5 with ⟨d1, _⟩ | ⟨_, rfl⟩
        · exact absurd rfl d1
        · exact absurd e1.symm (hbne j oj lj b1 b2 h4 c2).2.2
      · exact absurd c1 b1
    · rfl
  · intro b o' v hb'
    replace hb' : g.im b o' = some v := hb'
    have := h.im b o' v hb'
    have hbl : b ≠ l.b := by
      intro e1; subst e1
      rw [h.dis id _ l ho hlv hl o'] at hb'; cases hb'
    refine ⟨?_, this.2⟩
    rw [World.cell?_of_block (w := w) (w' := w2) (a := ⟨b, o', none⟩) (hk b (h.lt_im hb') hbl)]
    exact this.1
  · intro i x m hi hxl hm' off
    show g.im m.b off = none
    rcases hget i x hi with ⟨hne, hx⟩ | ⟨rfl, rfl⟩
    · rcases hloc i m hm' with ⟨_, hm'⟩ | ⟨e1, _⟩
      · exact h.dis i x m hx hxl hm' off
      · exact absurd e1 hne
    · rcases hloc _ m hm' with ⟨e1, _⟩ | ⟨_, rfl⟩
      · exact absurd rfl e1
      · rcases hb with hb | hb
        · rw [hb]; exact h.dis _ o l ho hlv hl off
        · cases hx : g.im m.b off with
          | none => rfl
          | some v => have := h.lt_im hx; omega
  · intro b hb'
    replace hb' : g.own b := hb'
    refine ⟨Nat.lt_of_lt_of_le (h.own b hb').1 hsz, fun i x m hi hxl hm' => ?_⟩
    rcases hget i x hi with ⟨hne, hx⟩ | ⟨rfl, rfl⟩
    · rcases hloc i m hm' with ⟨_, hm'⟩ | ⟨e1, _⟩
      · exact (h.own b hb').2 i x m hx hxl hm'
      · exact absurd e1 hne
    · rcases hloc _ m hm' with ⟨e1, _⟩ | ⟨_, rfl⟩
      · exact absurd rfl e1
      · have h1 := (h.own b hb').1
        have h2 := (h.own b hb').2 _ o l ho hlv hl
        rcases hb with hb | hb <;> omega
  · rintro b (hb' | ⟨i, x, m, hi, hxl, hm', rfl⟩)
    · exact .inr (.inl hb')
    · rcases hget i x hi with ⟨hne, hx⟩ | ⟨rfl, rfl⟩
      · rcases hloc i m hm' with ⟨_, hm'⟩ | ⟨e1, _⟩
        · exact .inr (.inr ⟨i, x, m, hx, hxl, hm', rfl⟩)
        · exact absurd e1 hne
      · rcases hloc _ m hm' with ⟨e1, _⟩ | ⟨_, rfl⟩
        · exact absurd rfl e1
        · rcases hb with hb | hb
          · exact .inr (.inr ⟨_, o, l, ho, hlv, hl, hb.symm⟩)
          · exact .inl hb

/-- The cells from a pointer on. -/
def atP (H : Hp) : CV → Option (List CV)
  | .ptr id ver off => (cellsAt H id ver).bind fun cs => if off ≤ cs.length then some (cs.drop off) else none
  | .ip cs => some cs
  | _ => none

/-- The cells of a slice, its length, and the size of an element. -/
def atS (H : Hp) : CV → Option (List CV × Nat)
  | .sl id ver off len sz => (cellsAt H id ver).bind fun cs => if off + len * sz ≤ cs.length then some ((cs.drop off).take (len * sz), len) else none
  | .im cs len sz => if cs.length = len * sz then some (cs, len) else none
  | .lit cs len sz => if cs.length = len * sz then some (cs, len) else none
  | .v (.slice none _ _) => some ([], 0)
  | _ => none

/-- Cells of the world hold these. -/
def Holds (g : Gh) (w : World) (b o : Nat) (cs : List CV) : Prop := ∀ i (hi : i < cs.length), ∃ u, w.cell? ⟨b, o + i, none⟩ = some u ∧ u.oneCell' = true ∧ VR g cs[i] u

theorem WR.at_ptr {g : Gh} {H : Hp} {w : World} (h : WR g H w) {x : CV} {v : Value} {cs : List CV} (hx : VR g x v) (hc : atP H x = some cs) :
    ∃ b o, v = .pointer (some ⟨b, o, none⟩) ∧ Holds g w b o cs := by
  have clos : ∀ {cs0 : List CV}, VC g.im (.ip cs0) v → ∃ b o, v = .pointer (some ⟨b, o, none⟩) ∧ Holds g w b o cs0 := by
    intro cs0 hv
    cases hv with
    | ip hf hh =>
      refine ⟨_, _, rfl, fun i hi => ⟨_, (h.im _ _ _ (hf i hi)).1, (h.im _ _ _ (hf i hi)).2, .cl (hh i hi)⟩⟩
  unfold atP at hc
  cases x with
  | ptr id ver off =>
    obtain ⟨cs0, h0, h1⟩ := Option.bind_eq_some_iff.1 hc
    split at h1
    · rename_i hle
      cases h1
      obtain ⟨e, he⟩ := cellsAt_some h0
      obtain ⟨l, hl, hv, c, fr, hb, hn, hs, hcs, hf⟩ := h.cells he
      cases hx with
      | cl hx => cases hx
      | ptr h2 hv2 =>
        rw [hl] at h2; cases h2
        refine ⟨_, _, rfl, fun i hi => ?_⟩
        simp only [List.length_drop] at hi
        obtain ⟨u, h3, h4, h5⟩ := hcs (off + i) (by omega)
        refine ⟨u, ?_, h4, ?_⟩
        · simp only [World.cell?, hb]; simp; rw [← h3]; congr 1; omega
        · rw [List.getElem_drop]; exact h5
      | sptr h2 hv2 => rw [hl] at h2; cases h2; omega
    · cases h1
  | ip cs0 =>
    cases hc
    cases hx with
    | cl hx => exact clos hx
  | _ => cases hc

theorem WR.at_sl {g : Gh} {H : Hp} {w : World} (h : WR g H w) {x : CV} {v : Value} {cs : List CV} {len : Nat} (hx : VR g x v) (hc : atS H x = some (cs, len)) :
    (v = .slice none 0 0 ∧ cs = [] ∧ len = 0) ∨ ∃ a b o cap, v = .slice (some a) len cap ∧ len ≤ cap ∧ (0 < len → a = ⟨b, o, none⟩) ∧ (0 < len → Holds g w b o cs) ∧ (len = 0 → cs = []) := by
  unfold atS at hc
  cases x with
  | sl id ver off n sz =>
    obtain ⟨cs0, h0, h1⟩ := Option.bind_eq_some_iff.1 hc
    split at h1
    · rename_i hle
      cases h1
      obtain ⟨e, he⟩ := cellsAt_some h0
      obtain ⟨l, hl, hv, c, fr, hb, hn, hs, hcs, hf⟩ := h.cells he
      cases hx with
      | cl hx => cases hx
      | sl h2 hv2 hcap ho hg =>
        rw [hl] at h2; cases h2
        refine .inr ⟨_, _, _, _, rfl, hcap, fun _ => rfl, fun hpos i hi => ?_, fun h0 => by subst h0; simp⟩
        rw [ho hpos]
        simp only [List.length_take, List.length_drop] at hi
        obtain ⟨u, h3, h4, h5⟩ := hcs (off + i) (by omega)
        refine ⟨u, ?_, h4, ?_⟩
        · simp only [World.cell?, hb]; simp; rw [← h3]; congr 1; omega
        · rw [List.getElem_take, List.getElem_drop]; exact h5
      | ssl h2 hv2 => rw [hl] at h2; cases h2; omega
    · cases h1
  | im cs0 n sz =>
    simp only [] at hc
    split at hc
    · rename_i hl0
      cases hc
      cases hx with
      | cl hx =>
        cases hx with
        | im hl hcap ha hf hh =>
          exact .inr ⟨_, _, _, _, rfl, hcap, ha, fun _ i hi => ⟨_, (h.im _ _ _ (hf i hi)).1, (h.im _ _ _ (hf i hi)).2, .cl (hh i hi)⟩, fun h0 => by subst h0; simpa using hl⟩
    · cases hc
  | lit cs0 n sz =>
    simp only [] at hc
    split at hc
    · rename_i hl0
      cases hc
      cases hx with
      | cl hx => cases hx
      | lit ho hl hcap hf hh =>
        exact .inr ⟨_, _, _, _, rfl, hcap, fun _ => rfl, fun _ i hi => ⟨_, (h.im _ _ _ (hf i hi)).1, (h.im _ _ _ (hf i hi)).2, .cl (hh i hi)⟩, fun h0 => by subst h0; simpa using hl⟩
    · cases hc
  | v y =>
    cases hx with
    | cl hx =>
      cases hx with
      | v ha =>
        cases v with
        | slice a n c =>
          cases a with
          | none =>
            simp [atomV] at ha hc
            exact .inl ⟨by rw [ha.1, ha.2], hc.1, hc.2.symm⟩
          | some a => simp at hc
        | _ => simp at hc
  | _ => cases hc

/-- Abstract values closed, as far as their outer signs tell. -/
def clB : CV → Bool
  | .v _ | .im .. | .ip _ => true
  | .ifc _ x => clB x
  | _ => false

theorem VR.closed {g : Gh} {x : CV} {v : Value} (h : VR g x v) (hc : clB x = true) : VC g.im x v := by
  induction h with
  | cl h => exact h
  | ifc _ ih => exact .ifc (ih (by simpa [clB] using hc))
  | _ => simp [clB] at hc

end Go.SL

/- The operations on abstract values, and that the model's do the same: values alone. -/
namespace Go.SL
variable [BaseC]

/-- An operation's end: a value, or nothing; and the world. -/
def Good (P : Program) (g : Gh) (H : Hp) (w : World) (r : Result Next) (x : CV) (H2 : Hp) : Prop :=
  ∃ v g2 w2, (r = .ok (.value v) w2 ∨ (r = .ok .skip w2 ∧ v = undef)) ∧ VR g2 x v ∧ WR g2 H2 w2 ∧ Evo g H w g2 H2 w2

def GoodV (P : Program) (g : Gh) (H : Hp) (w : World) (r : Result Value) (x : CV) (H2 : Hp) : Prop :=
  ∃ v g2 w2, r = .ok v w2 ∧ VR g2 x v ∧ WR g2 H2 w2 ∧ Evo g H w g2 H2 w2

theorem GoodV.same {P : Program} {g : Gh} {H : Hp} {w : World} {r : Result Value} {x : CV} {v : Value} (hw : WR g H w) (h : r = .ok v w) (hx : VR g x v) : GoodV P g H w r x H :=
  ⟨v, g, w, h, hx, hw, Evo.refl g H w⟩

theorem GoodV.value {P : Program} {g : Gh} {H H2 : Hp} {w : World} {s : Sem Value} {x : CV} (h : GoodV P g H w (s.run P w) x H2) :
    Good P g H w ((do pure (.value (← s)) : Sem Next).run P w) x H2 := by
  obtain ⟨v, g2, w2, h1, h2, h3, h4⟩ := h
  refine ⟨v, g2, w2, .inl ?_, h2, h3, h4⟩
  simp [h1]

theorem VR.undef (g : Gh) : VR g (.tup []) Go.undef := .cl .undef
theorem VR.bool (g : Gh) (b : Bool) : VR g (.v (.bool b)) (.bool b) := .cl (.v rfl)
theorem VR.int (g : Gh) (k : IntKind) (n : Int) : VR g (.v (.int k n)) (.int k n) := .cl (.v rfl)
theorem VR.str (g : Gh) (s : ByteArray) : VR g (.v (.string s)) (.string s) := .cl (.v rfl)
theorem VR.atom {g : Gh} {x v : Value} (h : VR g (.v x) v) : v = x ∧ atomV x = true := by
  cases h with
  | cl h => cases h with | v h => exact ⟨rfl, h⟩
theorem VR.of_atom {g : Gh} {x : Value} (h : atomV x = true) : VR g (.v x) x := .cl (.v h)

/-- A value of the model as an abstract one. -/
def ofV : Value → Option CV
  | .agg cs => if cs.toList.all atomV then some (.agg (cs.toList.map .v)) else none
  | .tuple cs => if cs.isEmpty then some (.tup []) else none
  | x => if atomV x then some (.v x) else none

theorem ofV_vr {g : Gh} {v : Value} {x : CV} (h : ofV v = some x) : VR g x v := by
  unfold ofV at h
  split at h
  · split at h
    · rename_i cs hc
      cases h
      refine .cl (.agg (by simp) fun i hi hi' => ?_)
      simp only [List.getElem_map, Array.getElem_toList]
      have := List.all_eq_true.1 hc cs[i] (by simp)
      exact .v this
    · cases h
  · split at h
    · rename_i cs hc
      cases h
      have : cs = #[] := by simpa using hc
      subst this
      exact .cl .undef
    · cases h
  · split at h
    · rename_i hc
      cases h
      exact .cl (.v hc)
    · cases h

/-- Operands. -/
abbrev Fr := Nat → CV
def evO (fr : Fr) : Operand → Option CV
  | .tmp t => some (fr t)
  | .const v => ofV v
  | .global _ => none
  | .func f => some (.v (.func (.func f) #[] #[]))

def FrR (g : Gh) (fr : Fr) (a : Act) : Prop := ∀ t, VR g (fr t) (a.tmps.getD t undef)

theorem evO_vr {g : Gh} {fr : Fr} {a : Act} (h : FrR g fr a) {o : Operand} {x : CV} (hx : evO fr o = some x) : VR g x (a.eval o) := by
  cases o with
  | tmp t => cases hx; exact h t
  | const v => exact ofV_vr hx
  | global n => cases hx
  | func f => cases hx; exact .cl (.v rfl)

/-- The operators on values without addresses. -/
def binA (op : BinOp) (x y : Value) : Option Value :=
  match x, y with
  | .int k a, .int k' b =>
    match op with
    | .shl => if 0 ≤ b then some (.int k (k.wrap (a * 2 ^ (min b.toNat k.bits)))) else none
    | .shr => if 0 ≤ b then some (.int k (a.fdiv (2 ^ (min b.toNat k.bits)))) else none
    | .add => if k = k' then some (.int k (k.wrap (a + b))) else none
    | .sub => if k = k' then some (.int k (k.wrap (a - b))) else none
    | .mul => if k = k' then some (.int k (k.wrap (a * b))) else none
    | .quo => if k = k' ∧ b ≠ 0 then some (.int k (k.wrap (a.tdiv b))) else none
    | .rem => if k = k' ∧ b ≠ 0 then some (.int k (a.tmod b)) else none
    | .and | .or | .xor | .andNot => if k = k' then some (.int k (bits op k a b)) else none
    | .eql => if k = k' then some (.bool (a == b)) else none
    | .neq => if k = k' then some (.bool (a != b)) else none
    | .lss => if k = k' then some (.bool (a < b)) else none
    | .leq => if k = k' then some (.bool (a ≤ b)) else none
    | .gtr => if k = k' then some (.bool (a > b)) else none
    | .geq => if k = k' then some (.bool (a ≥ b)) else none
  | .string a, .string b =>
    match op with
    | .add => if a.size + b.size ≤ 9223372036854775807 then some (.string (a ++ b)) else none
    | .eql => some (.bool (a.toList == b.toList))
    | .neq => some (.bool (!(a.toList == b.toList)))
    | .lss => some (.bool (Op.bytesLess a.toList b.toList))
    | _ => none
  | _, _ => none

theorem binA_run {P : Program} {w : World} {op : BinOp} {t : TypeId} {x y v : Value} (h : binA op x y = some v) : (binOp op t x y).run P w = .ok v w ∧ atomV v = true := by
  unfold binA at h
  split at h
  · rename_i k a k' b
    cases op <;> simp only [] at h <;> split at h <;> first
      | (cases h; done)
      | (cases h; rename_i hc; refine ⟨?_, rfl⟩; first
          | (subst hc; simp [binOp, Op.intArith, Op.intCmp]; done)
          | (subst hc; rw [binOp_and, intBits_and]; rfl)
          | (subst hc; rw [binOp_or, intBits_or]; rfl)
          | (subst hc; rw [binOp_xor, intBits_xor]; rfl)
          | (subst hc; rw [binOp_andNot, intBits_andNot]; rfl)
          | (obtain ⟨rfl, h0⟩ := hc; simp [binOp, Op.intDiv, h0]; done)
          | (rw [binOp_shl]; simp only [Op.shift, if_neg (Int.not_lt.2 hc)]; rfl)
          | (rw [binOp_shr]; simp only [Op.shift, if_neg (Int.not_lt.2 hc)]; rfl))
  · rename_i a b
    cases op <;> simp only [] at h <;> first
      | (cases h; done)
      | (cases h; refine ⟨?_, rfl⟩; simp [binOp, Op.stringOp]; done)
      | (split at h <;> first
          | (cases h; done)
          | (cases h; rename_i hc; refine ⟨?_, rfl⟩; simp [binOp, Op.stringOp]; omega))
  · cases h

/-- Is a value a slice that is nil (true), or one that is not (false)? -/
def nilS : CV → Option Bool
  | .v (.slice none _ _) => some true
  | .im .. | .sl .. => some false
  | _ => none

end Go.SL

/- The operations on abstract values, and that the model's do the same: memory. -/
namespace Go.SL
variable [BaseC]

def aggB : TypeDesc → Bool
  | .struct _ | .array _ _ => true
  | _ => false

theorem run_isAgg {P : Program} {t : TypeId} {d : TypeDesc} (h : P.underlying t = some d) (w : World) : (isAgg t).run P w = .ok (aggB d) w := by
  unfold isAgg
  simp only [Sem.run_bind, run_underlying h, Result.andThen_ok]
  cases d <;> rfl

theorem run_sizeOf {P : Program} {t : TypeId} {i : TypeInfo} (h : P.info? t = some i) (w : World) : (sizeOf t).run P w = .ok i.size w := by
  simp [sizeOf, typeInfo, h]

/-- One cell. -/
def oneB : CV → Bool
  | .agg _ | .tup _ => false
  | _ => true

theorem VR.one {g : Gh} {x : CV} {v : Value} (h : VR g x v) (h1 : oneB x = true) : v.oneCell' = true := by
  cases h with
  | cl h => exact h.one (fun cs e => by subst e; cases h1) (fun cs e => by subst e; cases h1)
  | sptr _ _ h => exact h
  | ssl _ _ h => exact h
  | smp _ _ h => exact h
  | syl _ _ h => exact h
  | agg => cases h1
  | tup => cases h1
  | _ => rfl

/-- A value's cells. -/
def cvCells : CV → Option (List CV)
  | .agg cs => if cs.all oneB then some cs else none
  | .tup _ => none
  | x => some [x]

theorem VR.agg_inv {g : Gh} {cs : List CV} {v : Value} (h : VR g (.agg cs) v) : ∃ vs, v = .agg vs ∧ cs.length = vs.size ∧ ∀ i (hi : i < cs.length) (hi' : i < vs.size), VR g cs[i] vs[i] := by
  cases h with
  | cl h => cases h with | agg hl h => exact ⟨_, rfl, hl, fun i hi hi' => .cl (h i hi hi')⟩
  | agg hl h => exact ⟨_, rfl, hl, h⟩

theorem VR.tup_inv {g : Gh} {cs : List CV} {v : Value} (h : VR g (.tup cs) v) : ∃ vs, v = .tuple vs ∧ cs.length = vs.size ∧ ∀ i (hi : i < cs.length) (hi' : i < vs.size), VR g cs[i] vs[i] := by
  cases h with
  | cl h => cases h with
    | tup hl h => exact ⟨_, rfl, hl, fun i hi hi' => .cl (h i hi hi')⟩
    | undef => exact ⟨_, rfl, rfl, fun i hi => absurd hi (by simp)⟩
  | tup hl h => exact ⟨_, rfl, hl, h⟩

theorem VR.cells {g : Gh} {x : CV} {v : Value} {cs : List CV} (h : VR g x v) (hc : cvCells x = some cs) :
    cs.length = v.cells.toList.length ∧ ∀ i (hi : i < cs.length) (hi' : i < v.cells.toList.length), VR g cs[i] v.cells.toList[i] ∧ v.cells.toList[i].oneCell' = true := by
  have single : ∀ (y : CV), y = x → oneB y = true → cs = [y] → v.cells = #[v] → cs.length = v.cells.toList.length ∧ ∀ i (hi : i < cs.length) (hi' : i < v.cells.toList.length), VR g cs[i] v.cells.toList[i] ∧ v.cells.toList[i].oneCell' = true := by
    intro y e1 e2 e3 e4
    subst e1 e3
    rw [e4]
    refine ⟨rfl, fun i hi hi' => ?_⟩
    have : i = 0 := by simp at hi; exact hi
    subst this
    exact ⟨h, h.one e2⟩
  have hcell : oneB x = true → v.cells = #[v] := by
    intro h1
    have := h.one h1
    cases v <;> first | rfl | (simp [Value.oneCell'] at this)
  unfold cvCells at hc
  split at hc
  · split at hc
    · rename_i cs0 hall
      cases hc
      obtain ⟨vs, rfl, hl, hh⟩ := h.agg_inv
      refine ⟨by simpa [Value.cells] using hl, fun i hi hi' => ?_⟩
      have hi2 : i < vs.size := by omega
      simp only [Value.cells, Array.getElem_toList]
      exact ⟨hh i hi hi2, (hh i hi hi2).one (List.all_eq_true.1 hall _ (List.getElem_mem hi))⟩
    · cases hc
  · cases hc
  · rename_i h1 h2
    cases hc
    have : oneB x = true := by cases x <;> first | rfl | exact absurd rfl (h1 _) | exact absurd rfl (h2 _)
    exact single x rfl this rfl (hcell this)

theorem Holds.take {g : Gh} {w : World} {b o : Nat} {cs : List CV} (h : Holds g w b o cs) (n : Nat) : Holds g w b o (cs.take n) := by
  intro i hi
  simp only [List.length_take] at hi
  rw [List.getElem_take]
  exact h i (by omega)

theorem Holds.drop {g : Gh} {w : World} {b o : Nat} {cs : List CV} (h : Holds g w b o cs) (n : Nat) : Holds g w b (o + n) (cs.drop n) := by
  intro i hi
  simp only [List.length_drop] at hi
  rw [List.getElem_drop, show o + n + i = o + (n + i) by omega]
  exact h (n + i) (by omega)

/-- The cells as a list. -/
theorem Holds.list {g : Gh} {w : World} {b o : Nat} {cs : List CV} (h : Holds g w b o cs) :
    ∃ us : List Value, us.length = cs.length ∧ (∀ j u, us[j]? = some u → w.cell? ((⟨b, o, none⟩ : Addr).add j) = some u) ∧ (∀ u ∈ us, u.oneCell' = true) ∧
      ∀ i (hi : i < cs.length) (hi' : i < us.length), VR g cs[i] us[i] := by
  refine ⟨List.ofFn (fun (i : Fin cs.length) => Classical.choose (h i.1 i.2)), by simp, ?_, ?_, ?_⟩
  · intro j u hj
    rw [Addr.add_lit]
    have hj2 : j < cs.length := by
      have := (List.getElem?_eq_some_iff.1 hj).1
      simpa using this
    rw [List.getElem?_ofFn, dif_pos hj2] at hj
    cases hj
    exact (Classical.choose_spec (h j hj2)).1
  · intro u hu
    obtain ⟨i, rfl⟩ := List.mem_ofFn.1 hu
    exact (Classical.choose_spec (h i.1 i.2)).2.1
  · intro i hi hi'
    rw [List.getElem_ofFn]
    exact (Classical.choose_spec (h i hi)).2.2

theorem Holds.loadCells {g : Gh} {w : World} {b o : Nat} {cs : List CV} (P : Program) (h : Holds g w b o cs) :
    ∃ vs : Array Value, (loadCells ⟨b, o, none⟩ cs.length).run P w = .ok vs w ∧ cs.length = vs.size ∧ ∀ i (hi : i < cs.length) (hi' : i < vs.size), VR g cs[i] vs[i] := by
  obtain ⟨us, h1, h2, h3, h4⟩ := h.list
  refine ⟨us.toArray, ?_, by simp [h1], fun i hi hi' => by simp only [List.getElem_toArray]; exact h4 i hi (by rw [h1]; exact hi)⟩
  rw [← h1]
  exact run_loadCells_list w _ us h2

/-- A load. -/
def dLoad (P : Program) (t : TypeId) (x : CV) (H : Hp) : Option CV :=
  (P.underlying t).bind fun d => (P.info? t).bind fun i => (atP H x).bind fun rest =>
    if aggB d then (if i.size ≤ rest.length then some (.agg (rest.take i.size)) else none) else rest.head?

theorem dLoad_good {P : Program} {g : Gh} {H : Hp} {w : World} (hw : WR g H w) {t : TypeId} {x y : CV} {v : Value} (hx : VR g x v) (h : dLoad P t x H = some y) :
    GoodV P g H w ((Instr.loadAt t v).run P w) y H := by
  unfold dLoad at h
  obtain ⟨d, hd, h⟩ := Option.bind_eq_some_iff.1 h
  obtain ⟨i, hi, h⟩ := Option.bind_eq_some_iff.1 h
  obtain ⟨rest, hr, h⟩ := Option.bind_eq_some_iff.1 h
  obtain ⟨b, o, rfl, hh⟩ := hw.at_ptr hx hr
  have hrun : (Instr.loadAt t (.pointer (some ⟨b, o, none⟩))).run P w =
      if aggB d then ((loadCells ⟨b, o, none⟩ i.size).run P w).andThen fun cs w' => .ok (.agg cs) w' else (load ⟨b, o, none⟩).run P w := by
    simp only [Instr.loadAt, Instr.sureAddr, loadVar, Sem.run_bind, Sem.run_pure, Result.andThen_ok, run_isAgg hd, Sem.run_ite, run_sizeOf hi]
  rw [hrun]
  split at h
  · rename_i ha
    split at h
    · rename_i hle
      cases h
      have h2 := hh.take i.size
      obtain ⟨vs, h3, h4, h5⟩ := h2.loadCells P
      have e1 : (rest.take i.size).length = i.size := by simp; omega
      rw [e1] at h3
      exact .same hw (by rw [if_pos ha, h3]; rfl) (.agg h4 h5)
    · cases h
  · rename_i ha
    cases hrest : rest with
    | nil => rw [hrest] at h; cases h
    | cons c cs =>
      rw [hrest] at h; cases h
      obtain ⟨u, h1, h2, h3⟩ := hh 0 (by rw [hrest]; simp)
      refine .same (v := u) hw ?_ ?_
      · rw [if_neg ha]; simp only [run_load]; rw [show o = o + 0 from rfl, h1]
      · simpa [hrest] using h3

/-- A store. -/
def dStore (P : Program) (t : TypeId) (x y : CV) (H : Hp) : Option Hp :=
  match x with
  | .ptr id ver off => (P.info? t).bind fun i => (cvCells y).bind fun ys => (cellsAt H id ver).bind fun cs =>
      if ys.length = i.size ∧ off + ys.length ≤ cs.length then some (putH H id off ys) else none
  | _ => none

theorem dStore_good {P : Program} {g : Gh} {H H2 : Hp} {w : World} (hw : WR g H w) {t : TypeId} {x y : CV} {v u : Value} (hx : VR g x v) (hy : VR g y u) (h : dStore P t x y H = some H2) :
    ∃ g2 w2, (Instr.storeAt t v u).run P w = .ok () w2 ∧ WR g2 H2 w2 ∧ Evo g H w g2 H2 w2 := by
  unfold dStore at h
  split at h
  · rename_i id ver off
    obtain ⟨i, hi, h⟩ := Option.bind_eq_some_iff.1 h
    obtain ⟨ys, hys, h⟩ := Option.bind_eq_some_iff.1 h
    obtain ⟨cs, hcs, h⟩ := Option.bind_eq_some_iff.1 h
    split at h
    · rename_i hle
      cases h
      obtain ⟨e, he⟩ := cellsAt_some hcs
      obtain ⟨l, hl, hv, c, fr, hb, hn, hs, hcc, hf⟩ := hw.cells he
      obtain ⟨h1, h2⟩ := hy.cells hys
      cases hx with
      | cl hx => cases hx
      | ptr h3 hv3 =>
        rw [hl] at h3; cases h3
        have hput := hw.put (vs := u.cells.toList) he hl hb hn hs hcc hf hv h1 hle.2 h2
        refine ⟨g, _, ?_, hput.1, hput.2⟩
        have hst := run_storeCells_put P l.b (l.s + off) e fr u.cells.toList 0 c w hb (by rw [← h1]; omega)
          (fun q hq => by
            obtain ⟨j, hj, rfl⟩ := List.getElem_of_mem hq
            exact (h2 j (by omega) hj).2) hf
        have hsz : u.cells.size = i.size := by
          have : u.cells.toList.length = u.cells.size := by simp
          omega
        simp only [Instr.storeAt, Instr.sureAddr, storeVar, Sem.run_bind, Sem.run_pure, Result.andThen_ok, run_sizeOf hi, hsz, ne_eq, not_true_eq_false, if_false]
        simpa using hst
      | sptr h3 hv3 => rw [hl] at h3; cases h3; omega
    · cases h
  · cases h

/-- A field's address. -/
def dFieldAddr (P : Program) (s : TypeId) (x : CV) (f : Nat) (H : Hp) : Option CV :=
  match P.underlying s with
  | some (.struct fs) => (fs[f]?).bind fun fd => (P.info? fd.type).bind fun i => (atP H x).bind fun rest =>
      if i.size = 0 then none else
      match x with
      | .ptr id ver off => some (.ptr id ver (off + fd.offset))
      | .ip cs => if fd.offset ≤ cs.length then some (.ip (cs.drop fd.offset)) else none
      | _ => none
  | _ => none

theorem VR.ptr_add {g : Gh} {H : Hp} {w : World} (hw : WR g H w) {id ver off n : Nat} {v : Value} {rest : List CV} (hx : VR g (.ptr id ver off) v) (hr : atP H (.ptr id ver off) = some rest) :
    ∃ b o, v = .pointer (some ⟨b, o, none⟩) ∧ VR g (.ptr id ver (off + n)) (.pointer (some ⟨b, o + n, none⟩)) := by
  unfold atP at hr
  obtain ⟨cs0, h0, _⟩ := Option.bind_eq_some_iff.1 hr
  obtain ⟨e, he⟩ := cellsAt_some h0
  obtain ⟨l, hl, hv, _⟩ := hw.cells he
  cases hx with
  | cl hx => cases hx
  | ptr h2 hv2 =>
    rw [hl] at h2; cases h2
    exact ⟨_, _, rfl, by rw [Nat.add_assoc]; exact .ptr hl hv2⟩
  | sptr h2 hv2 => rw [hl] at h2; cases h2; omega

theorem VR.ip_drop {g : Gh} {cs : List CV} {v : Value} {n : Nat} (hx : VR g (.ip cs) v) : ∃ b o, v = .pointer (some ⟨b, o, none⟩) ∧ VR g (.ip (cs.drop n)) (.pointer (some ⟨b, o + n, none⟩)) := by
  cases hx with
  | cl hx =>
    cases hx with
    | ip hf hh =>
      rename_i b o f
      refine ⟨_, _, rfl, .cl (.ip (f := fun i => f (n + i)) (fun i hi => ?_) (fun i hi => ?_))⟩
      · simp only [List.length_drop] at hi
        rw [Nat.add_assoc]; exact hf (n + i) (by omega)
      · simp only [List.length_drop] at hi
        rw [List.getElem_drop]; exact hh (n + i) (by omega)

theorem dFieldAddr_good {P : Program} {g : Gh} {H : Hp} {w : World} (hw : WR g H w) {s : TypeId} {f : Nat} {x y : CV} {v : Value} (hx : VR g x v) (h : dFieldAddr P s x f H = some y) :
    GoodV P g H w ((Instr.fieldAt s v f).run P w) y H := by
  unfold dFieldAddr at h
  split at h
  · rename_i fs hu
    obtain ⟨fd, hfd, h⟩ := Option.bind_eq_some_iff.1 h
    obtain ⟨i, hi, h⟩ := Option.bind_eq_some_iff.1 h
    obtain ⟨rest, hr, h⟩ := Option.bind_eq_some_iff.1 h
    split at h
    · cases h
    · rename_i h0
      have hrun : ∀ b o, (Instr.fieldAt s (.pointer (some ⟨b, o, none⟩)) f).run P w = .ok (.pointer (some ⟨b, o + fd.offset, none⟩)) w := by
        intro b o
        simp only [Instr.fieldAt, Instr.sureAddr, Sem.run_bind, Sem.run_pure, Result.andThen_ok, run_underlying hu, hfd, fieldPlace, run_sizeOf hi, Sem.run_ite, if_neg h0, Addr.add_lit]
      split at h
      · cases h
        obtain ⟨b, o, rfl, h3⟩ := VR.ptr_add hw (n := fd.offset) hx hr
        exact .same hw (hrun b o) h3
      · split at h
        · cases h
          obtain ⟨b, o, rfl, h3⟩ := VR.ip_drop (n := fd.offset) hx
          exact .same hw (hrun b o) h3
        · cases h
      · cases h
  · cases h

/-- A field. -/
def dPart (P : Program) (t : TypeId) (cs : List CV) (off : Nat) : Option CV :=
  (P.underlying t).bind fun d => (P.info? t).bind fun i =>
    if aggB d then (if off + i.size ≤ cs.length then some (.agg ((cs.drop off).take i.size)) else none) else cs[off]?
def dField (P : Program) (s : TypeId) (x : CV) (f : Nat) : Option CV :=
  match P.underlying s, x with
  | some (.struct fs), .agg cs => (fs[f]?).bind fun fd => dPart P fd.type cs fd.offset
  | _, _ => none

theorem dPart_good {P : Program} {g : Gh} {w : World} {t : TypeId} {cs : List CV} {vs : Array Value} {off : Nat} {y : CV} (hl : cs.length = vs.size) (hh : ∀ i (hi : i < cs.length) (hi' : i < vs.size), VR g cs[i] vs[i])
    (h : dPart P t cs off = some y) : ∃ u, (part t vs off).run P w = .ok u w ∧ VR g y u := by
  unfold dPart at h
  obtain ⟨d, hd, h⟩ := Option.bind_eq_some_iff.1 h
  obtain ⟨i, hi, h⟩ := Option.bind_eq_some_iff.1 h
  split at h
  · rename_i ha
    split at h
    · rename_i hle
      cases h
      refine ⟨.agg (vs.extract off (off + i.size)), ?_, .agg (by simp; omega) fun j hj hj' => ?_⟩
      · simp only [part, Sem.run_bind, run_isAgg hd, Result.andThen_ok, Sem.run_ite, if_pos ha, run_sizeOf hi, Sem.run_pure]
      · rw [List.getElem_take, List.getElem_drop]
        simp only [Array.getElem_extract]
        simp only [List.length_take, List.length_drop] at hj
        exact hh (off + j) (by omega) (by omega)
    · cases h
  · rename_i ha
    obtain ⟨h1, h2⟩ := List.getElem?_eq_some_iff.1 h
    refine ⟨vs[off]'(by omega), ?_, h2 ▸ hh off h1 (by omega)⟩
    simp only [part, Sem.run_bind, run_isAgg hd, Result.andThen_ok, Sem.run_ite, if_neg ha]
    rw [Array.getElem?_eq_getElem (by omega)]
    rfl

theorem dField_good {P : Program} {g : Gh} {H : Hp} {w : World} (hw : WR g H w) {s : TypeId} {f : Nat} {x y : CV} {v : Value} (hx : VR g x v) (h : dField P s x f = some y) :
    GoodV P g H w ((Instr.field s v f).run P w) y H := by
  unfold dField at h
  split at h
  · rename_i fs cs hu
    obtain ⟨fd, hfd, h⟩ := Option.bind_eq_some_iff.1 h
    obtain ⟨vs, rfl, hl, hh⟩ := hx.agg_inv
    obtain ⟨u, h1, h2⟩ := dPart_good (w := w) hl hh h
    refine .same hw ?_ h2
    simp only [Instr.field, Sem.run_bind, run_underlying hu, Result.andThen_ok, hfd, asAgg, Sem.run_pure]
    exact h1
  · cases h

end Go.SL

/- The operations on abstract values, and that the model's do the same: elements, slices, lengths. -/
namespace Go.SL
variable [BaseC]

/-- An element's address. -/
def dIndexAddr (P : Program) (t : TypeId) (x ix : CV) (H : Hp) : Option CV :=
  match P.underlying t, ix with
  | some (.slice e), .v (.int _ i) => (P.info? e).bind fun inf =>
      match x with
      | .sl id ver off len sz => if 0 ≤ i ∧ i < len ∧ sz = inf.size ∧ (cellsAt H id ver).isSome then some (.ptr id ver (off + i.toNat * sz)) else none
      | .im cs len sz => if 0 ≤ i ∧ i < len ∧ sz = inf.size then some (.ip (cs.drop (i.toNat * sz))) else none
      | _ => none
  | some (.array n e), .v (.int _ i) => (P.info? e).bind fun inf =>
      match x with
      | .ptr id ver off => if 0 ≤ i ∧ i < n ∧ (atP H (.ptr id ver off)).isSome then some (.ptr id ver (off + i.toNat * inf.size)) else none
      | .ip cs => if 0 ≤ i ∧ i < n then some (.ip (cs.drop (i.toNat * inf.size))) else none
      | _ => none
  | _, _ => none

theorem VR.sl_live {g : Gh} {H : Hp} {w : World} (hw : WR g H w) {id ver off len sz : Nat} {v : Value} (hx : VR g (.sl id ver off len sz) v) (hc : (cellsAt H id ver).isSome = true) :
    ∃ l o cap, g.locs[id]? = some l ∧ ver = l.ver ∧ len ≤ cap ∧ (0 < len → o = l.s + off) ∧ (cap = len ∨ o + cap * sz ≤ l.n) ∧ v = .slice (some ⟨l.b, o, none⟩) len cap := by
  obtain ⟨cs, hcs⟩ := Option.isSome_iff_exists.1 hc
  obtain ⟨e, he⟩ := cellsAt_some hcs
  obtain ⟨l, hl, hv, _⟩ := hw.cells he
  cases hx with
  | cl hx => cases hx
  | sl h2 hv2 hcap ho hg =>
    rw [hl] at h2; cases h2
    exact ⟨_, _, _, hl, hv2, hcap, ho, hg, rfl⟩
  | ssl h2 hv2 => rw [hl] at h2; cases h2; omega

theorem VR.im_inv {g : Gh} {cs : List CV} {len sz : Nat} {v : Value} (hx : VR g (.im cs len sz) v) : ∃ a b o cap, ∃ f : Nat → Value, cs.length = len * sz ∧ len ≤ cap ∧ v = .slice (some a) len cap ∧ (0 < len → a = ⟨b, o, none⟩) ∧
    (∀ i, i < cs.length → g.im b (o + i) = some (f i)) ∧ ∀ i (hi : i < cs.length), VC g.im cs[i] (f i) := by
  cases hx with
  | cl hx => cases hx with | im hl hcap ha hf hh => exact ⟨_, _, _, _, _, hl, hcap, rfl, ha, hf, hh⟩

theorem VC.drop {im : Nat → Nat → Option Value} {cs : List CV} {b o : Nat} {f : Nat → Value} (hf : ∀ i, i < cs.length → im b (o + i) = some (f i)) (hh : ∀ i (hi : i < cs.length), VC im cs[i] (f i)) (n : Nat) :
    (∀ i, i < (cs.drop n).length → im b (o + n + i) = some (f (n + i))) ∧ ∀ i (hi : i < (cs.drop n).length), VC im (cs.drop n)[i] (f (n + i)) := by
  refine ⟨fun i hi => ?_, fun i hi => ?_⟩
  · simp only [List.length_drop] at hi; rw [Nat.add_assoc]; exact hf (n + i) (by omega)
  · simp only [List.length_drop] at hi; rw [List.getElem_drop]; exact hh (n + i) (by omega)

theorem VC.take {im : Nat → Nat → Option Value} {cs : List CV} {b o : Nat} {f : Nat → Value} (hf : ∀ i, i < cs.length → im b (o + i) = some (f i)) (hh : ∀ i (hi : i < cs.length), VC im cs[i] (f i)) (n : Nat) :
    (∀ i, i < (cs.take n).length → im b (o + i) = some (f i)) ∧ ∀ i (hi : i < (cs.take n).length), VC im (cs.take n)[i] (f i) := by
  refine ⟨fun i hi => ?_, fun i hi => ?_⟩
  · simp only [List.length_take] at hi; exact hf i (by omega)
  · simp only [List.length_take] at hi; rw [List.getElem_take]; exact hh i (by omega)

theorem dIndexAddr_good {P : Program} {g : Gh} {H : Hp} {w : World} (hw : WR g H w) {t : TypeId} {x ix y : CV} {v u : Value} (hx : VR g x v) (hi : VR g ix u) (h : dIndexAddr P t x ix H = some y) :
    GoodV P g H w ((Instr.indexAt t v u).run P w) y H := by
  unfold dIndexAddr at h
  split at h
  · rename_i e k i hu
    obtain ⟨rfl, _⟩ := hi.atom
    obtain ⟨inf, hinf, h⟩ := Option.bind_eq_some_iff.1 h
    have hrun : ∀ b o len cap, 0 ≤ i → i < (len : Nat) → (Instr.indexAt t (.slice (some ⟨b, o, none⟩) len cap) (.int k i)).run P w = .ok (.pointer (some ⟨b, o + i.toNat * inf.size, none⟩)) w := by
      intro b o len cap h0 h1
      simp only [Instr.indexAt, asIntOf, Sem.run_bind, Sem.run_pure, Result.andThen_ok, run_underlying hu, Sem.run_ite, if_pos (And.intro h0 h1), run_sizeOf hinf, Addr.add_lit]
    cases x with
    | sl id ver off len sz =>
      simp only [] at h
      split at h
      · rename_i hc
        cases h
        obtain ⟨l, o, cap, hl, hv, hcap, ho, hg, rfl⟩ := hx.sl_live hw hc.2.2.2
        refine .same hw (hrun _ _ _ _ hc.1 hc.2.1) ?_
        rw [ho (by omega), hc.2.2.1, Nat.add_assoc]
        exact .ptr hl hv
      · cases h
    | im cs len sz =>
      simp only [] at h
      split at h
      · rename_i hc
        cases h
        obtain ⟨a, b, o, cap, f, hl, hcap, rfl, ha, hf, hh⟩ := hx.im_inv
        obtain rfl := ha (by omega)
        refine .same hw (hrun _ _ _ _ hc.1 hc.2.1) ?_
        obtain ⟨h1, h2⟩ := VC.drop hf hh (i.toNat * sz)
        rw [← hc.2.2]
        exact .cl (.ip h1 h2)
      · cases h
    | _ => cases h
  · rename_i n e k i hu
    obtain ⟨rfl, _⟩ := hi.atom
    obtain ⟨inf, hinf, h⟩ := Option.bind_eq_some_iff.1 h
    have hrun : ∀ b o, 0 ≤ i → i < (n : Nat) → (Instr.indexAt t (.pointer (some ⟨b, o, none⟩)) (.int k i)).run P w = .ok (.pointer (some ⟨b, o + i.toNat * inf.size, none⟩)) w := by
      intro b o h0 h1
      simp only [Instr.indexAt, asIntOf, Sem.run_bind, Sem.run_pure, Result.andThen_ok, run_underlying hu, Sem.run_ite, if_pos (And.intro h0 h1), run_sizeOf hinf, Addr.add_lit, Instr.sureAddr]
    cases x with
    | ptr id ver off =>
      simp only [] at h
      split at h
      · rename_i hc
        cases h
        obtain ⟨rest, hr⟩ := Option.isSome_iff_exists.1 hc.2.2
        obtain ⟨b, o, rfl, h3⟩ := VR.ptr_add hw (n := i.toNat * inf.size) hx hr
        exact .same hw (hrun _ _ hc.1 hc.2.1) h3
      · cases h
    | ip cs =>
      simp only [] at h
      split at h
      · rename_i hc
        cases h
        obtain ⟨b, o, rfl, h3⟩ := VR.ip_drop (n := i.toNat * inf.size) hx
        exact .same hw (hrun _ _ hc.1 hc.2) h3
      · cases h
    | _ => cases h
  · cases h

/-- An element of a string, or of an array. -/
def dIndex (P : Program) (t : TypeId) (x ix : CV) : Option CV :=
  match P.underlying t, x, ix with
  | some .string, .v (.string s), .v (.int _ i) => if 0 ≤ i ∧ i < s.size then some (.v (.int .u8 (s.get! i.toNat).toNat)) else none
  | some (.array n e), .agg cs, .v (.int _ i) => (P.info? e).bind fun inf => if 0 ≤ i ∧ i < n then dPart P e cs (i.toNat * inf.size) else none
  | _, _, _ => none

theorem dIndex_good {P : Program} {g : Gh} {H : Hp} {w : World} (hw : WR g H w) {t : TypeId} {x ix y : CV} {v u : Value} (hx : VR g x v) (hi : VR g ix u) (h : dIndex P t x ix = some y) :
    GoodV P g H w ((Instr.index t v u).run P w) y H := by
  unfold dIndex at h
  split at h
  · rename_i s k i hu
    obtain ⟨rfl, _⟩ := hi.atom
    obtain ⟨rfl, _⟩ := hx.atom
    split at h
    · rename_i hc
      cases h
      refine .same hw ?_ (.cl (.v rfl))
      have h2 : i.toNat < s.size := by omega
      have h3 : s[i.toNat]? = some (s.get! i.toNat) := by
        rw [getElem?_pos s i.toNat h2]
        congr 1
        rw [ByteArray.get!]
        show s.data[i.toNat] = _
        simp [getElem!_pos s.data i.toNat h2]
      simp only [Instr.index, asIntOf, Sem.run_bind, Sem.run_pure, Result.andThen_ok, run_underlying hu, if_pos hc.1, h3]
    · cases h
  · rename_i n e cs k i hu
    obtain ⟨rfl, _⟩ := hi.atom
    obtain ⟨inf, hinf, h⟩ := Option.bind_eq_some_iff.1 h
    split at h
    · rename_i hc
      obtain ⟨vs, rfl, hl, hh⟩ := hx.agg_inv
      obtain ⟨u, h1, h2⟩ := dPart_good (w := w) hl hh h
      refine .same hw ?_ h2
      simp only [Instr.index, asIntOf, Sem.run_bind, Sem.run_pure, Result.andThen_ok, run_underlying hu, Sem.run_ite, if_pos hc, run_sizeOf hinf]
      exact h1
    · cases h
  · cases h

/-- A bound of a slice expression. -/
def dBound (x : Option CV) (d : Nat) : Option Int :=
  match x with
  | none => some d
  | some (.v (.int _ i)) => some i
  | _ => none

/-- A slice of a string, a slice, or an array behind a pointer. -/
def dSlice (P : Program) (t : TypeId) (x : CV) (lo hi : Option CV) (H : Hp) : Option CV :=
  match P.underlying t with
  | some .string =>
    match x with
    | .v (.string s) => (dBound hi s.size).bind fun h => (dBound lo 0).bind fun l => if 0 ≤ l ∧ l ≤ h ∧ h ≤ s.size then some (.v (.string (s.extract l.toNat h.toNat))) else none
    | _ => none
  | some (.slice e) => (P.info? e).bind fun inf =>
    match x with
    | .v (.slice none _ _) => (dBound hi 0).bind fun h => (dBound lo 0).bind fun l => if h = 0 ∧ l = 0 then some (.v (.slice none 0 0)) else none
    | .sl id ver off len sz => (dBound hi len).bind fun h => (dBound lo 0).bind fun l =>
        if 0 ≤ l ∧ l ≤ h ∧ h ≤ len ∧ sz = inf.size ∧ (atS H (.sl id ver off len sz)).isSome then some (.sl id ver (off + l.toNat * sz) (h - l).toNat sz) else none
    | .im cs len sz => (dBound hi len).bind fun h => (dBound lo 0).bind fun l =>
        if 0 ≤ l ∧ l ≤ h ∧ h ≤ len ∧ sz = inf.size then some (.im ((cs.drop (l.toNat * sz)).take ((h - l).toNat * sz)) (h - l).toNat sz) else none
    | _ => none
  | some (.array n e) =>
    match x with
    | .ptr id ver off => (P.info? e).bind fun inf => (dBound hi n).bind fun h => (dBound lo 0).bind fun l => (atP H (.ptr id ver off)).bind fun rest =>
        if 0 ≤ l ∧ l ≤ h ∧ h ≤ n ∧ n * inf.size ≤ rest.length then some (.sl id ver (off + l.toNat * inf.size) (h - l).toNat inf.size) else none
    | _ => none
  | _ => none


end Go.SL

/- The operations on abstract values, and that the model's do the same: slices, lengths, single values. -/
namespace Go.SL
variable [BaseC]

def OptR (g : Gh) : Option CV → Option Value → Prop
  | none, none => True
  | some x, some v => VR g x v
  | _, _ => False

theorem dBound_run {g : Gh} {x : Option CV} {v : Option Value} (hr : OptR g x v) {d : Nat} {i : Int} (h : dBound x d = some i) :
    (v = none ∧ i = d) ∨ ∃ k, v = some (.int k i) := by
  unfold dBound at h
  split at h
  · cases h
    cases v with
    | none => exact .inl ⟨rfl, rfl⟩
    | some v => exact hr.elim
  · rename_i k i'
    cases h
    cases v with
    | none => exact hr.elim
    | some v => obtain ⟨rfl, _⟩ := VR.atom hr; exact .inr ⟨k, rfl⟩
  · cases h

theorem run_sliceBound {P : Program} {w : World} {k : IntKind} {i : Int} {y : Nat} {c : BoundsCode} (h0 : 0 ≤ i) (h1 : i ≤ y) : (Instr.sliceBound (.int k i) y c).run P w = .ok i.toNat w := by
  simp only [Instr.sliceBound, asIntOf, Sem.run_bind, Sem.run_pure, Result.andThen_ok, Sem.run_ite, if_pos (And.intro h0 h1)]

theorem run_sliceBounds {P : Program} {w : World} {b : Bool} {len cap : Nat} {lo hi : Option Value} {l h : Int} (hh : (hi = none ∧ h = len) ∨ ∃ k, hi = some (.int k h)) (hl : (lo = none ∧ l = 0) ∨ ∃ k, lo = some (.int k l))
    (h0 : 0 ≤ l) (h1 : l ≤ h) (h2 : h ≤ cap) : (Instr.sliceBounds b len cap lo hi none).run P w = .ok (l.toNat, h.toNat, cap) w := by
  have e0 : ((h.toNat : Nat) : Int) = h := Int.toNat_of_nonneg (by omega)
  rcases hh with ⟨rfl, rfl⟩ | ⟨k, rfl⟩ <;> rcases hl with ⟨rfl, rfl⟩ | ⟨k', rfl⟩
  · simp [Instr.sliceBounds]
  · simp only [Instr.sliceBounds, Sem.run_bind, Sem.run_pure, Result.andThen_ok]
    rw [run_sliceBound h0 (by omega)]
    simp
  · simp only [Instr.sliceBounds, Sem.run_bind, Sem.run_pure, Result.andThen_ok]
    rw [run_sliceBound (by omega) h2]
    simp
  · simp only [Instr.sliceBounds, Sem.run_bind, Sem.run_pure, Result.andThen_ok]
    rw [run_sliceBound (by omega) h2]
    simp only [Result.andThen_ok]
    rw [run_sliceBound h0 (by omega)]
    simp

theorem dSlice_good {P : Program} {g : Gh} {H : Hp} {w : World} (hw : WR g H w) {t : TypeId} {x y : CV} {lo hi : Option CV} {v : Value} {lo' hi' : Option Value} (hx : VR g x v) (hlo : OptR g lo lo') (hhi : OptR g hi hi')
    (h : dSlice P t x lo hi H = some y) : GoodV P g H w ((Instr.sliceAt t v lo' hi' none).run P w) y H := by
  unfold dSlice at h
  split at h
  · rename_i hu
    cases x with
    | v z =>
      cases z with
      | string s =>
        simp only [] at h
        obtain ⟨hh, hb, h⟩ := Option.bind_eq_some_iff.1 h
        obtain ⟨ll, hb2, h⟩ := Option.bind_eq_some_iff.1 h
        split at h
        · rename_i hc
          cases h
          obtain ⟨rfl, _⟩ := hx.atom
          refine .same hw ?_ (.cl (.v rfl))
          simp only [Instr.sliceAt, Instr.slice, Sem.run_bind, run_underlying hu, Result.andThen_ok, Option.isSome_none, Bool.false_eq_true, if_false]
          rw [run_sliceBounds (dBound_run hhi hb) (dBound_run hlo hb2) hc.1 hc.2.1 hc.2.2]
          simp
        · cases h
      | _ => cases h
    | _ => cases h
  · rename_i e hu
    obtain ⟨inf, hinf, h⟩ := Option.bind_eq_some_iff.1 h
    have hrun : ∀ (a : Option Addr) (len cap : Nat) (l hh : Int), ((hi' = none ∧ hh = len) ∨ ∃ k, hi' = some (.int k hh)) → ((lo' = none ∧ l = 0) ∨ ∃ k, lo' = some (.int k l)) → 0 ≤ l → l ≤ hh → hh ≤ cap →
        (Instr.sliceAt t (.slice a len cap) lo' hi' none).run P w = .ok (.slice (if cap = l.toNat then a else a.map (·.add (l.toNat * inf.size))) (hh.toNat - l.toNat) (cap - l.toNat)) w := by
      intro a len cap l hh h1 h2 h3 h4 h5
      simp only [Instr.sliceAt, Instr.slice, Sem.run_bind, run_underlying hu, Result.andThen_ok]
      rw [run_sliceBounds h1 h2 h3 h4 h5]
      simp only [Result.andThen_ok, run_sizeOf hinf, Sem.run_pure]
    cases x with
    | v z =>
      cases z with
      | slice a n c =>
        cases a with
        | none =>
          simp only [] at h
          obtain ⟨hh, hb, h⟩ := Option.bind_eq_some_iff.1 h
          obtain ⟨ll, hb2, h⟩ := Option.bind_eq_some_iff.1 h
          split at h
          · rename_i hc
            cases h
            obtain ⟨rfl, ha⟩ := hx.atom
            simp [atomV] at ha
            obtain ⟨rfl, rfl⟩ := ha
            obtain ⟨rfl, rfl⟩ := hc
            refine .same hw (hrun none 0 0 0 0 (dBound_run hhi hb) (dBound_run hlo hb2) (by omega) (by omega) (by omega)) (.cl (.v rfl))
          · cases h
        | some a => cases h
      | _ => cases h
    | sl id ver off len sz =>
      simp only [] at h
      obtain ⟨hh, hb, h⟩ := Option.bind_eq_some_iff.1 h
      obtain ⟨ll, hb2, h⟩ := Option.bind_eq_some_iff.1 h
      split at h
      · rename_i hc
        cases h
        obtain ⟨⟨cs1, n1⟩, hat⟩ := Option.isSome_iff_exists.1 hc.2.2.2.2
        have hlive : (cellsAt H id ver).isSome = true := by
          unfold atS at hat
          obtain ⟨cs0, h0, _⟩ := Option.bind_eq_some_iff.1 hat
          rw [h0]; rfl
        obtain ⟨l, o, cap, hl, hv, hcap, ho, hg, rfl⟩ := hx.sl_live hw hlive
        have hb1 := dBound_run hhi hb
        refine .same hw (hrun _ len cap ll hh hb1 (dBound_run hlo hb2) hc.1 hc.2.1 (by omega)) ?_
        have hfit : 0 < len → o + len * sz ≤ l.n := by
          intro hpos
          obtain ⟨cs0, h0, h1⟩ := Option.bind_eq_some_iff.1 (show (cellsAt H id ver).bind _ = some (cs1, n1) from hat)
          split at h1
          · rename_i hle
            obtain ⟨e', he'⟩ := cellsAt_some h0
            obtain ⟨l2, hl2, _, c, fr, hcb, hn, hs, _⟩ := hw.cells he'
            rw [hl] at hl2; cases hl2
            rw [ho hpos]; omega
          · cases h1
        have hszz := hc.2.2.2.1
        have e1 : hh.toNat - ll.toNat = (hh - ll).toNat := by omega
        rw [e1]
        by_cases hcl : cap = ll.toNat
        · rw [if_pos hcl]
          exact .sl hl hv (by omega) (fun hp => by omega) (.inl (by omega))
        · rw [if_neg hcl]
          simp only [Option.map_some, Addr.add_lit]
          refine .sl hl hv (by omega) (fun hp => ?_) ?_
          · rw [ho (by omega), hszz, Nat.add_assoc]
          · rcases hg with hg | hg
            · by_cases hz : len = 0
              · exact .inl (by omega)
              · refine .inr ?_
                have h3 := hfit (by omega)
                have : ll.toNat * inf.size + (cap - ll.toNat) * sz = cap * sz := by
                  rw [← hszz, ← Nat.add_mul]; congr 1; omega
                rw [hg] at this ⊢; omega
            · refine .inr ?_
              have : ll.toNat * inf.size + (cap - ll.toNat) * sz = cap * sz := by
                rw [← hszz, ← Nat.add_mul]; congr 1; omega
              omega
      · cases h
    | im cs len sz =>
      simp only [] at h
      obtain ⟨hh, hb, h⟩ := Option.bind_eq_some_iff.1 h
      obtain ⟨ll, hb2, h⟩ := Option.bind_eq_some_iff.1 h
      split at h
      · rename_i hc
        cases h
        obtain ⟨a, b, o, cap, f, hl, hcap, rfl, ha, hf, hhf⟩ := hx.im_inv
        have hb1 := dBound_run hhi hb
        refine .same hw (hrun _ len cap ll hh hb1 (dBound_run hlo hb2) hc.1 hc.2.1 (by omega)) ?_
        have e1 : hh.toNat - ll.toNat = (hh - ll).toNat := by omega
        rw [e1]
        have hlen : ((cs.drop (ll.toNat * sz)).take ((hh - ll).toNat * sz)).length = (hh - ll).toNat * sz := by
          simp only [List.length_take, List.length_drop, hl]
          have : (hh - ll).toNat * sz + ll.toNat * sz ≤ len * sz := by
            rw [← Nat.add_mul]; exact Nat.mul_le_mul_right _ (by omega)
          omega
        obtain ⟨d1, d2⟩ := VC.drop hf hhf (ll.toNat * sz)
        obtain ⟨t1, t2⟩ := VC.take d1 d2 ((hh - ll).toNat * sz)
        by_cases hcl : cap = ll.toNat
        · rw [if_pos hcl]
          have hz : (hh - ll).toNat = 0 := by omega
          refine .cl (.im (f := f) (b := b) (o := o) hlen (by omega) (fun h => by omega) (fun i hi => ?_) (fun i hi => ?_))
          · rw [hlen, hz] at hi; omega
          · have hi2 := hi; rw [hlen, hz] at hi2; omega
        · rw [if_neg hcl]
          simp only [Option.map_some]
          rw [← hc.2.2.2]
          exact .cl (.im hlen (by omega) (fun h => by rw [ha (by omega), Addr.add_lit]) t1 t2)
      · cases h
    | _ => cases h
  · rename_i n e hu
    split at h
    · rename_i id ver off
      obtain ⟨inf, hinf, h⟩ := Option.bind_eq_some_iff.1 h
      obtain ⟨hh, hb, h⟩ := Option.bind_eq_some_iff.1 h
      obtain ⟨ll, hb2, h⟩ := Option.bind_eq_some_iff.1 h
      obtain ⟨rest, hr, h⟩ := Option.bind_eq_some_iff.1 h
      split at h
      · rename_i hc
        cases h
        unfold atP at hr
        obtain ⟨cs0, h0, h1⟩ := Option.bind_eq_some_iff.1 hr
        split at h1
        · rename_i hof
          cases h1
          obtain ⟨e', he⟩ := cellsAt_some h0
          obtain ⟨l, hl, hv, c, fr, hcb, hn, hs, _⟩ := hw.cells he
          obtain rfl : v = .pointer (some ⟨l.b, l.s + off, none⟩) := by
            cases hx with
            | cl hx => cases hx
            | ptr h2 hv2 => rw [hl] at h2; cases h2; rfl
            | sptr h2 hv2 => rw [hl] at h2; cases h2; omega
          have hfit := hc.2.2.2
          simp only [List.length_drop] at hfit
          have e1 : hh.toNat - ll.toNat = (hh - ll).toNat := by omega
          refine .same hw (v := .slice (some (if n = ll.toNat then ⟨l.b, l.s + off, none⟩ else ⟨l.b, l.s + off + ll.toNat * inf.size, none⟩)) (hh.toNat - ll.toNat) (n - ll.toNat)) ?_ ?_
          · simp only [Instr.sliceAt, Sem.run_bind, run_underlying hu, Result.andThen_ok, Instr.sureAddr, Sem.run_pure]
            rw [run_sliceBounds (dBound_run hhi hb) (dBound_run hlo hb2) hc.1 hc.2.1 hc.2.2.1]
            simp only [Result.andThen_ok, run_sizeOf hinf]
            split
            · rfl
            · rw [Addr.add_lit]
          · rw [e1]
            by_cases hcl : n = ll.toNat
            · rw [if_pos hcl]
              exact .sl hl hv.symm (by omega) (fun hp => by omega) (.inl (by omega))
            · rw [if_neg hcl]
              refine .sl hl hv.symm (by omega) (fun hp => by omega) (.inr ?_)
              have : ll.toNat * inf.size + (n - ll.toNat) * inf.size = n * inf.size := by
                rw [← Nat.add_mul]; congr 1; omega
              omega
        · cases h1
      · cases h
    · cases h
  · cases h

/-- A length. -/
def dLen (P : Program) (t : TypeId) (x : CV) : Option CV :=
  match P.underlying t, x with
  | some .string, .v (.string s) => some (.v (.int .i64 s.size))
  | some (.slice _), .v (.slice none _ _) => some (.v (.int .i64 0))
  | some (.slice _), .im _ len _ => some (.v (.int .i64 len))
  | some (.array n _), _ => some (.v (.int .i64 n))
  | _, _ => none
/-- The length of a slice that is an object's. -/
def dLenS (P : Program) (t : TypeId) (x : CV) (H : Hp) : Option CV :=
  match P.underlying t, x with
  | some (.slice _), .sl id ver _ len _ => if (cellsAt H id ver).isSome then some (.v (.int .i64 len)) else none
  | _, _ => dLen P t x

theorem dLen_good {P : Program} {g : Gh} {H : Hp} {w : World} (hw : WR g H w) {t ty : TypeId} {x y : CV} {v : Value} (hx : VR g x v) (h : dLen P t x = some y) :
    GoodV P g H w ((Builtin.len_ #[t] ty #[v]).run P w) y H := by
  unfold dLen at h
  split at h
  · rename_i s hu
    cases h
    obtain ⟨rfl, _⟩ := hx.atom
    exact .same hw (by simp [Builtin.len_, run_underlying hu, goInt]) (.cl (.v rfl))
  · rename_i hu
    cases h
    obtain ⟨rfl, ha⟩ := hx.atom
    simp [atomV] at ha
    exact .same hw (by simp [Builtin.len_, run_underlying hu, goInt, ha.1]) (.cl (.v rfl))
  · rename_i hu
    cases h
    obtain ⟨a, b, o, cap, f, hl, hcap, rfl, ha, hf, hhf⟩ := hx.im_inv
    exact .same hw (by simp [Builtin.len_, run_underlying hu, goInt]) (.cl (.v rfl))
  · rename_i hu
    cases h
    exact .same hw (by simp [Builtin.len_, run_underlying hu, goInt]) (.cl (.v rfl))
  · cases h

theorem dLenS_good {P : Program} {g : Gh} {H : Hp} {w : World} (hw : WR g H w) {t ty : TypeId} {x y : CV} {v : Value} (hx : VR g x v) (h : dLenS P t x H = some y) :
    GoodV P g H w ((Builtin.len_ #[t] ty #[v]).run P w) y H := by
  unfold dLenS at h
  split at h
  · rename_i e id ver off len sz hu
    split at h
    · rename_i hc
      cases h
      obtain ⟨l, o, cap, hl, hv, hcap, ho, hg, rfl⟩ := hx.sl_live hw hc
      exact .same hw (by simp [Builtin.len_, run_underlying hu, goInt]) (.cl (.v rfl))
    · cases h
  · exact dLen_good hw hx h

/-- A component. -/
def dExtract (x : CV) (i : Nat) : Option CV :=
  match x with
  | .tup cs => cs[i]?
  | _ => none

theorem dExtract_good {P : Program} {g : Gh} {H : Hp} {w : World} (hw : WR g H w) {i : Nat} {x y : CV} {v : Value} (hx : VR g x v) (h : dExtract x i = some y) :
    GoodV P g H w ((Instr.extract v i).run P w) y H := by
  unfold dExtract at h
  split at h
  · obtain ⟨vs, rfl, hl, hh⟩ := hx.tup_inv
    obtain ⟨h1, h2⟩ := List.getElem?_eq_some_iff.1 h
    refine .same (v := vs[i]'(by omega)) hw ?_ (h2 ▸ hh i h1 (by omega))
    simp only [Instr.extract]
    rw [Array.getElem?_eq_getElem (by omega)]
    rfl
  · cases h

/-- A pointer to the beginning of an object that has never been appended to, of this type. -/
def unsOK (P : Program) (t : TypeId) (x : CV) (H : Hp) : Bool :=
  match x with
  | .ptr id 0 0 => (match H[id]? with | some (.cells 0 cs e) => e == t && decide (0 < P.cellsOf t) && decide (P.cellsOf t ≤ cs.length) && (match P.info? t with | some i => i.size != 0 | none => false) | _ => false)
  | _ => false
theorem liesAt_self {P : Program} {e : TypeId} {n count : Nat} (hc : P.cellsOf e = n) (hn : 0 < n) (h1 : 1 ≤ count) : liesAt P P.depth e count 0 e 1 = true := by
  have hd : P.depth = (2 * (P.types.size + Made.depth) + 1) + 1 := rfl
  rw [hd]
  simp only [liesAt, Bool.or_eq_true]
  left
  rw [hd]
  have : ¬ P.cellsOf e = 0 := by omega
  simp [rowAt, this, sameLayout, h1]
theorem uns_inv {P : Program} {g : Gh} {H : Hp} {w : World} (hw : WR g H w) {t : TypeId} {x : CV} {v : Value} (hx : VR g x v) (h : unsOK P t x H = true) :
    ∃ b n i, v = .pointer (some ⟨b, 0, none⟩) ∧ w.shape? b = some (t, n) ∧ 0 < P.cellsOf t ∧ P.cellsOf t ≤ n ∧ P.info? t = some i ∧ i.size ≠ 0 := by
  unfold unsOK at h
  split at h
  · rename_i id
    split at h
    · rename_i cs e he
      simp only [Bool.and_eq_true, beq_iff_eq, decide_eq_true_eq] at h
      obtain ⟨⟨⟨rfl, h1⟩, h2⟩, h3⟩ := h
      obtain ⟨l, hl, hv, c, fr, hb, hn, hs, hcs, hf⟩ := hw.cells he
      have h0 := hw.org _ _ _ l he hl
      cases hi : P.info? e with
      | none => rw [hi] at h3; cases h3
      | some i =>
        rw [hi] at h3
        refine ⟨l.b, c.size, i, ?_, by simp [World.shape?, hb], h1, by omega, rfl, by simpa using h3⟩
        cases hx with
        | cl hx => cases hx
        | ptr h4 hv4 => rw [hl] at h4; cases h4; rw [h0]
        | sptr h4 hv4 => rw [hl] at h4; cases h4; omega
    · cases h
  · cases h
/-- A conversion: between whole numbers, of bytes to a text. -/
def numsOf : List CV → Option (List Int)
  | [] => some []
  | .v (.int .u8 n) :: cs => (numsOf cs).map (n :: ·)
  | _ => none

theorem numsOf_get {cs : List CV} {ns : List Int} (h : numsOf cs = some ns) : ns.length = cs.length ∧ ∀ i (hi : i < cs.length), cs[i] = .v (.int .u8 (ns.getD i 0)) := by
  induction cs generalizing ns with
  | nil => simp only [numsOf, Option.some.injEq] at h; subst h; exact ⟨rfl, fun i hi => absurd hi (by simp)⟩
  | cons c cs ih =>
    unfold numsOf at h
    split at h
    · rename_i heq; cases heq
    · rename_i n cs' heq
      cases heq
      obtain ⟨ns', h1, h2⟩ := Option.map_eq_some_iff.1 h
      subst h2
      obtain ⟨h3, h4⟩ := ih h1
      refine ⟨by simp [h3], fun i hi => ?_⟩
      cases i with
      | zero => simp
      | succ i => simp only [List.getElem_cons_succ, List.getD_cons_succ]; exact h4 i (by simpa using hi)
    · cases h

def isU8 : Option TypeDesc → Bool
  | some (.int .u8) => true
  | _ => false
theorem isU8_eq {d : Option TypeDesc} (h : isU8 d = true) : d = some (.int .u8) := by
  unfold isU8 at h
  split at h
  · rfl
  · cases h

def dConv (P : Program) (s d : TypeId) (x : CV) (H : Hp) : Option CV :=
  match P.underlying s, P.underlying d with
  | some _, some (.int k) => (match x with | .v (.int _ n) => some (.v (.int k (k.wrap n))) | _ => none)
  | some (.slice e), some .string => if isU8 (P.underlying e) then (atS H x).bind fun (cs, n) => (numsOf cs).bind fun ns => if cs.length = n then some (.v (.string (strOfNums ns))) else none else none
  | some .string, some .string => (match x with | .v (.string s) => some (.v (.string s)) | _ => none)
  | some (.pointer t), some .unsafePointer => if unsOK P t x H then some x else none
  | some .unsafePointer, some (.pointer t) => if unsOK P t x H then some x else none
  | _, _ => none

theorem dConv_good {P : Program} {g : Gh} {H : Hp} {w : World} (hw : WR g H w) {s d : TypeId} {x y : CV} {v : Value} (hx : VR g x v) (h : dConv P s d x H = some y) :
    GoodV P g H w ((convert s d v).run P w) y H := by
  unfold dConv at h
  split at h
  · rename_i ds k hs hd
    split at h
    · cases h
      obtain ⟨rfl, _⟩ := hx.atom
      refine .same hw ?_ (.cl (.v rfl))
      simp [convert, run_underlying hs, run_underlying hd, Conv.intToInt]
    · cases h
  · rename_i e hs hd
    split at h
    · rename_i he
      replace he := isU8_eq he
      obtain ⟨⟨cs, n⟩, hat, h⟩ := Option.bind_eq_some_iff.1 h
      obtain ⟨ns, hns, h⟩ := Option.bind_eq_some_iff.1 h
      split at h
      · rename_i hcn
        cases h
        obtain ⟨h1, h2⟩ := numsOf_get hns
        refine .same hw ?_ (.cl (.v rfl))
        rcases hw.at_sl hx hat with ⟨rfl, rfl, rfl⟩ | ⟨a, b, o, cap, rfl, hcap, ha, hh, hz⟩
        · have : ns = [] := List.eq_nil_of_length_eq_zero (by simpa using h1)
          subst this
          rw [run_convert_bytes_nil w s e hs he 0 0 d hd]
          rfl
        · by_cases hn0 : n = 0
          · subst hn0
            have : ns = [] := List.eq_nil_of_length_eq_zero (by omega)
            subst this
            rw [run_convert_bytes_string w s d e _ 0 cap hs he hd]
            have hlc : (loadCells a 0).run P w = .ok #[] w := by simpa using run_loadCells_list (P := P) w a [] (by simp)
            simp [Conv.bytesToString, hlc, strOfNums]
            rfl
          obtain rfl := ha (by omega)
          refine run_convert_bytes_arg w s e hs he b o n cap ns (by omega) (fun i hi => ?_) d hd
          obtain ⟨u, h3, h4, h5⟩ := hh (by omega) i (by omega)
          rw [h2 i (by omega)] at h5
          obtain ⟨rfl, _⟩ := h5.atom
          exact h3
      · cases h
    · cases h
  · rename_i hs hd
    split at h
    · cases h
      obtain ⟨rfl, _⟩ := hx.atom
      refine .same hw ?_ (.cl (.v rfl))
      simp [convert, run_underlying hs, run_underlying hd]
    · cases h
  · rename_i t hs hd
    split at h
    · rename_i ho
      cases h
      obtain ⟨b, n, i, rfl, h1, h2, h3, h4, h5⟩ := uns_inv hw hx ho
      exact .same hw (Lib.run_to_unsafe w ⟨b, 0, none⟩ hs hd h4 h5 h1 (show 0 < n by omega)) hx
    · cases h
  · rename_i t hs hd
    split at h
    · rename_i ho
      cases h
      obtain ⟨b, n, i, rfl, h1, h2, h3, h4, h5⟩ := uns_inv hw hx ho
      exact .same hw (Lib.run_from_unsafe w ⟨b, 0, none⟩ hs hd h4 h1 (liesAt_self rfl h2 (Nat.div_pos h3 h2))) hx
    · cases h
  · cases h

end Go.SL

/- The operations on abstract values, and that the model's do the same: what makes memory. -/
namespace Go.SL
variable [BaseC]

/-- A later world, the old blocks as they were. -/
structure Later (w w2 : World) : Prop where
  os : w2.os = w.os
  tape : w2.tape = w.tape
  output : w2.output = w.output
  size : w.heap.size ≤ w2.heap.size
  old : ∀ b, b < w.heap.size → w2.heap[b]? = w.heap[b]?

theorem WR.later {g : Gh} {H : Hp} {w w2 : World} (h : WR g H w) (hl : Later w w2) : WR g H w2 := by
  refine ⟨h.len, fun id o l a b => ?_, h.inj, fun b o v hb => ?_, h.dis, fun b hb => ⟨Nat.lt_of_lt_of_le (h.own b hb).1 hl.size, (h.own b hb).2⟩, h.base, h.org, fun b c hb => by
    obtain ⟨e2, f2, h2⟩ := h.blk b c hb
    exact ⟨e2, f2, by rw [hl.old b (Array.getElem?_eq_some_iff.1 h2).1]; exact h2⟩⟩
  · by_cases hlv : o.live = true
    · exact (h.obj id o l a b).congr (hl.old _ ((h.obj id o l a b).lt hlv))
    · cases o with
      | gone ver => exact h.obj id _ l a b
      | cells => simp [CO.live] at hlv
      | map => simp [CO.live] at hlv
      | loop => simp [CO.live] at hlv
  · have := h.im b o v hb
    exact ⟨by rw [World.cell?_of_block (w := w) (w' := w2) (a := ⟨b, o, none⟩) (hl.old b (h.lt_im hb))]; exact this.1, this.2⟩

theorem Later.evo {g : Gh} {H : Hp} {w w2 : World} (hl : Later w w2) : Evo g H w g H w2 := ⟨hl.os, hl.tape, hl.output, hl.size, fun b hb _ => hl.old b hb, fun _ h => .inr h, fun _ _ _ h => h, locs_refl g, fun _ h => h⟩

/-- An object at a block that is no other's. -/
theorem WR.add {g : Gh} {H : Hp} {w : World} (h : WR g H w) (o : CO) (l : Loc) (hfree : ∀ (id : Nat) (x : CO) (m : Loc), H[id]? = some x → x.live = true → g.locs[id]? = some m → m.b ≠ l.b) (him : ∀ off, g.im l.b off = none) (hown : ¬ g.own l.b)
    (ho : OR (g.add l) o l w) (horg : ∀ cs e, o = .cells 0 cs e → l.s = 0) : WR (g.add l) (H ++ [o]) w := by
  have hold : ∀ (id : Nat) (o' : CO), (H ++ [o])[id]? = some o' → (id < H.length ∧ H[id]? = some o') ∨ (id = H.length ∧ o' = o) := by
    intro id o' hid
    rcases Nat.lt_or_ge id H.length with hlt | hge
    · rw [List.getElem?_append_left hlt] at hid; exact .inl ⟨hlt, hid⟩
    · rw [List.getElem?_append_right hge] at hid
      have : id - H.length = 0 := by
        rcases Nat.eq_zero_or_pos (id - H.length) with e | e
        · exact e
        · rw [List.getElem?_eq_none (by simp; omega)] at hid; cases hid
      rw [this] at hid; simp at hid
      exact .inr ⟨by omega, hid.symm⟩
  have hloc : ∀ (id : Nat) (m : Loc), (g.add l).locs[id]? = some m → (id < H.length ∧ g.locs[id]? = some m) ∨ (id = H.length ∧ m = l) := by
    intro id m hid
    simp only [Gh.add] at hid
    rcases Nat.lt_or_ge id H.length with hlt | hge
    · rw [List.getElem?_append_left (by rw [h.len]; exact hlt)] at hid; exact .inl ⟨hlt, hid⟩
    · rw [List.getElem?_append_right (by rw [h.len]; exact hge)] at hid
      have : id - g.locs.length = 0 := by
        rcases Nat.eq_zero_or_pos (id - g.locs.length) with e | e
        · exact e
        · rw [List.getElem?_eq_none (by simp; omega)] at hid; cases hid
      rw [this] at hid; simp at hid
      have := h.len
      exact .inr ⟨by omega, hid.symm⟩
  refine ⟨by simp [Gh.add, h.len], ?_, ?_, h.im, ?_, ?_, h.base, fun i cs' e' m hi hm => by
    rcases hold i _ hi with ⟨a1, a2⟩ | ⟨a1, a2⟩
    · rcases hloc i m hm with ⟨_, b2⟩ | ⟨b1, _⟩
      · exact h.org _ _ _ m a2 b2
      · omega
    · rcases hloc i m hm with ⟨b1, _⟩ | ⟨_, rfl⟩
      · omega
      · exact horg _ _ a2.symm, h.blk⟩
  · intro id o' m h1 h2
    rcases hold id o' h1 with ⟨a1, a2⟩ | ⟨a1, rfl⟩
    · rcases hloc id m h2 with ⟨_, b2⟩ | ⟨b1, _⟩
      · exact OR.mono (g := g) (g2 := g.add l) (fun _ _ _ x => x) (locs_app g l) (fun _ h => h) (h.obj id o' m a2 b2)
      · omega
    · rcases hloc id m h2 with ⟨b1, _⟩ | ⟨_, rfl⟩
      · omega
      · exact ho
  · intro i j oi oj li lj h1 h2 h3 h4 h5 h6 e
    rcases hold i oi h1 with ⟨a1, a2⟩ | ⟨a1, rfl⟩ <;> rcases hold j oj h2 with ⟨b1, b2⟩ | ⟨b1, rfl⟩
    · rcases hloc i li h5 with ⟨_, c2⟩ | ⟨c1, _⟩
      · rcases hloc j lj h6 with ⟨_, d2⟩ | ⟨d1, _⟩
        · exact h.inj i j oi oj li lj a2 b2 h3 h4 c2 d2 e
        · omega
      · omega
    · rcases hloc i li h5 with ⟨_, c2⟩ | ⟨c1, _⟩
      · rcases hloc j lj h6 with ⟨d1, _⟩ | ⟨_, rfl⟩
        · omega
        · exact absurd e (hfree i oi li a2 h3 c2)
      · omega
    · rcases hloc j lj h6 with ⟨_, c2⟩ | ⟨c1, _⟩
      · rcases hloc i li h5 with ⟨d1, _⟩ | ⟨_, rfl⟩
        · omega
        · exact absurd e.symm (hfree j oj lj b2 h4 c2)
      · omega
    · omega
  · intro id o' m h1 h2 h3 off
    rcases hold id o' h1 with ⟨a1, a2⟩ | ⟨a1, rfl⟩
    · rcases hloc id m h3 with ⟨_, b2⟩ | ⟨b1, _⟩
      · exact h.dis id o' m a2 h2 b2 off
      · omega
    · rcases hloc id m h3 with ⟨b1, _⟩ | ⟨_, rfl⟩
      · omega
      · exact him off
  · intro b hb
    replace hb : g.own b := hb
    refine ⟨(h.own b hb).1, fun id o' m h1 h2 h3 => ?_⟩
    rcases hold id o' h1 with ⟨a1, a2⟩ | ⟨a1, rfl⟩
    · rcases hloc id m h3 with ⟨_, b2⟩ | ⟨b1, _⟩
      · exact (h.own b hb).2 id o' m a2 h2 b2
      · omega
    · rcases hloc id m h3 with ⟨b1, _⟩ | ⟨_, rfl⟩
      · omega
      · intro e; subst e; exact hown hb

/-- What is an object's, behind it. -/
theorem Mine.add {g : Gh} {H : Hp} (hlen : g.locs.length = H.length) {o : CO} {l : Loc} {b : Nat} (h : Mine (g.add l) (H ++ [o]) b) : b = l.b ∨ Mine g H b := by
  rcases h with h | ⟨id, x, m, h1, h2, h3, rfl⟩
  · exact .inr (.inl h)
  · rcases Nat.lt_or_ge id H.length with hlt | hge
    · rw [List.getElem?_append_left hlt] at h1
      simp only [Gh.add] at h3
      rw [List.getElem?_append_left (by omega)] at h3
      exact .inr (.inr ⟨id, x, m, h1, h2, h3, rfl⟩)
    · simp only [Gh.add] at h3
      rw [List.getElem?_append_right (by omega)] at h3
      have : id - g.locs.length = 0 := by
        rcases Nat.eq_zero_or_pos (id - g.locs.length) with e | e
        · exact e
        · rw [List.getElem?_eq_none (by simp; omega)] at h3; cases h3
      rw [this] at h3; simp at h3
      exact .inl (by rw [h3])

theorem WR.free_new {g : Gh} {H : Hp} {w : World} (h : WR g H w) {b : Nat} (hb : w.heap.size ≤ b) :
    (∀ (id : Nat) (x : CO) (m : Loc), H[id]? = some x → x.live = true → g.locs[id]? = some m → m.b ≠ b) ∧ (∀ off, g.im b off = none) ∧ ¬ g.own b := by
  refine ⟨fun id x m h1 h2 h3 => ?_, fun off => ?_, fun hx => ?_⟩
  · have := (h.obj id x m h1 h3).lt h2; omega
  · cases hx : g.im b off with
    | none => rfl
    | some v => have := h.lt_im hx; omega
  · have := (h.own b hx).1; omega

/-- New cells are a new object. -/
theorem WR.fresh {g : Gh} {H : Hp} {w w2 : World} (h : WR g H w) (hl : Later w w2) {cs : List CV} {e : TypeId} {c : Array Value} {fr : Nat × Nat} (hb : w2.heap[w.heap.size]? = some (.cells c e fr)) (hlen : cs.length ≤ c.size)
    (hc : ∀ i (hi : i < cs.length), ∃ v, c[i]? = some v ∧ v.oneCell' = true ∧ VR g cs[i] v) (hf : fr = (0, 0) ∨ c.size ≤ fr.1) :
    WR (g.add ⟨w.heap.size, 0, 0, c.size⟩) (H ++ [.cells 0 cs e]) w2 ∧ Evo g H w (g.add ⟨w.heap.size, 0, 0, c.size⟩) (H ++ [.cells 0 cs e]) w2 := by
  obtain ⟨f1, f2, f3⟩ := h.free_new (Nat.le_refl w.heap.size)
  refine ⟨(h.later hl).add _ ⟨w.heap.size, 0, 0, c.size⟩ f1 f2 f3 ⟨rfl, c, fr, hb, rfl, by simpa using hlen, fun i hi => ?_, fun o ho => ?_⟩ fun _ _ _ => rfl, ⟨hl.os, hl.tape, hl.output, hl.size, fun b hb _ => hl.old b hb, fun b hb => (hb.add h.len).imp (fun e => by rw [e]; exact Nat.le_refl _) id, fun _ _ _ h => h, locs_app g _, fun _ h => h⟩⟩
  · obtain ⟨v, h1, h2, h3⟩ := hc i hi
    exact ⟨v, by simpa using h1, h2, VR.mono (g := g) (g2 := g.add ⟨w.heap.size, 0, 0, c.size⟩) (fun _ _ _ x => x) (locs_app g _) (fun _ h => h) h3⟩
  · simp only [World.frozen?, hb]
    rcases hf with rfl | hf
    · simp
    · simp; omega

/-- New cells are closed. -/
theorem WR.close {g : Gh} {H : Hp} {w w2 : World} (h : WR g H w) (hl : Later w w2) {e : TypeId} {c : Array Value} {fr : Nat × Nat} (hb : w2.heap[w.heap.size]? = some (.cells c e fr)) (h1 : ∀ v ∈ c, v.oneCell' = true) :
    WR (g.close w.heap.size c) H w2 ∧ Evo g H w (g.close w.heap.size c) H w2 ∧ (∀ o v, c[o]? = some v → (g.close w.heap.size c).im w.heap.size o = some v) := by
  obtain ⟨f1, f2, f3⟩ := h.free_new (Nat.le_refl w.heap.size)
  have h2 := h.later hl
  have him : ∀ b o v, g.im b o = some v → (g.close w.heap.size c).im b o = some v := by
    intro b o v hb
    have := h.lt_im hb
    simp only [Gh.close]
    rw [if_neg (by omega)]; exact hb
  refine ⟨⟨h.len, fun id o l a b => OR.mono (g := g) (g2 := g.close w.heap.size c) him (locs_refl g) (fun _ h => .inr h) (h2.obj id o l a b), h.inj, ?_, ?_, ?_, fun b o v hv => him _ _ _ (h.base b o v hv), h.org, h2.blk⟩, ⟨hl.os, hl.tape, hl.output, hl.size, fun b hb _ => hl.old b hb, ?_, him, locs_refl g, fun _ h => .inr h⟩, fun o v hv => by simp [Gh.close, hv]⟩
  · intro b o v hbv
    simp only [Gh.close] at hbv
    split at hbv
    · rename_i e1
      subst e1
      exact ⟨by simp [World.cell?, hb, hbv], h1 v (Array.mem_of_getElem? hbv)⟩
    · exact h2.im b o v hbv
  · intro id o l a b d off
    have := f1 id o l a b d
    simp only [Gh.close]
    rw [if_neg this]
    exact h.dis id o l a b d off
  · rintro b (rfl | hbo)
    · exact ⟨(Array.getElem?_eq_some_iff.1 hb).1, f1⟩
    · exact h2.own b hbo
  · rintro b ((rfl | hbo) | hbo)
    · exact .inl (Nat.le_refl _)
    · exact .inr (.inl hbo)
    · exact .inr (.inr hbo)

theorem Gh.add_last (g : Gh) {H : Hp} {w : World} (h : WR g H w) (l : Loc) : (g.add l).locs[H.length]? = some l := by
  simp [Gh.add, ← h.len]

theorem later_alloc (w : World) (o : Obj) : Later w (w.alloc o) := ⟨rfl, rfl, rfl, by simp, fun b hb => heap_alloc_lt w o b hb⟩
theorem later_drew_alloc (w : World) (o : Obj) : Later w (w.drew.alloc o) := ⟨rfl, rfl, rfl, by simp, fun b hb => heap_alloc_lt w.drew o b hb⟩

/-- The cells of a zero. -/
def zeroL (P : Program) (t : TypeId) : Option (List CV) :=
  (P.info? t).bind fun i => i.zero.bind fun z => if z.cells.toList.all atomV then some (z.cells.toList.map .v) else none

theorem atomV_one {v : Value} (h : atomV v = true) : v.oneCell' = true := by
  cases v <;> first | rfl | (simp [atomV] at h)

theorem zeroL_run {P : Program} {t : TypeId} {zs : List CV} (h : zeroL P t = some zs) (w : World) : ∃ z, (zeroValue t).run P w = .ok z w ∧ zs.length = z.cells.size ∧
    ∀ (g : Gh) i (hi : i < zs.length), ∃ v, z.cells[i]? = some v ∧ v.oneCell' = true ∧ VR g zs[i] v := by
  unfold zeroL at h
  obtain ⟨i, hi, h⟩ := Option.bind_eq_some_iff.1 h
  obtain ⟨z, hz, h⟩ := Option.bind_eq_some_iff.1 h
  split at h
  · rename_i hall
    cases h
    refine ⟨z, by simp [zeroValue, typeInfo, hi, hz], by simp, fun g j hj => ?_⟩
    have hj' : j < z.cells.size := by simpa using hj
    have := List.all_eq_true.1 hall z.cells[j] (by simp)
    refine ⟨z.cells[j], Array.getElem?_eq_getElem hj', atomV_one this, ?_⟩
    simp only [List.getElem_map, Array.getElem_toList]
    exact .cl (.v this)
  · cases h

def dAlloc (P : Program) (t : TypeId) (H : Hp) : Option (CV × Hp) :=
  (zeroL P t).map fun zs => (.ptr H.length 0 0, H ++ [.cells 0 zs t])

theorem dAlloc_good {P : Program} {g : Gh} {H H2 : Hp} {w : World} (hw : WR g H w) {t : TypeId} {y : CV} {old : Value} (h : dAlloc P t H = some (y, H2)) :
    GoodV P g H w ((Instr.alloc t true old).run P w) y H2 := by
  unfold dAlloc at h
  obtain ⟨zs, hz, h⟩ := Option.map_eq_some_iff.1 h
  cases h
  obtain ⟨z, h1, h2, h3⟩ := zeroL_run hz w
  obtain ⟨a1, a2⟩ := hw.fresh (later_alloc w (.cells z.cells t)) (heap_alloc_new w _) (cs := zs) (by omega) (h3 g) (.inl rfl)
  refine ⟨.pointer (some ⟨w.heap.size, 0, none⟩), _, _, ?_, VR.ptr (l := ⟨w.heap.size, 0, 0, z.cells.size⟩) (g.add_last hw _) rfl, a1, a2⟩
  simp [Instr.alloc, h1, newVar, newRow]

/-- An object that is laid anew where a variable is made once more. -/
def dRealloc (P : Program) (t : TypeId) (old : CV) (H : Hp) : Option (CV × Hp) :=
  match old with
  | .ptr id ver 0 =>
    match H[id]? with
    | some (.cells v cs e) => if v = ver ∧ e = t then (zeroL P t).map fun zs => (.ptr id (ver + 1) 0, H.set id (.cells (ver + 1) zs t)) else none
    | _ => none
  | _ => none

theorem dRealloc_good {P : Program} {g : Gh} {H H2 : Hp} {w : World} (hw : WR g H w) {t : TypeId} {y x : CV} {old : Value} (h : dRealloc P t x H = some (y, H2)) :
    GoodV P g H w ((Instr.alloc t true old).run P w) y H2 := by
  unfold dRealloc at h
  split at h
  · rename_i id ver
    split at h
    · rename_i v cs e hc
      split at h
      · rename_i hve
        obtain ⟨rfl, rfl⟩ := hve
        obtain ⟨zs, hz, h⟩ := Option.map_eq_some_iff.1 h
        cases h
        obtain ⟨l, hl, hv, _⟩ := hw.cells hc
        obtain ⟨z, h1, h2, h3⟩ := zeroL_run hz w
        obtain ⟨a1, a2⟩ := hw.relay (w2 := w.alloc (.cells z.cells e)) (l2 := ⟨w.heap.size, 0, v + 1, z.cells.size⟩) (o2 := .cells (v + 1) zs e) hc rfl hl (by simp [hv]) (.inr (Nat.le_refl _)) rfl rfl rfl (by simp) (fun b hb _ => heap_alloc_lt w _ b hb)
          ⟨rfl, z.cells, (0, 0), heap_alloc_new w _, rfl, by simp; omega, fun i hi => by simpa using h3 _ i hi, fun o ho => by simp⟩
        refine ⟨.pointer (some ⟨w.heap.size, 0, none⟩), _, _, ?_, VR.ptr (l := ⟨w.heap.size, 0, v + 1, z.cells.size⟩) ?_ rfl, a1, a2⟩
        · simp [Instr.alloc, h1, newVar, newRow]
        · simp [Gh.move, (List.getElem?_eq_some_iff.1 hl).1]
      · cases h
    · cases h
  · cases h

def dBox (t : TypeId) (x : CV) (H : Hp) : Option (CV × Hp) :=
  (cvCells x).map fun cs => (.ptr H.length 0 0, H ++ [.cells 0 cs t])

theorem dBox_good {P : Program} {g : Gh} {H H2 : Hp} {w : World} (hw : WR g H w) {t : TypeId} {x y : CV} {v : Value} (hx : VR g x v) (h : dBox t x H = some (y, H2)) :
    GoodV P g H w ((Instr.box t v).run P w) y H2 := by
  unfold dBox at h
  obtain ⟨cs, hc, h⟩ := Option.map_eq_some_iff.1 h
  cases h
  obtain ⟨h1, h2⟩ := hx.cells hc
  obtain ⟨a1, a2⟩ := hw.fresh (later_alloc w (.cells v.cells t)) (heap_alloc_new w _) (cs := cs) (by simp at h1; omega) (fun i hi => by
    have hi' : i < v.cells.toList.length := by omega
    have hi2 : i < v.cells.size := by simpa using hi'
    have := h2 i hi hi'
    simp only [Array.getElem_toList] at this
    exact ⟨v.cells[i], Array.getElem?_eq_getElem hi2, this.2, this.1⟩) (.inl rfl)
  refine ⟨.pointer (some ⟨w.heap.size, 0, none⟩), _, _, ?_, VR.ptr (l := ⟨w.heap.size, 0, 0, v.cells.size⟩) (g.add_last hw _) rfl, a1, a2⟩
  simp [Instr.box, newVar, newRow]

end Go.SL

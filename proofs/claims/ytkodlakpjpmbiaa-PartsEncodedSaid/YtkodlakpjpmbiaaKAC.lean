/- What of the objects is dropped at a function's end; its results closed. -/
import Derived.Test.YtkodlakpjpmbiaaKAB
import Derived.Orders
import Derived.LoopNIn
import Derived.OrdersIn
import Derived.TacticsIn
import Derived.Scope
import Derived.RangeFuncLeaves
import Derived.RangeFuncRecord

set_option linter.all false

namespace Go.SL
variable [BaseC]
set_option linter.unusedVariables false

mutual
/-- Does a value refer to objects below m alone? -/
def topLe (m : Nat) : CV → Bool
  | .ptr id _ _ | .sl id _ _ _ _ | .mp id _ | .yl id _ => decide (id < m)
  | .fn _ fs cs => topLeL m fs && topLeL m cs
  | .ifc _ x => topLe m x
  | .agg cs | .tup cs => topLeL m cs
  | _ => true
def topLeL (m : Nat) : List CV → Bool
  | [] => true
  | x :: xs => topLe m x && topLeL m xs
end

theorem topLeL_get {m : Nat} : ∀ {xs : List CV} (i : Nat) (hi : i < xs.length), topLeL m xs = true → topLe m xs[i] = true
  | x :: xs, 0, _, h => by simp only [topLeL, Bool.and_eq_true] at h; exact h.1
  | x :: xs, i + 1, hi, h => by simp only [topLeL, Bool.and_eq_true] at h; simpa using topLeL_get i (by simpa using hi) h.2
theorem topLeL_of {m : Nat} : ∀ {xs : List CV}, (∀ i (hi : i < xs.length), topLe m xs[i] = true) → topLeL m xs = true
  | [], _ => rfl
  | x :: xs, h => by simp only [topLeL, Bool.and_eq_true]; exact ⟨h 0 (by simp), topLeL_of fun i hi => h (i + 1) (by simpa using hi)⟩

theorem VR.topLe {g : Gh} {x : CV} {v : Value} (h : VR g x v) : topLe g.locs.length x = true := by
  have cl : ∀ {x : CV} {v : Value}, VC g.im x v → Go.SL.topLe g.locs.length x = true := by
    intro x v h
    induction h with
    | v _ => rfl
    | undef => rfl
    | im _ _ _ _ _ _ => rfl
    | ip _ _ _ => rfl
    | agg hl _ ih => exact topLeL_of fun i hi => ih i hi (by omega)
    | tup hl _ ih => exact topLeL_of fun i hi => ih i hi (by omega)
    | ifc _ ih => exact ih
  induction h with
  | cl h => exact cl h
  | ptr h _ => simpa [Go.SL.topLe] using (List.getElem?_eq_some_iff.1 h).1
  | sptr h _ _ => simpa [Go.SL.topLe] using (List.getElem?_eq_some_iff.1 h).1
  | sl h _ _ _ _ => simpa [Go.SL.topLe] using (List.getElem?_eq_some_iff.1 h).1
  | ssl h _ _ => simpa [Go.SL.topLe] using (List.getElem?_eq_some_iff.1 h).1
  | lit _ _ _ _ _ => rfl
  | mp h _ => simpa [Go.SL.topLe] using (List.getElem?_eq_some_iff.1 h).1
  | smp h _ _ => simpa [Go.SL.topLe] using (List.getElem?_eq_some_iff.1 h).1
  | yl h _ => simpa [Go.SL.topLe] using (List.getElem?_eq_some_iff.1 h).1
  | syl h _ _ => simpa [Go.SL.topLe] using (List.getElem?_eq_some_iff.1 h).1
  | fn hl hl2 _ _ _ ih ih2 => simp only [Go.SL.topLe, Bool.and_eq_true]; exact ⟨topLeL_of fun i hi => ih i hi (by omega), topLeL_of fun i hi => ih2 i hi (by omega)⟩
  | ifc _ ih => exact ih
  | agg hl _ ih => exact topLeL_of fun i hi => ih i hi (by omega)
  | tup hl _ ih => exact topLeL_of fun i hi => ih i hi (by omega)

def Gh.take (g : Gh) (m : Nat) : Gh := { g with locs := g.locs.take m }

theorem VR.trunc {g : Gh} {m : Nat} {x : CV} {v : Value} (h : VR g x v) : Go.SL.topLe m x = true → VR (g.take m) x v := by
  have loc : ∀ {id : Nat} {l : Loc}, g.locs[id]? = some l → decide (id < m) = true → (g.take m).locs[id]? = some l := by
    intro id l h1 h2
    have : id < m := of_decide_eq_true h2
    simp only [Gh.take, List.getElem?_take, this, if_true]; exact h1
  induction h with
  | cl h => exact fun _ => .cl h
  | ptr h hv => exact fun ht => .ptr (loc h ht) hv
  | sptr h hv h1 => exact fun ht => .sptr (loc h ht) hv h1
  | sl h hv hc ho hg => exact fun ht => .sl (loc h ht) hv hc ho hg
  | ssl h hv h1 => exact fun ht => .ssl (loc h ht) hv h1
  | lit ho hl hc hf hh => exact fun _ => .lit ho hl hc hf hh
  | mp h hv => exact fun ht => .mp (loc h ht) hv
  | smp h hv h1 => exact fun ht => .smp (loc h ht) hv h1
  | yl h hv => exact fun ht => .yl (loc h ht) hv
  | syl h hv h1 => exact fun ht => .syl (loc h ht) hv h1
  | fn hl hl2 _ _ hy ih ih2 =>
    intro ht
    simp only [Go.SL.topLe, Bool.and_eq_true] at ht
    exact .fn hl hl2 (fun i hi hi' => ih i hi hi' (topLeL_get i hi ht.1)) (fun i hi hi' => ih2 i hi hi' (topLeL_get i hi ht.2)) hy
  | ifc _ ih => exact fun ht => .ifc (ih ht)
  | agg hl _ ih => exact fun ht => .agg hl fun i hi hi' => ih i hi hi' (topLeL_get i hi ht)
  | tup hl _ ih => exact fun ht => .tup hl fun i hi hi' => ih i hi hi' (topLeL_get i hi ht)

/-- Do objects refer to those below m alone? -/
def CO.topLe (m : Nat) : CO → Bool
  | .cells _ cs _ => topLeL m cs
  | .map _ es _ => es.all fun e => Go.SL.topLe m e.2
  | .loop _ _ ts .. => topLeL m ts
  | .gone _ => true

def Sealed (H : Hp) (m : Nat) : Prop := ∀ (id : Nat) (o : CO), id < m → H[id]? = some o → o.topLe m = true

theorem OR.topLe {g : Gh} {o : CO} {l : Loc} {w : World} (h : OR g o l w) : o.topLe g.locs.length = true := by
  unfold OR at h
  cases o with
  | cells ver cs e =>
    obtain ⟨_, c, fr, _, _, _, h5, _⟩ := h
    exact topLeL_of fun i hi => let ⟨v, _, _, hv⟩ := h5 i hi; hv.topLe
  | map ver es k =>
    obtain ⟨_, es', _, h3, h4⟩ := h
    refine List.all_eq_true.2 fun e he => ?_
    obtain ⟨i, hi, rfl⟩ := List.getElem_of_mem he
    exact (h4 i hi (by omega)).2.topLe
  | loop ver fn ts ps a b st pe =>
    obtain ⟨_, r, _, h3, _⟩ := h
    refine topLeL_of fun i hi => ?_
    have := (h3 i).topLe
    rwa [List.getD_eq_getElem?_getD, List.getElem?_eq_getElem hi] at this
  | gone ver => rfl

theorem WR.sealed {g : Gh} {H : Hp} {w : World} (h : WR g H w) : Sealed H H.length := by
  intro id o hid ho
  have hl : id < g.locs.length := by rw [h.len]; exact hid
  have := (h.obj id o _ ho (List.getElem?_eq_getElem hl)).topLe
  rw [h.len] at this; exact this

theorem OR.trunc {g : Gh} {o : CO} {l : Loc} {w : World} {m : Nat} (h : OR g o l w) (ht : o.topLe m = true) : OR (g.take m) o l w := by
  unfold OR at *
  cases o with
  | cells ver cs e =>
    obtain ⟨h1, c, fr, h2, h3, h4, h5, h6⟩ := h
    exact ⟨h1, c, fr, h2, h3, h4, fun i hi => let ⟨v, a, b, d⟩ := h5 i hi; ⟨v, a, b, d.trunc (topLeL_get i hi ht)⟩, h6⟩
  | map ver es k =>
    obtain ⟨h1, es', h2, h3, h4⟩ := h
    exact ⟨h1, es', h2, h3, fun i hi hi' => ⟨(h4 i hi hi').1, (h4 i hi hi').2.trunc (List.all_eq_true.1 ht _ (List.getElem_mem hi))⟩⟩
  | loop ver fn ts ps a b st pe =>
    obtain ⟨h1, r, h2, h3, h4⟩ := h
    refine ⟨h1, r, h2, fun i => (h3 i).trunc ?_, h4⟩
    rw [List.getD_eq_getElem?_getD]
    by_cases hi : i < ts.length
    · rw [List.getElem?_eq_getElem hi]; exact topLeL_get i hi ht
    · rw [List.getElem?_eq_none (by omega)]; rfl
  | gone ver => exact h

theorem take_get {α : Type} {l : List α} {m i : Nat} {x : α} (h : (l.take m)[i]? = some x) : i < m ∧ l[i]? = some x := by
  rw [List.getElem?_take] at h
  split at h
  · exact ⟨by assumption, h⟩
  · cases h

theorem WR.trunc {g : Gh} {H : Hp} {w : World} (h : WR g H w) {m : Nat} (hs : Sealed H m) : WR (g.take m) (H.take m) w := by
  refine ⟨by simp [Gh.take, h.len], ?_, ?_, h.im, ?_, ?_, h.base, fun id cs e l h1 h2 => h.org id cs e l (take_get h1).2 (take_get h2).2, h.blk⟩
  · intro id o l h1 h2
    obtain ⟨a1, a2⟩ := take_get h1
    obtain ⟨_, b2⟩ := take_get h2
    exact (h.obj id o l a2 b2).trunc (hs id o a1 a2)
  · intro i j oi oj li lj h1 h2 h3 h4 h5 h6
    exact h.inj i j oi oj li lj (take_get h1).2 (take_get h2).2 h3 h4 (take_get h5).2 (take_get h6).2
  · intro id o l h1 h2 h3
    exact h.dis id o l (take_get h1).2 h2 (take_get h3).2
  · intro b hb
    exact ⟨(h.own b hb).1, fun id o l h1 h2 h3 => (h.own b hb).2 id o l (take_get h1).2 h2 (take_get h3).2⟩

theorem Mine.trunc {g : Gh} {H : Hp} {m b : Nat} (h : Mine (g.take m) (H.take m) b) : Mine g H b := by
  rcases h with h | ⟨id, o, l, h1, h2, h3, h4⟩
  · exact .inl h
  · exact .inr ⟨id, o, l, (take_get h1).2, h2, (take_get h3).2, h4⟩

/-- A block that is no object's is closed, as it is. -/
def Gh.closeW (g : Gh) (w : World) (b : Nat) : Gh :=
  { g with im := fun b' o => if b' = b then (match w.cell? ⟨b, o, none⟩ with | some v => if v.oneCell' then some v else none | none => none) else g.im b' o, own := fun b' => b' = b ∨ g.own b' }

theorem WR.closeW {g : Gh} {H : Hp} {w : World} (h : WR g H w) {b : Nat} (hb : b < w.heap.size) (hf : ∀ (id : Nat) (o : CO) (l : Loc), H[id]? = some o → o.live = true → g.locs[id]? = some l → l.b ≠ b) :
    WR (g.closeW w b) H w ∧ (∀ b' o v, g.im b' o = some v → (g.closeW w b).im b' o = some v) ∧ (∀ o v, w.cell? ⟨b, o, none⟩ = some v → v.oneCell' = true → (g.closeW w b).im b o = some v) := by
  have him : ∀ b' o v, g.im b' o = some v → (g.closeW w b).im b' o = some v := by
    intro b' o v hv
    simp only [Gh.closeW]
    split
    · rename_i e; subst e
      obtain ⟨h1, h2⟩ := h.im _ _ _ hv
      rw [h1]; simp [h2]
    · exact hv
  refine ⟨⟨h.len, fun id o l a c => OR.mono (g := g) (g2 := g.closeW w b) him (locs_refl g) (fun _ h => .inr h) (h.obj id o l a c), h.inj, ?_, ?_, ?_, fun b o v hv => him _ _ _ (h.base b o v hv), h.org, h.blk⟩, him, fun o v h1 h2 => by simp [Gh.closeW, h1, h2]⟩
  · intro b' o v hv
    simp only [Gh.closeW] at hv
    split at hv
    · rename_i e; subst e
      cases hc : w.cell? ⟨b', o, none⟩ with
      | none => rw [hc] at hv; cases hv
      | some u =>
        rw [hc] at hv
        simp only at hv
        split at hv
        · cases hv; exact ⟨rfl, by assumption⟩
        · cases hv
    · exact h.im b' o v hv
  · intro id o l a c d off
    have := hf id o l a c d
    simp only [Gh.closeW]
    rw [if_neg this]
    exact h.dis id o l a c d off
  · rintro b' (rfl | hb')
    · exact ⟨hb, hf⟩
    · exact h.own b' hb'

/-- A result, freed of the objects from m on. -/
def frz1 (H : Hp) (m : Nat) (x : CV) : Option CV :=
  match x with
  | .sl id ver off len sz => if id < m then some x else (atS H x).bind fun cn => if cn.1.all clB && decide (cn.1.length = len * sz) then some (.im cn.1 len sz) else none
  | .lit cs len sz => some (.im cs len sz)
  | x => if topLe m x then some x else none
def frzL (f : CV → Option CV) : List CV → Option (List CV)
  | [] => some []
  | x :: xs => (f x).bind fun y => (frzL f xs).map (y :: ·)
def frz2 (H : Hp) (m : Nat) (x : CV) : Option CV :=
  match x with
  | .agg cs => (frzL (frz1 H m) cs).map .agg
  | x => frz1 H m x
def frz (H : Hp) (m : Nat) (x : CV) : Option CV :=
  match x with
  | .tup cs => (frzL (frz2 H m) cs).map .tup
  | x => frz2 H m x

/-- What a step of closing keeps: the objects below m, in the same world. -/
structure Clo (g : Gh) (H : Hp) (m : Nat) (w : World) (g2 : Gh) : Prop where
  wr : WR g2 (H.take m) w
  im : ∀ b o v, g.im b o = some v → g2.im b o = some v
  locs : g2.locs = g.locs.take m
  ownm : ∀ b, g.own b → g2.own b
  mine : ∀ b, g2.own b → Mine g H b

theorem Clo.vr {g g2 : Gh} {H : Hp} {m : Nat} {w : World} (hc : Clo g H m w g2) {x : CV} {v : Value} (h : VR g x v) (ht : Go.SL.topLe m x = true) : VR g2 x v := by
  refine VR.mono (g := g.take m) hc.im (fun id l hl => ⟨l, ?_, .inr rfl⟩) hc.ownm (h.trunc ht)
  rw [hc.locs]; exact hl

theorem Clo.step {g g2 : Gh} {H : Hp} {m : Nat} {w : World} (h : WR g H w) (hc : Clo g H m w g2) {id : Nat} {o : CO} {l : Loc} (ho : H[id]? = some o) (hlv : o.live = true) (hl : g.locs[id]? = some l) (hm : m ≤ id) :
    Clo g H m w (g2.closeW w l.b) ∧ ∀ q v, w.cell? ⟨l.b, q, none⟩ = some v → v.oneCell' = true → (g2.closeW w l.b).im l.b q = some v := by
  obtain ⟨a1, a2, a3⟩ := hc.wr.closeW (b := l.b) ((h.obj id o l ho hl).lt hlv) (fun i x k h1 h2 h3 e => by
    obtain ⟨b1, b2⟩ := take_get h1
    rw [hc.locs] at h3
    have := h.inj i id x o k l b2 ho h2 hlv (take_get h3).2 hl e
    omega)
  refine ⟨⟨a1, fun b o v hv => a2 _ _ _ (hc.im _ _ _ hv), hc.locs, fun b hb => .inr (hc.ownm b hb), fun b hb => ?_⟩, a3⟩
  rcases hb with rfl | hb
  · exact .inr ⟨id, o, l, ho, hlv, hl, rfl⟩
  · exact hc.mine b hb

theorem frz1_good {g g2 : Gh} {H : Hp} {m : Nat} {w : World} (h : WR g H w) (hc : Clo g H m w g2) {x y : CV} {v : Value} (hx : VR g x v) (hf : frz1 H m x = some y) :
    ∃ g3, Clo g H m w g3 ∧ VR g3 y v ∧ (∀ z u, VR g2 z u → VR g3 z u) := by
  unfold frz1 at hf
  split at hf
  · rename_i id ver off len sz
    split at hf
    · rename_i hlt
      cases hf
      exact ⟨g2, hc, hc.vr hx (by simpa [Go.SL.topLe] using hlt), fun _ _ h => h⟩
    · rename_i hge
      obtain ⟨⟨cs, n⟩, hat, hf⟩ := Option.bind_eq_some_iff.1 hf
      simp only at hf
      split at hf
      · rename_i hall
        cases hf
        simp only [Bool.and_eq_true, decide_eq_true_eq] at hall
        have hat' := hat
        unfold atS at hat'
        obtain ⟨cs0, h0, h1⟩ := Option.bind_eq_some_iff.1 hat'
        split at h1
        · rename_i hle
          cases h1
          obtain ⟨e, he⟩ := cellsAt_some h0
          have hidl : id < g.locs.length := by rw [h.len]; exact (List.getElem?_eq_some_iff.1 he).1
          obtain ⟨c1, c2⟩ := hc.step h he rfl (List.getElem?_eq_getElem hidl) (by omega)
          obtain ⟨l, o, cap, hl, hv, hcap, ho, hg, rfl⟩ := hx.sl_live h (by rw [h0]; rfl)
          have hlz : g.locs[id] = l := by
            have := List.getElem?_eq_getElem hidl
            rw [hl] at this; exact (Option.some.inj this).symm
          rw [hlz] at c1 c2
          refine ⟨_, c1, ?_, fun z u hz => VR.mono (g := g2) (g2 := g2.closeW w l.b) (fun b q v hv => ?_) (fun i k hk => ⟨k, by rw [show (g2.closeW w l.b).locs = g2.locs from rfl]; exact hk, .inr rfl⟩) (fun b hb => Or.inr hb) hz⟩
          · by_cases hpos : 0 < len
            · rcases h.at_sl hx hat with ⟨h2, _⟩ | ⟨_, b, o', cap', h2, _, ha2, h3, _⟩
              · cases h2
              · cases h2
                obtain ⟨rfl, rfl, _⟩ := Addr.mk.inj (ha2 hpos)
                obtain ⟨us, u1, u2, u3, u4⟩ := (h3 hpos).list
                have hlen : ((cs0.drop off).take (len * sz)).length = len * sz := hall.2
                refine .cl (.im (f := fun i => us.getD i undef) hlen hcap (fun _ => rfl) (fun i hi => ?_) (fun i hi => ?_))
                · have hi2 : i < us.length := by rw [u1]; exact hi
                  have := u2 i us[i] (List.getElem?_eq_getElem hi2)
                  rw [Addr.add_lit] at this
                  rw [c2 _ _ this (u3 _ (List.getElem_mem hi2))]
                  simp [hi2]
                · have hi2 : i < us.length := by rw [u1]; exact hi
                  have := (u4 i hi hi2).closed (List.all_eq_true.1 hall.1 _ (List.getElem_mem hi))
                  simp only [List.getD_eq_getElem?_getD, List.getElem?_eq_getElem hi2, Option.getD_some]
                  exact this.mono c1.im
            · have hz : len = 0 := by omega
              have hlen : ((cs0.drop off).take (len * sz)).length = len * sz := hall.2
              refine .cl (.im (f := fun _ => undef) (b := l.b) (o := o) hlen hcap (fun _ => rfl) (fun i hi => ?_) (fun i hi => ?_))
              · rw [hlen, hz] at hi; simp at hi
              · have hi2 := hi; rw [hlen, hz] at hi2; simp at hi2
          · have hw2 := hc.wr
            simp only [Gh.closeW]
            split
            · rename_i e; subst e
              obtain ⟨h1, h2⟩ := hw2.im _ _ _ hv
              rw [h1]; simp [h2]
            · exact hv
        · cases h1
      · cases hf
  · rename_i cs len sz
    cases hf
    refine ⟨g2, hc, ?_, fun _ _ h => h⟩
    have : VR g (.im cs len sz) v := hx.unlit
    exact hc.vr this rfl
  · split at hf
    · rename_i ht
      cases hf
      exact ⟨g2, hc, hc.vr hx ht, fun _ _ h => h⟩
    · cases hf

theorem frzL_good {g : Gh} {H : Hp} {m : Nat} {w : World} {f : CV → Option CV} (hf1 : ∀ (g2 : Gh) (x y : CV) (v : Value), Clo g H m w g2 → VR g x v → f x = some y → ∃ g3, Clo g H m w g3 ∧ VR g3 y v ∧ (∀ z u, VR g2 z u → VR g3 z u)) :
    ∀ (xs ys : List CV) (vs : List Value) (g2 : Gh), Clo g H m w g2 → xs.length = vs.length → (∀ i (hi : i < xs.length) (hi' : i < vs.length), VR g xs[i] vs[i]) → frzL f xs = some ys →
    ∃ g3, Clo g H m w g3 ∧ ys.length = vs.length ∧ (∀ i (hi : i < ys.length) (hi' : i < vs.length), VR g3 ys[i] vs[i]) ∧ (∀ z u, VR g2 z u → VR g3 z u)
  | [], ys, [], g2, hc, _, _, h => by simp only [frzL, Option.some.injEq] at h; subst h; exact ⟨g2, hc, rfl, fun i hi => absurd hi (by simp), fun _ _ h => h⟩
  | x :: xs, ys, v :: vs, g2, hc, hl, hh, h => by
    unfold frzL at h
    obtain ⟨y, h1, h⟩ := Option.bind_eq_some_iff.1 h
    obtain ⟨ys', h2, h⟩ := Option.map_eq_some_iff.1 h
    subst h
    obtain ⟨g3, c3, v3, k3⟩ := hf1 g2 x y v hc (hh 0 (by simp) (by simp)) h1
    obtain ⟨g4, c4, l4, v4, k4⟩ := frzL_good hf1 xs ys' vs g3 c3 (by simpa using hl) (fun i hi hi' => by have := hh (i + 1) (by simpa using hi) (by simpa using hi'); simpa using this) h2
    refine ⟨g4, c4, by simp [l4], fun i hi hi' => ?_, fun z u hz => k4 z u (k3 z u hz)⟩
    cases i with
    | zero => exact k4 _ _ v3
    | succ i => simpa using v4 i (by simpa using hi) (by simpa using hi')

theorem frz2_good {g : Gh} {H : Hp} {m : Nat} {w : World} (h : WR g H w) (g2 : Gh) (x y : CV) (v : Value) (hc : Clo g H m w g2) (hx : VR g x v) (hf : frz2 H m x = some y) :
    ∃ g3, Clo g H m w g3 ∧ VR g3 y v ∧ (∀ z u, VR g2 z u → VR g3 z u) := by
  unfold frz2 at hf
  split at hf
  · rename_i cs
    obtain ⟨ys, h1, h2⟩ := Option.map_eq_some_iff.1 hf
    subst h2
    obtain ⟨vs, rfl, hl, hh⟩ := hx.agg_inv
    obtain ⟨g3, c3, l3, v3, k3⟩ := frzL_good (f := frz1 H m) (fun g2 x y v hc hx hf => frz1_good h hc hx hf) cs ys vs.toList g2 hc (by simpa using hl) (fun i hi hi' => by simpa using hh i hi (by simpa using hi')) h1
    exact ⟨g3, c3, .agg (by simpa using l3) (fun i hi hi' => by have := v3 i hi (by simpa using hi'); simpa only [Array.getElem_toList] using this), k3⟩
  · exact frz1_good h hc hx hf

theorem frz_good {g : Gh} {H : Hp} {m : Nat} {w : World} (h : WR g H w) (g2 : Gh) (x y : CV) (v : Value) (hc : Clo g H m w g2) (hx : VR g x v) (hf : frz H m x = some y) : ∃ g3, Clo g H m w g3 ∧ VR g3 y v := by
  unfold frz at hf
  split at hf
  · rename_i cs
    obtain ⟨ys, h1, h2⟩ := Option.map_eq_some_iff.1 hf
    subst h2
    obtain ⟨vs, rfl, hl, hh⟩ := hx.tup_inv
    obtain ⟨g3, c3, l3, v3, k3⟩ := frzL_good (f := frz2 H m) (fun g2 x y v hc hx hf => frz2_good h g2 x y v hc hx hf) cs ys vs.toList g2 hc (by simpa using hl) (fun i hi hi' => by simpa using hh i hi (by simpa using hi')) h1
    exact ⟨g3, c3, .tup (by simpa using l3) (fun i hi hi' => by have := v3 i hi (by simpa using hi'); simpa only [Array.getElem_toList] using this)⟩
  · obtain ⟨g3, c3, v3, _⟩ := frz2_good h g2 x y v hc hx hf
    exact ⟨g3, c3, v3⟩

theorem Clo.first {g : Gh} {H : Hp} {w : World} (h : WR g H w) {m : Nat} (hs : Sealed H m) : Clo g H m w (g.take m) :=
  ⟨h.trunc hs, fun _ _ _ h => h, rfl, fun _ h => h, fun b hb => .inl hb⟩

end Go.SL

/- The evaluator of code and calls; old objects keep to old ones. -/
namespace Go.SL
variable [BaseC]
set_option linter.unusedVariables false

/-- Into an object below m goes only what refers to none. -/
def stOK (m : Nat) (fr : Fr) : Op → Bool
  | .store _ x y => match evO fr x, evO fr y with
    | some (.ptr id _ _), some y => decide (m ≤ id) || topLe 0 y
    | _, _ => true
  | .mapUpdate _ q _ x | .insert _ q _ x => match evO fr q, evO fr x with
    | some (.mp id _), some x => decide (m ≤ id) || topLe 0 x
    | _, _ => true
  | .call ⟨.builtin .append, args, _⟩ => match evL fr args.toList with
    | some [.sl id _ _ _ _, x] => decide (m ≤ id) || clB x
    | _ => true
  | _ => true

/-- What is called: a function, or the round of a loop. -/
inductive Tg where
  | f (f : FuncId)
  | y (id ver : Nat)

abbrev CallE := Nat → Tg → List CV → Hp → Option (CV × Hp)

/-- An operation, a call too. -/
def opX (P : Program) (cfg : Cfg) (ce : CallE) (m : Nat) (fr : Fr) (old : CV) (H : Hp) (o : Op) : Option (CV × Hp) :=
  match o with
  | .call ⟨.value f, args, _⟩ => (evO fr f).bind fun fv => (evL fr args.toList).bind fun xs =>
      match fv with
      | .v (.func (.func f) _ _) => ce m (.f f) (xs.map unlit) H
      | .fn (.func f) fs cs => ce m (.f f) (fs ++ xs.map unlit ++ cs) H
      | .yl id ver => ce m (.y id ver) (xs.map unlit) H
      | _ => none
  | o => if stOK m fr o then opE P cfg fr old H o else none

def putC (n : Nat) (fr : Fr) (d : Option Tmp) (x : CV) : Option Fr :=
  match d with
  | none => some fr
  | some d => if d < n then some (fun t => if t = d then x else fr t) else none

def oldC (fr : Fr) (d : Option Tmp) : CV :=
  match d with
  | none => .tup []
  | some d => fr d

/-- Is an operation carried out? -/
def wantC (fr : Fr) (ops : Array Oper) (o : Oper) : Option Bool :=
  match o.guard with
  | none => some true
  | some (j, want) =>
    match (ops[j]?).bind (·.dst) with
    | none => some false
    | some d => match fr d with
      | .v (.bool b) => some (b == want)
      | .tup [] => some false
      | _ => none

def evOps (P : Program) (cfg : Cfg) (ce : CallE) (m n : Nat) (ops : Array Oper) : List Oper → Fr → Hp → Option (Fr × Hp)
  | [], fr, H => some (fr, H)
  | o :: rest, fr, H => (wantC fr ops o).bind fun b =>
      if b then (opX P cfg ce m fr (oldC fr o.dst) H o.op).bind fun y => (putC n fr o.dst y.1).bind fun fr2 => evOps P cfg ce m n ops rest fr2 y.2
      else (putC n fr o.dst (.tup [])).bind fun fr2 => evOps P cfg ce m n ops rest fr2 H

/-- An order that a region may be carried out in, behind these. -/
def LinX (ops : Array Oper) : List Nat → Array Bool → Prop
  | [], listed => Region.ready .any ops listed = []
  | i :: l, listed => i ∈ Region.ready .any ops listed ∧ LinX ops l (listed.setIfInBounds i true)

def evIx (P : Program) (cfg : Cfg) (ce : CallE) (m n : Nat) (ops : Array Oper) (l : List Nat) (fr : Fr) (H : Hp) : Option (Fr × Hp) :=
  evOps P cfg ce m n ops (l.filterMap (ops[·]?)) fr H

open Classical in
/-- A region whose order is drawn: all orders come to what the text's does. -/
noncomputable def evDraw (P : Program) (cfg : Cfg) (ce : CallE) (m n : Nat) (ops : Array Oper) (fr : Fr) (H : Hp) : Option (Fr × Hp) :=
  if P.follows .mixedOrders = true then
    (evOps P cfg ce m n ops ops.toList fr H).bind fun r =>
      if ∀ l, LinX ops l (Array.replicate ops.size false) → evIx P cfg ce m n ops l fr H = some r then some r else none
  else none

inductive Ex where
  | norm
  | exit (id : Nat)
  | goto (l : Nat)
  | ret

/-- A pending jump. -/
def jumpEx : Option Code → Option Ex
  | none => some .norm
  | some (.exit i) => some (.exit i)
  | some (.goto l) => some (.goto l)
  | some .ret => some .ret
  | _ => none

/-- Code. -/
noncomputable def ev (P : Program) (cfg : Cfg) (ce : CallE) (m n : Nat) : Nat → Code → Fr → Hp → Option (Ex × Fr × Hp)
  | 0, _, _, _ => none
  | k + 1, c, fr, H =>
    match c with
    | .skip | .label _ => some (.norm, fr, H)
    | .region _ ops false => (evOps P cfg ce m n ops ops.toList fr H).map fun r => (.norm, r.1, r.2)
    | .region _ ops true => (evDraw P cfg ce m n ops fr H).map fun r => (.norm, r.1, r.2)
    | .seq a b => (ev P cfg ce m n k a fr H).bind fun r => match r.1 with
      | .norm => ev P cfg ce m n k b r.2.1 r.2.2
      | _ => some r
    | .cond c a b => (evO fr c).bind fun c => match c with
      | .v (.bool t) => ev P cfg ce m n k (if t then a else b) fr H
      | _ => none
    | .block id c => (ev P cfg ce m n k c fr H).map fun r => match r.1 with
      | .exit id' => if id' = id then (.norm, r.2) else r
      | _ => r
    | .scope c => (ev P cfg ce m n k c fr H).bind fun r => match r.1 with
      | .goto _ => none
      | _ => some r
    | .loop c => (ev P cfg ce m n k c fr H).bind fun r => match r.1 with
      | .norm => ev P cfg ce m n k (.loop c) r.2.1 r.2.2
      | _ => some r
    | .exit id => some (.exit id, fr, H)
    | .goto l => some (.goto l, fr, H)
    | .ret => some (.ret, fr, H)
    | .rangeFunc f ps a b => if cfg.inR then none else (evO fr f).bind fun fv => match fv with
      | .fn (.func g) [] cs => if ((P.funcs[g]?).bind (·.body)).isSome then
          (ce m (.f g) (.yl H.length 0 :: cs) (H ++ [.loop 0 cfg.fn ((List.range n).map fr) ps a b .ready none])).bind fun r =>
            match r.2[H.length]? with
            | some (.loop 0 fn1 ts1 ps1 a1 b1 st pe) => match st with
              | .busy => none
              | _ => (jumpEx pe).map fun e => (e, fr, r.2.set H.length (.loop 0 fn1 ts1 ps1 a1 b1 .exhausted pe))
            | _ => none
        else none
      | _ => none
    | _ => none

/-- The temporaries of a round. -/
def roundFr (ts : List CV) (ps : Array Tmp) (args : List CV) : Fr :=
  fun t => ((ps.toList.zip args).foldl (fun ts p => ts.set p.1 p.2) ts).getD t (.tup [])
def Ex.jump : Ex → Option Code
  | .norm => none
  | .exit i => some (.exit i)
  | .goto l => some (.goto l)
  | .ret => some .ret
/-- A round: the assignments to the loop's variables, the body. -/
noncomputable def evRound (P : Program) (cs : FuncId → Cfg) (ce : CallE) (m k id ver : Nat) (args : List CV) (H : Hp) : Option (CV × Hp) :=
  match H[id]? with
  | some (.loop v fn ts ps a b .ready none) =>
    if v = ver ∧ args.length = ps.size then
      (ev P { cs fn with inR := true } ce m ts.length k a (roundFr ts ps args) H).bind fun r => match r.1, r.2.2[id]? with
        | .norm, some (.loop v1 fn1 ts1 ps1 a1 b1 .ready none) => if v1 = ver then
            (ev P { cs fn with inR := true } ce m ts.length k b r.2.1 (r.2.2.set id (.loop v1 fn1 ts1 ps1 a1 b1 .busy none))).bind fun q => match q.2.2[id]? with
              | some (.loop v2 fn2 ts2 ps2 a2 b2 _ _) => if v2 = ver then
                  some (.v (.bool q.1.jump.isNone), q.2.2.set id (.loop v2 fn2 ts2 ps2 a2 b2 (if q.1.jump.isNone then .ready else .done) q.1.jump)) else none
              | _ => none
          else none
        | _, _ => none
    else none
  | _ => none

def resC (P : Program) (fr : Fr) (H : Hp) : List ResultVar → Option (List CV)
  | [] => some []
  | .tmp t :: rs => (resC P fr H rs).map (unlit (fr t) :: ·)
  | .cell a t :: rs => (dLoad P t (fr a) H).bind fun x => (resC P fr H rs).map (x :: ·)

def one : List CV → CV
  | [x] => x
  | xs => .tup xs

/-- How each function is carried out. -/
structure Cfgs where
  of : FuncId → Cfg := fun _ => {}
  drop : FuncId → Bool := fun _ => true
  /-- Functions that are known otherwise. -/
  prim : FuncId → Option (List CV → Hp → Option (CV × Hp)) := fun _ => none

def frame (args : List CV) : Fr := fun t => args.getD t (.tup [])

noncomputable def evCall (P : Program) (cs : Cfgs) : Nat → CallE
  | 0, _, _, _, _ => none
  | k + 1, m, .y id ver, args, H => evRound P cs.of (evCall P cs k) m k id ver args H
  | k + 1, m, .f f, args, H =>
    match cs.prim f with
    | some p => p args H
    | none => (P.funcs[f]?).bind fun fn => fn.body.bind fun c =>
        if cs.drop f then
          (ev P { cs.of f with inR := false, fn := f } (evCall P cs k) H.length (args.length + (fn.ntmps - args.length)) k c (frame args) H).bind fun r =>
            match r.1 with
            | .norm | .ret => (resC P r.2.1 r.2.2 fn.results.toList).bind fun xs => (frz r.2.2 H.length (one xs)).map fun y => (y, r.2.2.take H.length)
            | _ => none
        else
          (ev P { cs.of f with inR := false, fn := f } (evCall P cs k) m (args.length + (fn.ntmps - args.length)) k c (frame args) H).bind fun r =>
            match r.1 with
            | .norm | .ret => (resC P r.2.1 r.2.2 fn.results.toList).map fun xs => (one xs, r.2.2)
            | _ => none

/-- What is sealed stays so, and nothing becomes less. -/
def Keeps (m : Nat) (H H2 : Hp) : Prop := H.length ≤ H2.length ∧ ∀ m', m' ≤ m → m' ≤ H.length → Sealed H m' → Sealed H2 m'

theorem Keeps.refl (m : Nat) (H : Hp) : Keeps m H H := ⟨Nat.le_refl _, fun _ _ _ h => h⟩
theorem Keeps.trans {m : Nat} {H H1 H2 : Hp} (a : Keeps m H H1) (b : Keeps m H1 H2) : Keeps m H H2 :=
  ⟨Nat.le_trans a.1 b.1, fun m' h1 h2 h3 => b.2 m' h1 (Nat.le_trans h2 a.1) (a.2 m' h1 h2 h3)⟩
theorem Keeps.app (m : Nat) (H : Hp) (o : CO) : Keeps m H (H ++ [o]) := by
  refine ⟨by simp, fun m' _ h2 h3 id x hid hx => ?_⟩
  rw [List.getElem?_append_left (by omega)] at hx
  exact h3 id x hid hx
theorem Keeps.set {m id : Nat} {H : Hp} {o : CO} (h : ∀ m', m' ≤ m → m' ≤ H.length → Sealed H m' → id < m' → o.topLe m' = true) : Keeps m H (H.set id o) := by
  refine ⟨by simp, fun m' h1 h2 h3 i x hi hx => ?_⟩
  by_cases e : id = i
  · subst e
    rw [List.getElem?_set_self (by omega)] at hx
    cases hx
    exact h m' h1 h2 h3 hi
  · rw [List.getElem?_set_ne e] at hx
    exact h3 i x hi hx

mutual
theorem topLe_mono {a b : Nat} (hab : a ≤ b) : ∀ x : CV, topLe a x = true → topLe b x = true
  | .v _, _ => rfl
  | .ptr id _ _, h => by simp only [topLe, decide_eq_true_eq] at *; omega
  | .sl id _ _ _ _, h => by simp only [topLe, decide_eq_true_eq] at *; omega
  | .im .., _ => rfl
  | .ip _, _ => rfl
  | .lit .., _ => rfl
  | .mp id _, h => by simp only [topLe, decide_eq_true_eq] at *; omega
  | .yl id _, h => by simp only [topLe, decide_eq_true_eq] at *; omega
  | .fn _ fs cs, h => by simp only [topLe, Bool.and_eq_true] at *; exact ⟨topLeL_mono hab fs h.1, topLeL_mono hab cs h.2⟩
  | .ifc _ x, h => by simp only [topLe] at *; exact topLe_mono hab x h
  | .agg cs, h => by simp only [topLe] at *; exact topLeL_mono hab cs h
  | .tup cs, h => by simp only [topLe] at *; exact topLeL_mono hab cs h
theorem topLeL_mono {a b : Nat} (hab : a ≤ b) : ∀ xs : List CV, topLeL a xs = true → topLeL b xs = true
  | [], _ => rfl
  | x :: xs, h => by simp only [topLeL, Bool.and_eq_true] at *; exact ⟨topLe_mono hab x h.1, topLeL_mono hab xs h.2⟩
end

theorem clB_top {x : CV} : clB x = true → topLe 0 x = true := by
  intro h
  match x, h with
  | .v _, _ => rfl
  | .im .., _ => rfl
  | .ip _, _ => rfl
  | .ifc _ x, h => exact clB_top (x := x) (by simpa [clB] using h)

theorem topLeL_app {m : Nat} : ∀ (xs ys : List CV), topLeL m xs = true → topLeL m ys = true → topLeL m (xs ++ ys) = true
  | [], ys, _, h => h
  | x :: xs, ys, h1, h2 => by simp only [topLeL, List.cons_append, Bool.and_eq_true] at *; exact ⟨h1.1, topLeL_app xs ys h1.2 h2⟩
theorem topLeL_take {m : Nat} (n : Nat) (xs : List CV) (h : topLeL m xs = true) : topLeL m (xs.take n) = true :=
  topLeL_of fun i hi => by rw [List.getElem_take]; exact topLeL_get i (by simp at hi; omega) h
theorem topLeL_drop {m : Nat} (n : Nat) (xs : List CV) (h : topLeL m xs = true) : topLeL m (xs.drop n) = true :=
  topLeL_of fun i hi => by rw [List.getElem_drop]; exact topLeL_get (n + i) (by simp at hi; omega) h
theorem topLeL_v {m : Nat} (l : List Value) : topLeL m (l.map CV.v) = true := topLeL_of fun i hi => by simp [topLe]

theorem cvCells_top {m : Nat} {x : CV} {cs : List CV} (h : cvCells x = some cs) (ht : topLe m x = true) : topLeL m cs = true := by
  unfold cvCells at h
  split at h
  · split at h
    · cases h; exact ht
    · cases h
  · cases h
  · cases h; simp [topLeL, ht]

theorem zeroL_top {P : Program} {t : TypeId} {zs : List CV} {m : Nat} (h : zeroL P t = some zs) : topLeL m zs = true := by
  unfold zeroL at h
  obtain ⟨i, hi, h⟩ := Option.bind_eq_some_iff.1 h
  obtain ⟨z, hz, h⟩ := Option.bind_eq_some_iff.1 h
  split at h
  · cases h; exact topLeL_v _
  · cases h

theorem sealed_cells {H : Hp} {m id ver : Nat} {cs : List CV} {e : TypeId} (h : Sealed H m) (hid : id < m) (hc : H[id]? = some (.cells ver cs e)) : topLeL m cs = true := h id _ hid hc

theorem putH_eq {H : Hp} {id off ver : Nat} {cs xs : List CV} {e : TypeId} (hc : H[id]? = some (.cells ver cs e)) : putH H id off xs = H.set id (.cells ver (cs.take off ++ xs ++ cs.drop (off + xs.length)) e) := by
  apply List.ext_getElem?
  intro i
  simp only [putH, List.getElem?_modify]
  by_cases hi : id = i
  · subst hi
    rw [hc, List.getElem?_set_self (List.getElem?_eq_some_iff.1 hc).1]
    simp
  · rw [List.getElem?_set_ne hi]
    simp [hi]

theorem dStore_keeps {P : Program} {t : TypeId} {x y : CV} {H H2 : Hp} {m : Nat} (hok : ∀ id ver off, x = .ptr id ver off → m ≤ id ∨ topLe 0 y = true) (h : dStore P t x y H = some H2) : Keeps m H H2 := by
  unfold dStore at h
  split at h
  · rename_i id ver off
    obtain ⟨i, hi, h⟩ := Option.bind_eq_some_iff.1 h
    obtain ⟨ys, hys, h⟩ := Option.bind_eq_some_iff.1 h
    obtain ⟨cs, hcs, h⟩ := Option.bind_eq_some_iff.1 h
    split at h
    · cases h
      obtain ⟨e, he⟩ := cellsAt_some hcs
      rw [putH_eq he]
      refine Keeps.set fun m' h1 h2 h3 h4 => ?_
      have hc := sealed_cells h3 h4 he
      rcases hok id ver off rfl with h5 | h5
      · omega
      · exact topLeL_app _ _ (topLeL_app _ _ (topLeL_take _ _ hc) (topLeL_mono (Nat.zero_le _) _ (cvCells_top hys h5))) (topLeL_drop _ _ hc)
    · cases h
  · cases h

theorem VC.top {im : Nat → Nat → Option Value} {x : CV} {v : Value} (h : VC im x v) (m : Nat) : topLe m x = true := by
  induction h with
  | v _ => rfl
  | undef => rfl
  | im _ _ _ _ _ _ => rfl
  | ip _ _ _ => rfl
  | agg hl _ ih => exact topLeL_of fun i hi => ih i hi (by omega)
  | tup hl _ ih => exact topLeL_of fun i hi => ih i hi (by omega)
  | ifc _ ih => exact ih

theorem im_top {g : Gh} {cs : List CV} {len sz m : Nat} {v : Value} (h : VR g (.im cs len sz) v) : topLeL m cs = true := by
  obtain ⟨a, b, o, cap, f, _, _, _, _, _, hh⟩ := h.im_inv
  exact topLeL_of fun i hi => (hh i hi).top m

theorem dSrc_top {P : Program} {g : Gh} {H : Hp} {tx : TypeId} {size n m : Nat} {x : CV} {v : Value} {cs : List CV} (hx : VR g x v) (hc : clB x = true) (h : dSrc P H tx size x = some (cs, n)) : topLeL m cs = true := by
  unfold dSrc at h
  split at h
  · split at h
    · split at h
      · cases h; exact topLeL_of fun i hi => by simp [bytesC, topLe]
      · cases h
    · cases h
  · obtain ⟨⟨cs', n'⟩, hat, h⟩ := Option.bind_eq_some_iff.1 h
    simp only at h
    split at h
    · cases h
      unfold atS at hat
      cases x with
      | im l a b => simp only [] at hat; split at hat <;> cases hat; exact im_top hx
      | v q =>
        cases q with
        | slice a b c =>
          cases a with
          | none => simp at hat; rw [hat.1]; rfl
          | some a => simp at hat
        | _ => simp at hat
      | sl => cases hc
      | lit => cases hc
      | _ => cases hat
    · cases h
  · cases h

theorem dAppend_keeps {P : Program} {g : Gh} {t tx : TypeId} {s x y : CV} {v : Value} {H H2 : Hp} {m : Nat} (hx : VR g x v) (hok : ∀ id ver off len sz, s = .sl id ver off len sz → m ≤ id ∨ clB x = true) (h : dAppend P t tx s x H = some (y, H2)) : Keeps m H H2 := by
  unfold dAppend at h
  split at h
  · obtain ⟨i, hi, h⟩ := Option.bind_eq_some_iff.1 h
    obtain ⟨zs, hz, h⟩ := Option.bind_eq_some_iff.1 h
    obtain ⟨⟨xs, n⟩, hxn, h⟩ := Option.bind_eq_some_iff.1 h
    split at h
    · cases s with
      | v q =>
        cases q with
        | slice a q1 q2 =>
          cases a with
          | some a => cases h
          | none =>
            simp only [] at h
            split at h
            · cases h; exact Keeps.refl _ _
            · split at h
              · cases h; exact Keeps.app _ _ _
              · cases h
        | _ => cases h
      | sl id ver off len sz =>
        simp only [] at h
        split at h
        · rename_i v' cs e' hcell
          split at h
          · split at h
            · cases h; exact Keeps.refl _ _
            · split at h
              · cases h
                refine Keeps.set fun m' h1 h2 h3 h4 => ?_
                have hc := sealed_cells h3 h4 hcell
                rcases hok id ver off len sz rfl with h5 | h5
                · omega
                · exact topLeL_app _ _ (topLeL_take _ _ (topLeL_drop _ _ hc)) (dSrc_top hx h5 hxn)
              · cases h
          · cases h
        · cases h
      | im cs len sz =>
        simp only [] at h
        split at h
        · cases h; exact Keeps.refl _ _
        · cases h
      | _ => cases h
    · cases h
  · cases h

theorem dMapUpd_keeps {P : Program} {t : TypeId} {q k x : CV} {H H2 : Hp} {m : Nat} (hok : ∀ id ver, q = .mp id ver → m ≤ id ∨ topLe 0 x = true) (h : dMapUpd P t q k x H = some H2) : Keeps m H H2 := by
  unfold dMapUpd at h
  split at h
  · rename_i kt et id ver hu
    split at h
    · rename_i v es clock hmm
      split at h
      · obtain ⟨d, hd, h⟩ := Option.bind_eq_some_iff.1 h
        split at h
        · obtain ⟨r, hr, h⟩ := Option.map_eq_some_iff.1 h
          have key : ∀ m', m' ≤ m → Sealed H m' → id < m' → es.all (fun e => topLe m' e.2) = true ∧ topLe m' x = true := by
            intro m' h1 h3 h4
            refine ⟨h3 id _ h4 hmm, ?_⟩
            rcases hok id ver rfl with h5 | h5
            · omega
            · exact topLe_mono (Nat.zero_le _) _ h5
          split at h
          · rename_i i _ _
            subst h
            refine Keeps.set fun m' h1 h2 h3 h4 => ?_
            obtain ⟨a, b⟩ := key m' h1 h3 h4
            refine List.all_eq_true.2 fun e he => ?_
            rcases List.mem_or_eq_of_mem_set he with he | rfl
            · exact List.all_eq_true.1 a e he
            · exact b
          · subst h
            refine Keeps.set fun m' h1 h2 h3 h4 => ?_
            obtain ⟨a, b⟩ := key m' h1 h3 h4
            simp only [CO.topLe, List.all_append, List.all_cons, List.all_nil, Bool.and_true, Bool.and_eq_true]
            exact ⟨a, b⟩
        · cases h
      · cases h
    · cases h
  · cases h

theorem dRealloc_keeps {P : Program} {t : TypeId} {x y : CV} {H H2 : Hp} {m : Nat} (h : dRealloc P t x H = some (y, H2)) : Keeps m H H2 := by
  unfold dRealloc at h
  split at h
  · split at h
    · split at h
      · obtain ⟨zs, hz, h⟩ := Option.map_eq_some_iff.1 h
        cases h
        exact Keeps.set fun m' _ _ _ _ => zeroL_top hz
      · cases h
    · cases h
  · cases h

theorem dAlloc_keeps {P : Program} {t : TypeId} {y : CV} {H H2 : Hp} {m : Nat} (h : dAlloc P t H = some (y, H2)) : Keeps m H H2 := by
  unfold dAlloc at h
  obtain ⟨zs, hz, h⟩ := Option.map_eq_some_iff.1 h
  cases h
  exact Keeps.app _ _ _

theorem numsOf_top {m : Nat} {cs : List CV} {ns : List Int} (h : numsOf cs = some ns) : topLeL m cs = true := topLeL_of fun i hi => by rw [(numsOf_get h).2 i hi]; rfl
theorem dCopy_keeps {P : Program} {t : TypeId} {s x y : CV} {H H2 : Hp} {m : Nat} (h : dCopy P t s x H = some (y, H2)) : Keeps m H H2 := by
  unfold dCopy at h
  split at h
  · split at h
    · rename_i i v cc e' hi he
      obtain ⟨⟨cs, n⟩, hat, ha0⟩ := Option.bind_eq_some_iff.1 h
      clear h
      obtain ⟨ns, hns, h⟩ := Option.bind_eq_some_iff.1 ha0
      clear ha0
      dsimp only at h hns
      split at h
      · split at h
        · cases h; exact Keeps.refl _ _
        · cases h
          rw [putH_eq he]
          refine Keeps.set fun m' h1 h2 h3 h4 => ?_
          have hc := sealed_cells h3 h4 he
          exact topLeL_app _ _ (topLeL_app _ _ (topLeL_take _ _ hc) (topLeL_take _ _ (numsOf_top hns))) (topLeL_drop _ _ hc)
      · cases h
    · cases h
  · cases h
theorem dUnsS_keeps {P : Program} {pt : TypeId} {x n y : CV} {H H2 : Hp} {m : Nat} (h : dUnsS P pt x n H = some (y, H2)) : Keeps m H H2 := by
  unfold dUnsS at h
  split at h
  · split at h
    · cases h; exact Keeps.refl _ _
    · cases h
  · split at h
    · split at h
      · obtain ⟨ns, _, h⟩ := Option.bind_eq_some_iff.1 h
        split at h
        · cases h; exact Keeps.set fun _ _ _ _ _ => rfl
        · cases h
      · cases h
    · cases h
  · cases h
theorem map_keeps {H H2 : Hp} {m : Nat} {x : Option CV} {y : CV} (h : x.map (·, H) = some (y, H2)) : Keeps m H H2 := by
  obtain ⟨z, _, h⟩ := Option.map_eq_some_iff.1 h
  cases h; exact Keeps.refl _ _

theorem opE_keeps {P : Program} {cfg : Cfg} {g : Gh} {H H2 : Hp} {w : World} {fr : Fr} {a : Act} {old y : CV} {m : Nat} (hf : FrR g fr a) (o : Op) (hok : stOK m fr o = true) (h : opE P cfg fr old H o = some (y, H2)) : Keeps m H H2 := by
  cases o with
  | move x => exact (by obtain ⟨z, _, h⟩ := Option.map_eq_some_iff.1 h; cases h; exact Keeps.refl _ _)
  | assign x => exact (by obtain ⟨z, _, h⟩ := Option.map_eq_some_iff.1 h; cases h; exact Keeps.refl _ _)
  | pick c x z =>
    obtain ⟨cv, h1, h⟩ := Option.bind_eq_some_iff.1 h
    split at h
    · exact map_keeps h
    · cases h
  | alloc t =>
    simp only [opE] at h
    split at h
    · split at h
      · rename_i r hr; cases h; exact dRealloc_keeps hr
      · exact dAlloc_keeps h
    · exact dAlloc_keeps h
  | box t x =>
    obtain ⟨z, h1, h⟩ := Option.bind_eq_some_iff.1 h
    unfold dBox at h
    obtain ⟨cs, hc, h⟩ := Option.map_eq_some_iff.1 h
    cases h; exact Keeps.app _ _ _
  | buildSlice t n ps =>
    obtain ⟨z, h1, h⟩ := Option.bind_eq_some_iff.1 h
    unfold dBuildSlice at h
    split at h
    · obtain ⟨i, hi, h⟩ := Option.bind_eq_some_iff.1 h
      obtain ⟨zs, hz, h⟩ := Option.bind_eq_some_iff.1 h
      split at h
      · obtain ⟨out, hout, h⟩ := Option.map_eq_some_iff.1 h
        split at h <;> cases h
        · exact Keeps.refl _ _
        · exact Keeps.app _ _ _
      · cases h
    · cases h
  | store t x z =>
    obtain ⟨xv, h1, h⟩ := Option.bind_eq_some_iff.1 h
    obtain ⟨zv, h2, h⟩ := Option.bind_eq_some_iff.1 h
    obtain ⟨q, h3, h4⟩ := Option.map_eq_some_iff.1 h
    cases h4
    refine dStore_keeps (fun id ver off e => ?_) h3
    subst e
    simp only [stOK, h1, h2, Bool.or_eq_true, decide_eq_true_eq] at hok
    exact hok
  | mapUpdate t q k x =>
    obtain ⟨mv, h1, h⟩ := Option.bind_eq_some_iff.1 h
    obtain ⟨kv, h2, h⟩ := Option.bind_eq_some_iff.1 h
    obtain ⟨xv, h3, h⟩ := Option.bind_eq_some_iff.1 h
    obtain ⟨r, h4, h5⟩ := Option.map_eq_some_iff.1 h
    cases h5
    refine dMapUpd_keeps (fun id ver e => ?_) h4
    subst e
    simp only [stOK, h1, h3, Bool.or_eq_true, decide_eq_true_eq] at hok
    exact hok
  | insert t q k x =>
    obtain ⟨mv, h1, h⟩ := Option.bind_eq_some_iff.1 h
    obtain ⟨kv, h2, h⟩ := Option.bind_eq_some_iff.1 h
    obtain ⟨xv, h3, h⟩ := Option.bind_eq_some_iff.1 h
    obtain ⟨r, h4, h5⟩ := Option.map_eq_some_iff.1 h
    cases h5
    refine dMapUpd_keeps (fun id ver e => ?_) h4
    subst e
    simp only [stOK, h1, h3, Bool.or_eq_true, decide_eq_true_eq] at hok
    exact hok
  | convert s d x =>
    obtain ⟨xv, h1, h⟩ := Option.bind_eq_some_iff.1 h
    split at h
    · cases h; exact Keeps.refl _ _
    · split at h
      · cases h; exact Keeps.refl _ _
      · unfold dS2B at h
        split at h
        · split at h
          · split at h <;> cases h
            · exact Keeps.app _ _ _
            · exact Keeps.refl _ _
          · cases h
        · cases h
  | makeMap t r =>
    cases r with
    | some r => cases h
    | none => cases h; exact Keeps.app _ _ _
  | makeFunc f fs cs =>
    cases f with
    | func f =>
      obtain ⟨xs, h1, h⟩ := Option.bind_eq_some_iff.1 h
      obtain ⟨ys, h2, h3⟩ := Option.map_eq_some_iff.1 h
      cases h3; exact Keeps.refl _ _
    | _ => cases h
  | nilCheck x =>
    obtain ⟨z, h1, h⟩ := Option.bind_eq_some_iff.1 h
    split at h <;> cases h
    exact Keeps.refl _ _
  | makeInterface t x =>
    obtain ⟨z, h1, h⟩ := Option.bind_eq_some_iff.1 h
    split at h <;> cases h
    exact Keeps.refl _ _
  | build t ps => obtain ⟨z, h1, h⟩ := Option.bind_eq_some_iff.1 h; exact map_keeps h
  | load t x => obtain ⟨z, h1, h⟩ := Option.bind_eq_some_iff.1 h; exact map_keeps h
  | binOp op t x z t2 => obtain ⟨z, h1, h⟩ := Option.bind_eq_some_iff.1 h; obtain ⟨z, h1, h⟩ := Option.bind_eq_some_iff.1 h; exact map_keeps h
  | unOp op t x => obtain ⟨z, h1, h⟩ := Option.bind_eq_some_iff.1 h; exact map_keeps h
  | slice t x lo hi mx' =>
    cases mx' with
    | some q => cases h
    | none => obtain ⟨z, h1, h⟩ := Option.bind_eq_some_iff.1 h; obtain ⟨z, h1, h⟩ := Option.bind_eq_some_iff.1 h; obtain ⟨z, h1, h⟩ := Option.bind_eq_some_iff.1 h; exact map_keeps h
  | fieldAddr t x f => obtain ⟨z, h1, h⟩ := Option.bind_eq_some_iff.1 h; exact map_keeps h
  | field t x f => obtain ⟨z, h1, h⟩ := Option.bind_eq_some_iff.1 h; exact map_keeps h
  | indexAddr t x i => obtain ⟨z, h1, h⟩ := Option.bind_eq_some_iff.1 h; obtain ⟨z, h1, h⟩ := Option.bind_eq_some_iff.1 h; exact map_keeps h
  | index t x i => obtain ⟨z, h1, h⟩ := Option.bind_eq_some_iff.1 h; obtain ⟨z, h1, h⟩ := Option.bind_eq_some_iff.1 h; exact map_keeps h
  | lookup t x i ok => obtain ⟨z, h1, h⟩ := Option.bind_eq_some_iff.1 h; obtain ⟨z, h1, h⟩ := Option.bind_eq_some_iff.1 h; exact map_keeps h
  | extract x i => obtain ⟨z, h1, h⟩ := Option.bind_eq_some_iff.1 h; exact map_keeps h
  | call c =>
    obtain ⟨callee, args, argTypes⟩ := c
    cases callee with
    | value f => cases h
    | invoke r q => cases h
    | builtin b =>
      obtain ⟨xs, h1, h⟩ := Option.bind_eq_some_iff.1 h
      simp only at h h1
      cases b with
      | append =>
        simp only [dBuiltin] at h
        split at h
        · rename_i t tx s x ht
          obtain ⟨u, v, hv, h3, h4⟩ := (evL_list hf h1).two
          refine dAppend_keeps h4 (fun id ver off len sz e => ?_) h
          subst e
          simp only [stOK, h1, Bool.or_eq_true, decide_eq_true_eq] at hok
          exact hok
        · cases h
      | len =>
        simp only [dBuiltin] at h
        split at h
        · exact map_keeps h
        · cases h
      | max => exact map_keeps h
      | min => exact map_keeps h
      | copy =>
        simp only [dBuiltin] at h
        split at h
        · exact dCopy_keeps h
        · cases h
      | unsafeSliceData =>
        simp only [dBuiltin] at h
        split at h
        · exact map_keeps h
        · cases h
      | unsafeString =>
        simp only [dBuiltin] at h
        split at h
        · exact dUnsS_keeps h
        · cases h
      | _ => cases h
  | _ => cases h

end Go.SL

/- What the evaluator comes to, the model's calls come to. -/
namespace Go.SL
variable [BaseC]
set_option linter.unusedVariables false

/-- The machine's fence: none; in a round of the loop whose record lies there, or in none. -/
def FW (ro : Option Nat) : Fence := { Fence.wide with round := ro }
theorem callsFW {ro : Option Nat} {n : Nat} {P : Program} {f : FuncId} {args : Array Value} {w : World} {R : Ending → World → Prop} (h : Calls P f args w R) : CallsIn (FW ro) n P f args w R :=
  (callsIn_wide (n := n)).2 h
theorem wpIn_exec {ro : Option Nat} {P : Program} {o : Oper} {a : Act} {w : World} {K : Act → World → Prop} {Q : Exit → Act → World → Prop} (hd : ∀ c, o.op ≠ .defer c) (h : o.uponIn (FW ro) 0 P a K Q ((execOp a.eval o).run P w)) : o.wpIn (FW ro) 0 P a w K Q :=
  ⟨fun _ _ => trivial, by rw [Oper.semAt_eq _ _ _ hd]; exact h⟩

/-- A call's end. -/
def RetP (g : Gh) (H : Hp) (w : World) (r : CV) (H2 : Hp) : Ending → World → Prop :=
  fun e w2 => ∃ v g2, e = .returned v ∧ VR g2 r v ∧ WR g2 H2 w2 ∧ Evo g H w g2 H2 w2

/-- A function, called with such arguments, comes to this. -/
def CallS (P : Program) (m : Nat) (f : FuncId) (args : List CV) (H : Hp) (r : CV) (H2 : Hp) : Prop :=
  ∀ g w vs, WR g H w → ListR g args vs → Keeps m H H2 ∧
    ((∃ v g2 w2, (callFunc f vs).run P w = .ok (.value v) w2 ∧ VR g2 r v ∧ WR g2 H2 w2 ∧ Evo g H w g2 H2 w2) ∨
     ((callFunc f vs).run P w = .ok (.enter f vs) w ∧ Calls P f vs w (RetP g H w r H2)))

theorem getD_some {tmps : Array Value} {d : Nat} {v : Value} (h : tmps.getD d undef = v) (hv : v ≠ undef) : tmps[d]? = some v := by
  rw [Array.getD_eq_getD_getElem?] at h
  cases hd : tmps[d]? with
  | none => rw [hd] at h; exact absurd h.symm hv
  | some u => rw [hd] at h; simp at h; rw [h]

theorem wantC_eq {g : Gh} {fr : Fr} {a : Act} (hf : FrR g fr a) {ops : Array Oper} {o : Oper} {b : Bool} (h : wantC fr ops o = some b) : Region.wanted o (yielded ops a.tmps) = b := by
  unfold wantC at h
  unfold Region.wanted
  split at h
  · rename_i hg; cases h; rw [hg]
  · rename_i j want hg
    rw [hg]
    simp only []
    unfold yielded
    split at h
    · rename_i hd; cases h
      rw [hd]; simp
    · rename_i d hd
      rw [hd]
      simp only [Option.bind_some]
      have hv := hf d
      split at h
      · rename_i q hq
        cases h
        rw [hq] at hv
        obtain ⟨hv, _⟩ := hv.atom
        rw [getD_some hv (by simp [undef])]
        simp only []
        cases q <;> cases want <;> rfl
      · rename_i hq
        cases h
        rw [hq] at hv
        obtain ⟨vs, h1, h2, _⟩ := hv.tup_inv
        have : vs = #[] := by
          have : vs.size = 0 := by simpa using h2.symm
          exact Array.eq_empty_of_size_eq_zero this
        subst this
        cases hd2 : a.tmps[d]? with
        | none => simp
        | some u =>
          rw [Array.getD_eq_getD_getElem?, hd2] at h1
          simp at h1
          subst h1
          simp
      · cases h

theorem putC_put {g : Gh} {fr fr2 : Fr} {a : Act} {n : Nat} {d : Option Tmp} {x : CV} {v : Value} (hf : FrR g fr a) (hn : a.tmps.size = n) (hx : VR g x v) (h : putC n fr d x = some fr2) :
    FrR g fr2 (a.put d v) ∧ (a.put d v).tmps.size = n ∧ (a.put d v).defers = a.defers := by
  unfold putC at h
  cases d with
  | none => cases h; exact ⟨hf, hn, rfl⟩
  | some d =>
    simp only [] at h
    by_cases hd : d < n
    · rw [if_pos hd] at h
      have hd2 : d < a.tmps.size := by rw [hn]; exact hd
      cases h
      refine ⟨fun t => ?_, by simp [Act.put, hn], rfl⟩
      simp only [Act.put]
      by_cases e : t = d
      · subst e
        simp only [if_true]
        rw [Array.getD_eq_getD_getElem?, Array.getElem?_setIfInBounds_self_of_lt hd2]
        exact hx
      · simp only [e, if_false]
        rw [Array.getD_eq_getD_getElem?, Array.getElem?_setIfInBounds_ne (Ne.symm e), ← Array.getD_eq_getD_getElem?]
        exact hf t
    · rw [if_neg hd] at h; cases h

theorem FrR.evo {g g2 : Gh} {H H2 : Hp} {w w2 : World} {fr : Fr} {a : Act} (h : FrR g fr a) (e : Evo g H w g2 H2 w2) : FrR g2 fr a := fun t => e.vr (h t)

theorem ListR.unlit {g : Gh} {xs : List CV} {vs : Array Value} (h : ListR g xs vs) : ListR g (xs.map unlit) vs := by
  obtain ⟨h1, h2⟩ := h
  refine ⟨by simpa using h1, fun i hi hi' => ?_⟩
  rw [List.getElem_map]
  exact (h2 i (by simpa using hi) hi').unlit

theorem ListR.app {g : Gh} {xs ys : List CV} {vs us : Array Value} (h : ListR g xs vs) (k : ListR g ys us) : ListR g (xs ++ ys) (vs ++ us) := by
  obtain ⟨h1, h2⟩ := h
  obtain ⟨k1, k2⟩ := k
  refine ⟨by simp at h1 k1 ⊢; omega, fun i hi hi' => ?_⟩
  simp only [Array.toList_append]
  by_cases hlt : i < xs.length
  · rw [List.getElem_append_left hlt, List.getElem_append_left (by omega)]
    exact h2 i hlt (by omega)
  · rw [List.getElem_append_right (by omega), List.getElem_append_right (by omega)]
    simp only [List.length_append] at hi
    have : i - vs.toList.length = i - xs.length := by rw [h1]
    simp only [this]
    exact k2 (i - xs.length) (by omega) (by omega)

theorem ListR.of {g : Gh} {xs : List CV} {vs : Array Value} (hl : xs.length = vs.size) (h : ∀ i (hi : i < xs.length) (hi' : i < vs.size), VR g xs[i] vs[i]) : ListR g xs vs :=
  ⟨by simpa using hl, fun i hi hi' => by simpa using h i hi (by simpa using hi')⟩

theorem VR.fn_inv {g : Gh} {f : FuncId} {fs cs : List CV} {v : Value} (h : VR g (.fn (.func f) fs cs) v) : ∃ fs' cs', v = .func (.func f) fs' cs' ∧ ListR g fs fs' ∧ ListR g cs cs' := by
  cases h with
  | cl h => cases h
  | fn hl hl2 h h2 _ => exact ⟨_, _, rfl, .of hl h, .of hl2 h2⟩

/-- A round comes to this. -/
def RoundS (P : Program) (m id ver : Nat) (args : List CV) (H : Hp) (r : CV) (H2 : Hp) : Prop :=
  ∀ g w vs fv, WR g H w → ListR g args vs → VR g (.yl id ver) fv → Keeps m H H2 ∧ (∃ v g2 w2, VR g2 r v ∧ WR g2 H2 w2 ∧ Evo g H w g2 H2 w2) ∧
    ∃ l fn tmps assign body, fv = .func (.yield l) #[] #[] ∧ (Instr.yield l vs).run P w = .ok (.round l fn tmps assign body) w ∧ RoundIn (FW none) 0 P l fn tmps assign body w (RetP g H w r H2)
def CeOK (P : Program) (ce : CallE) : Prop := (∀ m f args H r H2, ce m (.f f) args H = some (r, H2) → CallS P m f args H r H2) ∧ ∀ m id ver args H r H2, ce m (.y id ver) args H = some (r, H2) → RoundS P m id ver args H r H2

/-- A call's operation. -/
theorem call_exec {P : Program} {w : World} {a : Act} {f : Operand} {args : Array Operand} {ats : Array TypeId} {dst : Option Tmp} {ty : TypeId} {pos : String} {after : Array Edge} {guard : Option (Nat × Bool)} {n : FuncId} {fs cs : Array Value}
    (h : a.eval f = .func (.func n) fs cs) : (execOp a.eval ⟨dst, .call ⟨.value f, args, ats⟩, ty, pos, after, guard⟩).run P w = (callFunc n (fs ++ args.map a.eval ++ cs)).run P w := by
  unfold execOp
  simp only [resolve, h, Deferred.ofValue, Sem.run_bind, Sem.run_pure, Result.andThen_ok, invoke]

theorem yield_exec {P : Program} {w : World} {a : Act} {f : Operand} {args : Array Operand} {ats : Array TypeId} {dst : Option Tmp} {ty : TypeId} {pos : String} {after : Array Edge} {guard : Option (Nat × Bool)} {l : Nat}
    (h : a.eval f = .func (.yield l) #[] #[]) : (execOp a.eval ⟨dst, .call ⟨.value f, args, ats⟩, ty, pos, after, guard⟩).run P w = (Instr.yield l (args.map a.eval)).run P w := by
  unfold execOp
  simp only [resolve, h, Deferred.ofValue, Sem.run_bind, Sem.run_pure, Result.andThen_ok, invoke]
  simp

theorem opX_good {ro : Option Nat} {P : Program} {cfg : Cfg} {ce : CallE} (hce : CeOK P ce) {m : Nat} {g : Gh} {H H2 : Hp} {w : World} {fr : Fr} {a : Act} {old y : CV} (hw : WR g H w) (hf : FrR g fr a) (o : Oper) (h : opX P cfg ce m fr old H o.op = some (y, H2)) :
    Keeps m H H2 ∧ (∃ v g2 w2, VR g2 y v ∧ WR g2 H2 w2 ∧ Evo g H w g2 H2 w2) ∧ ∀ (K : Act → World → Prop) (Q : Exit → Act → World → Prop), (∀ v g2 w2, VR g2 y v → WR g2 H2 w2 → Evo g H w g2 H2 w2 → K (a.put o.dst v) w2) → o.wpIn (FW ro) 0 P a w K Q := by
  have plain : stOK m fr o.op = true → opE P cfg fr old H o.op = some (y, H2) → Keeps m H H2 ∧ (∃ v g2 w2, VR g2 y v ∧ WR g2 H2 w2 ∧ Evo g H w g2 H2 w2) ∧ ∀ (K : Act → World → Prop) (Q : Exit → Act → World → Prop), (∀ v g2 w2, VR g2 y v → WR g2 H2 w2 → Evo g H w g2 H2 w2 → K (a.put o.dst v) w2) → o.wpIn (FW ro) 0 P a w K Q := by
    intro hok hE
    obtain ⟨v, g2, w2, h1, h2, h3, h4⟩ := opE_good hw hf o hE
    refine ⟨opE_keeps (w := w) hf o.op hok hE, ⟨v, g2, w2, h2, h3, h4⟩, fun K Q hK => ?_⟩
    refine wpIn_exec (fun c e => ?_) ?_
    · rw [e] at hE; cases hE
    rcases h1 with h1 | ⟨h1, rfl⟩
    · rw [h1]; exact hK v g2 w2 h2 h3 h4
    · rw [h1]; exact hK _ g2 w2 h2 h3 h4
  have call : ∀ (n : FuncId) (xs : List CV) (vs : Array Value), ce m (.f n) xs H = some (y, H2) → ListR g xs vs → (execOp a.eval o).run P w = (callFunc n vs).run P w → (∀ c, o.op ≠ .defer c) →
      Keeps m H H2 ∧ (∃ v g2 w2, VR g2 y v ∧ WR g2 H2 w2 ∧ Evo g H w g2 H2 w2) ∧ ∀ (K : Act → World → Prop) (Q : Exit → Act → World → Prop), (∀ v g2 w2, VR g2 y v → WR g2 H2 w2 → Evo g H w g2 H2 w2 → K (a.put o.dst v) w2) → o.wpIn (FW ro) 0 P a w K Q := by
    intro n xs vs hc hl hx hnd
    obtain ⟨hk, hr⟩ := hce.1 m n xs H y H2 hc g w vs hw hl
    rcases hr with ⟨v, g2, w2, h1, h2, h3, h4⟩ | ⟨h1, h2⟩
    · refine ⟨hk, ⟨v, g2, w2, h2, h3, h4⟩, fun K Q hK => ?_⟩
      refine wpIn_exec hnd ?_
      rw [hx, h1]
      exact hK v g2 w2 h2 h3 h4
    · refine ⟨hk, ?_, fun K Q hK => ?_⟩
      · obtain ⟨e, w2, _, ⟨v, g2, _, h3, h4, h5⟩, _⟩ := h2 []
        exact ⟨v, g2, w2, h3, h4, h5⟩
      · refine wpIn_exec hnd ?_
        rw [hx, h1]
        refine ⟨fun e => (by cases e), callsFW (Calls.mono h2 fun e w2 he => ?_)⟩
        obtain ⟨v, g2, rfl, h3, h4, h5⟩ := he
        exact hK v g2 w2 h3 h4 h5
  obtain ⟨dst, op, ty, pos, after, guard⟩ := o
  simp only at h plain call
  unfold opX at h
  split at h
  · rename_i f args ats
    obtain ⟨fv, h1, k1⟩ := Option.bind_eq_some_iff.1 h
    obtain ⟨xs, h2, k2⟩ := Option.bind_eq_some_iff.1 k1
    clear h k1
    have hfv := evO_vr hf h1
    have hxs := (evL_list hf h2).unlit
    cases fv with
    | v q =>
      cases q with
      | func f' q1 q2 =>
        cases f' with
        | func n =>
          simp only [] at k2
          obtain ⟨hv, ha⟩ := hfv.atom
          simp [atomV] at ha
          obtain ⟨rfl, rfl⟩ := ha
          refine call n _ (args.map a.eval) k2 hxs ?_ (fun c e => by cases e)
          rw [call_exec hv]; simp
        | _ => cases k2
      | _ => cases k2
    | fn f' fs cs =>
      cases f' with
      | func n =>
        simp only [] at k2
        obtain ⟨fs', cs', hv, hfs, hcs⟩ := hfv.fn_inv
        exact call n _ (fs' ++ args.map a.eval ++ cs') k2 ((hfs.app hxs).app hcs) (call_exec hv) (fun c e => by cases e)
      | _ => cases k2
    | yl id ver =>
      simp only [] at k2
      obtain ⟨r1, r2, l, fn, tmps, assign, body, hv, hy, hr⟩ := hce.2 m id ver _ H y H2 k2 g w _ _ hw hxs hfv
      refine ⟨r1, r2, fun K Q hK => wpIn_exec (fun c e => by cases e) ?_⟩
      rw [yield_exec hv, hy]
      refine ⟨fun e => (by cases e), RoundIn.mono (show RoundIn (FW ro) 0 P l fn tmps assign body w (RetP g H w y H2) from hr) fun e w2 he => ?_⟩
      obtain ⟨v, g2, rfl, h3, h4, h5⟩ := he
      exact hK v g2 w2 h3 h4 h5
    | _ => cases k2
  · split at h
    · rename_i hok; exact plain hok h
    · cases h

theorem evOps_good {ro : Option Nat} {P : Program} {cfg : Cfg} {ce : CallE} (hce : CeOK P ce) {m n : Nat} {ops : Array Oper} : ∀ (l : List Oper) (fr : Fr) (H : Hp) (fr2 : Fr) (H2 : Hp), evOps P cfg ce m n ops l fr H = some (fr2, H2) →
    ∀ (g : Gh) (w : World) (a : Act), WR g H w → FrR g fr a → a.tmps.size = n → Keeps m H H2 ∧ (∃ g2 w2 a2, WR g2 H2 w2 ∧ FrR g2 fr2 a2 ∧ a2.tmps.size = n ∧ a2.defers = a.defers ∧ Evo g H w g2 H2 w2) ∧ ∀ (Q : Exit → Act → World → Prop),
      (∀ g2 a2 w2, FrR g2 fr2 a2 → a2.tmps.size = n → a2.defers = a.defers → WR g2 H2 w2 → Evo g H w g2 H2 w2 → Q .normal a2 w2) → wpListIn (FW ro) 0 P ops Q l a w
  | [], fr, H, fr2, H2, h, g, w, a, hw, hf, hn => by
    simp only [evOps, Option.some.injEq, Prod.mk.injEq] at h
    obtain ⟨rfl, rfl⟩ := h
    exact ⟨Keeps.refl _ _, ⟨g, w, a, hw, hf, hn, rfl, Evo.refl g H w⟩, fun Q hQ => hQ g a w hf hn rfl hw (Evo.refl g H w)⟩
  | o :: rest, fr, H, fr2, H2, h, g, w, a, hw, hf, hn => by
    unfold evOps at h
    obtain ⟨b, hb, h⟩ := Option.bind_eq_some_iff.1 h
    have hwant := wantC_eq hf hb
    split at h
    · rename_i htrue
      obtain ⟨⟨y, H1⟩, hy, h⟩ := Option.bind_eq_some_iff.1 h
      obtain ⟨fr1, hfr1, h⟩ := Option.bind_eq_some_iff.1 h
      obtain ⟨k1, ⟨v0, g0, w0, v1, v2, v3⟩, k2⟩ := opX_good hce hw hf o hy
      obtain ⟨p1, p2, p3⟩ := putC_put (hf.evo v3) hn v1 hfr1
      obtain ⟨r1, ⟨g9, w9, a9, z1, z2, z3, z4, z5⟩, r3⟩ := evOps_good (ro := ro) hce rest fr1 H1 fr2 H2 h g0 w0 (a.put o.dst v0) v2 p1 p2
      refine ⟨k1.trans r1, ⟨g9, w9, a9, z1, z2, z3, z4.trans p3, v3.trans z5⟩, fun Q hQ => ?_⟩
      unfold wpListIn
      rw [if_pos (by rw [hwant, htrue])]
      refine k2 _ Q fun v g2 w2 q1 q2 q3 => ?_
      obtain ⟨p1, p2, p3⟩ := putC_put (hf.evo q3) hn q1 hfr1
      obtain ⟨_, _, r3⟩ := evOps_good (ro := ro) hce rest fr1 H1 fr2 H2 h g2 w2 (a.put o.dst v) q2 p1 p2
      exact r3 Q fun g3 a3 w3 s1 s2 s3 s4 s5 => hQ g3 a3 w3 s1 s2 (s3.trans p3) s4 (q3.trans s5)
    · rename_i hfalse
      obtain ⟨fr1, hfr1, h⟩ := Option.bind_eq_some_iff.1 h
      obtain ⟨p1, p2, p3⟩ := putC_put hf hn (VR.undef g) hfr1
      obtain ⟨r1, ⟨g9, w9, a9, z1, z2, z3, z4, z5⟩, r3⟩ := evOps_good (ro := ro) hce rest fr1 H fr2 H2 h g w (a.put o.dst undef) hw p1 p2
      refine ⟨r1, ⟨g9, w9, a9, z1, z2, z3, z4.trans p3, z5⟩, fun Q hQ => ?_⟩
      unfold wpListIn
      rw [if_neg (by rw [hwant]; exact hfalse)]
      refine ⟨fun _ _ => trivial, ?_⟩
      exact r3 Q fun g3 a3 w3 s1 s2 s3 s4 s5 => hQ g3 a3 w3 s1 s2 (s3.trans p3) s4 s5

/-- How many are not listed yet. -/
def left (ops : Array Oper) (listed : Array Bool) : Nat := ((List.range ops.size).filter fun j => !listed.getD j true).length
theorem left_set {ops : Array Oper} {listed : Array Bool} {i : Nat} (h : i ∈ Region.ready .any ops listed) : left ops (listed.setIfInBounds i true) < left ops listed := by
  obtain ⟨h0, o, ho, _⟩ := mem_ready.1 h
  have hi : i < ops.size := (Array.getElem?_eq_some_iff.1 ho).1
  have hsub : (List.range ops.size).filter (fun j => !(listed.setIfInBounds i true).getD j true) = ((List.range ops.size).filter fun j => !listed.getD j true).filter fun j => j != i := by
    rw [List.filter_filter]
    refine List.filter_congr fun j hj => ?_
    by_cases e : i = j
    · subst e
      have hlt : i < listed.size := by
        rcases Nat.lt_or_ge i listed.size with h' | h'
        · exact h'
        · simp [Array.getElem?_eq_none h'] at h0
      simp [hlt]
    · rw [getD_set_ne true e]
      have : (j != i) = true := by simpa using Ne.symm e
      rw [this]; simp
  unfold left
  rw [hsub]
  refine List.length_filter_lt_length_iff_exists.2 ⟨i, List.mem_filter.2 ⟨List.mem_range.2 hi, by rw [h0]; rfl⟩, by simp⟩
theorem LinX.exist {ops : Array Oper} : ∀ (n : Nat) (listed : Array Bool), left ops listed ≤ n → ∃ l, LinX ops l listed
  | n, listed, hn => by
    cases hr : Region.ready .any ops listed with
    | nil => exact ⟨[], hr⟩
    | cons i rs =>
      have hi : i ∈ Region.ready .any ops listed := by rw [hr]; simp
      have := left_set hi
      cases n with
      | zero => omega
      | succ n =>
        obtain ⟨l, hl⟩ := LinX.exist (ops := ops) n (listed.setIfInBounds i true) (by omega)
        exact ⟨i :: l, hi, hl⟩

theorem evAny_good {ro : Option Nat} {P : Program} {cfg : Cfg} {ce : CallE} (hce : CeOK P ce) {m n : Nat} {ops : Array Oper} {fr2 : Fr} {H2 : Hp} : ∀ (k : Nat) (listed : Array Bool), left ops listed ≤ k → ∀ (fr : Fr) (H : Hp) (g : Gh) (w : World) (a : Act), WR g H w → FrR g fr a → a.tmps.size = n →
    (∀ l, LinX ops l listed → evIx P cfg ce m n ops l fr H = some (fr2, H2)) → ∀ (Q : Exit → Act → World → Prop),
      (∀ g2 a2 w2, FrR g2 fr2 a2 → a2.tmps.size = n → a2.defers = a.defers → WR g2 H2 w2 → Evo g H w g2 H2 w2 → Q .normal a2 w2) → wpAnyIn (FW ro) 0 P .any ops Q k listed a w := by
  intro k
  have done : ∀ (listed : Array Bool) (fr : Fr) (H : Hp) (g : Gh) (w : World) (a : Act), WR g H w → FrR g fr a → a.tmps.size = n →
      (∀ l, LinX ops l listed → evIx P cfg ce m n ops l fr H = some (fr2, H2)) → ∀ (Q : Exit → Act → World → Prop),
      (∀ g2 a2 w2, FrR g2 fr2 a2 → a2.tmps.size = n → a2.defers = a.defers → WR g2 H2 w2 → Evo g H w g2 H2 w2 → Q .normal a2 w2) → Region.ready .any ops listed = [] → Q .normal a w := by
    intro listed fr H g w a hw hf hn hall Q hQ hr
    have := hall [] hr
    simp only [evIx, List.filterMap_nil, evOps, Option.some.injEq, Prod.mk.injEq] at this
    obtain ⟨rfl, rfl⟩ := this
    exact hQ g a w hf hn rfl hw (Evo.refl g H w)
  induction k with
  | zero =>
    intro listed hk fr H g w a hw hf hn hall Q hQ
    have hr : Region.ready .any ops listed = [] := by
      cases hr : Region.ready .any ops listed with
      | nil => rfl
      | cons i rs => have := left_set (i := i) (ops := ops) (listed := listed) (by rw [hr]; simp); omega
    exact ⟨hr, done listed fr H g w a hw hf hn hall Q hQ hr⟩
  | succ k ih =>
    intro listed hk fr H g w a hw hf hn hall Q hQ
    refine ⟨done listed fr H g w a hw hf hn hall Q hQ, fun i hi => ?_⟩
    have hlt := left_set hi
    obtain ⟨_, o, ho, _⟩ := mem_ready.1 hi
    obtain ⟨l0, hl0⟩ := LinX.exist (ops := ops) _ (listed.setIfInBounds i true) (Nat.le_refl _)
    have h0 := hall (i :: l0) ⟨hi, hl0⟩
    have hcons : ∀ l, (i :: l).filterMap (ops[·]?) = o :: l.filterMap (ops[·]?) := fun l => by rw [List.filterMap_cons, ho]
    unfold wpOpIn
    simp only [ho]
    have h := h0
    unfold evIx at h
    rw [hcons] at h
    unfold evOps at h
    obtain ⟨b, hb, h⟩ := Option.bind_eq_some_iff.1 h
    have hwant := wantC_eq hf hb
    cases b with
    | true =>
      simp only [if_true] at h
      obtain ⟨⟨y, H1⟩, hy, h⟩ := Option.bind_eq_some_iff.1 h
      obtain ⟨fr1, hfr1, h⟩ := Option.bind_eq_some_iff.1 h
      obtain ⟨_, _, k2⟩ := opX_good hce hw hf o hy
      rw [if_pos hwant]
      refine k2 _ Q fun v g2 w2 q1 q2 q3 => ?_
      obtain ⟨p1, p2, p3⟩ := putC_put (hf.evo q3) hn q1 hfr1
      refine ih _ (by omega) fr1 H1 g2 w2 _ q2 p1 p2 (fun l hl => ?_) Q fun g3 a3 w3 s1 s2 s3 s4 s5 => hQ g3 a3 w3 s1 s2 (s3.trans p3) s4 (q3.trans s5)
      have h' := hall (i :: l) ⟨hi, hl⟩
      unfold evIx at h'
      rw [hcons] at h'
      unfold evOps at h'
      simp only [hb, Option.bind_some, if_true, hy, hfr1] at h'
      exact h'
    | false =>
      simp only [Bool.false_eq_true, if_false] at h
      obtain ⟨fr1, hfr1, h⟩ := Option.bind_eq_some_iff.1 h
      obtain ⟨p1, p2, p3⟩ := putC_put hf hn (VR.undef g) hfr1
      rw [if_neg (by rw [hwant]; simp)]
      refine ⟨fun _ _ => trivial, ?_⟩
      refine ih _ (by omega) fr1 H g w _ hw p1 p2 (fun l hl => ?_) Q fun g3 a3 w3 s1 s2 s3 s4 s5 => hQ g3 a3 w3 s1 s2 (s3.trans p3) s4 s5
      have h' := hall (i :: l) ⟨hi, hl⟩
      unfold evIx at h'
      rw [hcons] at h'
      unfold evOps at h'
      simp only [hb, Option.bind_some, Bool.false_eq_true, if_false, hfr1] at h'
      exact h'

theorem left_all (ops : Array Oper) : left ops (Array.replicate ops.size false) ≤ ops.size := by
  unfold left
  exact Nat.le_trans (List.length_filter_le _ _) (by simp)

theorem later_drawn (w : World) : Later w { w with drawn := w.drawn + 1 } := ⟨rfl, rfl, rfl, Nat.le_refl _, fun _ _ => rfl⟩

def Ex.to : Ex → Exit
  | .norm => .normal
  | .exit id => .exit id
  | .goto l => .goto l
  | .ret => .ret

/-- The marks of the loops that have been gone through: their blocks are nobody's, and younger than the call. -/
def DefOK (B : Nat) (g : Gh) (H : Hp) (ds : List Deferred) (w : World) : Prop :=
  ds.Pairwise (· ≠ ·) ∧ ∀ d ∈ ds, ∃ D, d = { target := .collected D, args := #[] } ∧ B ≤ D ∧ w.heap[D]? = some (.deferred (some [])) ∧ ¬ Mine g H D
theorem DefOK.evo {B : Nat} {g g2 : Gh} {H H2 : Hp} {ds : List Deferred} {w w2 : World} (h : DefOK B g H ds w) (e : Evo g H w g2 H2 w2) : DefOK B g2 H2 ds w2 := by
  refine ⟨h.1, fun d hd => ?_⟩
  obtain ⟨D, h1, h2, h3, h4⟩ := h.2 d hd
  have hlt := (Array.getElem?_eq_some_iff.1 h3).1
  exact ⟨D, h1, h2, (e.keep D hlt h4).trans h3, fun hm => (e.grow D hm).elim (fun h5 => by omega) h4⟩

theorem DefOK.nil (B : Nat) (g : Gh) (H : Hp) (w : World) : DefOK B g H [] w := ⟨.nil, fun d hd => by cases hd⟩

/-- A block that is nobody's is turned. -/
theorem WR.other {g : Gh} {H : Hp} {w : World} (h : WR g H w) {D : Nat} {x : Option (List Deferred)} {o' : Obj} (hD : w.heap[D]? = some (.deferred x)) (hm : ¬ Mine g H D) : WR g H (w.putObj D o') := by
  refine ⟨h.len, fun id x l a b => ?_, h.inj, fun b q v hb => ?_, h.dis, fun b hb => by rw [World.putObj_size]; exact h.own b hb, h.base, h.org, fun b c hb => by
    obtain ⟨e2, f2, h2⟩ := h.blk b c hb
    exact ⟨e2, f2, by rw [World.putObj_heap_other (by rintro rfl; rw [hD] at h2; cases h2)]; exact h2⟩⟩
  · by_cases hlv : x.live = true
    · refine (h.obj id x l a b).congr (World.putObj_heap_other fun e => hm ?_)
      exact .inr ⟨id, x, l, a, hlv, b, e⟩
    · cases x with
      | gone ver => exact h.obj id _ l a b
      | cells => simp [CO.live] at hlv
      | map => simp [CO.live] at hlv
      | loop => simp [CO.live] at hlv
  · have := h.im b q v hb
    refine ⟨?_, this.2⟩
    have hne : b ≠ D := by
      rintro rfl
      have h1 := this.1
      simp [World.cell?, hD] at h1
    rw [World.cell?_of_block (w := w) (w' := w.putObj D o') (a := ⟨b, q, none⟩) (World.putObj_heap_other hne)]
    exact this.1

theorem leaves_marks {P : Program} {fn : Func} {tmps : Array Value} {R : Ending → World → Prop} {B : Nat} {g g0 : Gh} {H H0 : Hp} {w0 : World} (hB : w0.heap.size ≤ B) : ∀ (ds : List Deferred) (w : World), WR g H w → Evo g0 H0 w0 g H w → DefOK B g H ds w →
    (∀ w', WR g H w' → Evo g0 H0 w0 g H w' → ∃ v, (results fn tmps).run P w' = .ok v w' ∧ R (.returned v) w') → LeavesInM (FW none) 0 P fn tmps R ds .returning w
  | [], w, hw, he, hd, hK => hK w hw he
  | d :: ds, w, hw, he, hd, hK => by
    obtain ⟨D, rfl, h2, h3, h4⟩ := hd.2 d (by simp)
    have hD := (Array.getElem?_eq_some_iff.1 h3).1
    refine ⟨fun e => (by cases e), .inl ⟨D, _, rfl, run_takeDeferred h3, ?_⟩⟩
    have hp := List.pairwise_cons.1 hd.1
    refine leaves_marks hB ds _ (hw.other h3 h4) ⟨he.os, he.tape, he.output, by rw [World.putObj_size]; exact he.size, fun b hb hm => ?_, he.grow, he.im, he.locs, he.ownm⟩ ⟨hp.2, fun d' hd' => ?_⟩ hK
    · rw [World.putObj_heap_other (by omega)]; exact he.keep b hb hm
    · obtain ⟨D', k1, k2, k3, k4⟩ := hd.2 d' (by simp [hd'])
      have hne : D' ≠ D := fun e => hp.1 d' hd' (by rw [k1, e])
      exact ⟨D', k1, k2, by rw [World.putObj_heap_other hne]; exact k3, k4⟩

/-- What code comes to. -/
def CodeG (ro : Option Nat) (P : Program) (m n : Nat) (c : Code) (fr : Fr) (H : Hp) (e : Ex) (fr2 : Fr) (H2 : Hp) : Prop :=
  ∀ (B : Nat) (g : Gh) (w : World) (a : Act), WR g H w → FrR g fr a → a.tmps.size = n → B ≤ w.heap.size → DefOK B g H a.defers w →
    Keeps m H H2 ∧ (∃ g2 w2 a2, WR g2 H2 w2 ∧ FrR g2 fr2 a2 ∧ a2.tmps.size = n ∧ DefOK B g2 H2 a2.defers w2 ∧ Evo g H w g2 H2 w2) ∧ ∀ (Q : Exit → Act → World → Prop),
      (∀ g2 a2 w2, FrR g2 fr2 a2 → a2.tmps.size = n → DefOK B g2 H2 a2.defers w2 → WR g2 H2 w2 → Evo g H w g2 H2 w2 → Q e.to a2 w2) → c.wpIn (FW ro) 0 P Q a w

theorem CodeG.now {ro : Option Nat} {P : Program} {m n : Nat} {c : Code} {fr : Fr} {H : Hp} {e : Ex} (h : ∀ (Q : Exit → Act → World → Prop) a w, Q e.to a w → c.wpIn (FW ro) 0 P Q a w) : CodeG ro P m n c fr H e fr H :=
  fun B g w a hw hf hn hB hd => ⟨Keeps.refl _ _, ⟨g, w, a, hw, hf, hn, hd, Evo.refl g H w⟩, fun Q hQ => h Q a w (hQ g a w hf hn hd hw (Evo.refl g H w))⟩

theorem loop_at {g : Gh} {H : Hp} {w : World} (h : WR g H w) {id v : Nat} {fn : FuncId} {ts : List CV} {ps : Array Tmp} {a b : Code} {st : LoopState} {pe : Option Code} (ho : H[id]? = some (.loop v fn ts ps a b st pe)) :
    ∃ l r, g.locs[id]? = some l ∧ l.ver = v ∧ w.heap[l.b]? = some (.loop r) ∧ (∀ i, VR g (ts.getD i (.tup [])) (r.tmps.getD i undef)) ∧ r.tmps.size = ts.length ∧ r.params = ps ∧ r.assign = a ∧ r.body = b ∧ r.state = st ∧ r.pending = pe := by
  have hid := (List.getElem?_eq_some_iff.1 ho).1
  have hl : id < g.locs.length := by rw [h.len]; exact hid
  obtain ⟨h1, r, h2⟩ := h.obj id _ _ ho (List.getElem?_eq_getElem hl)
  exact ⟨_, r, List.getElem?_eq_getElem hl, h1, h2⟩
theorem loop_set {g : Gh} {H : Hp} {w : World} (h : WR g H w) {id v : Nat} {fn : FuncId} {ts : List CV} {ps : Array Tmp} {a b : Code} {st : LoopState} {pe : Option Code} (ho : H[id]? = some (.loop v fn ts ps a b st pe)) {l : Loc} {r : Loop} (hl : g.locs[id]? = some l)
    (hr : w.heap[l.b]? = some (.loop r)) (st' : LoopState) (pe' : Option Code) : WR g (H.set id (.loop v fn ts ps a b st' pe')) (w.putObj l.b (.loop { r with state := st', pending := pe' })) ∧ Evo g H w g (H.set id (.loop v fn ts ps a b st' pe')) (w.putObj l.b (.loop { r with state := st', pending := pe' })) := by
  obtain ⟨l', r', k1, k2, k3, k4, k5, k6, k7, k8, k9, k10⟩ := loop_at h ho
  rw [hl] at k1; cases k1
  rw [hr] at k3; cases k3
  have hlt := (Array.getElem?_eq_some_iff.1 hr).1
  exact h.upd ho rfl rfl hl rfl rfl rfl World.putObj_size.symm (fun q hq => World.putObj_heap_other hq) ⟨k2, _, World.putObj_heap_same hlt, k4, k5, k6, k7, k8, rfl, rfl⟩ (fun _ _ h => by cases h)
theorem same_loc {g g1 : Gh} {H H1 : Hp} {w w1 : World} (e : Evo g H w g1 H1 w1) {id : Nat} {l l1 : Loc} (h : g.locs[id]? = some l) (h1 : g1.locs[id]? = some l1) (hv : l1.ver = l.ver) : l1 = l := by
  obtain ⟨l2, h2, h3⟩ := e.locs id l h
  rw [h1] at h2; cases h2
  rcases h3 with h3 | h3
  · omega
  · exact h3

theorem Mine.lt {g : Gh} {H : Hp} {w : World} (hw : WR g H w) {b : Nat} (h : Mine g H b) : b < w.heap.size := by
  rcases h with h | ⟨id, o, l, h1, h2, h3, h4⟩
  · exact (hw.own b h).1
  · rw [← h4]; exact (hw.obj id o l h1 h3).lt h2

/-- A range over a function comes to what its evaluation says. -/
theorem range_good {P : Program} {cfg : Cfg} {ce : CallE} (hce : CeOK P ce) (hname : ∀ (f : FuncId) (fn : Func), P.funcs[f]? = some fn → fn.name ≠ "runtime.NumGoroutine") {m n k : Nat} {f : Operand} {ps : Array Tmp} {x y : Code} {fr fr2 : Fr} {H H2 : Hp} {e : Ex}
    (h : ev P cfg ce m n (k + 1) (.rangeFunc f ps x y) fr H = some (e, fr2, H2)) : CodeG none P m n (.rangeFunc f ps x y) fr H e fr2 H2 := by
  simp only [ev] at h
  split at h
  · cases h
  obtain ⟨fv, hfv, hA⟩ := Option.bind_eq_some_iff.1 h
  clear h
  split at hA
  rotate_left
  · cases hA
  rename_i gf cap
  split at hA
  rotate_left
  · cases hA
  rename_i hbody
  obtain ⟨⟨r, HH⟩, hcall, hB⟩ := Option.bind_eq_some_iff.1 hA
  clear hA
  simp only at hB
  split at hB
  rotate_left
  · cases hB
  rename_i fn1 ts1 ps1 a1 b1 st pe hHH
  split at hB
  · cases hB
  rename_i hst
  obtain ⟨e', he', hB⟩ := Option.map_eq_some_iff.1 hB
  simp only [Prod.mk.injEq] at hB
  obtain ⟨rfl, rfl, rfl⟩ := hB
  intro B g w a hw hf hn hBs hd
  obtain ⟨fs', cap', hv, hfs, hcap⟩ := (evO_vr hf hfv).fn_inv
  have hfs' : fs' = #[] := by
    have := hfs.1
    apply Array.eq_empty_of_size_eq_zero
    simpa using this.symm
  subst hfs'
  obtain ⟨fn0, hfn0, hb0⟩ := Option.isSome_iff_exists.1 hbody |>.elim fun c hc => Option.bind_eq_some_iff.1 hc |>.elim fun fn0 h => (⟨fn0, h.1, by rw [h.2]; rfl⟩ : ∃ fn0, P.funcs[gf]? = some fn0 ∧ fn0.body.isSome = true)
  obtain ⟨c0, hc0⟩ := Option.isSome_iff_exists.1 hb0
  have henter : ∀ args w, (callFunc gf args).run P w = .ok (.enter gf args) w := fun args w => by
    have := hname gf fn0 hfn0
    simp [callFunc, hfn0, this, hc0]
  obtain ⟨l, hl⟩ : ∃ l : Loc, l = ⟨w.heap.size + 1, 0, 0, 0⟩ := ⟨_, rfl⟩
  have hlb : l.b = w.heap.size + 1 := by rw [hl]
  have hlv : l.ver = 0 := by rw [hl]
  have start : ∀ fn : FuncId, ∃ W1, (Instr.enterLoop fn a.tmps ps x y none).run P w = .ok (l.b, [{ target := .collected w.heap.size, args := #[] }]) W1 ∧ WR (g.add l) (H ++ [.loop 0 cfg.fn ((List.range n).map fr) ps x y .ready none]) W1 ∧
      Evo g H w (g.add l) (H ++ [.loop 0 cfg.fn ((List.range n).map fr) ps x y .ready none]) W1 ∧ W1.heap[w.heap.size]? = some (.deferred (some [])) := by
    intro fn
    have h1 := run_enterLoop_outer (P := P) (w := w) fn a.tmps ps x y
    rw [← hlb] at h1
    refine ⟨_, h1, ?_⟩
    have lat : Later w ((w.alloc (.deferred (some []))).alloc (.loop { state := .ready, pending := none, fn, tmps := a.tmps, params := ps, assign := x, body := y, defers := w.heap.size })) :=
      ⟨rfl, rfl, rfl, by simp; omega, fun b hb => by rw [heap_alloc_lt _ _ _ (by simp; omega), heap_alloc_lt _ _ _ hb]⟩
    obtain ⟨f1, f2, f3⟩ := hw.free_new (show w.heap.size ≤ w.heap.size + 1 by omega)
    rw [← hlb] at f1 f2 f3
    refine ⟨(hw.later lat).add _ l f1 f2 f3 ⟨hlv, { state := .ready, pending := none, fn, tmps := a.tmps, params := ps, assign := x, body := y, defers := w.heap.size }, ?_, fun i => ?_, by simpa using hn, rfl, rfl, rfl, rfl, rfl⟩ (fun _ _ h => by cases h),
      ⟨rfl, rfl, rfl, lat.size, fun b hb _ => lat.old b hb, fun b hb => (hb.add hw.len).imp (fun e => by rw [e, hlb]; omega) id, fun _ _ _ h => h, locs_app g _, fun _ h => h⟩, ?_⟩
    · rw [hlb]
      have := World.alloc_heap_new (w.alloc (.deferred (some []))) (.loop { state := .ready, pending := none, fn, tmps := a.tmps, params := ps, assign := x, body := y, defers := w.heap.size })
      rwa [World.size_alloc] at this
    · refine VR.mono (g := g) (g2 := g.add l) (fun _ _ _ x => x) (locs_app g _) (fun _ h => h) ?_
      by_cases hi : i < n
      · rw [List.getD_eq_getElem?_getD]
        simp only [List.getElem?_map, List.getElem?_range hi, Option.map_some, Option.getD_some]
        exact hf i
      · rw [List.getD_eq_getElem?_getD, List.getElem?_eq_none (by simp; omega), Array.getD_eq_getD_getElem?, Array.getElem?_eq_none (by show a.tmps.size ≤ i; omega)]
        exact VR.undef _
    · rw [heap_alloc_lt _ _ _ (by simp)]; exact World.alloc_heap_new w _
  have hloc : (g.add l).locs[H.length]? = some l := g.add_last hw l
  have args : ListR (g.add l) (.yl H.length 0 :: cap) (#[.func (.yield l.b) #[] #[]] ++ cap') := by
    have h1 : ListR (g.add l) [.yl H.length 0] #[.func (.yield l.b) #[] #[]] := ⟨rfl, fun i hi hi' => by
      have : i = 0 := by simp at hi; omega
      subst this; exact .yl hloc hlv.symm⟩
    have h2 : ListR (g.add l) cap cap' := ⟨hcap.1, fun i hi hi' => VR.mono (g := g) (g2 := g.add l) (fun _ _ _ x => x) (locs_app g _) (fun _ h => h) (hcap.2 i hi hi')⟩
    exact h1.app h2
  have marks : ∀ W1, Evo g H w (g.add l) (H ++ [.loop 0 cfg.fn ((List.range n).map fr) ps x y .ready none]) W1 → W1.heap[w.heap.size]? = some (.deferred (some [])) →
      DefOK B (g.add l) (H ++ [.loop 0 cfg.fn ((List.range n).map fr) ps x y .ready none]) ({ target := .collected w.heap.size, args := #[] } :: a.defers) W1 := by
    intro W1 he hD
    have h1 := hd.evo he
    refine ⟨List.pairwise_cons.2 ⟨fun d' hd' => ?_, h1.1⟩, fun d' hd' => ?_⟩
    · obtain ⟨D', k1, k2, k3, k4⟩ := hd.2 d' hd'
      have := (Array.getElem?_eq_some_iff.1 k3).1
      rw [k1]
      simp only [ne_eq, Deferred.mk.injEq, Target.collected.injEq, and_true]
      omega
    · rcases List.mem_cons.1 hd' with rfl | hd'
      · refine ⟨_, rfl, hBs, hD, fun hm => ?_⟩
        rcases hm.add hw.len with e | e
        · rw [hlb] at e; omega
        · exact absurd (e.lt hw) (by omega)
      · exact h1.2 d' hd'
  have fin : ∀ W1 g2 w2, WR g2 HH w2 → Evo (g.add l) (H ++ [.loop 0 cfg.fn ((List.range n).map fr) ps x y .ready none]) W1 g2 HH w2 → ∃ r2, w2.heap[l.b]? = some (.loop r2) ∧ r2.state ≠ .busy ∧ r2.pending = pe ∧
      WR g2 (HH.set H.length (.loop 0 fn1 ts1 ps1 a1 b1 .exhausted pe)) (w2.putObj l.b (.loop { r2 with state := .exhausted })) ∧ Evo g2 HH w2 g2 (HH.set H.length (.loop 0 fn1 ts1 ps1 a1 b1 .exhausted pe)) (w2.putObj l.b (.loop { r2 with state := .exhausted })) := by
    intro W1 g2 w2 hw2 he2
    obtain ⟨l', r2, q1, q2, q3, _, _, _, _, _, q9, q10⟩ := loop_at hw2 hHH
    obtain rfl := same_loc he2 hloc q1 (by omega)
    obtain ⟨s1, s2⟩ := loop_set hw2 hHH q1 q3 .exhausted pe
    have e : ({ r2 with state := .exhausted, pending := pe } : Loop) = { r2 with state := .exhausted } := by rw [← q10]
    rw [e] at s1 s2
    exact ⟨r2, q3, by rw [q9]; exact hst, q10, s1, s2⟩
  obtain ⟨W0, st1, st2, st3, st4⟩ := start 0
  obtain ⟨K1, hcs⟩ := hce.1 m gf _ _ r HH hcall (g.add l) W0 _ st2 args
  have hset : Keeps m HH (HH.set H.length (.loop 0 fn1 ts1 ps1 a1 b1 .exhausted pe)) := Keeps.set fun m' _ _ h3 h4 => (show topLeL m' ts1 = true from h3 _ _ h4 hHH)
  refine ⟨(Keeps.app m H _).trans (K1.trans hset), ?_, fun Q hQ => wpIn_rangeFunc fun fn _ => ?_⟩
  · rcases hcs with ⟨v, g2, w2, q1, _⟩ | ⟨_, q2⟩
    · rw [henter] at q1; cases q1
    · obtain ⟨e0, w2, _, ⟨v, g2, _, h3, h4, h5⟩, _⟩ := q2 []
      obtain ⟨r2, n1, n2, n3, n4, n5⟩ := fin W0 g2 w2 h4 h5
      have E := st3.trans (h5.trans n5)
      exact ⟨g2, _, { a with defers := { target := .collected w.heap.size, args := #[] } :: a.defers }, n4, hf.evo E, hn, (marks W0 st3 st4).evo (h5.trans n5), E⟩
  · obtain ⟨W1, s1, s2, s3, s4⟩ := start fn
    obtain ⟨_, hcs⟩ := hce.1 m gf _ _ r HH hcall (g.add l) W1 _ s2 args
    refine ⟨l.b, [{ target := .collected w.heap.size, args := #[] }], W1, { target := .fn (.func gf) cap', args := #[.func (.yield l.b) #[] #[]] }, W1, gf, #[.func (.yield l.b) #[] #[]] ++ cap', W1, s1, ?_, fun _ _ => trivial, ?_, fun e => (by cases e), ?_⟩
    · simp [resolve, rangeCall, hv, Deferred.ofValue]; rfl
    · simp only [invoke, henter]
    · rcases hcs with ⟨v, g2, w2, q1, _⟩ | ⟨_, q2⟩
      · rw [henter] at q1; cases q1
      · refine callsFW (Calls.mono q2 fun e0 w2 he0 => ?_)
        obtain ⟨v, g2, rfl, h3, h4, h5⟩ := he0
        obtain ⟨r2, n1, n2, n3, n4, n5⟩ := fin W1 g2 w2 h4 h5
        have E := s3.trans (h5.trans n5)
        refine ⟨_, _, run_endLoop n1 n2, ?_⟩
        have hQ' := hQ g2 { a with defers := { target := .collected w.heap.size, args := #[] } :: a.defers } _ (hf.evo E) hn ((marks W1 s3 s4).evo (h5.trans n5)) n4 E
        rw [n3] at hQ' ⊢
        unfold jumpEx at he'
        split at he'
        · cases he'; exact hQ'
        · cases he'; exact wpIn_exit hQ'
        · cases he'; exact wpIn_goto hQ'
        · cases he'; exact wpIn_ret hQ'
        · cases he'

theorem stepR_scope {P : Program} {b : Frame} {a : Act} {k : List Item} {cs : List Frame} {w : World} {c : Code} : step P (lone (b.atR a (.code (.scope c) :: k)) cs w) = .next (lone (b.atR a (.code c :: .inScope c :: k)) cs w) :=
  step_lone_go (by simp [stepG, stepG.exec, Frame.atR])
theorem stepR_inScope {P : Program} {b : Frame} {a : Act} {k : List Item} {cs : List Frame} {w : World} {c : Code} : step P (lone (b.atR a (.inScope c :: k)) cs w) = .next (lone (b.atR a k) cs w) :=
  step_lone_go (by simp [stepG, stepG.exec, Frame.atR])
/-- A scope through which no jump to a label goes. -/
theorem wpIn_scope {F : Fence} {n : Nat} {P : Program} {Q : Exit → Act → World → Prop} {a : Act} {w : World} {c : Code} (h : c.wpIn F n P (fun e a w => (∀ l, e ≠ .goto l) ∧ Q e a w) a w) : (Code.scope c).wpIn F n P Q a w := by
  intro b k cs hro hb hr
  have h0 : (lone (b.atR a (.code (.scope c) :: k)) cs w).fenced P F := fenced_calm hb hr rfl
  obtain ⟨e, a₁, w₁, ⟨hng, hq⟩, harr⟩ := h b (.inScope c :: k) cs hro hb hr
  cases e with
  | normal => exact ⟨.normal, a₁, w₁, hq, .head h0 stepR_scope (StepsIn.trans harr (.one (fenced_calm hb hr rfl) stepR_inScope))⟩
  | exit id' =>
    have hx : exitTo id' (.inScope c :: k) = exitTo id' k := by simp [exitTo]
    exact ⟨.exit id', a₁, w₁, hq, fun k' hk => .head h0 stepR_scope (harr.1 k' (by rw [hx]; exact hk)),
      fun hr' hk => let ⟨k₁, h1, h2⟩ := harr.2 hr' (by rw [hx]; exact hk); ⟨k₁, h1, .head h0 stepR_scope h2⟩⟩
  | goto l => exact absurd rfl (hng l)
  | ret => exact ⟨_, a₁, w₁, hq, .of_steps (.one h0 stepR_scope) harr⟩
  | panic ch => exact ⟨_, a₁, w₁, hq, .of_steps (.one h0 stepR_scope) harr⟩
  | outgrown => exact ⟨_, a₁, w₁, hq, .of_steps (.one h0 stepR_scope) harr⟩

theorem ev_good {ro : Option Nat} {P : Program} (hname : ∀ (f : FuncId) (fn : Func), P.funcs[f]? = some fn → fn.name ≠ "runtime.NumGoroutine") {cfg : Cfg} (hro : cfg.inR = false → ro = none) {ce : CallE} (hce : CeOK P ce) {m n : Nat} : ∀ (k : Nat) (c : Code) (fr : Fr) (H : Hp) (e : Ex) (fr2 : Fr) (H2 : Hp), ev P cfg ce m n k c fr H = some (e, fr2, H2) →
    CodeG ro P m n c fr H e fr2 H2 ∧ (∀ c', c = .loop c' → ∀ (B : Nat) (g : Gh) (w : World) (a : Act), WR g H w → FrR g fr a → a.tmps.size = n → B ≤ w.heap.size → DefOK B g H a.defers w → ∀ (Q : Exit → Act → World → Prop),
      (∀ g2 a2 w2, FrR g2 fr2 a2 → a2.tmps.size = n → DefOK B g2 H2 a2.defers w2 → WR g2 H2 w2 → Evo g H w g2 H2 w2 → Q e.to a2 w2) → Code.roundsIn (FW ro) 0 P c' Q k a w) := by
  intro k
  induction k with
  | zero => intro c fr H e fr2 H2 h; cases h
  | succ k ih =>
    intro c fr H e fr2 H2 h
    cases c with
    | skip => cases h; exact ⟨.now fun Q a w q => wpIn_skip q, fun c' hc => by cases hc⟩
    | label l => cases h; exact ⟨.now fun Q a w q => wpIn_label q, fun c' hc => by cases hc⟩
    | exit id => cases h; exact ⟨.now fun Q a w q => wpIn_exit q, fun c' hc => by cases hc⟩
    | goto l => cases h; exact ⟨.now fun Q a w q => wpIn_goto q, fun c' hc => by cases hc⟩
    | ret => cases h; exact ⟨.now fun Q a w q => wpIn_ret q, fun c' hc => by cases hc⟩
    | region id ops draw =>
      cases draw with
      | true =>
        obtain ⟨⟨fr', H'⟩, h1, h2⟩ := Option.map_eq_some_iff.1 h
        cases h2
        refine ⟨fun B g w a hw hf hn hB hd => ?_, fun c' hc => by cases hc⟩
        unfold evDraw at h1
        split at h1
        · rename_i hm
          obtain ⟨r0, h3, h4⟩ := Option.bind_eq_some_iff.1 h1
          split at h4
          · rename_i hall
            cases h4
            obtain ⟨r1, ⟨g9, w9, a9, z1, z2, z3, z4, z5⟩, _⟩ := evOps_good (ro := ro) hce ops.toList fr H _ _ h3 g w a hw hf hn
            refine ⟨r1, ⟨g9, w9, a9, z1, z2, z3, z4 ▸ hd.evo z5, z5⟩, fun Q hQ => wpIn_region_any hm ?_⟩
            exact evAny_good hce _ _ (left_all ops) fr H g _ a (hw.later (later_drawn w)) hf hn hall Q fun g2 a2 w2 t1 t2 t3 t4 t5 =>
              hQ g2 a2 w2 t1 t2 (t3 ▸ hd.evo ((later_drawn w).evo.trans t5)) t4 ((later_drawn w).evo.trans t5)
          · cases h4
        · cases h1
      | false =>
        obtain ⟨⟨fr', H'⟩, h1, h2⟩ := Option.map_eq_some_iff.1 h
        cases h2
        refine ⟨fun B g w a hw hf hn hB hd => ?_, fun c' hc => by cases hc⟩
        obtain ⟨r1, ⟨g9, w9, a9, z1, z2, z3, z4, z5⟩, r3⟩ := evOps_good (ro := ro) hce ops.toList fr H _ _ h1 g w a hw hf hn
        exact ⟨r1, ⟨g9, w9, a9, z1, z2, z3, z4 ▸ hd.evo z5, z5⟩, fun Q hQ => wpIn_region_list (r3 Q fun g2 a2 w2 t1 t2 t3 t4 t5 => hQ g2 a2 w2 t1 t2 (t3 ▸ hd.evo t5) t4 t5)⟩
    | seq a b =>
      obtain ⟨⟨e1, fr1, H1⟩, h1, h⟩ := Option.bind_eq_some_iff.1 h
      refine ⟨fun B g w act hw hf hn hB hd => ?_, fun c' hc => by cases hc⟩
      obtain ⟨r1, ⟨g1, w1, a1, q1, q2, q3, q4, q5⟩, r3⟩ := (ih a fr H e1 fr1 H1 h1).1 B g w act hw hf hn hB hd
      cases e1 with
      | norm =>
        simp only [] at h
        obtain ⟨s1, ⟨g9, w9, a9, z1, z2, z3, z4, z5⟩, s3⟩ := (ih b fr1 H1 e fr2 H2 h).1 B g1 w1 a1 q1 q2 q3 (Nat.le_trans hB q5.size) q4
        refine ⟨r1.trans s1, ⟨g9, w9, a9, z1, z2, z3, z4, q5.trans z5⟩, fun Q hQ => wpIn_seq (r3 _ fun g2 a2 w2 t1 t2 t3 t4 t5 => ?_)⟩
        obtain ⟨_, _, s3⟩ := (ih b fr1 H1 e fr2 H2 h).1 B g2 w2 a2 t4 t1 t2 (Nat.le_trans hB t5.size) t3
        exact s3 Q fun g3 a3 w3 u1 u2 u3 u4 u5 => hQ g3 a3 w3 u1 u2 u3 u4 (t5.trans u5)
      | _ =>
        simp only [] at h
        cases h
        exact ⟨r1, ⟨g1, w1, a1, q1, q2, q3, q4, q5⟩, fun Q hQ => wpIn_seq (r3 _ fun g2 a2 w2 t1 t2 t3 t4 t5 => hQ g2 a2 w2 t1 t2 t3 t4 t5)⟩
    | cond c a b =>
      obtain ⟨cv, h1, h⟩ := Option.bind_eq_some_iff.1 h
      split at h
      · rename_i t
        refine ⟨fun B g w act hw hf hn hB hd => ?_, fun c' hc => by cases hc⟩
        obtain ⟨hv, _⟩ := (evO_vr hf h1).atom
        obtain ⟨r1, r2, r3⟩ := (ih _ fr H e fr2 H2 h).1 B g w act hw hf hn hB hd
        exact ⟨r1, r2, fun Q hQ => wpIn_cond hv (r3 Q hQ)⟩
      · cases h
    | block id c =>
      obtain ⟨⟨e1, fr1, H1⟩, h1, h2⟩ := Option.map_eq_some_iff.1 h
      clear h
      refine ⟨fun B g w act hw hf hn hB hd => ?_, fun c' hc => by cases hc⟩
      obtain ⟨r1, r2, r3⟩ := (ih c fr H e1 fr1 H1 h1).1 B g w act hw hf hn hB hd
      cases e1 with
      | exit id' =>
        simp only [] at h2
        by_cases hid : id' = id
        · rw [if_pos hid] at h2
          cases h2
          exact ⟨r1, r2, fun Q hQ => wpIn_block (r3 _ fun g2 a2 w2 t1 t2 t3 t4 t5 => by
            simp only [Ex.to, Exit.inBlock, if_pos hid]; exact hQ g2 a2 w2 t1 t2 t3 t4 t5)⟩
        · rw [if_neg hid] at h2
          cases h2
          exact ⟨r1, r2, fun Q hQ => wpIn_block (r3 _ fun g2 a2 w2 t1 t2 t3 t4 t5 => by
            simp only [Ex.to, Exit.inBlock, if_neg hid]; exact hQ g2 a2 w2 t1 t2 t3 t4 t5)⟩
      | _ =>
        simp only [] at h2
        cases h2
        exact ⟨r1, r2, fun Q hQ => wpIn_block (r3 _ fun g2 a2 w2 t1 t2 t3 t4 t5 => hQ g2 a2 w2 t1 t2 t3 t4 t5)⟩
    | scope c =>
      obtain ⟨⟨e1, fr1, H1⟩, h1, h2⟩ := Option.bind_eq_some_iff.1 h
      clear h
      refine ⟨fun B g w act hw hf hn hB hd => ?_, fun c' hc => by cases hc⟩
      obtain ⟨r1, r2, r3⟩ := (ih c fr H e1 fr1 H1 h1).1 B g w act hw hf hn hB hd
      cases e1 with
      | goto l => cases h2
      | _ =>
        cases h2
        exact ⟨r1, r2, fun Q hQ => wpIn_scope (r3 _ fun g2 a2 w2 t1 t2 t3 t4 t5 => ⟨fun l => by simp [Ex.to], hQ g2 a2 w2 t1 t2 t3 t4 t5⟩)⟩
    | loop c =>
      obtain ⟨⟨e1, fr1, H1⟩, h1, h⟩ := Option.bind_eq_some_iff.1 h
      have main : ∀ (B : Nat) (g : Gh) (w : World) (act : Act), WR g H w → FrR g fr act → act.tmps.size = n → B ≤ w.heap.size → DefOK B g H act.defers w → Keeps m H H2 ∧ (∃ g2 w2 a2, WR g2 H2 w2 ∧ FrR g2 fr2 a2 ∧ a2.tmps.size = n ∧ DefOK B g2 H2 a2.defers w2 ∧ Evo g H w g2 H2 w2) ∧ ∀ (Q : Exit → Act → World → Prop),
          (∀ g2 a2 w2, FrR g2 fr2 a2 → a2.tmps.size = n → DefOK B g2 H2 a2.defers w2 → WR g2 H2 w2 → Evo g H w g2 H2 w2 → Q e.to a2 w2) → Code.roundsIn (FW ro) 0 P c Q (k + 1) act w := by
        intro B g w act hw hf hn hB hd
        obtain ⟨r1, ⟨g1, w1, a1, q1, q2, q3, q4, q5⟩, r3⟩ := (ih c fr H e1 fr1 H1 h1).1 B g w act hw hf hn hB hd
        cases e1 with
        | norm =>
          simp only [] at h
          obtain ⟨s1, ⟨g9, w9, a9, z1, z2, z3, z4, z5⟩, _⟩ := (ih (.loop c) fr1 H1 e fr2 H2 h).1 B g1 w1 a1 q1 q2 q3 (Nat.le_trans hB q5.size) q4
          refine ⟨r1.trans s1, ⟨g9, w9, a9, z1, z2, z3, z4, q5.trans z5⟩, fun Q hQ => ?_⟩
          rw [roundsIn_succ]
          refine r3 _ fun g2 a2 w2 t1 t2 t3 t4 t5 => ?_
          exact (ih (.loop c) fr1 H1 e fr2 H2 h).2 c rfl B g2 w2 a2 t4 t1 t2 (Nat.le_trans hB t5.size) t3 Q fun g3 a3 w3 u1 u2 u3 u4 u5 => hQ g3 a3 w3 u1 u2 u3 u4 (t5.trans u5)
        | _ =>
          simp only [] at h
          cases h
          refine ⟨r1, ⟨g1, w1, a1, q1, q2, q3, q4, q5⟩, fun Q hQ => ?_⟩
          rw [roundsIn_succ]
          exact r3 _ fun g2 a2 w2 t1 t2 t3 t4 t5 => hQ g2 a2 w2 t1 t2 t3 t4 t5
      refine ⟨fun B g w act hw hf hn hB hd => ?_, fun c' hc B g w act hw hf hn hB hd Q hQ => ?_⟩
      · obtain ⟨r1, r2, r3⟩ := main B g w act hw hf hn hB hd
        exact ⟨r1, r2, fun Q hQ => wpIn_loop_rounds (k + 1) (r3 Q hQ)⟩
      · cases hc
        exact (main B g w act hw hf hn hB hd).2.2 Q hQ
    | rangeFunc f ps x y =>
      refine ⟨?_, fun c' hc => by cases hc⟩
      cases hr : cfg.inR with
      | true => simp only [ev, hr, if_true] at h; cases h
      | false => cases hro hr; exact range_good hce hname h
    | refuse why => cases h

/-- A result. -/
def resV (tmps : Array Value) : ResultVar → Sem Value
  | .tmp t => pure (tmps.getD t undef)
  | .cell a t => do loadVar t (← asAddr (tmps.getD a undef))

theorem results_eq (fn : Func) (tmps : Array Value) : results fn tmps = (do let vs ← fn.results.mapM (resV tmps); pure (if h : vs.size = 1 then vs[0] else .tuple vs)) := by
  unfold results
  congr 1

/-- The results. -/
theorem resC_run {P : Program} {g : Gh} {H : Hp} {w : World} {fr : Fr} {a : Act} (hw : WR g H w) (hf : FrR g fr a) : ∀ (rs : List ResultVar) (xs : List CV), resC P fr H rs = some xs →
    ∃ vs : List Value, (rs.mapM (resV a.tmps)).run P w = .ok vs w ∧ xs.length = vs.length ∧ ∀ i (hi : i < xs.length) (hi' : i < vs.length), VR g xs[i] vs[i]
  | [], xs, h => by simp only [resC, Option.some.injEq] at h; subst h; exact ⟨[], rfl, rfl, fun i hi => absurd hi (by simp)⟩
  | .tmp t :: rs, xs, h => by
    unfold resC at h
    obtain ⟨ys, h1, h2⟩ := Option.map_eq_some_iff.1 h
    subst h2
    obtain ⟨vs, k1, k2, k3⟩ := resC_run hw hf rs ys h1
    refine ⟨a.tmps.getD t undef :: vs, ?_, by simp [k2], fun i hi hi' => ?_⟩
    · simp only [List.mapM_cons, Sem.run_bind, resV, Sem.run_pure, Result.andThen_ok, k1]
    · cases i with
      | zero => exact (hf t).unlit
      | succ i => simpa using k3 i (by simpa using hi) (by simpa using hi')
  | .cell ad t :: rs, xs, h => by
    unfold resC at h
    obtain ⟨x, h0, h⟩ := Option.bind_eq_some_iff.1 h
    obtain ⟨ys, h1, h2⟩ := Option.map_eq_some_iff.1 h
    subst h2
    obtain ⟨vs, k1, k2, k3⟩ := resC_run hw hf rs ys h1
    have hat : ∃ rest, atP H (fr ad) = some rest := by
      unfold dLoad at h0
      obtain ⟨_, _, h0⟩ := Option.bind_eq_some_iff.1 h0
      obtain ⟨_, _, h0⟩ := Option.bind_eq_some_iff.1 h0
      obtain ⟨rest, hr, _⟩ := Option.bind_eq_some_iff.1 h0
      exact ⟨rest, hr⟩
    obtain ⟨rest, hrest⟩ := hat
    obtain ⟨b, o, hv, _⟩ := hw.at_ptr (hf ad) hrest
    have hld := dLoad_good hw (hf ad) h0
    have hsame : ∃ u, (Instr.loadAt t (a.tmps.getD ad undef)).run P w = .ok u w ∧ VR g x u := by
      -- a load leaves the world
      unfold dLoad at h0
      obtain ⟨d, hd, h0⟩ := Option.bind_eq_some_iff.1 h0
      obtain ⟨i, hi, h0⟩ := Option.bind_eq_some_iff.1 h0
      rw [hrest] at h0
      simp only [Option.bind_some] at h0
      obtain ⟨b', o', hv', hh⟩ := hw.at_ptr (hf ad) hrest
      rw [hv']
      have hrun : (Instr.loadAt t (.pointer (some ⟨b', o', none⟩))).run P w =
          if aggB d then ((loadCells ⟨b', o', none⟩ i.size).run P w).andThen fun cs w' => .ok (.agg cs) w' else (load ⟨b', o', none⟩).run P w := by
        simp only [Instr.loadAt, Instr.sureAddr, loadVar, Sem.run_bind, Sem.run_pure, Result.andThen_ok, run_isAgg hd, Sem.run_ite, run_sizeOf hi]
      rw [hrun]
      split at h0
      · rename_i ha
        split at h0
        · cases h0
          obtain ⟨us, h3, h4, h5⟩ := (hh.take i.size).loadCells P
          have e1 : (rest.take i.size).length = i.size := by simp; omega
          rw [e1] at h3
          exact ⟨_, by rw [if_pos ha, h3]; rfl, .agg h4 h5⟩
        · cases h0
      · rename_i ha
        cases hrr : rest with
        | nil => rw [hrr] at h0; cases h0
        | cons c cs =>
          rw [hrr] at h0; cases h0
          obtain ⟨u, h1, h2, h3⟩ := hh 0 (by rw [hrr]; simp)
          refine ⟨u, ?_, by simpa [hrr] using h3⟩
          rw [if_neg ha]; simp only [run_load]; rw [show o' = o' + 0 from rfl, h1]
    obtain ⟨u, hu1, hu2⟩ := hsame
    rw [hv] at hu1
    refine ⟨u :: vs, ?_, by simp [k2], fun i hi hi' => ?_⟩
    · have : (loadVar t ⟨b, o, none⟩).run P w = .ok u w := hu1
      simp only [List.mapM_cons, Sem.run_bind, resV, hv, asAddr, Sem.run_pure, Result.andThen_ok, this, k1]
    · cases i with
      | zero => exact hu2
      | succ i => simpa using k3 i (by simpa using hi) (by simpa using hi')

theorem results_run {P : Program} {g : Gh} {H : Hp} {w : World} {fr : Fr} {a : Act} {fn : Func} {xs : List CV} (hw : WR g H w) (hf : FrR g fr a) (h : resC P fr H fn.results.toList = some xs) :
    ∃ v, (results fn a.tmps).run P w = .ok v w ∧ VR g (one xs) v := by
  obtain ⟨vs, h1, h2, h3⟩ := resC_run hw hf _ _ h
  refine ⟨if h : vs.toArray.size = 1 then vs.toArray[0] else .tuple vs.toArray, ?_, ?_⟩
  · rw [results_eq]
    have hm : ∀ q : ResultVar → Sem Value, fn.results.mapM q = List.toArray <$> fn.results.toList.mapM q := fun q => by rw [← List.mapM_toArray]
    rw [hm]
    simp only [Sem.run_bind, Sem.run_map, h1, Result.andThen_ok, Sem.run_pure]
  · match xs, vs, h2, h3 with
    | [], [], _, _ => exact .tup rfl fun i hi => absurd hi (by simp)
    | [x], [v], _, h3 => exact h3 0 (by simp) (by simp)
    | x :: y :: xs, u :: v :: vs, h2, h3 =>
      rw [dif_neg (by simp)]
      exact .tup (by simpa using h2) fun i hi hi' => by simpa using h3 i hi (by simpa using hi')

theorem frame_ok {g : Gh} {args : List CV} {vs : Array Value} {nt : Nat} (h : ListR g args vs) : FrR g (frame args) { tmps := vs ++ Array.replicate (nt - vs.size) undef, defers := [] } ∧ (vs ++ Array.replicate (nt - vs.size) undef).size = args.length + (nt - args.length) := by
  obtain ⟨h1, h2⟩ := h
  have hs : args.length = vs.size := by simpa using h1
  refine ⟨fun t => ?_, by simp [hs]⟩
  simp only [frame, Array.getD_eq_getD_getElem?, List.getD_eq_getElem?_getD]
  by_cases ht : t < args.length
  · rw [List.getElem?_eq_getElem ht, Array.getElem?_append_left (by omega), Array.getElem?_eq_getElem (by omega)]
    have := h2 t ht (by omega)
    simpa using this
  · rw [List.getElem?_eq_none (by omega), Array.getElem?_append_right (by omega)]
    have : ((Array.replicate (nt - vs.size) undef)[t - vs.size]?).getD undef = undef := by
      rw [Array.getElem?_replicate]
      split <;> rfl
    rw [this]
    exact .undef g

/-- The functions known otherwise are as is said. -/
def PrimOK (P : Program) (cs : Cfgs) : Prop := ∀ f p, cs.prim f = some p → ∀ m args H r H2, p args H = some (r, H2) → CallS P m f args H r H2

theorem round_fr {g : Gh} : ∀ (l1 : List (Tmp × CV)) (l2 : List (Tmp × Value)), l1.length = l2.length → (∀ i (hi : i < l1.length) (hi' : i < l2.length), l1[i].1 = l2[i].1 ∧ VR g l1[i].2 l2[i].2) → ∀ (ts : List CV) (tmps : Array Value), tmps.size = ts.length → (∀ i, VR g (ts.getD i (.tup [])) (tmps.getD i undef)) →
    ((l2.foldl (fun tmps p => tmps.setIfInBounds p.1 p.2) tmps).size = ts.length ∧ ∀ i, VR g ((l1.foldl (fun ts p => ts.set p.1 p.2) ts).getD i (.tup [])) ((l2.foldl (fun tmps p => tmps.setIfInBounds p.1 p.2) tmps).getD i undef))
  | [], [], _, _, ts, tmps, hs, h => ⟨hs, h⟩
  | p :: l1, q :: l2, hl, hh, ts, tmps, hs, h => by
    obtain ⟨e1, e2⟩ := hh 0 (by simp) (by simp)
    simp only [List.getElem_cons_zero] at e1 e2
    have := round_fr l1 l2 (by simpa using hl) (fun i hi hi' => by have := hh (i + 1) (by simpa using hi) (by simpa using hi'); simpa only [List.getElem_cons_succ] using this) (ts.set p.1 p.2) (tmps.setIfInBounds q.1 q.2) (by simpa using hs) (fun i => by
      rw [← e1]
      by_cases hi : p.1 = i
      · subst hi
        by_cases hlt : p.1 < ts.length
        · rw [List.getD_eq_getElem?_getD, List.getElem?_set_self hlt, Array.getD_eq_getD_getElem?, Array.getElem?_setIfInBounds_self_of_lt (by rw [hs]; exact hlt)]
          exact e2
        · rw [List.set_eq_of_length_le (Nat.le_of_not_lt hlt), Array.setIfInBounds_eq_of_size_le (by rw [hs]; exact Nat.le_of_not_lt hlt)]
          exact h _
      · have := h i
        rw [List.getD_eq_getElem?_getD, Array.getD_eq_getD_getElem?] at this ⊢
        rw [List.getElem?_set_ne hi, Array.getElem?_setIfInBounds_ne hi]
        exact this)
    simpa using this

theorem round_good {P : Program} {cs : FuncId → Cfg} {ce : CallE} (hname : ∀ (f : FuncId) (fn : Func), P.funcs[f]? = some fn → fn.name ≠ "runtime.NumGoroutine") (hce : CeOK P ce) {m k id ver : Nat} {args : List CV} {H H2 : Hp} {r : CV}
    (h : evRound P cs ce m k id ver args H = some (r, H2)) : RoundS P m id ver args H r H2 := by
  unfold evRound at h
  split at h
  rotate_left
  · cases h
  rename_i v fn ts ps a b h0
  split at h
  rotate_left
  · cases h
  rename_i hcond
  obtain ⟨hver, hargs⟩ := hcond
  obtain ⟨⟨e1, fr1, H1⟩, hev1, hA⟩ := Option.bind_eq_some_iff.1 h
  clear h
  simp only at hA
  split at hA
  rotate_left
  · cases hA
  rename_i v1 fn1 ts1 ps1 a1 b1 h1
  split at hA
  rotate_left
  · cases hA
  rename_i hv1
  obtain ⟨⟨e2, fr2, H3⟩, hev2, hB⟩ := Option.bind_eq_some_iff.1 hA
  clear hA
  simp only at hB
  split at hB
  rotate_left
  · cases hB
  rename_i v2 fn2 ts2 ps2 a2 b2 st2 pe2 h2
  split at hB
  rotate_left
  · cases hB
  rename_i hv2
  simp only [Option.some.injEq, Prod.mk.injEq] at hB
  obtain ⟨rfl, rfl⟩ := hB
  intro g w vs fv hw hl hfv
  obtain ⟨l, rec, k1, k2, k3, k4, k5, k6, k7, k8, k9, k10⟩ := loop_at hw h0
  have hfv2 : fv = .func (.yield l.b) #[] #[] := by
    cases hfv with
    | cl q => cases q
    | yl q1 q2 => rw [k1] at q1; cases q1; rfl
    | syl q1 q2 => rw [k1] at q1; cases q1; omega
  have hsz : vs.size = rec.params.size := by rw [k6, ← hargs]; simpa using hl.1.symm
  have hfr : FrR g (roundFr ts ps args) { tmps := (rec.params.zip vs).foldl (fun tmps (t, a) => tmps.setIfInBounds t a) rec.tmps, defers := [] } ∧ ((rec.params.zip vs).foldl (fun tmps (t, a) => tmps.setIfInBounds t a) rec.tmps).size = ts.length := by
    have := round_fr (g := g) (ps.toList.zip args) (rec.params.zip vs).toList (by simp [k6]; have := hl.1; simp at this; omega) (fun i hi hi' => by
      simp only [List.getElem_zip, Array.toList_zip, k6, Array.getElem_toList, true_and]
      have := hl.2 i (by simp at hi; omega) (by simp at hi' ⊢; omega)
      simpa using this) ts rec.tmps k5 k4
    rw [Array.foldl_toList] at this
    exact ⟨this.2, this.1⟩
  have A := (ev_good (ro := some l.b) hname (fun e => by cases e) hce k a _ H _ fr1 H1 hev1).1
  have Bd := (ev_good (ro := some l.b) hname (fun e => by cases e) hce k b _ _ _ fr2 H3 hev2).1
  -- from the assignments' end on
  have mid : ∀ g1 w1, WR g1 H1 w1 → Evo g H w g1 H1 w1 → ∃ r1, w1.heap[l.b]? = some (.loop r1) ∧ r1.state = .ready ∧ WR g1 (H1.set id (.loop v1 fn1 ts1 ps1 a1 b1 .busy none)) (w1.putObj l.b (.loop { r1 with state := .busy })) ∧
      Evo g1 H1 w1 g1 (H1.set id (.loop v1 fn1 ts1 ps1 a1 b1 .busy none)) (w1.putObj l.b (.loop { r1 with state := .busy })) := by
    intro g1 w1 hw1 he1
    obtain ⟨l', r1, q1, q2, q3, _, _, _, _, _, q9, q10⟩ := loop_at hw1 h1
    obtain rfl := same_loc he1 k1 q1 (by omega)
    obtain ⟨s1, s2⟩ := loop_set hw1 h1 q1 q3 .busy none
    have e : ({ r1 with state := .busy, pending := none } : Loop) = { r1 with state := .busy } := by rw [← q10]
    rw [e] at s1 s2
    exact ⟨r1, q3, q9, s1, s2⟩
  have last : ∀ g3 w3, WR g3 H3 w3 → Evo g H w g3 H3 w3 → ∃ r3, w3.heap[l.b]? = some (.loop r3) ∧ WR g3 (H3.set id (.loop v2 fn2 ts2 ps2 a2 b2 (if e2.jump.isNone then .ready else .done) e2.jump)) (w3.putObj l.b (.loop { r3 with state := if e2.jump.isNone then .ready else .done, pending := e2.jump })) ∧
      Evo g3 H3 w3 g3 (H3.set id (.loop v2 fn2 ts2 ps2 a2 b2 (if e2.jump.isNone then .ready else .done) e2.jump)) (w3.putObj l.b (.loop { r3 with state := if e2.jump.isNone then .ready else .done, pending := e2.jump })) := by
    intro g3 w3 hw3 he3
    obtain ⟨l', r3, q1, q2, q3, _⟩ := loop_at hw3 h2
    obtain rfl := same_loc he3 k1 q1 (by omega)
    obtain ⟨s1, s2⟩ := loop_set hw3 h2 q1 q3 (if e2.jump.isNone then .ready else .done) e2.jump
    exact ⟨r3, q3, s1, s2⟩
  obtain ⟨K1, ⟨g1, w1, c1, z1, z2, z3, z4, z5⟩, R1⟩ := A 0 g w _ hw hfr.1 hfr.2 (Nat.zero_le _) (.nil _ _ _ _)
  obtain ⟨r1, m1, m2, m3, m4⟩ := mid g1 w1 z1 z5
  obtain ⟨K2, ⟨g3, w3, c3, y1, y2, y3, y4, y5⟩, _⟩ := Bd 0 g1 _ c1 m3 (z2.evo m4) z3 (Nat.zero_le _) (z4.evo m4)
  obtain ⟨r3, n1, n2, n3⟩ := last g3 w3 y1 (z5.trans (m4.trans y5))
  have hset1 : Keeps m H1 (H1.set id (.loop v1 fn1 ts1 ps1 a1 b1 .busy none)) := Keeps.set fun m' _ _ h3 h4 => (show topLeL m' ts1 = true from h3 id _ h4 h1)
  have hset2 : Keeps m H3 (H3.set id (.loop v2 fn2 ts2 ps2 a2 b2 (if e2.jump.isNone then .ready else .done) e2.jump)) := Keeps.set fun m' _ _ h3 h4 => (show topLeL m' ts2 = true from h3 id _ h4 h2)
  refine ⟨K1.trans (hset1.trans (K2.trans hset2)), ⟨_, g3, _, VR.of_atom (x := .bool e2.jump.isNone) rfl, n2, (z5.trans (m4.trans y5)).trans n3⟩, l.b, rec.fn, _, rec.assign, rec.body, hfv2, run_yield k3 hsz, ?_⟩
  refine roundIn_of_wpIn (F := FW none) trivial ?_
  rw [k7, k8]
  refine R1 _ fun g1 a1 w1 t1 t2 t3 t4 t5 => ?_
  obtain ⟨r1, m1, m2, m3, m4⟩ := mid g1 w1 t4 t5
  refine ⟨_, run_beginRound m1 m2, ?_⟩
  obtain ⟨_, _, R2⟩ := Bd 0 g1 _ a1 m3 (t1.evo m4) t2 (Nat.zero_le _) (t3.evo m4)
  refine R2 _ fun g3 a3 w3 u1 u2 u3 u4 u5 => ?_
  have e3 := t5.trans (m4.trans u5)
  obtain ⟨r3, n1, n2, n3⟩ := last g3 w3 u4 e3
  have hR : RetP g H w (.v (.bool e2.jump.isNone)) (H3.set id (.loop v2 fn2 ts2 ps2 a2 b2 (if e2.jump.isNone then .ready else .done) e2.jump)) (.returned (.bool e2.jump.isNone)) _ := ⟨_, g3, rfl, VR.of_atom rfl, n2, e3.trans n3⟩
  cases e2 with
  | norm => exact ⟨_, _, run_endRound none n1, hR⟩
  | exit i => exact ⟨_, _, run_endRound (some (.exit i)) n1, hR⟩
  | goto i => exact ⟨_, _, run_endRound (some (.goto i)) n1, hR⟩
  | ret => exact ⟨_, _, run_endRound (some .ret) n1, hR⟩

theorem evCall_good {P : Program} {cs : Cfgs} (hp : PrimOK P cs) (hname : ∀ (f : FuncId) (fn : Func), P.funcs[f]? = some fn → fn.name ≠ "runtime.NumGoroutine") : ∀ k, CeOK P (evCall P cs k) := by
  intro k
  induction k with
  | zero => exact ⟨fun m f args H r H2 h => (by cases h), fun m id ver args H r H2 h => (by cases h)⟩
  | succ k ih =>
    refine ⟨?_, fun m id ver args H r H2 h => round_good (cs := cs.of) hname ih h⟩
    intro m f args H r H2 h
    unfold evCall at h
    split at h
    · rename_i p hpf
      exact hp f p hpf m args H r H2 h
    · obtain ⟨fn, hfn, h⟩ := Option.bind_eq_some_iff.1 h
      obtain ⟨c, hc, h⟩ := Option.bind_eq_some_iff.1 h
      intro g w vs hw hl
      obtain ⟨hf0, hs0⟩ := frame_ok (nt := fn.ntmps) hl
      have henter : (callFunc f vs).run P w = .ok (.enter f vs) w := by
        have := hname f fn hfn
        simp [callFunc, hfn, this, hc]
      split at h
      · -- what is new is dropped
        obtain ⟨⟨e, fr2, H1⟩, hev, h⟩ := Option.bind_eq_some_iff.1 h
        have fin : ∀ he : e.to = .normal ∨ e.to = .ret, ((resC P fr2 H1 fn.results.toList).bind fun xs => (frz H1 H.length (one xs)).map fun y => (y, H1.take H.length)) = some (r, H2) → Keeps m H H2 ∧
            ((∃ v g2 w2, (callFunc f vs).run P w = .ok (.value v) w2 ∧ VR g2 r v ∧ WR g2 H2 w2 ∧ Evo g H w g2 H2 w2) ∨ ((callFunc f vs).run P w = .ok (.enter f vs) w ∧ Calls P f vs w (RetP g H w r H2))) := by
          intro he h
          obtain ⟨xs, hxs, k1⟩ := Option.bind_eq_some_iff.1 h
          obtain ⟨y, hy, k2⟩ := Option.map_eq_some_iff.1 k1
          clear h k1
          simp only [Prod.mk.injEq] at k2
          obtain ⟨rfl, rfl⟩ := k2
          obtain ⟨r1, _, r3⟩ := (ev_good (ro := none) hname (fun _ => rfl) ih k c _ H e fr2 H1 hev).1 w.heap.size g w _ hw hf0 hs0 (Nat.le_refl _) (.nil _ _ _ _)
          have hlen := r1.1
          have hseal : Sealed H1 H.length := r1.2 H.length (Nat.le_refl _) (Nat.le_refl _) hw.sealed
          refine ⟨⟨by simp [hlen], fun m' h1 h2 h3 id o hid ho => ?_⟩, .inr ⟨henter, callsIn_wide.1 (callsIn_of_wp_marks (F := FW none) (n := 0) hfn hc trivial (r3 _ fun g2 a2 w2 t1 t2 t3 t4' t5' => ?_))⟩⟩
          · have hs2 := r1.2 m' h2 h2 h3
            exact hs2 id o hid (take_get ho).2
          · have fin2 : LeavesInM (FW none) 0 P fn a2.tmps (RetP g H w y (H1.take H.length)) a2.defers .returning w2 := leaves_marks (Nat.le_refl _) _ _ t4' t5' t3 fun w2 t4 t5 => ?_
            · rcases he with he | he
              · rw [he]; exact fin2
              · rw [he]; exact fin2
            obtain ⟨v, hv1, hv2⟩ := results_run t4 t1 hxs
            obtain ⟨g3, c3, v3⟩ := frz_good t4 _ _ _ _ (Clo.first t4 hseal) hv2 hy
            have hpost : RetP g H w y (H1.take H.length) (.returned v) w2 := by
              refine ⟨v, g3, rfl, v3, c3.wr, ⟨t5.os, t5.tape, t5.output, t5.size, t5.keep, fun b hb => ?_, fun b o u hu => c3.im _ _ _ (t5.im _ _ _ hu), fun id l hl => ?_, fun b hb => c3.ownm b (t5.ownm b hb)⟩⟩
              · have hmine : Mine g2 H1 b := by
                  rcases hb with hb | ⟨id, o, l, b1, b2, b3, b4⟩
                  · exact c3.mine b hb
                  · rw [c3.locs] at b3
                    exact .inr ⟨id, o, l, (take_get b1).2, b2, (take_get b3).2, b4⟩
                exact t5.grow b hmine
              · obtain ⟨l2, hl2, hl3⟩ := t5.locs id l hl
                refine ⟨l2, ?_, hl3⟩
                rw [c3.locs, List.getElem?_take, if_pos]
                · exact hl2
                · rw [← hw.len]; exact (List.getElem?_eq_some_iff.1 hl).1
            exact ⟨v, hv1, hpost⟩
        cases e with
        | norm => exact fin (.inl rfl) h
        | ret => exact fin (.inr rfl) h
        | _ => cases h
      · obtain ⟨⟨e, fr2, H1⟩, hev, h⟩ := Option.bind_eq_some_iff.1 h
        have fin : ∀ he : e.to = .normal ∨ e.to = .ret, ((resC P fr2 H1 fn.results.toList).map fun xs => (one xs, H1)) = some (r, H2) → Keeps m H H2 ∧
            ((∃ v g2 w2, (callFunc f vs).run P w = .ok (.value v) w2 ∧ VR g2 r v ∧ WR g2 H2 w2 ∧ Evo g H w g2 H2 w2) ∨ ((callFunc f vs).run P w = .ok (.enter f vs) w ∧ Calls P f vs w (RetP g H w r H2))) := by
          intro he h
          obtain ⟨xs, hxs, k2⟩ := Option.map_eq_some_iff.1 h
          clear h
          simp only [Prod.mk.injEq] at k2
          obtain ⟨rfl, rfl⟩ := k2
          obtain ⟨r1, _, r3⟩ := (ev_good (ro := none) hname (fun _ => rfl) ih k c _ H e fr2 H1 hev).1 w.heap.size g w _ hw hf0 hs0 (Nat.le_refl _) (.nil _ _ _ _)
          refine ⟨r1, .inr ⟨henter, callsIn_wide.1 (callsIn_of_wp_marks (F := FW none) (n := 0) hfn hc trivial (r3 _ fun g2 a2 w2 t1 t2 t3 t4' t5' => ?_))⟩⟩
          have fin2 : LeavesInM (FW none) 0 P fn a2.tmps (RetP g H w (one xs) H1) a2.defers .returning w2 := leaves_marks (Nat.le_refl _) _ _ t4' t5' t3 fun w2 t4 t5 => ?_
          · rcases he with he | he
            · rw [he]; exact fin2
            · rw [he]; exact fin2
          obtain ⟨v, hv1, hv2⟩ := results_run t4 t1 hxs
          exact ⟨v, hv1, v, g2, rfl, hv2, t4, t5⟩
        cases e with
        | norm => exact fin (.inl rfl) h
        | ret => exact fin (.inr rfl) h
        | _ => cases h

end Go.SL

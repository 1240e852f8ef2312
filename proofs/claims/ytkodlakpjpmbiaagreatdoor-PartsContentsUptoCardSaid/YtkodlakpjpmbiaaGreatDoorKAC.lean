/- What of the objects is dropped at a function's end; its results closed. -/
import Derived.Test.YtkodlakpjpmbiaaGreatDoorKAB
import Derived.Orders

set_option linter.all false

namespace Go.SL
variable [BaseC]
set_option linter.unusedVariables false

mutual
/-- Does a value refer to objects below m alone? -/
def topLe (m : Nat) : CV → Bool
  | .ptr id _ _ | .sl id _ _ _ _ | .mp id _ | .yl id _ => decide (id < m)
  | .fn _ fs cs => topLeL m fs && topLeL m cs
  | .ifc _ x => topLe m x
  | .agg cs | .tup cs => topLeL m cs
  | _ => true
def topLeL (m : Nat) : List CV → Bool
  | [] => true
  | x :: xs => topLe m x && topLeL m xs
end

theorem topLeL_get {m : Nat} : ∀ {xs : List CV} (i : Nat) (hi : i < xs.length), topLeL m xs = true → topLe m xs[i] = true
  | x :: xs, 0, _, h => by simp only [topLeL, Bool.and_eq_true] at h; exact h.1
  | x :: xs, i + 1, hi, h => by simp only [topLeL, Bool.and_eq_true] at h; simpa using topLeL_get i (by simpa using hi) h.2
theorem topLeL_of {m : Nat} : ∀ {xs : List CV}, (∀ i (hi : i < xs.length), topLe m xs[i] = true) → topLeL m xs = true
  | [], _ => rfl
  | x :: xs, h => by simp only [topLeL, Bool.and_eq_true]; exact ⟨h 0 (by simp), topLeL_of fun i hi => h (i + 1) (by simpa using hi)⟩

theorem VR.topLe {g : Gh} {x : CV} {v : Value} (h : VR g x v) : topLe g.locs.length x = true := by
  have cl : ∀ {x : CV} {v : Value}, VC g.im x v → Go.SL.topLe g.locs.length x = true := by
    intro x v h
    induction h with
    | v _ => rfl
    | undef => rfl
    | im _ _ _ _ _ _ => rfl
    | ip _ _ _ => rfl
    | agg hl _ ih => exact topLeL_of fun i hi => ih i hi (by omega)
    | tup hl _ ih => exact topLeL_of fun i hi => ih i hi (by omega)
    | ifc _ ih => exact ih
  induction h with
  | cl h => exact cl h
  | ptr h _ => simpa [Go.SL.topLe] using (List.getElem?_eq_some_iff.1 h).1
  | sptr h _ _ => simpa [Go.SL.topLe] using (List.getElem?_eq_some_iff.1 h).1
  | sl h _ _ _ _ => simpa [Go.SL.topLe] using (List.getElem?_eq_some_iff.1 h).1
  | ssl h _ _ => simpa [Go.SL.topLe] using (List.getElem?_eq_some_iff.1 h).1
  | lit _ _ _ _ _ => rfl
  | mp h _ => simpa [Go.SL.topLe] using (List.getElem?_eq_some_iff.1 h).1
  | smp h _ _ => simpa [Go.SL.topLe] using (List.getElem?_eq_some_iff.1 h).1
  | yl h _ => simpa [Go.SL.topLe] using (List.getElem?_eq_some_iff.1 h).1
  | syl h _ _ => simpa [Go.SL.topLe] using (List.getElem?_eq_some_iff.1 h).1
  | fn hl hl2 _ _ _ ih ih2 => simp only [Go.SL.topLe, Bool.and_eq_true]; exact ⟨topLeL_of fun i hi => ih i hi (by omega), topLeL_of fun i hi => ih2 i hi (by omega)⟩
  | ifc _ ih => exact ih
  | agg hl _ ih => exact topLeL_of fun i hi => ih i hi (by omega)
  | tup hl _ ih => exact topLeL_of fun i hi => ih i hi (by omega)

def Gh.take (g : Gh) (m : Nat) : Gh := { g with locs := g.locs.take m }

theorem VR.trunc {g : Gh} {m : Nat} {x : CV} {v : Value} (h : VR g x v) : Go.SL.topLe m x = true → VR (g.take m) x v := by
  have loc : ∀ {id : Nat} {l : Loc}, g.locs[id]? = some l → decide (id < m) = true → (g.take m).locs[id]? = some l := by
    intro id l h1 h2
    have : id < m := of_decide_eq_true h2
    simp only [Gh.take, List.getElem?_take, this, if_true]; exact h1
  induction h with
  | cl h => exact fun _ => .cl h
  | ptr h hv => exact fun ht => .ptr (loc h ht) hv
  | sptr h hv h1 => exact fun ht => .sptr (loc h ht) hv h1
  | sl h hv hc ho hg => exact fun ht => .sl (loc h ht) hv hc ho hg
  | ssl h hv h1 => exact fun ht => .ssl (loc h ht) hv h1
  | lit ho hl hc hf hh => exact fun _ => .lit ho hl hc hf hh
  | mp h hv => exact fun ht => .mp (loc h ht) hv
  | smp h hv h1 => exact fun ht => .smp (loc h ht) hv h1
  | yl h hv => exact fun ht => .yl (loc h ht) hv
  | syl h hv h1 => exact fun ht => .syl (loc h ht) hv h1
  | fn hl hl2 _ _ hy ih ih2 =>
    intro ht
    simp only [Go.SL.topLe, Bool.and_eq_true] at ht
    exact .fn hl hl2 (fun i hi hi' => ih i hi hi' (topLeL_get i hi ht.1)) (fun i hi hi' => ih2 i hi hi' (topLeL_get i hi ht.2)) hy
  | ifc _ ih => exact fun ht => .ifc (ih ht)
  | agg hl _ ih => exact fun ht => .agg hl fun i hi hi' => ih i hi hi' (topLeL_get i hi ht)
  | tup hl _ ih => exact fun ht => .tup hl fun i hi hi' => ih i hi hi' (topLeL_get i hi ht)

/-- Do objects refer to those below m alone? -/
def CO.topLe (m : Nat) : CO → Bool
  | .cells _ cs _ => topLeL m cs
  | .map _ es _ => es.all fun e => Go.SL.topLe m e.2
  | .loop _ _ ts .. => topLeL m ts
  | .gone _ => true

def Sealed (H : Hp) (m : Nat) : Prop := ∀ (id : Nat) (o : CO), id < m → H[id]? = some o → o.topLe m = true

theorem OR.topLe {g : Gh} {o : CO} {l : Loc} {w : World} (h : OR g o l w) : o.topLe g.locs.length = true := by
  unfold OR at h
  cases o with
  | cells ver cs e =>
    obtain ⟨_, c, fr, _, _, _, h5, _⟩ := h
    exact topLeL_of fun i hi => let ⟨v, _, _, hv⟩ := h5 i hi; hv.topLe
  | map ver es k =>
    obtain ⟨_, es', _, h3, h4⟩ := h
    refine List.all_eq_true.2 fun e he => ?_
    obtain ⟨i, hi, rfl⟩ := List.getElem_of_mem he
    exact (h4 i hi (by omega)).2.topLe
  | loop ver fn ts ps a b st pe =>
    obtain ⟨_, r, _, h3, _⟩ := h
    refine topLeL_of fun i hi => ?_
    have := (h3 i).topLe
    rwa [List.getD_eq_getElem?_getD, List.getElem?_eq_getElem hi] at this
  | gone ver => rfl

theorem WR.sealed {g : Gh} {H : Hp} {w : World} (h : WR g H w) : Sealed H H.length := by
  intro id o hid ho
  have hl : id < g.locs.length := by rw [h.len]; exact hid
  have := (h.obj id o _ ho (List.getElem?_eq_getElem hl)).topLe
  rw [h.len] at this; exact this

theorem OR.trunc {g : Gh} {o : CO} {l : Loc} {w : World} {m : Nat} (h : OR g o l w) (ht : o.topLe m = true) : OR (g.take m) o l w := by
  unfold OR at *
  cases o with
  | cells ver cs e =>
    obtain ⟨h1, c, fr, h2, h3, h4, h5, h6⟩ := h
    exact ⟨h1, c, fr, h2, h3, h4, fun i hi => let ⟨v, a, b, d⟩ := h5 i hi; ⟨v, a, b, d.trunc (topLeL_get i hi ht)⟩, h6⟩
  | map ver es k =>
    obtain ⟨h1, es', h2, h3, h4⟩ := h
    exact ⟨h1, es', h2, h3, fun i hi hi' => ⟨(h4 i hi hi').1, (h4 i hi hi').2.trunc (List.all_eq_true.1 ht _ (List.getElem_mem hi))⟩⟩
  | loop ver fn ts ps a b st pe =>
    obtain ⟨h1, r, h2, h3, h4⟩ := h
    refine ⟨h1, r, h2, fun i => (h3 i).trunc ?_, h4⟩
    rw [List.getD_eq_getElem?_getD]
    by_cases hi : i < ts.length
    · rw [List.getElem?_eq_getElem hi]; exact topLeL_get i hi ht
    · rw [List.getElem?_eq_none (by omega)]; rfl
  | gone ver => exact h

theorem take_get {α : Type} {l : List α} {m i : Nat} {x : α} (h : (l.take m)[i]? = some x) : i < m ∧ l[i]? = some x := by
  rw [List.getElem?_take] at h
  split at h
  · exact ⟨by assumption, h⟩
  · cases h

theorem WR.trunc {g : Gh} {H : Hp} {w : World} (h : WR g H w) {m : Nat} (hs : Sealed H m) : WR (g.take m) (H.take m) w := by
  refine ⟨by simp [Gh.take, h.len], ?_, ?_, h.im, ?_, ?_, h.base, fun id cs e l h1 h2 => h.org id cs e l (take_get h1).2 (take_get h2).2, h.blk⟩
  · intro id o l h1 h2
    obtain ⟨a1, a2⟩ := take_get h1
    obtain ⟨_, b2⟩ := take_get h2
    exact (h.obj id o l a2 b2).trunc (hs id o a1 a2)
  · intro i j oi oj li lj h1 h2 h3 h4 h5 h6
    exact h.inj i j oi oj li lj (take_get h1).2 (take_get h2).2 h3 h4 (take_get h5).2 (take_get h6).2
  · intro id o l h1 h2 h3
    exact h.dis id o l (take_get h1).2 h2 (take_get h3).2
  · intro b hb
    exact ⟨(h.own b hb).1, fun id o l h1 h2 h3 => (h.own b hb).2 id o l (take_get h1).2 h2 (take_get h3).2⟩

theorem Mine.trunc {g : Gh} {H : Hp} {m b : Nat} (h : Mine (g.take m) (H.take m) b) : Mine g H b := by
  rcases h with h | ⟨id, o, l, h1, h2, h3, h4⟩
  · exact .inl h
  · exact .inr ⟨id, o, l, (take_get h1).2, h2, (take_get h3).2, h4⟩

/-- A block that is no object's is closed, as it is. -/
def Gh.closeW (g : Gh) (w : World) (b : Nat) : Gh :=
  { g with im := fun b' o => if b' = b then (match w.cell? ⟨b, o, none⟩ with | some v => if v.oneCell' then some v else none | none => none) else g.im b' o, own := fun b' => b' = b ∨ g.own b' }

theorem WR.closeW {g : Gh} {H : Hp} {w : World} (h : WR g H w) {b : Nat} (hb : b < w.heap.size) (hf : ∀ (id : Nat) (o : CO) (l : Loc), H[id]? = some o → o.live = true → g.locs[id]? = some l → l.b ≠ b) :
    WR (g.closeW w b) H w ∧ (∀ b' o v, g.im b' o = some v → (g.closeW w b).im b' o = some v) ∧ (∀ o v, w.cell? ⟨b, o, none⟩ = some v → v.oneCell' = true → (g.closeW w b).im b o = some v) := by
  have him : ∀ b' o v, g.im b' o = some v → (g.closeW w b).im b' o = some v := by
    intro b' o v hv
    simp only [Gh.closeW]
    split
    · rename_i e; subst e
      obtain ⟨h1, h2⟩ := h.im _ _ _ hv
      rw [h1]; simp [h2]
    · exact hv
  refine ⟨⟨h.len, fun id o l a c => OR.mono (g := g) (g2 := g.closeW w b) him (locs_refl g) (fun _ h => .inr h) (h.obj id o l a c), h.inj, ?_, ?_, ?_, fun b o v hv => him _ _ _ (h.base b o v hv), h.org, h.blk⟩, him, fun o v h1 h2 => by simp [Gh.closeW, h1, h2]⟩
  · intro b' o v hv
    simp only [Gh.closeW] at hv
    split at hv
    · rename_i e; subst e
      cases hc : w.cell? ⟨b', o, none⟩ with
      | none => rw [hc] at hv; cases hv
      | some u =>
        rw [hc] at hv
        simp only at hv
        split at hv
        · cases hv; exact ⟨rfl, by assumption⟩
        · cases hv
    · exact h.im b' o v hv
  · intro id o l a c d off
    have := hf id o l a c d
    simp only [Gh.closeW]
    rw [if_neg this]
    exact h.dis id o l a c d off
  · rintro b' (rfl | hb')
    · exact ⟨hb, hf⟩
    · exact h.own b' hb'

/-- A result, freed of the objects from m on. -/
def frz1 (H : Hp) (m : Nat) (x : CV) : Option CV :=
  match x with
  | .sl id ver off len sz => if id < m then some x else (atS H x).bind fun cn => if cn.1.all clB && decide (cn.1.length = len * sz) then some (.im cn.1 len sz) else none
  | .lit cs len sz => some (.im cs len sz)
  | x => if topLe m x then some x else none
def frzL (f : CV → Option CV) : List CV → Option (List CV)
  | [] => some []
  | x :: xs => (f x).bind fun y => (frzL f xs).map (y :: ·)
def frz2 (H : Hp) (m : Nat) (x : CV) : Option CV :=
  match x with
  | .agg cs => (frzL (frz1 H m) cs).map .agg
  | x => frz1 H m x
def frz (H : Hp) (m : Nat) (x : CV) : Option CV :=
  match x with
  | .tup cs => (frzL (frz2 H m) cs).map .tup
  | x => frz2 H m x

/-- What a step of closing keeps: the objects below m, in the same world. -/
structure Clo (g : Gh) (H : Hp) (m : Nat) (w : World) (g2 : Gh) : Prop where
  wr : WR g2 (H.take m) w
  im : ∀ b o v, g.im b o = some v → g2.im b o = some v
  locs : g2.locs = g.locs.take m
  ownm : ∀ b, g.own b → g2.own b
  mine : ∀ b, g2.own b → Mine g H b

theorem Clo.vr {g g2 : Gh} {H : Hp} {m : Nat} {w : World} (hc : Clo g H m w g2) {x : CV} {v : Value} (h : VR g x v) (ht : Go.SL.topLe m x = true) : VR g2 x v := by
  refine VR.mono (g := g.take m) hc.im (fun id l hl => ⟨l, ?_, .inr rfl⟩) hc.ownm (h.trunc ht)
  rw [hc.locs]; exact hl

theorem Clo.step {g g2 : Gh} {H : Hp} {m : Nat} {w : World} (h : WR g H w) (hc : Clo g H m w g2) {id : Nat} {o : CO} {l : Loc} (ho : H[id]? = some o) (hlv : o.live = true) (hl : g.locs[id]? = some l) (hm : m ≤ id) :
    Clo g H m w (g2.closeW w l.b) ∧ ∀ q v, w.cell? ⟨l.b, q, none⟩ = some v → v.oneCell' = true → (g2.closeW w l.b).im l.b q = some v := by
  obtain ⟨a1, a2, a3⟩ := hc.wr.closeW (b := l.b) ((h.obj id o l ho hl).lt hlv) (fun i x k h1 h2 h3 e => by
    obtain ⟨b1, b2⟩ := take_get h1
    rw [hc.locs] at h3
    have := h.inj i id x o k l b2 ho h2 hlv (take_get h3).2 hl e
    omega)
  refine ⟨⟨a1, fun b o v hv => a2 _ _ _ (hc.im _ _ _ hv), hc.locs, fun b hb => .inr (hc.ownm b hb), fun b hb => ?_⟩, a3⟩
  rcases hb with rfl | hb
  · exact .inr ⟨id, o, l, ho, hlv, hl, rfl⟩
  · exact hc.mine b hb

theorem frz1_good {g g2 : Gh} {H : Hp} {m : Nat} {w : World} (h : WR g H w) (hc : Clo g H m w g2) {x y : CV} {v : Value} (hx : VR g x v) (hf : frz1 H m x = some y) :
    ∃ g3, Clo g H m w g3 ∧ VR g3 y v ∧ (∀ z u, VR g2 z u → VR g3 z u) := by
  unfold frz1 at hf
  split at hf
  · rename_i id ver off len sz
    split at hf
    · rename_i hlt
      cases hf
      exact ⟨g2, hc, hc.vr hx (by simpa [Go.SL.topLe] using hlt), fun _ _ h => h⟩
    · rename_i hge
      obtain ⟨⟨cs, n⟩, hat, hf⟩ := Option.bind_eq_some_iff.1 hf
      simp only at hf
      split at hf
      · rename_i hall
        cases hf
        simp only [Bool.and_eq_true, decide_eq_true_eq] at hall
        have hat' := hat
        unfold atS at hat'
        obtain ⟨cs0, h0, h1⟩ := Option.bind_eq_some_iff.1 hat'
        split at h1
        · rename_i hle
          cases h1
          obtain ⟨e, he⟩ := cellsAt_some h0
          have hidl : id < g.locs.length := by rw [h.len]; exact (List.getElem?_eq_some_iff.1 he).1
          obtain ⟨c1, c2⟩ := hc.step h he rfl (List.getElem?_eq_getElem hidl) (by omega)
          obtain ⟨l, o, cap, hl, hv, hcap, ho, hg, rfl⟩ := hx.sl_live h (by rw [h0]; rfl)
          have hlz : g.locs[id] = l := by
            have := List.getElem?_eq_getElem hidl
            rw [hl] at this; exact (Option.some.inj this).symm
          rw [hlz] at c1 c2
          refine ⟨_, c1, ?_, fun z u hz => VR.mono (g := g2) (g2 := g2.closeW w l.b) (fun b q v hv => ?_) (fun i k hk => ⟨k, by rw [show (g2.closeW w l.b).locs = g2.locs from rfl]; exact hk, .inr rfl⟩) (fun b hb => Or.inr hb) hz⟩
          · by_cases hpos : 0 < len
            · rcases h.at_sl hx hat with ⟨h2, _⟩ | ⟨_, b, o', cap', h2, _, ha2, h3, _⟩
              · cases h2
              · cases h2
                obtain ⟨rfl, rfl, _⟩ := Addr.mk.inj (ha2 hpos)
                obtain ⟨us, u1, u2, u3, u4⟩ := (h3 hpos).list
                have hlen : ((cs0.drop off).take (len * sz)).length = len * sz := hall.2
                refine .cl (.im (f := fun i => us.getD i undef) hlen hcap (fun _ => rfl) (fun i hi => ?_) (fun i hi => ?_))
                · have hi2 : i < us.length := by rw [u1]; exact hi
                  have := u2 i us[i] (List.getElem?_eq_getElem hi2)
                  rw [Addr.add_lit] at this
                  rw [c2 _ _ this (u3 _ (List.getElem_mem hi2))]
                  simp [hi2]
                · have hi2 : i < us.length := by rw [u1]; exact hi
                  have := (u4 i hi hi2).closed (List.all_eq_true.1 hall.1 _ (List.getElem_mem hi))
                  simp only [List.getD_eq_getElem?_getD, List.getElem?_eq_getElem hi2, Option.getD_some]
                  exact this.mono c1.im
            · have hz : len = 0 := by omega
              have hlen : ((cs0.drop off).take (len * sz)).length = len * sz := hall.2
              refine .cl (.im (f := fun _ => undef) (b := l.b) (o := o) hlen hcap (fun _ => rfl) (fun i hi => ?_) (fun i hi => ?_))
              · rw [hlen, hz] at hi; simp at hi
              · have hi2 := hi; rw [hlen, hz] at hi2; simp at hi2
          · have hw2 := hc.wr
            simp only [Gh.closeW]
            split
            · rename_i e; subst e
              obtain ⟨h1, h2⟩ := hw2.im _ _ _ hv
              rw [h1]; simp [h2]
            · exact hv
        · cases h1
      · cases hf
  · rename_i cs len sz
    cases hf
    refine ⟨g2, hc, ?_, fun _ _ h => h⟩
    have : VR g (.im cs len sz) v := hx.unlit
    exact hc.vr this rfl
  · split at hf
    · rename_i ht
      cases hf
      exact ⟨g2, hc, hc.vr hx ht, fun _ _ h => h⟩
    · cases hf

theorem frzL_good {g : Gh} {H : Hp} {m : Nat} {w : World} {f : CV → Option CV} (hf1 : ∀ (g2 : Gh) (x y : CV) (v : Value), Clo g H m w g2 → VR g x v → f x = some y → ∃ g3, Clo g H m w g3 ∧ VR g3 y v ∧ (∀ z u, VR g2 z u → VR g3 z u)) :
    ∀ (xs ys : List CV) (vs : List Value) (g2 : Gh), Clo g H m w g2 → xs.length = vs.length → (∀ i (hi : i < xs.length) (hi' : i < vs.length), VR g xs[i] vs[i]) → frzL f xs = some ys →
    ∃ g3, Clo g H m w g3 ∧ ys.length = vs.length ∧ (∀ i (hi : i < ys.length) (hi' : i < vs.length), VR g3 ys[i] vs[i]) ∧ (∀ z u, VR g2 z u → VR g3 z u)
  | [], ys, [], g2, hc, _, _, h => by simp only [frzL, Option.some.injEq] at h; subst h; exact ⟨g2, hc, rfl, fun i hi => absurd hi (by simp), fun _ _ h => h⟩
  | x :: xs, ys, v :: vs, g2, hc, hl, hh, h => by
    unfold frzL at h
    obtain ⟨y, h1, h⟩ := Option.bind_eq_some_iff.1 h
    obtain ⟨ys', h2, h⟩ := Option.map_eq_some_iff.1 h
    subst h
    obtain ⟨g3, c3, v3, k3⟩ := hf1 g2 x y v hc (hh 0 (by simp) (by simp)) h1
    obtain ⟨g4, c4, l4, v4, k4⟩ := frzL_good hf1 xs ys' vs g3 c3 (by simpa using hl) (fun i hi hi' => by have := hh (i + 1) (by simpa using hi) (by simpa using hi'); simpa using this) h2
    refine ⟨g4, c4, by simp [l4], fun i hi hi' => ?_, fun z u hz => k4 z u (k3 z u hz)⟩
    cases i with
    | zero => exact k4 _ _ v3
    | succ i => simpa using v4 i (by simpa using hi) (by simpa using hi')

theorem frz2_good {g : Gh} {H : Hp} {m : Nat} {w : World} (h : WR g H w) (g2 : Gh) (x y : CV) (v : Value) (hc : Clo g H m w g2) (hx : VR g x v) (hf : frz2 H m x = some y) :
    ∃ g3, Clo g H m w g3 ∧ VR g3 y v ∧ (∀ z u, VR g2 z u → VR g3 z u) := by
  unfold frz2 at hf
  split at hf
  · rename_i cs
    obtain ⟨ys, h1, h2⟩ := Option.map_eq_some_iff.1 hf
    subst h2
    obtain ⟨vs, rfl, hl, hh⟩ := hx.agg_inv
    obtain ⟨g3, c3, l3, v3, k3⟩ := frzL_good (f := frz1 H m) (fun g2 x y v hc hx hf => frz1_good h hc hx hf) cs ys vs.toList g2 hc (by simpa using hl) (fun i hi hi' => by simpa using hh i hi (by simpa using hi')) h1
    exact ⟨g3, c3, .agg (by simpa using l3) (fun i hi hi' => by have := v3 i hi (by simpa using hi'); simpa only [Array.getElem_toList] using this), k3⟩
  · exact frz1_good h hc hx hf

theorem frz_good {g : Gh} {H : Hp} {m : Nat} {w : World} (h : WR g H w) (g2 : Gh) (x y : CV) (v : Value) (hc : Clo g H m w g2) (hx : VR g x v) (hf : frz H m x = some y) : ∃ g3, Clo g H m w g3 ∧ VR g3 y v := by
  unfold frz at hf
  split at hf
  · rename_i cs
    obtain ⟨ys, h1, h2⟩ := Option.map_eq_some_iff.1 hf
    subst h2
    obtain ⟨vs, rfl, hl, hh⟩ := hx.tup_inv
    obtain ⟨g3, c3, l3, v3, k3⟩ := frzL_good (f := frz2 H m) (fun g2 x y v hc hx hf => frz2_good h g2 x y v hc hx hf) cs ys vs.toList g2 hc (by simpa using hl) (fun i hi hi' => by simpa using hh i hi (by simpa using hi')) h1
    exact ⟨g3, c3, .tup (by simpa using l3) (fun i hi hi' => by have := v3 i hi (by simpa using hi'); simpa only [Array.getElem_toList] using this)⟩
  · obtain ⟨g3, c3, v3, _⟩ := frz2_good h g2 x y v hc hx hf
    exact ⟨g3, c3, v3⟩

theorem Clo.first {g : Gh} {H : Hp} {w : World} (h : WR g H w) {m : Nat} (hs : Sealed H m) : Clo g H m w (g.take m) :=
  ⟨h.trunc hs, fun _ _ _ h => h, rfl, fun _ h => h, fun b hb => .inl hb⟩

end Go.SL

/- An object that is written no more is closed: all that refers to it bears what it holds. -/
namespace Go.SL
variable [BaseC]
set_option linter.unusedVariables false

/-- A reference to a closed object. -/
def rpl1 (id ver : Nat) (cs : List CV) : CV → CV
  | .sl i v off len sz => if i = id ∧ v = ver ∧ off + len * sz ≤ cs.length then .im ((cs.drop off).take (len * sz)) len sz else .sl i v off len sz
  | x => x
def rpl (id ver : Nat) (cs : List CV) : CV → CV
  | .agg xs => .agg (xs.map (rpl1 id ver cs))
  | x => rpl1 id ver cs x
def rplO (id ver : Nat) (cs : List CV) : CO → CO
  | .cells v xs e => .cells v (xs.map (rpl1 id ver cs)) e
  | o => o
/-- An object, from m on, is closed. -/
def cloA (m id ver : Nat) (p : Fr × Hp) : Fr × Hp :=
  match p.2[id]? with
  | some (.cells v cs e) => if m ≤ id ∧ v = ver ∧ cs.all clB = true then (fun t => rpl id ver cs (p.1 t), p.2.take m ++ ((p.2.set id (.gone (ver + 1))).drop m).map (rplO id ver cs)) else p
  | _ => p
/-- The objects that these values refer to. -/
def cloL (m : Nat) : List CV → Fr × Hp → Fr × Hp
  | [], p => p
  | .sl id ver _ _ _ :: l, p => cloL m l (cloA m id ver p)
  | _ :: l, p => cloL m l p
def cloT (m : Nat) (x : CV) (p : Fr × Hp) : Fr × Hp :=
  match x with
  | .sl id ver _ _ _ => cloA m id ver (match cellsAt p.2 id ver with | some cs => cloL m cs p | none => p)
  | .ptr id ver _ => match cellsAt p.2 id ver with | some cs => cloL m cs p | none => p
  | .agg cs => cloL m cs p
  | _ => p
/-- The objects that these temporaries refer to are closed. -/
def cloR (m : Nat) : List Tmp → Fr × Hp → Fr × Hp
  | [], p => p
  | t :: ts, p => cloR m ts (cloT m (p.1 t) p)

/-- What closing keeps: the world is the same. -/
structure CloG (m : Nat) (g : Gh) (H : Hp) (w : World) (fr : Fr) (p : Fr × Hp) : Prop where
  gho : ∃ g2, WR g2 p.2 w ∧ Evo g H w g2 p.2 w ∧ ∀ (t : Tmp) (v : Value), VR g (fr t) v → VR g2 (p.1 t) v
  len : p.2.length = H.length
  kept : ∀ m', m' ≤ m → Sealed H m' → Sealed p.2 m'

theorem rpl1_good {g : Gh} {H : Hp} {w : World} (h : WR g H w) {id ver : Nat} {cs : List CV} {e : TypeId} (hid : H[id]? = some (.cells ver cs e)) (hc : cs.all clB = true) {l : Loc} (hl : g.locs[id]? = some l) {g2 : Gh}
    (hv : ∀ x v, VR g x v → VR g2 x v) (him : ∀ b o v, g.im b o = some v → g2.im b o = some v) (hb : ∀ q v, w.cell? ⟨l.b, q, none⟩ = some v → v.oneCell' = true → g2.im l.b q = some v) {x : CV} {v : Value} (hx : VR g x v) : VR g2 (rpl1 id ver cs x) v := by
  unfold rpl1
  split
  · rename_i i v' off len sz
    split
    · rename_i hcnd
      obtain ⟨rfl, rfl, hle⟩ := hcnd
      have h0 : cellsAt H i v' = some cs := by simp [cellsAt, hid]
      have hat : atS H (.sl i v' off len sz) = some ((cs.drop off).take (len * sz), len) := by simp only [atS, h0, Option.bind_some]; rw [if_pos hle]
      have hlen : ((cs.drop off).take (len * sz)).length = len * sz := by simp; omega
      have hall : ((cs.drop off).take (len * sz)).all clB = true := List.all_eq_true.2 fun y hy => List.all_eq_true.1 hc y (List.mem_of_mem_drop (List.mem_of_mem_take hy))
      obtain ⟨l', o, cap, hl', hver, hcap, ho, hg, rfl⟩ := hx.sl_live h (by rw [h0]; rfl)
      rw [hl] at hl'
      cases hl'
      by_cases hpos : 0 < len
      · rcases h.at_sl hx hat with ⟨h2, _⟩ | ⟨_, b, o', cap', h2, _, ha2, h3, _⟩
        · cases h2
        · cases h2
          obtain ⟨rfl, rfl, _⟩ := Addr.mk.inj (ha2 hpos)
          obtain ⟨us, u1, u2, u3, u4⟩ := (h3 hpos).list
          refine .cl (.im (f := fun i => us.getD i undef) hlen hcap (fun _ => rfl) (fun i hi => ?_) (fun i hi => ?_))
          · have hi2 : i < us.length := by rw [u1]; exact hi
            have := u2 i us[i] (List.getElem?_eq_getElem hi2)
            rw [Addr.add_lit] at this
            rw [hb _ _ this (u3 _ (List.getElem_mem hi2))]
            simp [hi2]
          · have hi2 : i < us.length := by rw [u1]; exact hi
            have := (u4 i hi hi2).closed (List.all_eq_true.1 hall _ (List.getElem_mem hi))
            simp only [List.getD_eq_getElem?_getD, List.getElem?_eq_getElem hi2, Option.getD_some]
            exact this.mono him
      · have hz : len = 0 := by omega
        refine .cl (.im (f := fun _ => undef) (b := l.b) (o := o) hlen hcap (fun _ => rfl) (fun i hi => ?_) (fun i hi => ?_))
        · rw [hlen, hz] at hi; simp at hi
        · have hi2 := hi; rw [hlen, hz] at hi2; simp at hi2
    · exact hv _ _ hx
  · exact hv _ _ hx

theorem rpl1_top {id ver m : Nat} {cs : List CV} {x : CV} (h : topLe m x = true) : topLe m (rpl1 id ver cs x) = true := by
  unfold rpl1
  split
  · split
    · rfl
    · exact h
  · exact h
theorem rpl1_topL {id ver m : Nat} {cs : List CV} : ∀ {xs : List CV}, topLeL m xs = true → topLeL m (xs.map (rpl1 id ver cs)) = true
  | [], _ => rfl
  | x :: xs, h => by
    simp only [topLeL, Bool.and_eq_true] at h
    simp only [List.map_cons, topLeL, Bool.and_eq_true]
    exact ⟨rpl1_top h.1, rpl1_topL h.2⟩
theorem rplO_top {id ver m : Nat} {cs : List CV} {o : CO} (h : o.topLe m = true) : (rplO id ver cs o).topLe m = true := by
  cases o with
  | cells v xs e => exact rpl1_topL h
  | _ => exact h
theorem rplO_live (id ver : Nat) (cs : List CV) (o : CO) : (rplO id ver cs o).live = o.live := by cases o <;> rfl

theorem CloG.refl {m : Nat} {g : Gh} {H : Hp} {w : World} (h : WR g H w) (fr : Fr) : CloG m g H w fr (fr, H) :=
  ⟨⟨g, h, Evo.refl _ _ _, fun _ _ h => h⟩, rfl, fun _ _ h => h⟩
theorem cloA_good {m id ver : Nat} {g : Gh} {H : Hp} {w : World} (h : WR g H w) (fr : Fr) : CloG m g H w fr (cloA m id ver (fr, H)) := by
  unfold cloA
  simp only []
  split
  · rename_i v cs e he
    split
    · rename_i hcnd
      obtain ⟨hm, rfl, hc⟩ := hcnd
      obtain ⟨l, hl, hlv, c, fz, hcb, hn, hs, hcells, hfr⟩ := h.cells he
      have hidl := (List.getElem?_eq_some_iff.1 he).1
      -- gone, and its block closed
      obtain ⟨w1, e1⟩ := h.relay (id := id) (o := .cells v cs e) (o2 := .gone (v + 1)) (l := l) (l2 := ⟨l.b, l.s, v + 1, l.n⟩) (w2 := w) he rfl hl (by show l.ver < v + 1; omega) (.inl rfl) rfl rfl rfl (Nat.le_refl _) (fun _ _ _ => rfl) rfl
      have hfree : ∀ (i : Nat) (o : CO) (k : Loc), (H.set id (.gone (v + 1)))[i]? = some o → o.live = true → (g.move id ⟨l.b, l.s, v + 1, l.n⟩).locs[i]? = some k → k.b ≠ l.b := by
        intro i o k h1 h2 h3
        by_cases hi : id = i
        · subst hi
          rw [List.getElem?_set_self hidl] at h1
          cases h1
          cases h2
        · rw [List.getElem?_set_ne hi] at h1
          simp only [Gh.move] at h3
          rw [List.getElem?_set_ne hi] at h3
          intro hb
          exact hi (h.inj id i _ o l k he h1 rfl h2 hl h3 hb.symm)
      obtain ⟨a1, a2, a3⟩ := w1.closeW (b := l.b) ((h.obj id _ l he hl).lt rfl) hfree
      obtain ⟨g2, hg2⟩ : ∃ g2, g2 = (g.move id ⟨l.b, l.s, v + 1, l.n⟩).closeW w l.b := ⟨_, rfl⟩
      rw [← hg2] at a1 a2 a3
      replace a2 : ∀ b o u, g.im b o = some u → g2.im b o = some u := a2
      have hmlocs := locs_set (l' := ⟨l.b, l.s, v + 1, l.n⟩) g hl (show l.ver < v + 1 by omega)
      have hlocs2 : g2.locs = g.locs.set id ⟨l.b, l.s, v + 1, l.n⟩ := by rw [hg2]; rfl
      have hloc : ∀ (i : Nat) (k : Loc), g.locs[i]? = some k → ∃ k2, g2.locs[i]? = some k2 ∧ (k.ver < k2.ver ∨ k2 = k) := by
        intro i k hk
        obtain ⟨k2, h1, h2⟩ := hmlocs i k hk
        exact ⟨k2, by rw [hlocs2]; exact h1, h2⟩
      have hown : ∀ b, g.own b → g2.own b := fun b hb => by rw [hg2]; exact .inr hb
      have hvr : ∀ x u, VR g x u → VR g2 x u := fun x u hx => hx.mono a2 hloc hown
      have hrp : ∀ x u, VR g x u → VR g2 (rpl1 id v cs x) u := fun x u hx => rpl1_good h he hc hl hvr a2 a3 hx
      obtain ⟨H2, hH2⟩ : ∃ H2, H2 = H.take m ++ ((H.set id (.gone (v + 1))).drop m).map (rplO id v cs) := ⟨_, rfl⟩
      rw [← hH2]
      have hH2l : H2.length = H.length := by rw [hH2]; simp; omega
      have lift : ∀ (i : Nat) (x : CO), H2[i]? = some x → ∃ o, (H.set id (.gone (v + 1)))[i]? = some o ∧ (x = o ∨ x = rplO id v cs o) := by
        intro i x hx
        rw [hH2] at hx
        by_cases hi : i < m
        · rw [List.getElem?_append_left (by simp; omega), List.getElem?_take_of_lt hi] at hx
          exact ⟨x, by rw [List.getElem?_set_ne (by omega)]; exact hx, .inl rfl⟩
        · rw [List.getElem?_append_right (by simp; omega)] at hx
          rw [List.getElem?_map, List.getElem?_drop] at hx
          obtain ⟨o, ho, rfl⟩ := Option.map_eq_some_iff.1 hx
          have hmin : m + (i - (H.take m).length) = i := by simp; omega
          rw [hmin] at ho
          exact ⟨o, ho, .inr rfl⟩
      have liftl : ∀ (i : Nat) (x : CO), H2[i]? = some x → x.live = true → ∃ o, (H.set id (.gone (v + 1)))[i]? = some o ∧ o.live = true := by
        intro i x hx hxl
        obtain ⟨o, ho, rfl | rfl⟩ := lift i x hx
        · exact ⟨_, ho, hxl⟩
        · exact ⟨_, ho, by rw [rplO_live] at hxl; exact hxl⟩
      have hobj : ∀ (i : Nat) (o : CO) (k : Loc), (H.set id (.gone (v + 1)))[i]? = some o → g2.locs[i]? = some k → OR g2 (rplO id v cs o) k w := by
        intro i o k ho hk
        by_cases hi : id = i
        · subst hi
          have := a1.obj _ _ _ ho hk
          rw [List.getElem?_set_self hidl] at ho
          cases ho
          exact this
        · have ho' := ho
          rw [List.getElem?_set_ne hi] at ho'
          have hk' := hk
          rw [hlocs2, List.getElem?_set_ne hi] at hk'
          cases o with
          | cells v' xs e' =>
            obtain ⟨b1, c1, f1, b2, b3, b4, b5, b6⟩ := h.obj i _ k ho' hk'
            refine ⟨b1, c1, f1, b2, b3, by simpa using b4, fun j hj => ?_, b6⟩
            obtain ⟨u, u1, u2, u3⟩ := b5 j (by simpa using hj)
            exact ⟨u, u1, u2, by rw [List.getElem_map]; exact hrp _ _ u3⟩
          | map a b c => exact a1.obj i _ k ho hk
          | loop a b c d e f i j => exact a1.obj _ _ k ho hk
          | gone a => exact a1.obj i _ k ho hk
      refine ⟨⟨g2, ⟨?_, ?_, ?_, a1.im, ?_, ?_, a1.base, ?_, a1.blk⟩, ?_, ?_⟩, hH2l, ?_⟩
      · rw [hH2l, hlocs2, List.length_set]; exact h.len
      · intro i x k hx hk
        obtain ⟨o, ho, rfl | rfl⟩ := lift i x hx
        · exact a1.obj i _ k ho hk
        · exact hobj i o k ho hk
      · intro i j oi oj li lj h1 h2 h3 h4 h5 h6 e
        obtain ⟨p, hp, hp'⟩ := liftl i oi h1 h3
        obtain ⟨q, hq, hq'⟩ := liftl j oj h2 h4
        exact a1.inj i j p q li lj hp hq hp' hq' h5 h6 e
      · intro i x k h1 h2 h3
        obtain ⟨p, hp, hp'⟩ := liftl i x h1 h2
        exact a1.dis i p k hp hp' h3
      · intro b hb
        refine ⟨(a1.own b hb).1, fun i x k h1 h2 h3 => ?_⟩
        obtain ⟨p, hp, hp'⟩ := liftl i x h1 h2
        exact (a1.own b hb).2 i p k hp hp' h3
      · intro i xs e' k h1 h2
        obtain ⟨o, ho, ho2 | ho2⟩ := lift i _ h1
        · subst ho2; exact a1.org i xs e' k ho h2
        · cases o with
          | cells v' ys e2 =>
            simp only [rplO, CO.cells.injEq] at ho2
            obtain ⟨rfl, _, _⟩ := ho2
            exact a1.org i ys e2 k ho h2
          | _ => cases ho2
      · refine ⟨rfl, rfl, rfl, Nat.le_refl _, fun _ _ _ => rfl, fun b hb => .inr ?_, a2, hloc, hown⟩
        rcases hb with hb | ⟨i, x, k, h1, h2, h3, rfl⟩
        · rw [hg2] at hb
          rcases hb with rfl | hb
          · exact .inr ⟨id, _, l, he, rfl, hl, rfl⟩
          · exact .inl hb
        · obtain ⟨p, hp, hp'⟩ := liftl i x h1 h2
          by_cases hi : id = i
          · subst hi
            rw [List.getElem?_set_self hidl] at hp
            cases hp
            cases hp'
          · rw [List.getElem?_set_ne hi] at hp
            rw [hlocs2, List.getElem?_set_ne hi] at h3
            exact .inr ⟨i, p, k, hp, hp', h3, rfl⟩
      · intro t u hu
        show VR g2 (rpl id v cs (fr t)) u
        unfold rpl
        split
        · rename_i xs hxs
          rw [hxs] at hu
          obtain ⟨vs, rfl, hl3, hh⟩ := hu.agg_inv
          exact .agg (by simpa using hl3) fun i hi hi' => by rw [List.getElem_map]; exact hrp _ _ (hh i (by simpa using hi) hi')
        · exact hrp _ _ hu
      · intro m' hm' hs i x hi hx
        obtain ⟨o, ho, hxo⟩ := lift i x hx
        have hlt : i < m := by omega
        have ho' := ho
        rw [List.getElem?_set_ne (by omega)] at ho'
        have := hs i o hi ho'
        rcases hxo with rfl | rfl
        · exact this
        · exact rplO_top this
    · exact .refl h fr
  · exact .refl h fr
theorem CloG.trans {m : Nat} {g : Gh} {H : Hp} {w : World} {fr : Fr} {p q : Fr × Hp} (a : CloG m g H w fr p) (b : ∀ g2, WR g2 p.2 w → CloG m g2 p.2 w p.1 q) : CloG m g H w fr q := by
  obtain ⟨g2, a1, a2, a3⟩ := a.gho
  obtain ⟨g3, b1, b2, b3⟩ := (b g2 a1).gho
  exact ⟨⟨g3, b1, a2.trans b2, fun t v h => b3 t v (a3 t v h)⟩, (b g2 a1).len.trans a.len, fun m' hm hs => (b g2 a1).kept m' hm (a.kept m' hm hs)⟩
theorem cloL_good {m : Nat} {w : World} : ∀ (l : List CV) {g : Gh} {p : Fr × Hp}, WR g p.2 w → CloG m g p.2 w p.1 (cloL m l p)
  | [], g, p, h => .refl h _
  | x :: l, g, p, h => by
    have hd := cloL_good (m := m) (w := w) l (g := g) (p := p) h
    cases x with
    | sl id ver off len sz => exact (cloA_good (id := id) (ver := ver) h p.1).trans fun g2 h2 => cloL_good l h2
    | _ => exact hd
theorem cloT_good {m : Nat} {w : World} (x : CV) {g : Gh} {p : Fr × Hp} (h : WR g p.2 w) : CloG m g p.2 w p.1 (cloT m x p) := by
  unfold cloT
  split
  · rename_i id ver _ _ _
    have key : CloG m g p.2 w p.1 (match cellsAt p.2 id ver with | some cs => cloL m cs p | none => p) := by
      split
      · exact cloL_good _ h
      · exact .refl h _
    exact key.trans fun g2 h2 => cloA_good h2 _
  · split
    · exact cloL_good _ h
    · exact .refl h _
  · exact cloL_good _ h
  · exact .refl h _
theorem cloR_good {m : Nat} {w : World} : ∀ (ts : List Tmp) {g : Gh} {p : Fr × Hp}, WR g p.2 w → CloG m g p.2 w p.1 (cloR m ts p)
  | [], g, p, h => .refl h _
  | t :: ts, g, p, h => (cloT_good (p.1 t) h).trans fun g2 h2 => cloR_good ts h2
end Go.SL

/- The evaluator of code and calls; old objects keep to old ones. -/
namespace Go.SL
variable [BaseC]
set_option linter.unusedVariables false

/-- Into an object below m goes only what refers to none. -/
def stOK (m : Nat) (fr : Fr) : Op → Bool
  | .store _ x y => match evO fr x, evO fr y with
    | some (.ptr id _ _), some y => decide (m ≤ id) || topLe 0 y
    | _, _ => true
  | .mapUpdate _ q _ x | .insert _ q _ x => match evO fr q, evO fr x with
    | some (.mp id _), some x => decide (m ≤ id) || topLe 0 x
    | _, _ => true
  | .call ⟨.builtin .append, args, _⟩ => match evL fr args.toList with
    | some [.sl id _ _ _ _, x] => decide (m ≤ id) || clB x
    | _ => true
  | _ => true

/-- What is called: a function, or the round of a loop. -/
inductive Tg where
  | f (f : FuncId)
  | y (id ver : Nat)

abbrev CallE := Nat → Tg → List CV → Hp → Option (CV × Hp)

/-- An operation, a call too. -/
def opX (P : Program) (cfg : Cfg) (ce : CallE) (m : Nat) (fr : Fr) (old : CV) (H : Hp) (o : Op) : Option (CV × Hp) :=
  match o with
  | .call ⟨.value f, args, _⟩ => (evO fr f).bind fun fv => (evL fr args.toList).bind fun xs =>
      match fv with
      | .v (.func (.func f) _ _) => ce m (.f f) (xs.map unlit) H
      | .fn (.func f) fs cs => ce m (.f f) (fs ++ xs.map unlit ++ cs) H
      | .yl id ver => ce m (.y id ver) (xs.map unlit) H
      | _ => none
  | o => if stOK m fr o then opE P cfg fr old H o else none

def putC (n : Nat) (fr : Fr) (d : Option Tmp) (x : CV) : Option Fr :=
  match d with
  | none => some fr
  | some d => if d < n then some (fun t => if t = d then x else fr t) else none

def oldC (fr : Fr) (d : Option Tmp) : CV :=
  match d with
  | none => .tup []
  | some d => fr d

/-- Is an operation carried out? -/
def wantC (fr : Fr) (ops : Array Oper) (o : Oper) : Option Bool :=
  match o.guard with
  | none => some true
  | some (j, want) =>
    match (ops[j]?).bind (·.dst) with
    | none => some false
    | some d => match fr d with
      | .v (.bool b) => some (b == want)
      | .tup [] => some false
      | _ => none

def evOps (P : Program) (cfg : Cfg) (ce : CallE) (m n : Nat) (ops : Array Oper) : List Oper → Fr → Hp → Option (Fr × Hp)
  | [], fr, H => some (fr, H)
  | o :: rest, fr, H => (wantC fr ops o).bind fun b =>
      if b then (opX P cfg ce m fr (oldC fr o.dst) H o.op).bind fun y => (putC n fr o.dst y.1).bind fun fr2 => evOps P cfg ce m n ops rest fr2 y.2
      else (putC n fr o.dst (.tup [])).bind fun fr2 => evOps P cfg ce m n ops rest fr2 H

/-- An order that a region may be carried out in, behind these. -/
def LinX (ops : Array Oper) : List Nat → Array Bool → Prop
  | [], listed => Region.ready .any ops listed = []
  | i :: l, listed => i ∈ Region.ready .any ops listed ∧ LinX ops l (listed.setIfInBounds i true)

def evIx (P : Program) (cfg : Cfg) (ce : CallE) (m n : Nat) (ops : Array Oper) (l : List Nat) (fr : Fr) (H : Hp) : Option (Fr × Hp) :=
  evOps P cfg ce m n ops (l.filterMap (ops[·]?)) fr H

open Classical in
/-- A region whose order is drawn: all orders come to what the text's does. -/
noncomputable def evDraw (P : Program) (cfg : Cfg) (ce : CallE) (m n : Nat) (ops : Array Oper) (fr : Fr) (H : Hp) : Option (Fr × Hp) :=
  if P.follows .mixedOrders = true then
    (evOps P cfg ce m n ops ops.toList fr H).bind fun r =>
      if ∀ l, LinX ops l (Array.replicate ops.size false) → evIx P cfg ce m n ops l fr H = some r then some r else none
  else none

inductive Ex where
  | norm
  | exit (id : Nat)
  | goto (l : Nat)
  | ret

/-- A pending jump. -/
def jumpEx : Option Code → Option Ex
  | none => some .norm
  | some (.exit i) => some (.exit i)
  | some (.goto l) => some (.goto l)
  | some .ret => some .ret
  | _ => none

/-- Code. -/
noncomputable def ev (P : Program) (cfg : Cfg) (ce : CallE) (m n : Nat) : Nat → Code → Fr → Hp → Option (Ex × Fr × Hp)
  | 0, _, _, _ => none
  | k + 1, c, fr, H =>
    match c with
    | .skip | .label _ => some (.norm, fr, H)
    | .region i ops false => (evOps P cfg ce m n ops ops.toList (cloR m (cfg.clo i) (fr, H)).1 (cloR m (cfg.clo i) (fr, H)).2).map fun r => (.norm, r.1, r.2)
    | .region i ops true => (evDraw P cfg ce m n ops (cloR m (cfg.clo i) (fr, H)).1 (cloR m (cfg.clo i) (fr, H)).2).map fun r => (.norm, r.1, r.2)
    | .seq a b => (ev P cfg ce m n k a fr H).bind fun r => match r.1 with
      | .norm => ev P cfg ce m n k b r.2.1 r.2.2
      | _ => some r
    | .cond c a b => (evO fr c).bind fun c => match c with
      | .v (.bool t) => ev P cfg ce m n k (if t then a else b) fr H
      | _ => none
    | .block id c => (ev P cfg ce m n k c fr H).map fun r => match r.1 with
      | .exit id' => if id' = id then (.norm, r.2) else r
      | _ => r
    | .scope c => (ev P cfg ce m n k c fr H).bind fun r => match r.1 with
      | .goto _ => none
      | _ => some r
    | .loop c => (ev P cfg ce m n k c fr H).bind fun r => match r.1 with
      | .norm => ev P cfg ce m n k (.loop c) r.2.1 r.2.2
      | _ => some r
    | .exit id => some (.exit id, fr, H)
    | .goto l => some (.goto l, fr, H)
    | .ret => some (.ret, fr, H)
    | .rangeFunc f ps a b => if cfg.inR then none else (evO fr f).bind fun fv => match fv with
      | .fn (.func g) [] cs => if ((P.funcs[g]?).bind (·.body)).isSome then
          (ce m (.f g) (.yl H.length 0 :: cs) (H ++ [.loop 0 cfg.fn ((List.range n).map fr) ps a b .ready none])).bind fun r =>
            match r.2[H.length]? with
            | some (.loop 0 fn1 ts1 ps1 a1 b1 st pe) => match st with
              | .busy => none
              | _ => (jumpEx pe).map fun e => (e, fr, r.2.set H.length (.loop 0 fn1 ts1 ps1 a1 b1 .exhausted pe))
            | _ => none
        else none
      | _ => none
    | _ => none

/-- The temporaries of a round. -/
def roundFr (ts : List CV) (ps : Array Tmp) (args : List CV) : Fr :=
  fun t => ((ps.toList.zip args).foldl (fun ts p => ts.set p.1 p.2) ts).getD t (.tup [])
def Ex.jump : Ex → Option Code
  | .norm => none
  | .exit i => some (.exit i)
  | .goto l => some (.goto l)
  | .ret => some .ret
/-- A round: the assignments to the loop's variables, the body. -/
noncomputable def evRound (P : Program) (cs : FuncId → Cfg) (ce : CallE) (m k id ver : Nat) (args : List CV) (H : Hp) : Option (CV × Hp) :=
  match H[id]? with
  | some (.loop v fn ts ps a b .ready none) =>
    if v = ver ∧ args.length = ps.size then
      (ev P { cs fn with inR := true } ce m ts.length k a (roundFr ts ps args) H).bind fun r => match r.1, r.2.2[id]? with
        | .norm, some (.loop v1 fn1 ts1 ps1 a1 b1 .ready none) => if v1 = ver then
            (ev P { cs fn with inR := true } ce m ts.length k b r.2.1 (r.2.2.set id (.loop v1 fn1 ts1 ps1 a1 b1 .busy none))).bind fun q => match q.2.2[id]? with
              | some (.loop v2 fn2 ts2 ps2 a2 b2 _ _) => if v2 = ver then
                  some (.v (.bool q.1.jump.isNone), q.2.2.set id (.loop v2 fn2 ts2 ps2 a2 b2 (if q.1.jump.isNone then .ready else .done) q.1.jump)) else none
              | _ => none
          else none
        | _, _ => none
    else none
  | _ => none

def resC (P : Program) (fr : Fr) (H : Hp) : List ResultVar → Option (List CV)
  | [] => some []
  | .tmp t :: rs => (resC P fr H rs).map (unlit (fr t) :: ·)
  | .cell a t :: rs => (dLoad P t (fr a) H).bind fun x => (resC P fr H rs).map (x :: ·)

def one : List CV → CV
  | [x] => x
  | xs => .tup xs

/-- How each function is carried out. -/
structure Cfgs where
  of : FuncId → Cfg := fun _ => {}
  drop : FuncId → Bool := fun _ => true
  /-- Functions that are known otherwise. -/
  prim : FuncId → Option (List CV → Hp → Option (CV × Hp)) := fun _ => none

def frame (args : List CV) : Fr := fun t => args.getD t (.tup [])

noncomputable def evCall (P : Program) (cs : Cfgs) : Nat → CallE
  | 0, _, _, _, _ => none
  | k + 1, m, .y id ver, args, H => evRound P cs.of (evCall P cs k) m k id ver args H
  | k + 1, m, .f f, args, H =>
    match cs.prim f with
    | some p => p args H
    | none => (P.funcs[f]?).bind fun fn => fn.body.bind fun c =>
        if cs.drop f then
          (ev P { cs.of f with inR := false, fn := f } (evCall P cs k) H.length (args.length + (fn.ntmps - args.length)) k c (frame args) H).bind fun r =>
            match r.1 with
            | .norm | .ret => (resC P r.2.1 r.2.2 fn.results.toList).bind fun xs => (frz r.2.2 H.length (one xs)).map fun y => (y, r.2.2.take H.length)
            | _ => none
        else
          (ev P { cs.of f with inR := false, fn := f } (evCall P cs k) m (args.length + (fn.ntmps - args.length)) k c (frame args) H).bind fun r =>
            match r.1 with
            | .norm | .ret => (resC P r.2.1 r.2.2 fn.results.toList).map fun xs => (one xs, r.2.2)
            | _ => none

/-- What is sealed stays so, and nothing becomes less. -/
def Keeps (m : Nat) (H H2 : Hp) : Prop := H.length ≤ H2.length ∧ ∀ m', m' ≤ m → m' ≤ H.length → Sealed H m' → Sealed H2 m'

theorem Keeps.refl (m : Nat) (H : Hp) : Keeps m H H := ⟨Nat.le_refl _, fun _ _ _ h => h⟩
theorem Keeps.trans {m : Nat} {H H1 H2 : Hp} (a : Keeps m H H1) (b : Keeps m H1 H2) : Keeps m H H2 :=
  ⟨Nat.le_trans a.1 b.1, fun m' h1 h2 h3 => b.2 m' h1 (Nat.le_trans h2 a.1) (a.2 m' h1 h2 h3)⟩
theorem Keeps.app (m : Nat) (H : Hp) (o : CO) : Keeps m H (H ++ [o]) := by
  refine ⟨by simp, fun m' _ h2 h3 id x hid hx => ?_⟩
  rw [List.getElem?_append_left (by omega)] at hx
  exact h3 id x hid hx
theorem Keeps.set {m id : Nat} {H : Hp} {o : CO} (h : ∀ m', m' ≤ m → m' ≤ H.length → Sealed H m' → id < m' → o.topLe m' = true) : Keeps m H (H.set id o) := by
  refine ⟨by simp, fun m' h1 h2 h3 i x hi hx => ?_⟩
  by_cases e : id = i
  · subst e
    rw [List.getElem?_set_self (by omega)] at hx
    cases hx
    exact h m' h1 h2 h3 hi
  · rw [List.getElem?_set_ne e] at hx
    exact h3 i x hi hx

mutual
theorem topLe_mono {a b : Nat} (hab : a ≤ b) : ∀ x : CV, topLe a x = true → topLe b x = true
  | .v _, _ => rfl
  | .ptr id _ _, h => by simp only [topLe, decide_eq_true_eq] at *; omega
  | .sl id _ _ _ _, h => by simp only [topLe, decide_eq_true_eq] at *; omega
  | .im .., _ => rfl
  | .ip _, _ => rfl
  | .lit .., _ => rfl
  | .mp id _, h => by simp only [topLe, decide_eq_true_eq] at *; omega
  | .yl id _, h => by simp only [topLe, decide_eq_true_eq] at *; omega
  | .fn _ fs cs, h => by simp only [topLe, Bool.and_eq_true] at *; exact ⟨topLeL_mono hab fs h.1, topLeL_mono hab cs h.2⟩
  | .ifc _ x, h => by simp only [topLe] at *; exact topLe_mono hab x h
  | .agg cs, h => by simp only [topLe] at *; exact topLeL_mono hab cs h
  | .tup cs, h => by simp only [topLe] at *; exact topLeL_mono hab cs h
theorem topLeL_mono {a b : Nat} (hab : a ≤ b) : ∀ xs : List CV, topLeL a xs = true → topLeL b xs = true
  | [], _ => rfl
  | x :: xs, h => by simp only [topLeL, Bool.and_eq_true] at *; exact ⟨topLe_mono hab x h.1, topLeL_mono hab xs h.2⟩
end

theorem clB_top {x : CV} : clB x = true → topLe 0 x = true := by
  intro h
  match x, h with
  | .v _, _ => rfl
  | .im .., _ => rfl
  | .ip _, _ => rfl
  | .ifc _ x, h => exact clB_top (x := x) (by simpa [clB] using h)

theorem topLeL_app {m : Nat} : ∀ (xs ys : List CV), topLeL m xs = true → topLeL m ys = true → topLeL m (xs ++ ys) = true
  | [], ys, _, h => h
  | x :: xs, ys, h1, h2 => by simp only [topLeL, List.cons_append, Bool.and_eq_true] at *; exact ⟨h1.1, topLeL_app xs ys h1.2 h2⟩
theorem topLeL_take {m : Nat} (n : Nat) (xs : List CV) (h : topLeL m xs = true) : topLeL m (xs.take n) = true :=
  topLeL_of fun i hi => by rw [List.getElem_take]; exact topLeL_get i (by simp at hi; omega) h
theorem topLeL_drop {m : Nat} (n : Nat) (xs : List CV) (h : topLeL m xs = true) : topLeL m (xs.drop n) = true :=
  topLeL_of fun i hi => by rw [List.getElem_drop]; exact topLeL_get (n + i) (by simp at hi; omega) h
theorem topLeL_v {m : Nat} (l : List Value) : topLeL m (l.map CV.v) = true := topLeL_of fun i hi => by simp [topLe]

theorem cvCells_top {m : Nat} {x : CV} {cs : List CV} (h : cvCells x = some cs) (ht : topLe m x = true) : topLeL m cs = true := by
  unfold cvCells at h
  split at h
  · split at h
    · cases h; exact ht
    · cases h
  · cases h
  · cases h; simp [topLeL, ht]

theorem zeroL_top {P : Program} {t : TypeId} {zs : List CV} {m : Nat} (h : zeroL P t = some zs) : topLeL m zs = true := by
  unfold zeroL at h
  obtain ⟨i, hi, h⟩ := Option.bind_eq_some_iff.1 h
  obtain ⟨z, hz, h⟩ := Option.bind_eq_some_iff.1 h
  split at h
  · cases h; exact topLeL_v _
  · cases h

theorem sealed_cells {H : Hp} {m id ver : Nat} {cs : List CV} {e : TypeId} (h : Sealed H m) (hid : id < m) (hc : H[id]? = some (.cells ver cs e)) : topLeL m cs = true := h id _ hid hc

theorem putH_eq {H : Hp} {id off ver : Nat} {cs xs : List CV} {e : TypeId} (hc : H[id]? = some (.cells ver cs e)) : putH H id off xs = H.set id (.cells ver (cs.take off ++ xs ++ cs.drop (off + xs.length)) e) := by
  apply List.ext_getElem?
  intro i
  simp only [putH, List.getElem?_modify]
  by_cases hi : id = i
  · subst hi
    rw [hc, List.getElem?_set_self (List.getElem?_eq_some_iff.1 hc).1]
    simp
  · rw [List.getElem?_set_ne hi]
    simp [hi]

theorem dStore_keeps {P : Program} {t : TypeId} {x y : CV} {H H2 : Hp} {m : Nat} (hok : ∀ id ver off, x = .ptr id ver off → m ≤ id ∨ topLe 0 y = true) (h : dStore P t x y H = some H2) : Keeps m H H2 := by
  unfold dStore at h
  split at h
  · rename_i id ver off
    obtain ⟨i, hi, h⟩ := Option.bind_eq_some_iff.1 h
    obtain ⟨ys, hys, h⟩ := Option.bind_eq_some_iff.1 h
    obtain ⟨cs, hcs, h⟩ := Option.bind_eq_some_iff.1 h
    split at h
    · cases h
      obtain ⟨e, he⟩ := cellsAt_some hcs
      rw [putH_eq he]
      refine Keeps.set fun m' h1 h2 h3 h4 => ?_
      have hc := sealed_cells h3 h4 he
      rcases hok id ver off rfl with h5 | h5
      · omega
      · exact topLeL_app _ _ (topLeL_app _ _ (topLeL_take _ _ hc) (topLeL_mono (Nat.zero_le _) _ (cvCells_top hys h5))) (topLeL_drop _ _ hc)
    · cases h
  · cases h

theorem VC.top {im : Nat → Nat → Option Value} {x : CV} {v : Value} (h : VC im x v) (m : Nat) : topLe m x = true := by
  induction h with
  | v _ => rfl
  | undef => rfl
  | im _ _ _ _ _ _ => rfl
  | ip _ _ _ => rfl
  | agg hl _ ih => exact topLeL_of fun i hi => ih i hi (by omega)
  | tup hl _ ih => exact topLeL_of fun i hi => ih i hi (by omega)
  | ifc _ ih => exact ih

theorem im_top {g : Gh} {cs : List CV} {len sz m : Nat} {v : Value} (h : VR g (.im cs len sz) v) : topLeL m cs = true := by
  obtain ⟨a, b, o, cap, f, _, _, _, _, _, hh⟩ := h.im_inv
  exact topLeL_of fun i hi => (hh i hi).top m

theorem dSrc_top {P : Program} {g : Gh} {H : Hp} {tx : TypeId} {size n m : Nat} {x : CV} {v : Value} {cs : List CV} (hx : VR g x v) (hc : clB x = true) (h : dSrc P H tx size x = some (cs, n)) : topLeL m cs = true := by
  unfold dSrc at h
  split at h
  · split at h
    · split at h
      · cases h; exact topLeL_of fun i hi => by simp [bytesC, topLe]
      · cases h
    · cases h
  · obtain ⟨⟨cs', n'⟩, hat, h⟩ := Option.bind_eq_some_iff.1 h
    simp only at h
    split at h
    · cases h
      unfold atS at hat
      cases x with
      | im l a b => simp only [] at hat; split at hat <;> cases hat; exact im_top hx
      | v q =>
        cases q with
        | slice a b c =>
          cases a with
          | none => simp at hat; rw [hat.1]; rfl
          | some a => simp at hat
        | _ => simp at hat
      | sl => cases hc
      | lit => cases hc
      | _ => cases hat
    · cases h
  · cases h

theorem dAppend_keeps {P : Program} {g : Gh} {t tx : TypeId} {s x y : CV} {v : Value} {H H2 : Hp} {m : Nat} (hx : VR g x v) (hok : ∀ id ver off len sz, s = .sl id ver off len sz → m ≤ id ∨ clB x = true) (h : dAppend P t tx s x H = some (y, H2)) : Keeps m H H2 := by
  unfold dAppend at h
  split at h
  · obtain ⟨i, hi, h⟩ := Option.bind_eq_some_iff.1 h
    obtain ⟨zs, hz, h⟩ := Option.bind_eq_some_iff.1 h
    obtain ⟨⟨xs, n⟩, hxn, h⟩ := Option.bind_eq_some_iff.1 h
    split at h
    · cases s with
      | v q =>
        cases q with
        | slice a q1 q2 =>
          cases a with
          | some a => cases h
          | none =>
            simp only [] at h
            split at h
            · cases h; exact Keeps.refl _ _
            · split at h
              · cases h; exact Keeps.app _ _ _
              · cases h
        | _ => cases h
      | sl id ver off len sz =>
        simp only [] at h
        split at h
        · rename_i v' cs e' hcell
          split at h
          · split at h
            · cases h; exact Keeps.refl _ _
            · split at h
              · cases h
                refine Keeps.set fun m' h1 h2 h3 h4 => ?_
                have hc := sealed_cells h3 h4 hcell
                rcases hok id ver off len sz rfl with h5 | h5
                · omega
                · exact topLeL_app _ _ (topLeL_take _ _ (topLeL_drop _ _ hc)) (dSrc_top hx h5 hxn)
              · cases h
          · cases h
        · cases h
      | im cs len sz =>
        simp only [] at h
        split at h
        · cases h; exact Keeps.refl _ _
        · cases h
      | _ => cases h
    · cases h
  · cases h

theorem dMapUpd_keeps {P : Program} {t : TypeId} {q k x : CV} {H H2 : Hp} {m : Nat} (hok : ∀ id ver, q = .mp id ver → m ≤ id ∨ topLe 0 x = true) (h : dMapUpd P t q k x H = some H2) : Keeps m H H2 := by
  unfold dMapUpd at h
  split at h
  · rename_i kt et id ver hu
    split at h
    · rename_i v es clock hmm
      split at h
      · obtain ⟨d, hd, h⟩ := Option.bind_eq_some_iff.1 h
        split at h
        · obtain ⟨r, hr, h⟩ := Option.map_eq_some_iff.1 h
          have key : ∀ m', m' ≤ m → Sealed H m' → id < m' → es.all (fun e => topLe m' e.2) = true ∧ topLe m' x = true := by
            intro m' h1 h3 h4
            refine ⟨h3 id _ h4 hmm, ?_⟩
            rcases hok id ver rfl with h5 | h5
            · omega
            · exact topLe_mono (Nat.zero_le _) _ h5
          split at h
          · rename_i i _ _
            subst h
            refine Keeps.set fun m' h1 h2 h3 h4 => ?_
            obtain ⟨a, b⟩ := key m' h1 h3 h4
            refine List.all_eq_true.2 fun e he => ?_
            rcases List.mem_or_eq_of_mem_set he with he | rfl
            · exact List.all_eq_true.1 a e he
            · exact b
          · subst h
            refine Keeps.set fun m' h1 h2 h3 h4 => ?_
            obtain ⟨a, b⟩ := key m' h1 h3 h4
            simp only [CO.topLe, List.all_append, List.all_cons, List.all_nil, Bool.and_true, Bool.and_eq_true]
            exact ⟨a, b⟩
        · cases h
      · cases h
    · cases h
  · cases h

theorem dRealloc_keeps {P : Program} {t : TypeId} {x y : CV} {H H2 : Hp} {m : Nat} (h : dRealloc P t x H = some (y, H2)) : Keeps m H H2 := by
  unfold dRealloc at h
  split at h
  · split at h
    · split at h
      · obtain ⟨zs, hz, h⟩ := Option.map_eq_some_iff.1 h
        cases h
        exact Keeps.set fun m' _ _ _ _ => zeroL_top hz
      · cases h
    · cases h
  · cases h

theorem dAlloc_keeps {P : Program} {t : TypeId} {y : CV} {H H2 : Hp} {m : Nat} (h : dAlloc P t H = some (y, H2)) : Keeps m H H2 := by
  unfold dAlloc at h
  obtain ⟨zs, hz, h⟩ := Option.map_eq_some_iff.1 h
  cases h
  exact Keeps.app _ _ _

theorem numsOf_top {m : Nat} {cs : List CV} {ns : List Int} (h : numsOf cs = some ns) : topLeL m cs = true := topLeL_of fun i hi => by rw [(numsOf_get h).2 i hi]; rfl
theorem dCopy_keeps {P : Program} {t : TypeId} {s x y : CV} {H H2 : Hp} {m : Nat} (h : dCopy P t s x H = some (y, H2)) : Keeps m H H2 := by
  unfold dCopy at h
  split at h
  · split at h
    · rename_i i v cc e' hi he
      obtain ⟨⟨cs, n⟩, hat, ha0⟩ := Option.bind_eq_some_iff.1 h
      clear h
      obtain ⟨ns, hns, h⟩ := Option.bind_eq_some_iff.1 ha0
      clear ha0
      dsimp only at h hns
      split at h
      · split at h
        · cases h; exact Keeps.refl _ _
        · cases h
          rw [putH_eq he]
          refine Keeps.set fun m' h1 h2 h3 h4 => ?_
          have hc := sealed_cells h3 h4 he
          exact topLeL_app _ _ (topLeL_app _ _ (topLeL_take _ _ hc) (topLeL_take _ _ (numsOf_top hns))) (topLeL_drop _ _ hc)
      · cases h
    · cases h
  · cases h
theorem dUnsS_keeps {P : Program} {pt : TypeId} {x n y : CV} {H H2 : Hp} {m : Nat} (h : dUnsS P pt x n H = some (y, H2)) : Keeps m H H2 := by
  unfold dUnsS at h
  split at h
  · split at h
    · cases h; exact Keeps.refl _ _
    · cases h
  · split at h
    · split at h
      · obtain ⟨ns, _, h⟩ := Option.bind_eq_some_iff.1 h
        split at h
        · cases h; exact Keeps.set fun _ _ _ _ _ => rfl
        · cases h
      · cases h
    · cases h
  · cases h
theorem map_keeps {H H2 : Hp} {m : Nat} {x : Option CV} {y : CV} (h : x.map (·, H) = some (y, H2)) : Keeps m H H2 := by
  obtain ⟨z, _, h⟩ := Option.map_eq_some_iff.1 h
  cases h; exact Keeps.refl _ _

theorem opE_keeps {P : Program} {cfg : Cfg} {g : Gh} {H H2 : Hp} {w : World} {fr : Fr} {a : Act} {old y : CV} {m : Nat} (hf : FrR g fr a) (o : Op) (hok : stOK m fr o = true) (h : opE P cfg fr old H o = some (y, H2)) : Keeps m H H2 := by
  cases o with
  | move x => exact (by obtain ⟨z, _, h⟩ := Option.map_eq_some_iff.1 h; cases h; exact Keeps.refl _ _)
  | assign x => exact (by obtain ⟨z, _, h⟩ := Option.map_eq_some_iff.1 h; cases h; exact Keeps.refl _ _)
  | pick c x z =>
    obtain ⟨cv, h1, h⟩ := Option.bind_eq_some_iff.1 h
    split at h
    · exact map_keeps h
    · cases h
  | alloc t =>
    simp only [opE] at h
    split at h
    · split at h
      · rename_i r hr; cases h; exact dRealloc_keeps hr
      · exact dAlloc_keeps h
    · exact dAlloc_keeps h
  | box t x =>
    obtain ⟨z, h1, h⟩ := Option.bind_eq_some_iff.1 h
    unfold dBox at h
    obtain ⟨cs, hc, h⟩ := Option.map_eq_some_iff.1 h
    cases h; exact Keeps.app _ _ _
  | buildSlice t n ps =>
    obtain ⟨z, h1, h⟩ := Option.bind_eq_some_iff.1 h
    unfold dBuildSlice at h
    split at h
    · obtain ⟨i, hi, h⟩ := Option.bind_eq_some_iff.1 h
      obtain ⟨zs, hz, h⟩ := Option.bind_eq_some_iff.1 h
      split at h
      · obtain ⟨out, hout, h⟩ := Option.map_eq_some_iff.1 h
        split at h <;> cases h
        · exact Keeps.refl _ _
        · exact Keeps.app _ _ _
      · cases h
    · cases h
  | store t x z =>
    obtain ⟨xv, h1, h⟩ := Option.bind_eq_some_iff.1 h
    obtain ⟨zv, h2, h⟩ := Option.bind_eq_some_iff.1 h
    obtain ⟨q, h3, h4⟩ := Option.map_eq_some_iff.1 h
    cases h4
    refine dStore_keeps (fun id ver off e => ?_) h3
    subst e
    simp only [stOK, h1, h2, Bool.or_eq_true, decide_eq_true_eq] at hok
    exact hok
  | mapUpdate t q k x =>
    obtain ⟨mv, h1, h⟩ := Option.bind_eq_some_iff.1 h
    obtain ⟨kv, h2, h⟩ := Option.bind_eq_some_iff.1 h
    obtain ⟨xv, h3, h⟩ := Option.bind_eq_some_iff.1 h
    obtain ⟨r, h4, h5⟩ := Option.map_eq_some_iff.1 h
    cases h5
    refine dMapUpd_keeps (fun id ver e => ?_) h4
    subst e
    simp only [stOK, h1, h3, Bool.or_eq_true, decide_eq_true_eq] at hok
    exact hok
  | insert t q k x =>
    obtain ⟨mv, h1, h⟩ := Option.bind_eq_some_iff.1 h
    obtain ⟨kv, h2, h⟩ := Option.bind_eq_some_iff.1 h
    obtain ⟨xv, h3, h⟩ := Option.bind_eq_some_iff.1 h
    obtain ⟨r, h4, h5⟩ := Option.map_eq_some_iff.1 h
    cases h5
    refine dMapUpd_keeps (fun id ver e => ?_) h4
    subst e
    simp only [stOK, h1, h3, Bool.or_eq_true, decide_eq_true_eq] at hok
    exact hok
  | convert s d x =>
    obtain ⟨xv, h1, h⟩ := Option.bind_eq_some_iff.1 h
    split at h
    · cases h; exact Keeps.refl _ _
    · split at h
      · cases h; exact Keeps.refl _ _
      · unfold dS2B at h
        split at h
        · split at h
          · split at h <;> cases h
            · exact Keeps.app _ _ _
            · exact Keeps.refl _ _
          · cases h
        · cases h
  | makeMap t r =>
    cases r with
    | some r => cases h
    | none => cases h; exact Keeps.app _ _ _
  | makeFunc f fs cs =>
    cases f with
    | func f =>
      obtain ⟨xs, h1, h⟩ := Option.bind_eq_some_iff.1 h
      obtain ⟨ys, h2, h3⟩ := Option.map_eq_some_iff.1 h
      cases h3; exact Keeps.refl _ _
    | _ => cases h
  | nilCheck x =>
    obtain ⟨z, h1, h⟩ := Option.bind_eq_some_iff.1 h
    split at h <;> cases h
    exact Keeps.refl _ _
  | makeInterface t x =>
    obtain ⟨z, h1, h⟩ := Option.bind_eq_some_iff.1 h
    split at h <;> cases h
    exact Keeps.refl _ _
  | build t ps => obtain ⟨z, h1, h⟩ := Option.bind_eq_some_iff.1 h; exact map_keeps h
  | load t x => obtain ⟨z, h1, h⟩ := Option.bind_eq_some_iff.1 h; exact map_keeps h
  | binOp op t x z t2 => obtain ⟨z, h1, h⟩ := Option.bind_eq_some_iff.1 h; obtain ⟨z, h1, h⟩ := Option.bind_eq_some_iff.1 h; exact map_keeps h
  | unOp op t x => obtain ⟨z, h1, h⟩ := Option.bind_eq_some_iff.1 h; exact map_keeps h
  | slice t x lo hi mx' =>
    cases mx' with
    | some q => cases h
    | none => obtain ⟨z, h1, h⟩ := Option.bind_eq_some_iff.1 h; obtain ⟨z, h1, h⟩ := Option.bind_eq_some_iff.1 h; obtain ⟨z, h1, h⟩ := Option.bind_eq_some_iff.1 h; exact map_keeps h
  | fieldAddr t x f => obtain ⟨z, h1, h⟩ := Option.bind_eq_some_iff.1 h; exact map_keeps h
  | field t x f => obtain ⟨z, h1, h⟩ := Option.bind_eq_some_iff.1 h; exact map_keeps h
  | indexAddr t x i => obtain ⟨z, h1, h⟩ := Option.bind_eq_some_iff.1 h; obtain ⟨z, h1, h⟩ := Option.bind_eq_some_iff.1 h; exact map_keeps h
  | index t x i => obtain ⟨z, h1, h⟩ := Option.bind_eq_some_iff.1 h; obtain ⟨z, h1, h⟩ := Option.bind_eq_some_iff.1 h; exact map_keeps h
  | lookup t x i ok => obtain ⟨z, h1, h⟩ := Option.bind_eq_some_iff.1 h; obtain ⟨z, h1, h⟩ := Option.bind_eq_some_iff.1 h; exact map_keeps h
  | extract x i => obtain ⟨z, h1, h⟩ := Option.bind_eq_some_iff.1 h; exact map_keeps h
  | call c =>
    obtain ⟨callee, args, argTypes⟩ := c
    cases callee with
    | value f => cases h
    | invoke r q => cases h
    | builtin b =>
      obtain ⟨xs, h1, h⟩ := Option.bind_eq_some_iff.1 h
      simp only at h h1
      cases b with
      | append =>
        simp only [dBuiltin] at h
        split at h
        · rename_i t tx s x ht
          obtain ⟨u, v, hv, h3, h4⟩ := (evL_list hf h1).two
          refine dAppend_keeps h4 (fun id ver off len sz e => ?_) h
          subst e
          simp only [stOK, h1, Bool.or_eq_true, decide_eq_true_eq] at hok
          exact hok
        · cases h
      | len =>
        simp only [dBuiltin] at h
        split at h
        · exact map_keeps h
        · cases h
      | max => exact map_keeps h
      | min => exact map_keeps h
      | copy =>
        simp only [dBuiltin] at h
        split at h
        · exact dCopy_keeps h
        · cases h
      | unsafeSliceData =>
        simp only [dBuiltin] at h
        split at h
        · exact map_keeps h
        · cases h
      | unsafeString =>
        simp only [dBuiltin] at h
        split at h
        · exact dUnsS_keeps h
        · cases h
      | _ => cases h
  | _ => cases h

end Go.SL

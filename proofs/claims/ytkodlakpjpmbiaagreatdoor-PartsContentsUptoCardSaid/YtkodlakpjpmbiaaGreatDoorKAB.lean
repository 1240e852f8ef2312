/- The operations on abstract values, and that the model's do the same: what is built, and appended. -/
import Derived.Test.YtkodlakpjpmbiaaGreatDoorKAA
import Derived.Laws.StructEq
import Derived.Laws.Unary
import Derived.Lib.UnsafeStr

set_option linter.all false

namespace Go.SL
variable [BaseC]

/-- Cells, one by one. -/
def CellsR (g : Gh) (cs : List CV) (c : Array Value) : Prop := cs.length = c.size ∧ ∀ i (hi : i < cs.length), ∃ v, c[i]? = some v ∧ v.oneCell' = true ∧ VR g cs[i] v

theorem CellsR.mono {g g2 : Gh} {cs : List CV} {c : Array Value} (him : ∀ b o v, g.im b o = some v → g2.im b o = some v)
    (hl : ∀ (id : Nat) (l : Loc), g.locs[id]? = some l → ∃ l2, g2.locs[id]? = some l2 ∧ (l.ver < l2.ver ∨ l2 = l)) (hown : ∀ b, g.own b → g2.own b) (h : CellsR g cs c) : CellsR g2 cs c :=
  ⟨h.1, fun i hi => let ⟨v, a, b, d⟩ := h.2 i hi; ⟨v, a, b, d.mono him hl hown⟩⟩

theorem CellsR.one {g : Gh} {cs : List CV} {c : Array Value} (h : CellsR g cs c) : ∀ v ∈ c, v.oneCell' = true := by
  intro v hv
  obtain ⟨i, hi, rfl⟩ := Array.getElem_of_mem hv
  obtain ⟨u, h1, h2, _⟩ := h.2 i (by rw [h.1]; exact hi)
  rw [Array.getElem?_eq_getElem hi] at h1
  cases h1; exact h2

theorem CellsR.agg {g : Gh} {cs : List CV} {c : Array Value} (h : CellsR g cs c) : VR g (.agg cs) (.agg c) :=
  .agg h.1 fun i hi hi' => by
    obtain ⟨v, h1, _, h3⟩ := h.2 i hi
    rw [Array.getElem?_eq_getElem hi'] at h1
    cases h1; exact h3

theorem foldl_ovl (off : Nat) : ∀ (l : List Value) (k : Nat) (c : Array Value), off + k + l.length ≤ c.size → (l.zipIdx k).foldl (fun cs (x : Value × Nat) => cs.setIfInBounds (off + x.2) x.1) c = ovl c (off + k) l
  | [], k, c, _ => by simp [ovl_nil]
  | v :: l, k, c, h => by
    simp only [List.length_cons] at h
    simp only [List.zipIdx_cons, List.foldl_cons]
    rw [foldl_ovl off l (k + 1) _ (by simp; omega), show off + (k + 1) = off + k + 1 by omega, ovl_cons c (off + k) v l (by omega)]

theorem foldl_zip (off : Nat) (vs c : Array Value) (h : off + vs.size ≤ c.size) : vs.zipIdx.foldl (fun cs (x : Value × Nat) => cs.setIfInBounds (off + x.2) x.1) c = ovl c off vs.toList := by
  rw [← Array.foldl_toList, Array.toList_zipIdx]
  have := foldl_ovl off vs.toList 0 c (by simpa using h)
  simpa using this

/-- Parts laid into cells. -/
def fillC (place : Nat → Option (Nat × Nat)) (cells : List CV) : List (Nat × CV) → Option (List CV)
  | [] => some cells
  | (i, x) :: rest => (place i).bind fun p => (cvCells x).bind fun xs =>
      if xs.length = p.2 ∧ p.1 + xs.length ≤ cells.length then fillC place (cells.take p.1 ++ xs ++ cells.drop (p.1 + xs.length)) rest else none

theorem CellsR.ovl {g : Gh} {cs xs : List CV} {c : Array Value} {off : Nat} {vs : List Value} (h : CellsR g cs c) (hl : xs.length = vs.length) (hb : off + xs.length ≤ cs.length)
    (hx : ∀ i (hi : i < xs.length) (hi' : i < vs.length), VR g xs[i] vs[i] ∧ vs[i].oneCell' = true) : CellsR g (cs.take off ++ xs ++ cs.drop (off + xs.length)) (ovl c off vs) := by
  have hsz : off + vs.length ≤ c.size := by rw [← h.1]; omega
  refine ⟨by rw [ovl_size _ _ _ hsz]; simp; rw [← h.1]; omega, fun i hi => ?_⟩
  have hi2 : i < cs.length := by simp at hi; omega
  rw [ovl_get _ _ _ hsz]
  by_cases hin : off ≤ i ∧ i < off + xs.length
  · rw [if_pos (by omega), List.getElem?_eq_getElem (by omega)]
    refine ⟨_, rfl, (hx (i - off) (by omega) (by omega)).2, ?_⟩
    have : (cs.take off ++ xs ++ cs.drop (off + xs.length))[i] = xs[i - off]'(by omega) := by
      rw [List.getElem_append_left (by simp; omega), List.getElem_append_right (by simp; omega)]
      congr 1
      simp; omega
    rw [this]; exact (hx (i - off) (by omega) (by omega)).1
  · rw [if_neg (by omega)]
    obtain ⟨v, h1, h2, h3⟩ := h.2 i hi2
    refine ⟨v, h1, h2, ?_⟩
    have : (cs.take off ++ xs ++ cs.drop (off + xs.length))[i] = cs[i] := by
      by_cases hlt : i < off
      · rw [List.getElem_append_left (by simp; omega), List.getElem_append_left (by simp; omega), List.getElem_take]
      · rw [List.getElem_append_right (by simp; omega), List.getElem_drop]
        congr 1
        simp; omega
    rw [this]; exact h3

theorem fillC_run {g : Gh} {place : Nat → Option (Nat × Nat)} : ∀ (ps : List (Nat × CV)) (vs : List (Nat × Value)) (cells out : List CV) (c : Array Value), ps.length = vs.length →
    (∀ i (hi : i < ps.length) (hi' : i < vs.length), ps[i].1 = vs[i].1 ∧ VR g ps[i].2 vs[i].2) → CellsR g cells c → fillC place cells ps = some out →
    ∃ c', Instr.fill place c vs = some c' ∧ CellsR g out c'
  | [], [], cells, out, c, _, _, hc, h => by simp [fillC] at h; subst h; exact ⟨c, rfl, hc⟩
  | (i, x) :: ps, (j, v) :: vs, cells, out, c, hl, hh, hc, h => by
    have h0 := hh 0 (by simp) (by simp)
    simp only [List.getElem_cons_zero] at h0
    obtain ⟨rfl, hx⟩ := h0
    unfold fillC at h
    obtain ⟨⟨off, size⟩, hp, h⟩ := Option.bind_eq_some_iff.1 h
    obtain ⟨xs, hxs, h⟩ := Option.bind_eq_some_iff.1 h
    split at h
    · rename_i hle
      simp only at hle
      obtain ⟨h1, h2⟩ := hx.cells hxs
      have hc2 := hc.ovl h1 hle.2 h2
      have hvs : v.cells.toList.length = v.cells.size := by simp
      obtain ⟨c', h3, h4⟩ := fillC_run ps vs _ out _ (by simpa using hl) (fun k hk hk' => by
        have := hh (k + 1) (by simpa using hk) (by simpa using hk'); simpa using this) hc2 h
      refine ⟨c', ?_, h4⟩
      unfold Instr.fill
      rw [hp]
      simp only []
      have hfit : off + v.cells.size ≤ c.size := by rw [← hc.1, ← hvs, ← h1]; exact hle.2
      have hg : (decide (v.cells.size ≠ size) || decide (off + v.cells.size > c.size)) = false := by
        simp only [Bool.or_eq_false_iff, decide_eq_false_iff_not]
        exact ⟨by rw [← hvs, ← h1]; simpa using hle.1, by omega⟩
      rw [if_neg (by simp only [hg]; simp)]
      rw [foldl_zip off v.cells c hfit]
      exact h3
    · cases h

theorem zeroL_cells {P : Program} {t : TypeId} {zs : List CV} (h : zeroL P t = some zs) (w : World) (g : Gh) : ∃ z, (zeroValue t).run P w = .ok z w ∧ CellsR g zs z.cells := by
  obtain ⟨z, h1, h2, h3⟩ := zeroL_run h w
  exact ⟨z, h1, h2, h3 g⟩

theorem run_mapM_list {α β : Type} {P : Program} {w : World} {f : α → Sem β} {q : α → β} : ∀ (l : List α), (∀ x ∈ l, (f x).run P w = .ok (q x) w) → (l.mapM f).run P w = .ok (l.map q) w
  | [], _ => rfl
  | x :: l, h => by
    simp only [List.mapM_cons, Sem.run_bind, h x List.mem_cons_self, Result.andThen_ok, run_mapM_list l (fun y hy => h y (List.mem_cons_of_mem _ hy)), Sem.run_pure, List.map_cons]

/-- Where the fields of a struct lie. -/
def places (P : Program) (fs : Array Field) : Option (Array (Nat × Nat)) :=
  if fs.toList.all (fun f => (P.info? f.type).isSome) then some (fs.map fun f => (f.offset, P.cellsOf f.type)) else none

theorem places_run {P : Program} {fs : Array Field} {ps : Array (Nat × Nat)} (h : places P fs = some ps) (w : World) :
    (fs.mapM fun f => do pure (f.offset, ← sizeOf f.type) : Sem (Array (Nat × Nat))).run P w = .ok ps w := by
  unfold places at h
  split at h
  · rename_i hall
    cases h
    have : ∀ q : Field → Sem (Nat × Nat), fs.mapM q = List.toArray <$> fs.toList.mapM q := fun q => by
      rw [← List.mapM_toArray]
    rw [this, Sem.run_map, run_mapM_list (q := fun f => (f.offset, P.cellsOf f.type)) fs.toList]
    · show Result.ok _ w = Result.ok _ w
      congr 1
      apply Array.ext'
      simp
    · intro f hf
      obtain ⟨i, hi⟩ := Option.isSome_iff_exists.1 (List.all_eq_true.1 hall f hf)
      simp only [Sem.run_bind, run_sizeOf hi, Result.andThen_ok, Sem.run_pure, Program.cellsOf, hi, Option.map_some, Option.getD_some]
  · cases h

def dBuild (P : Program) (t : TypeId) (ps : List (Nat × CV)) : Option CV :=
  (zeroL P t).bind fun zs =>
  match P.underlying t with
  | some (.struct fs) => (places P fs).bind fun pl => (fillC (pl[·]?) zs ps).map .agg
  | some (.array _ e) => (P.info? e).bind fun i => (fillC (fun k => some (k * i.size, i.size)) zs ps).map .agg
  | _ => none

def PartsR (g : Gh) (ps : List (Nat × CV)) (vs : Array (Nat × Value)) : Prop := ps.length = vs.toList.length ∧ ∀ i (hi : i < ps.length) (hi' : i < vs.toList.length), ps[i].1 = vs.toList[i].1 ∧ VR g ps[i].2 vs.toList[i].2

theorem dBuild_good {P : Program} {g : Gh} {H : Hp} {w : World} (hw : WR g H w) {t : TypeId} {ps : List (Nat × CV)} {vs : Array (Nat × Value)} {y : CV} (hp : PartsR g ps vs) (h : dBuild P t ps = some y) :
    GoodV P g H w ((Instr.build t vs).run P w) y H := by
  unfold dBuild at h
  obtain ⟨zs, hz, h⟩ := Option.bind_eq_some_iff.1 h
  obtain ⟨z, h1, h2⟩ := zeroL_cells hz w g
  split at h
  · rename_i fs hu
    obtain ⟨pl, hpl, h⟩ := Option.bind_eq_some_iff.1 h
    obtain ⟨out, hout, h⟩ := Option.map_eq_some_iff.1 h
    cases h
    obtain ⟨c', h3, h4⟩ := fillC_run ps vs.toList zs out z.cells hp.1 hp.2 h2 hout
    refine .same hw ?_ h4.agg
    simp only [Instr.build, Sem.run_bind, h1, Result.andThen_ok, run_underlying hu]
    rw [places_run hpl w]
    simp only [Result.andThen_ok, h3, Sem.run_pure]
  · rename_i n e hu
    obtain ⟨i, hi, h⟩ := Option.bind_eq_some_iff.1 h
    obtain ⟨out, hout, h⟩ := Option.map_eq_some_iff.1 h
    cases h
    obtain ⟨c', h3, h4⟩ := fillC_run ps vs.toList zs out z.cells hp.1 hp.2 h2 hout
    refine .same hw ?_ h4.agg
    simp only [Instr.build, Sem.run_bind, h1, Result.andThen_ok, run_underlying hu, run_sizeOf hi, h3, Sem.run_pure]
  · cases h

/-- The cells of so many zeros. -/
def zerosC (zs : List CV) (n : Nat) : List CV := (List.range n).map fun i => zs.getD (i % zs.length) (.tup [])

theorem zerosC_cells {g : Gh} {zs : List CV} {z : Value} (h : CellsR g zs z.cells) (n : Nat) (hn : 0 < n → 0 < zs.length) : CellsR g (zerosC zs n) ((Array.range n).map (z.cells[· % z.cells.size]!)) := by
  refine ⟨by simp [zerosC], fun i hi => ?_⟩
  have hi' : i < n := by simpa [zerosC] using hi
  have hpos := hn (by omega)
  have hlt : i % zs.length < zs.length := Nat.mod_lt _ hpos
  obtain ⟨v, h1, h2, h3⟩ := h.2 (i % zs.length) hlt
  refine ⟨v, ?_, h2, ?_⟩
  · rw [Array.getElem?_map, Array.getElem?_range]
    simp only [hi', if_true, Option.map_some]
    rw [← h.1, getElem!_def, h1]
  · simp only [zerosC, List.getElem_map, List.getElem_range, List.getD_eq_getElem?_getD, List.getElem?_eq_getElem hlt, Option.getD_some]
    exact h3

/-- A slice written out: closed, if its elements are; else an object. -/
def dBuildSlice (P : Program) (t : TypeId) (len : Nat) (ps : List (Nat × CV)) (H : Hp) (mu : Bool) : Option (CV × Hp) :=
  match P.underlying t with
  | some (.slice e) => (P.info? e).bind fun i => (zeroL P e).bind fun zs =>
      if len * i.size ≤ 16777216 ∧ zs.length = i.size then
        (fillC (fun k => some (k * i.size, i.size)) (zerosC zs (len * i.size)) ps).map fun out =>
          if out.all clB && !mu then ((if isU8 (P.underlying e) then CV.lit out len i.size else .im out len i.size), H) else (.sl H.length 0 0 len i.size, H ++ [.cells 0 out e])
      else none
  | _ => none

theorem dBuildSlice_good {P : Program} {g : Gh} {H H2 : Hp} {w : World} (hw : WR g H w) {t : TypeId} {len : Nat} {ps : List (Nat × CV)} {vs : Array (Nat × Value)} {y : CV} {mu : Bool} (hp : PartsR g ps vs)
    (h : dBuildSlice P t len ps H mu = some (y, H2)) : GoodV P g H w ((Instr.buildSlice t len vs).run P w) y H2 := by
  unfold dBuildSlice at h
  split at h
  · rename_i e hu
    obtain ⟨i, hi, h⟩ := Option.bind_eq_some_iff.1 h
    obtain ⟨zs, hz, h⟩ := Option.bind_eq_some_iff.1 h
    split at h
    · rename_i hc
      obtain ⟨out, hout, h⟩ := Option.map_eq_some_iff.1 h
      obtain ⟨z, h1, h2⟩ := zeroL_cells hz w g
      have h3 : ∃ c0 : Array Value, CellsR g (zerosC zs (len * i.size)) c0 ∧ (len * i.size = 0 → c0 = #[]) ∧ (len * i.size ≠ 0 → c0 = (Array.range (len * i.size)).map (z.cells[· % z.cells.size]!)) := by
        by_cases h0 : len * i.size = 0
        · refine ⟨#[], ?_, fun _ => rfl, fun h => absurd h0 h⟩
          rw [h0]; exact ⟨rfl, fun i hi => by simp [zerosC] at hi⟩
        · exact ⟨_, zerosC_cells h2 _ (fun hp => by rw [hc.2]; exact Nat.pos_of_ne_zero (fun e => h0 (by rw [e]; simp))), fun h => absurd h h0, fun _ => rfl⟩
      obtain ⟨c0, hc0, hr0, hr1⟩ := h3
      obtain ⟨c', h4, h5⟩ := fillC_run ps vs.toList _ out c0 hp.1 hp.2 hc0 hout
      have hb := h5.1
      have hlen : out.length = len * i.size := by
        have : ∀ (ps : List (Nat × CV)) (cells out : List CV), fillC (fun k => some (k * i.size, i.size)) cells ps = some out → out.length = cells.length := by
          intro ps
          induction ps with
          | nil => intro cells out h; simp [fillC] at h; rw [h]
          | cons p ps ih =>
            intro cells out h
            unfold fillC at h
            obtain ⟨q, hq, h⟩ := Option.bind_eq_some_iff.1 h
            obtain ⟨xs, hxs, h⟩ := Option.bind_eq_some_iff.1 h
            split at h
            · rename_i hle
              rw [ih _ _ h]
              simp; omega
            · cases h
        rw [this ps _ out hout]; simp [zerosC]
      have hval : (Instr.buildSlice t len vs).run P w = .ok (.slice (some ⟨w.heap.size, 0, none⟩) len len) (w.alloc (.cells c' e)) := by
        have hlid : ¬ (len * i.size > 2 ^ 24) := by have := hc.1; omega
        simp only [Instr.buildSlice, Sem.run_bind, run_underlying hu, Result.andThen_ok, run_sizeOf hi, Sem.run_ite, if_neg hlid]
        by_cases h0 : len * i.size = 0
        · have e0 := hr0 h0
          rw [if_pos h0]
          simp only [Sem.run_pure, Result.andThen_ok, h0]
          rw [show (Array.range 0).map (fun x => (#[] : Array Value)[x % (#[] : Array Value).size]!) = c0 by rw [e0]; simp [Array.range_zero'], h4]
          simp [newRow]
        · have e0 := hr1 h0
          rw [if_neg h0]
          simp only [h1, Sem.run_pure, Result.andThen_ok]
          rw [← e0, h4]
          simp [newRow]
      split at h
      · rename_i hall
        cases h
        simp only [Bool.and_eq_true] at hall
        obtain ⟨a1, a2, a3⟩ := hw.close (later_alloc w (.cells c' e)) (heap_alloc_new w _) h5.one
        have him1 : ∀ j, j < out.length → (g.close w.heap.size c').im w.heap.size (0 + j) = some ((c'[j]?).getD undef) := by
          intro j hj
          obtain ⟨v, b1, b2, b3⟩ := h5.2 j hj
          rw [Nat.zero_add]
          have := a3 j v b1
          rw [this]; simp [b1]
        have him2 : ∀ j (hj : j < out.length), VC (g.close w.heap.size c').im out[j] ((c'[j]?).getD undef) := by
          intro j hj
          obtain ⟨v, b1, b2, b3⟩ := h5.2 j hj
          simp only [b1, Option.getD_some]
          exact (b3.closed (List.all_eq_true.1 hall.1 _ (List.getElem_mem hj))).mono a2.im
        refine ⟨_, _, _, hval, ?_, a1, a2⟩
        split
        · exact .lit (.inl rfl) hlen (Nat.le_refl _) him1 him2
        · exact .cl (.im hlen (Nat.le_refl _) (fun _ => rfl) him1 him2)
      · cases h
        obtain ⟨a1, a2⟩ := hw.fresh (later_alloc w (.cells c' e)) (heap_alloc_new w _) (cs := out) (by omega) h5.2 (.inl rfl)
        exact ⟨_, _, _, hval, VR.sl (l := ⟨w.heap.size, 0, 0, c'.size⟩) (g.add_last hw _) rfl (Nat.le_refl _) (fun _ => rfl) (.inl rfl), a1, a2⟩
    · cases h
  · cases h

end Go.SL

/- The operations on abstract values, and that the model's do the same: append. -/
namespace Go.SL
variable [BaseC]
set_option linter.unusedVariables false

def bytesC (s : ByteArray) : List CV := s.data.toList.map fun b => .v (.int .u8 b.toNat)

/-- What is appended. -/
def dSrc (P : Program) (H : Hp) (tx : TypeId) (size : Nat) (x : CV) : Option (List CV × Nat) :=
  match P.underlying tx with
  | some .string => (match x with | .v (.string s) => if size = 1 then some (bytesC s, s.size) else none | _ => none)
  | some (.slice _) => (atS H x).bind fun (cs, n) => if cs.length = n * size then some (cs, n) else none
  | _ => none

theorem dSrc_run {P : Program} {g : Gh} {H : Hp} {w : World} (hw : WR g H w) {tx : TypeId} {size n : Nat} {x : CV} {v : Value} {cs : List CV} (hx : VR g x v) (h : dSrc P H tx size x = some (cs, n)) :
    ∃ news : List Value, Src P size tx v n news w ∧ news.length = cs.length ∧ ∀ i (hi : i < cs.length) (hi' : i < news.length), VR g cs[i] news[i] := by
  unfold dSrc at h
  split at h
  · rename_i hu
    split at h
    · rename_i s
      split at h
      · rename_i hs
        cases h
        subst hs
        obtain ⟨rfl, _⟩ := hx.atom
        refine ⟨byteCells s, Src.ofString w hu s, by simp [byteCells, bytesC], fun i hi hi' => ?_⟩
        simp only [bytesC, byteCells, List.getElem_map]
        exact .cl (.v rfl)
      · cases h
    · cases h
  · rename_i e hu
    obtain ⟨⟨cs', n'⟩, hat, h⟩ := Option.bind_eq_some_iff.1 h
    simp only at h
    split at h
    · rename_i hl
      cases h
      rcases hw.at_sl hx hat with ⟨rfl, rfl, rfl⟩ | ⟨a, b, o, cap, rfl, hcap, ha, hh, hz⟩
      · exact ⟨[], Src.ofNil w hu 0, rfl, fun i hi => absurd hi (by simp)⟩
      · by_cases h0 : 0 < n
        · obtain rfl := ha h0
          obtain ⟨us, h1, h2, h3, h4⟩ := (hh h0).list
          exact ⟨us, Src.ofSlice w hu _ n cap us (by rw [h1]; exact hl) h2 h3, h1, h4⟩
        · have h0 : n = 0 := by omega
          have := hz h0
          subst this
          exact ⟨[], Src.ofSlice w hu _ n cap [] (by rw [h0]; simp) (fun j u hj => by simp at hj) (fun u hu => by simp at hu), rfl, fun i hi => absurd hi (by simp)⟩
    · cases h
  · cases h

def dAppend (P : Program) (t tx : TypeId) (s x : CV) (H : Hp) : Option (CV × Hp) :=
  match P.underlying t with
  | some (.slice e) => (P.info? e).bind fun i => (zeroL P e).bind fun zs => (dSrc P H tx i.size x).bind fun xn =>
      if zs.length = i.size ∧ 0 < i.size then
        match s with
        | .v (.slice none _ _) => if xn.2 = 0 then some (s, H) else
            if xn.2 * i.bytes ≤ 140737488355328 ∧ xn.2 ≤ 9223372036854775807 then some (.sl H.length 0 0 xn.2 i.size, H ++ [.cells 0 xn.1 e]) else none
        | .sl id ver off len sz =>
          match H[id]? with
          | some (.cells v cs e') =>
            if v = ver ∧ sz = i.size ∧ e' = e ∧ off + len * sz ≤ cs.length then
              if xn.2 = 0 then some (s, H) else
              if (len + xn.2) * i.bytes ≤ 140737488355328 ∧ len + xn.2 ≤ 9223372036854775807 then
                some (.sl id (ver + 1) 0 (len + xn.2) sz, H.set id (.cells (ver + 1) ((cs.drop off).take (len * sz) ++ xn.1) e)) else none
            else none
          | _ => none
        | .im cs len sz => if xn.2 = 0 then some (s, H) else none
        | _ => none
      else none
  | _ => none

theorem setCells_putRow {b : Nat} {e : TypeId} {fr : Nat × Nat} : ∀ (vs : List Value) (o : Nat) (c : Array Value) (w : World), w.heap[b]? = some (.cells c e fr) → o + vs.length ≤ c.size → w.setCells b o vs = putRow w b (ovl c o vs)
  | [], o, c, w, h, _ => by simp [World.setCells, ovl_nil, putRow_self h]
  | v :: vs, o, c, w, h, hl => by
    simp only [List.length_cons] at hl
    rw [World.setCells, setCell_putRow h, setCells_putRow vs (o + 1) _ _ (putRow_heap h) (by simp; omega), putRow_putRow h, ovl_cons c o v vs (by omega)]

theorem run_append_none {P : Program} {w : World} {t tx ty e : TypeId} {i : TypeInfo} (ht : P.underlying t = some (.slice e)) (hi : P.info? e = some i) {base : Option Addr} {sLen sCap : Nat} {x : Value} (hs : Src P i.size tx x 0 [] w) (hc : sLen ≤ sCap) :
    (Builtin.append_ #[t, tx] ty #[.slice base sLen sCap, x]).run P w = .ok (.slice base sLen sCap) w := by
  have hl := hs.len
  have hcs := hs.cells
  rcases hs.kind with ⟨e', hk⟩ | hk <;> cases base <;>
    simp [Builtin.append_, run_underlying ht, run_underlying hk, sizeOf, typeInfo, hi, hl, hc, hcs, storeCells]

theorem Gh.move_self {g : Gh} {id : Nat} {l l2 : Loc} (h : g.locs[id]? = some l) : (g.move id l2).locs[id]? = some l2 := by
  simp [Gh.move, (List.getElem?_eq_some_iff.1 h).1]

theorem grown_cells {g : Gh} {cs : List CV} {olds news : List Value} {z : Array Value} {k : Nat} (hl : cs.length = (olds ++ news).length) (h : ∀ i (hi : i < cs.length) (hi' : i < (olds ++ news).length), VR g cs[i] (olds ++ news)[i] ∧ (olds ++ news)[i].oneCell' = true) :
    ∀ i (hi : i < cs.length), ∃ v, ((olds ++ news).toArray ++ Builtin.zeroCells z k)[i]? = some v ∧ v.oneCell' = true ∧ VR g cs[i] v := by
  intro i hi
  have hi' : i < (olds ++ news).length := by omega
  refine ⟨(olds ++ news)[i], ?_, (h i hi hi').2, (h i hi hi').1⟩
  rw [Array.getElem?_append_left (by simpa using hi')]
  simp [List.getElem?_eq_getElem hi']

theorem dAppend_good {P : Program} {g : Gh} {H H2 : Hp} {w : World} (hw : WR g H w) {t tx ty : TypeId} {s x y : CV} {sv xv : Value} (hs : VR g s sv) (hx : VR g x xv) (h : dAppend P t tx s x H = some (y, H2)) :
    GoodV P g H w ((Builtin.append_ #[t, tx] ty #[sv, xv]).run P w) y H2 := by
  unfold dAppend at h
  split at h
  · rename_i e ht
    obtain ⟨i, hi, h⟩ := Option.bind_eq_some_iff.1 h
    obtain ⟨zs, hz, h⟩ := Option.bind_eq_some_iff.1 h
    obtain ⟨⟨xs, n⟩, hxn, h⟩ := Option.bind_eq_some_iff.1 h
    split at h
    · rename_i hzs
      obtain ⟨z0, hz1, hz2⟩ := zeroL_cells hz w g
      obtain ⟨z, hzi, hzc⟩ : ∃ z, i.zero = some z ∧ z.cells.size = i.size := by
        unfold zeroL at hz
        rw [hi] at hz
        simp only [Option.bind_some] at hz
        obtain ⟨z, hz3, hz4⟩ := Option.bind_eq_some_iff.1 hz
        refine ⟨z, hz3, ?_⟩
        have : (zeroValue e).run P w = .ok z w := by simp [zeroValue, typeInfo, hi, hz3]
        rw [this] at hz1; cases hz1
        rw [← hz2.1]; exact hzs.1
      obtain ⟨news, hsrc, hnl, hnv⟩ := dSrc_run hw hx hxn
      have hxl : xs.length = n * i.size := by rw [← hnl]; exact hsrc.newsLen
      have hnil : n = 0 → news = [] := fun e => List.eq_nil_of_length_eq_zero (by rw [hsrc.newsLen, e]; simp)
      have hone : ∀ j (hj : j < news.length), news[j].oneCell' = true := fun j hj => hsrc.one _ (List.getElem_mem hj)
      cases s with
      | v q =>
        cases q with
        | slice a q1 q2 =>
          cases a with
          | some a => cases h
          | none =>
            simp only [] at h
            obtain ⟨rfl, ha⟩ := hs.atom
            simp [atomV] at ha
            obtain ⟨rfl, rfl⟩ := ha
            split at h
            · rename_i h0
              cases h
              have := hnil h0
              subst this; subst h0
              exact .same hw (run_append_none ht hi hsrc (Nat.le_refl _)) hs
            · rename_i h0
              split at h
              · rename_i hb
                cases h
                have hr := run_append_grow_src (P := P) w t tx ty e i z ht hi hzi none 0 0 [] (by simp [Builtin.firstCells]) xv n news hsrc (by omega) (by omega) (growslice_fits (by omega) (by simpa using hb.1))
                have hge := grownCap_ge w (0 + n) 0 e
                obtain ⟨a1, a2⟩ := hw.fresh (later_drew_alloc w (.cells (([] ++ news).toArray ++ Builtin.zeroCells z.cells (grownCap w (0 + n) 0 e - (0 + n))) e)) (heap_alloc_new w.drew _) (cs := xs) (by simp; omega)
                  (grown_cells (by simp [hnl]) (fun j hj hj' => by simp only [List.nil_append] at hj' ⊢; exact ⟨hnv j hj hj', hone j hj'⟩)) (.inl rfl)
                refine ⟨_, _, _, hr, ?_, a1, a2⟩
                rw [Nat.zero_add]
                refine VR.sl (l := ⟨w.heap.size, 0, 0, _⟩) (g.add_last hw _) rfl (by simpa using hge) (fun _ => rfl) (.inr ?_)
                simp only [Nat.zero_add] at hge
                simp only [Nat.zero_add, List.nil_append, Array.size_append, List.size_toArray, size_zeroCells, hzc, hsrc.newsLen, ← Nat.add_mul]
                exact Nat.mul_le_mul_right _ (by omega)
              · cases h
        | _ => cases h
      | sl id ver off len sz =>
        simp only [] at h
        split at h
        · rename_i v cs e' hcell
          split at h
          · rename_i hc
            obtain ⟨rfl, rfl, rfl, hfit⟩ := hc
            have hlive : (cellsAt H id v).isSome = true := by simp [cellsAt, hcell]
            obtain ⟨l, o, cap, hl, hv, hcap, ho, hg, rfl⟩ := hs.sl_live hw hlive
            split at h
            · rename_i h0
              cases h
              have := hnil h0
              subst this
              replace h0 : n = 0 := h0
              subst h0
              exact .same hw (run_append_none ht hi hsrc hcap) hs
            · rename_i h0
              replace h0 : n ≠ 0 := h0
              split at h
              · rename_i hb
                cases h
                obtain ⟨l', hl', hv', c, fr, hcb, hcn, hsl, hcc, hf⟩ := hw.cells hcell
                rw [hl] at hl'; cases hl'
                -- the old cells
                have hold : ∃ olds : List Value, olds.length = len * i.size ∧ (∀ j (hj : j < olds.length) (hj2 : j < ((cs.drop off).take (len * i.size)).length), c[o + j]? = some olds[j] ∧ olds[j].oneCell' = true ∧ VR g ((cs.drop off).take (len * i.size))[j] olds[j]) := by
                  by_cases hlen : 0 < len
                  · have hh : Holds g w l.b o ((cs.drop off).take (len * i.size)) := by
                      intro j hj
                      simp only [List.length_take, List.length_drop] at hj
                      obtain ⟨u, h3, h4, h5⟩ := hcc (off + j) (by omega)
                      refine ⟨u, ?_, h4, ?_⟩
                      · simp only [World.cell?, hcb]; simp; rw [ho hlen, ← h3]; congr 1; omega
                      · rw [List.getElem_take, List.getElem_drop]; exact h5
                    obtain ⟨us, h1, h2, h3, h4⟩ := hh.list
                    have h1' : us.length = len * i.size := by rw [h1]; simp; omega
                    refine ⟨us, h1', fun j hj hj2 => ⟨?_, h3 _ (List.getElem_mem hj), h4 j hj2 hj⟩⟩
                    have := h2 j us[j] (List.getElem?_eq_getElem hj)
                    rw [Addr.add_lit] at this
                    simpa [World.cell?, hcb] using this
                  · have : len = 0 := by omega
                    subst this
                    exact ⟨[], by simp, fun j hj => absurd hj (by simp)⟩
                obtain ⟨olds, hol, hov⟩ := hold
                have hnewcells : ∀ j (hj : j < ((cs.drop off).take (len * i.size) ++ xs).length) (hj' : j < (olds ++ news).length), VR g ((cs.drop off).take (len * i.size) ++ xs)[j] (olds ++ news)[j] ∧ (olds ++ news)[j].oneCell' = true := by
                  intro j hj hj'
                  have e1 : ((cs.drop off).take (len * i.size)).length = len * i.size := by simp; omega
                  by_cases hlt : j < len * i.size
                  · rw [List.getElem_append_left (by omega), List.getElem_append_left (by omega)]
                    exact ⟨(hov j (by omega) (by omega)).2.2, (hov j (by omega) (by omega)).2.1⟩
                  · rw [List.getElem_append_right (by omega), List.getElem_append_right (by omega)]
                    simp only [e1, hol]
                    simp only [List.length_append] at hj hj'
                    exact ⟨hnv _ (by omega) (by omega), hone _ (by omega)⟩
                have hcl : ((cs.drop off).take (len * i.size) ++ xs).length = (len + n) * i.size := by
                  rw [List.length_append, hxl, Nat.add_mul]; simp; omega
                by_cases hroom : len + n ≤ cap
                · -- there is room
                  have hcapn : o + cap * i.size ≤ l.n := by
                    rcases hg with hg | hg
                    · omega
                    · exact hg
                  have hmul : (len + n) * i.size ≤ cap * i.size := Nat.mul_le_mul_right _ hroom
                  rw [Nat.add_mul] at hmul
                  have hend : o + len * i.size + news.length ≤ c.size := by rw [hsrc.newsLen, hcn]; omega
                  have hr := run_append_room_src (P := P) w t tx ty e' i ht hi l.b o len cap xv n news hsrc hroom
                    (fun j hj => by simp [World.cell?, hcb]; omega) (fun j hj => hf _ (by omega))
                  rw [setCells_putRow news _ c w hcb hend] at hr
                  have hsz2 := ovl_size c (o + len * i.size) news hend
                  obtain ⟨a1, a2⟩ := hw.relay (w2 := putRow w l.b (ovl c (o + len * i.size) news)) (l2 := ⟨l.b, o, v + 1, l.n⟩) (o2 := .cells (v + 1) ((cs.drop off).take (len * i.size) ++ xs) e') hcell rfl hl (by simp; omega) (.inl rfl) rfl rfl rfl (by simp)
                    (fun b hb hne => putRow_other hne)
                    ⟨rfl, _, fr, putRow_heap hcb, by rw [hsz2]; exact hcn, by rw [hsz2, hcl, Nat.add_mul]; simp only; rw [hsrc.newsLen] at hend; omega, fun j hj => by
                      have hj' : j < (olds ++ news).length := by rw [List.length_append, hol, hsrc.newsLen, ← Nat.add_mul]; omega
                      obtain ⟨b1, b2⟩ := hnewcells j hj hj'
                      refine ⟨(olds ++ news)[j], ?_, b2, VR.mono (g := g) (g2 := g.move id ⟨l.b, o, v + 1, l.n⟩) (fun _ _ _ x => x) (locs_set g hl (show l.ver < v + 1 by omega)) (fun _ h => h) b1⟩
                      simp only
                      rw [ovl_get _ _ _ hend]
                      by_cases hlt : j < len * i.size
                      · rw [if_neg (by omega), List.getElem_append_left (by omega)]
                        exact (hov j (by omega) (by simp; omega)).1
                      · rw [if_pos (by rw [hsrc.newsLen]; rw [hcl, Nat.add_mul] at hj; omega), List.getElem_append_right (by omega)]
                        rw [List.getElem?_eq_getElem (by rw [hsrc.newsLen]; rw [hcl, Nat.add_mul] at hj; omega)]
                        congr 2
                        omega, fun q hq => by rw [putRow_frozen hcb]; exact hf q (by rw [hsz2] at hq; exact hq)⟩
                  refine ⟨_, _, _, hr, ?_, a1, a2⟩
                  exact VR.sl (l := ⟨l.b, o, v + 1, l.n⟩) (Gh.move_self hl) rfl hroom (fun _ => rfl) (.inr hcapn)
                · -- there is none
                  have hfirst : (Builtin.firstCells i.size len (.slice (some ⟨l.b, o, none⟩) len cap)).run P w.drew = .ok olds.toArray w.drew := by
                    refine run_firstCells_some w.drew i.size len ⟨l.b, o, none⟩ len cap olds hol (fun j u hj => ?_)
                    have hj2 := (List.getElem?_eq_some_iff.1 hj).1
                    rw [Addr.add_lit]
                    rw [List.getElem?_eq_getElem hj2] at hj; cases hj
                    rw [World.cell?_drew]
                    simpa [World.cell?, hcb] using (hov j hj2 (by simp; omega)).1
                  have hr := run_append_grow_src (P := P) w t tx ty e' i z ht hi hzi (some ⟨l.b, o, none⟩) len cap olds hfirst xv n news hsrc (by omega) (by omega) (growslice_fits (by omega) hb.1)
                  have hge := grownCap_ge w (len + n) cap e'
                  have hgrown := grown_cells (g := g) (z := z.cells) (k := grownCap w (len + n) cap e' - (len + n)) (by rw [hcl, List.length_append, hol, hsrc.newsLen, ← Nat.add_mul]) hnewcells
                  have hcsz : ((olds ++ news).toArray ++ Builtin.zeroCells z.cells (grownCap w (len + n) cap e' - (len + n))).size = grownCap w (len + n) cap e' * i.size := by
                    simp only [Array.size_append, List.size_toArray, List.length_append, size_zeroCells, hzc, hol, hsrc.newsLen, ← Nat.add_mul]
                    congr 1; omega
                  obtain ⟨a1, a2⟩ := hw.relay (w2 := w.drew.alloc (.cells ((olds ++ news).toArray ++ Builtin.zeroCells z.cells (grownCap w (len + n) cap e' - (len + n))) e'))
                    (l2 := ⟨w.heap.size, 0, v + 1, ((olds ++ news).toArray ++ Builtin.zeroCells z.cells (grownCap w (len + n) cap e' - (len + n))).size⟩)
                    (o2 := .cells (v + 1) ((cs.drop off).take (len * i.size) ++ xs) e') hcell rfl hl (by simp; omega) (.inr (Nat.le_refl _)) rfl rfl rfl (by simp) (fun b hb _ => heap_alloc_lt w.drew _ b hb)
                    ⟨rfl, _, (0, 0), heap_alloc_new w.drew _, rfl, by
                      simp only [Nat.zero_add]; rw [hcsz, hcl]; exact Nat.mul_le_mul_right _ hge, fun j hj => by
                      obtain ⟨u, b1, b2, b3⟩ := hgrown j hj
                      exact ⟨u, by simpa using b1, b2, VR.mono (g := g) (g2 := g.move id ⟨w.heap.size, 0, v + 1, _⟩) (fun _ _ _ x => x) (locs_set g hl (show l.ver < v + 1 by omega)) (fun _ h => h) b3⟩, fun q hq => by
                      apply World.frozen?_alloc_new⟩
                  refine ⟨_, _, _, hr, ?_, a1, a2⟩
                  refine VR.sl (l := ⟨w.heap.size, 0, v + 1, _⟩) (Gh.move_self hl) rfl hge (fun _ => rfl) (.inr ?_)
                  simp only [Nat.zero_add]
                  rw [hcsz]
                  exact Nat.le_refl _
              · cases h
          · cases h
        · cases h
      | im cs len sz =>
        simp only [] at h
        split at h
        · rename_i h0
          cases h
          have := hnil h0
          subst this
          replace h0 : n = 0 := h0
          subst h0
          obtain ⟨a, b, o, cap, f, hl, hcap, rfl, ha, hf, hhf⟩ := hs.im_inv
          exact .same hw (run_append_none ht hi hsrc hcap) hs
        · cases h
      | _ => cases h
    · cases h
  · cases h

end Go.SL

/- The operations on abstract values, and that the model's do the same: comparisons, bytes of a text, maps. -/
namespace Go.SL
variable [BaseC]
set_option linter.unusedVariables false

/-- Are values of one kind equal? -/
def eqA (d : Option TypeDesc) (a b : Value) : Option Bool :=
  match d, a, b with
  | some .string, .string a, .string b => some (a.toList == b.toList)
  | some (.int _), .int k a, .int k' b => if k = k' then some (a == b) else none
  | some .bool, .bool a, .bool b => some (a == b)
  | _, _, _ => none

theorem eqA_run {P : Program} {w : World} {t : TypeId} {a b : Value} {r : Bool} (h : eqA (P.underlying t) a b = some r) (d : Nat) : (Op.equalIn (d + 1) t a b).run P w = .ok r w := by
  unfold eqA at h
  split at h
  · rename_i hu; cases h; exact run_equalIn_string w d t _ _ hu
  · rename_i k0 k a k' b hu
    split at h
    · rename_i hk; cases h; subst hk; exact run_equalIn_int w d t k _ a b hu
    · cases h
  · rename_i hu; cases h; exact run_equalIn_bool' w d t _ _ hu
  · cases h

/-- Are structs equal, field by field? -/
def eqF (P : Program) (cs ds : List CV) : List Field → Option Bool
  | [] => some true
  | f :: fs =>
    if f.name ≠ "_" then
      match (P.underlying f.type).map aggB, cs[f.offset]?, ds[f.offset]? with
      | some false, some (.v a), some (.v b) => (eqA (P.underlying f.type) a b).bind fun r => (eqF P cs ds fs).map (r && ·)
      | _, _, _ => none
    else eqF P cs ds fs

theorem eqF_run {P : Program} {w : World} {g : Gh} {cs ds : List CV} {xs ys : Array Value} (h1 : cs.length = xs.size) (h2 : ∀ i (hi : i < cs.length) (hi' : i < xs.size), VR g cs[i] xs[i])
    (h3 : ds.length = ys.size) (h4 : ∀ i (hi : i < ds.length) (hi' : i < ys.size), VR g ds[i] ys[i]) (d : Nat) : ∀ (fs : List Field) (r : Bool), eqF P cs ds fs = some r → (Op.eqFields (d + 1) xs ys fs).run P w = .ok r w
  | [], r, h => by simp only [eqF, Option.some.injEq] at h; subst h; rfl
  | f :: fs, r, h => by
    unfold eqF at h
    unfold Op.eqFields
    by_cases hf : f.name ≠ "_"
    · rw [if_pos hf] at h ⊢
      split at h
      · rename_i a b hagg hc hd
        obtain ⟨r1, hr1, h⟩ := Option.bind_eq_some_iff.1 h
        obtain ⟨r2, hr2, h⟩ := Option.map_eq_some_iff.1 h
        obtain ⟨u, hu, hu2⟩ := Option.map_eq_some_iff.1 hagg
        have part_at : ∀ (cs : List CV) (xs : Array Value) (a : Value), cs.length = xs.size → (∀ i (hi : i < cs.length) (hi' : i < xs.size), VR g cs[i] xs[i]) → cs[f.offset]? = some (.v a) → (part f.type xs f.offset).run P w = .ok a w := by
          intro cs xs a q1 q2 q3
          obtain ⟨q4, q5⟩ := List.getElem?_eq_some_iff.1 q3
          have := q2 f.offset q4 (by omega)
          rw [q5] at this
          obtain ⟨q6, _⟩ := this.atom
          simp only [part, Sem.run_bind, run_isAgg hu, Result.andThen_ok, Sem.run_ite, hu2, Bool.false_eq_true, if_false]
          rw [Array.getElem?_eq_getElem (by omega), q6]
          rfl
        simp only [Sem.run_bind, part_at cs xs a h1 h2 hc, part_at ds ys b h3 h4 hd, Result.andThen_ok, eqA_run hr1 d, Sem.run_ite]
        cases r1
        · simp at h; subst h; simp
        · simp at h; subst h; simp [eqF_run h1 h2 h3 h4 d fs r2 hr2]
      · cases h
    · rw [if_neg hf] at h ⊢
      exact eqF_run h1 h2 h3 h4 d fs r h

/-- Is a reference nil? (The other side is nil.) -/
def nilR (P : Program) (t : TypeId) (x y : CV) (H : Hp) : Option Bool :=
  match P.underlying t with
  | some (.slice _) =>
    match y with
    | .v (.slice none _ _) =>
      match x with
      | .v (.slice none _ _) => some true
      | .im .. => some false
      | .sl id ver .. => if (cellsAt H id ver).isSome then some false else none
      | _ => none
    | _ => none
  | some (.pointer e) =>
    match y with
    | .v (.pointer none) =>
      match x with
      | .v (.pointer none) => some true
      | .ip _ => some false
      | .ptr id ver off => if (atP H (.ptr id ver off)).isSome then some false else none
      | _ => none
    | .ptr id ver off =>
      match x with
      | .ptr id' ver' off' => if id' = id ∧ ver' = ver ∧ off' = off ∧ (atP H (.ptr id ver off)).isSome = true ∧ (P.info? e).isSome = true then some true else none
      | _ => none
    | _ => none
  | some (.interface _) =>
    match y with
    | .v .nilIface =>
      match x with
      | .ifc .. => some false
      | _ => none
    | _ => none
  | _ => none

def dBin (P : Program) (op : BinOp) (t : TypeId) (x y : CV) (H : Hp) : Option CV :=
  match x, y with
  | .agg cs, .agg ds =>
    match P.underlying t with
    | some (.struct fs) => if P.stoodInHeld t || P.eqGuardType P.depth t then none else
        match op with
        | .eql => (eqF P cs ds fs.toList).map fun r => .v (.bool r)
        | .neq => (eqF P cs ds fs.toList).map fun r => .v (.bool !r)
        | _ => none
    | _ => none
  | x, y =>
    match x, y with
    | .v (.bool a), .v (.bool b) =>
      match P.underlying t, op with
      | some .bool, .eql => some (.v (.bool (a == b)))
      | some .bool, .neq => some (.v (.bool !(a == b)))
      | _, _ => none
    | .v (.int k a), .v (.int k' b) => (binA op (.int k a) (.int k' b)).map .v
    | .v (.string a), .v (.string b) => (binA op (.string a) (.string b)).map .v
    | x, y =>
      match op with
      | .eql => (nilR P t x y H).map fun b => .v (.bool b)
      | .neq => (nilR P t x y H).map fun b => .v (.bool !b)
      | _ => none

theorem run_eq_of {P : Program} {w : World} {t : TypeId} {a b : Value} {r : Bool} (hab : ∀ x y, a ≠ .int x y) (hs : ∀ s, a ≠ .string s) (hf : ∀ k x, a ≠ .float k x) (hc : ∀ k x y, a ≠ .complex k x y)
    (h : (Op.equalIn (9999 + 1) t a b).run P w = .ok r w) : (binOp .eql t a b).run P w = .ok (.bool r) w ∧ (binOp .neq t a b).run P w = .ok (.bool !r) w := by
  constructor <;> (
    cases a <;> first
      | exact absurd rfl (hab _ _)
      | exact absurd rfl (hs _)
      | exact absurd rfl (hf _ _)
      | exact absurd rfl (hc _ _ _)
      | (simp only [binOp, Op.equal, Op.maxDepth, Sem.run_bind]; rw [show (10000 : Nat) = 9999 + 1 from rfl, h]; rfl))

theorem run_eqIn_slice {P : Program} {w : World} {t e : TypeId} {a : Option Addr} {n c n' c' : Nat} (d : Nat) (h : P.underlying t = some (.slice e)) : (Op.equalIn (d + 1) t (.slice a n c) (.slice none n' c')).run P w = .ok a.isNone w := by
  cases a <;> simp [Op.equalIn, run_underlying h]
theorem run_eqIn_ptr {P : Program} {w : World} {t e : TypeId} {a : Option Addr} (d : Nat) (h : P.underlying t = some (.pointer e)) : (Op.equalIn (d + 1) t (.pointer a) (.pointer none)).run P w = .ok a.isNone w := by
  cases a <;> simp [Op.equalIn, run_underlying h]
theorem run_eqIn_same {P : Program} {w : World} {t e : TypeId} {i : TypeInfo} {a : Addr} (d : Nat) (h : P.underlying t = some (.pointer e)) (hi : P.info? e = some i) : (Op.equalIn (d + 1) t (.pointer (some a)) (.pointer (some a))).run P w = .ok true w := by
  simp [Op.equalIn, run_underlying h, sizeOf, typeInfo, hi, sameAddr]
theorem WR.ptr_same {g : Gh} {H : Hp} {w : World} (hw : WR g H w) {id ver off : Nat} {u v : Value} {cs : List CV} (hx : VR g (.ptr id ver off) u) (hy : VR g (.ptr id ver off) v) (hc : atP H (.ptr id ver off) = some cs) :
    ∃ a, u = .pointer (some a) ∧ v = .pointer (some a) := by
  unfold atP at hc
  obtain ⟨cs0, h0, h1⟩ := Option.bind_eq_some_iff.1 hc
  obtain ⟨e, he⟩ := cellsAt_some h0
  obtain ⟨l, hl, hv, _⟩ := hw.cells he
  have key : ∀ {u : Value}, VR g (.ptr id ver off) u → u = .pointer (some ⟨l.b, l.s + off, none⟩) := by
    intro u hx
    cases hx with
    | cl hx => cases hx
    | ptr h2 hv2 => rw [hl] at h2; cases h2; rfl
    | sptr h2 hv2 => rw [hl] at h2; cases h2; omega
  exact ⟨_, key hx, key hy⟩
theorem run_eqIn_ifc {P : Program} {w : World} {t : TypeId} {ms : Array (String × TypeId)} {q : TypeId} {v : Value} (d : Nat) (h : P.underlying t = some (.interface ms)) : (Op.equalIn (d + 1) t (.iface q v) .nilIface).run P w = .ok false w := by
  simp [Op.equalIn, run_underlying h]

/-- The whole of the operation: the guard, and the operator. -/
def binRun (op : BinOp) (t : TypeId) (x y : Operand) (u v : Value) : Sem Value := do eqGuard op t x y u v; binOp op t u v

theorem dBin_good {P : Program} {g : Gh} {H : Hp} {w : World} (hw : WR g H w) {op : BinOp} {t : TypeId} {ox oy : Operand} {x y z : CV} {u v : Value} (hx : VR g x u) (hy : VR g y v) (h : dBin P op t x y H = some z) :
    GoodV P g H w ((binRun op t ox oy u v).run P w) z H := by
  unfold dBin at h
  split at h
  · rename_i cs ds
    obtain ⟨xs, rfl, h1, h2⟩ := hx.agg_inv
    obtain ⟨ys, rfl, h3, h4⟩ := hy.agg_inv
    split at h
    · rename_i fs hu
      split at h
      · cases h
      · rename_i hg
        simp only [Bool.or_eq_true, not_or, Bool.not_eq_true] at hg
        have hfo : P.fieldsOf t = fs := by simp [Program.fieldsOf, hu]
        have hrun : ∀ r, eqF P cs ds fs.toList = some r → (Op.equalIn 10000 t (.agg xs) (.agg ys)).run P w = .ok r w := by
          intro r hr
          rw [run_equalIn_struct w 9999 t xs ys (by rw [hfo]; exact hu) hg.1, hfo]
          exact eqF_run h1 h2 h3 h4 9998 fs.toList r hr
        split at h
        · obtain ⟨r, hr, h⟩ := Option.map_eq_some_iff.1 h
          cases h
          refine .same hw ?_ (.cl (.v rfl))
          simp only [binRun, Sem.run_bind, run_eqGuard_agg w .eql t ox oy xs ys hg.2, Result.andThen_ok, run_eql_struct, hrun r hr]
        · obtain ⟨r, hr, h⟩ := Option.map_eq_some_iff.1 h
          cases h
          refine .same hw ?_ (.cl (.v rfl))
          simp only [binRun, Sem.run_bind, run_eqGuard_agg w .neq t ox oy xs ys hg.2, Result.andThen_ok, run_neq_struct, hrun r hr]
        · cases h
    · cases h
  · split at h
    · rename_i a b _
      obtain ⟨rfl, _⟩ := hx.atom
      obtain ⟨rfl, _⟩ := hy.atom
      split at h
      · rename_i hu; cases h
        exact .same hw (by simp only [binRun, eqGuard_at_bool, Sem.run_bind, Sem.run_pure, Result.andThen_ok, run_eql_bool w t a b hu]) (.cl (.v rfl))
      · rename_i hu; cases h
        exact .same hw (by simp only [binRun, eqGuard_at_bool, Sem.run_bind, Sem.run_pure, Result.andThen_ok, run_neq_bool w t a b hu]) (.cl (.v rfl))
      · cases h
    · rename_i k a k' b _
      obtain ⟨rfl, _⟩ := hx.atom
      obtain ⟨rfl, _⟩ := hy.atom
      obtain ⟨r, hr, h⟩ := Option.map_eq_some_iff.1 h
      cases h
      obtain ⟨h1, h2⟩ := binA_run (P := P) (w := w) (t := t) hr
      exact .same hw (by simp only [binRun, eqGuard_at_int, Sem.run_bind, Sem.run_pure, Result.andThen_ok, h1]) (.cl (.v h2))
    · rename_i a b _
      obtain ⟨rfl, _⟩ := hx.atom
      obtain ⟨rfl, _⟩ := hy.atom
      obtain ⟨r, hr, h⟩ := Option.map_eq_some_iff.1 h
      cases h
      obtain ⟨h1, h2⟩ := binA_run (P := P) (w := w) (t := t) hr
      exact .same hw (by simp only [binRun, eqGuard_at_string, Sem.run_bind, Sem.run_pure, Result.andThen_ok, h1]) (.cl (.v h2))
    · have key : ∀ r, nilR P t x y H = some r → (binRun .eql t ox oy u v).run P w = .ok (.bool r) w ∧ (binRun .neq t ox oy u v).run P w = .ok (.bool !r) w := by
        intro r hr
        have slice : ∀ (a : Option Addr) (n c : Nat) (e : TypeId), P.underlying t = some (.slice e) → u = .slice a n c → v = .slice none 0 0 → (binRun .eql t ox oy u v).run P w = .ok (.bool a.isNone) w ∧ (binRun .neq t ox oy u v).run P w = .ok (.bool !a.isNone) w := by
          rintro a n c e hu rfl rfl
          have := run_eq_of (w := w) (by simp) (by simp) (by simp) (by simp) (run_eqIn_slice (w := w) (a := a) (n := n) (c := c) (n' := 0) (c' := 0) 9999 hu)
          simp only [binRun, eqGuard_at_slice, Sem.run_bind, Sem.run_pure, Result.andThen_ok]
          exact this
        have ptr : ∀ (a : Option Addr) (e : TypeId), P.underlying t = some (.pointer e) → u = .pointer a → v = .pointer none → (binRun .eql t ox oy u v).run P w = .ok (.bool a.isNone) w ∧ (binRun .neq t ox oy u v).run P w = .ok (.bool !a.isNone) w := by
          rintro a e hu rfl rfl
          have := run_eq_of (w := w) (by simp) (by simp) (by simp) (by simp) (run_eqIn_ptr (w := w) (a := a) 9999 hu)
          simp only [binRun, eqGuard_at_pointer, Sem.run_bind, Sem.run_pure, Result.andThen_ok]
          exact this
        unfold nilR at hr
        split at hr
        · rename_i e hu
          cases y with
          | v q =>
            cases q with
            | slice a n c =>
              cases a with
              | some a => cases hr
              | none =>
                obtain ⟨rfl, hv⟩ := hy.atom
                simp [atomV] at hv
                obtain ⟨rfl, rfl⟩ := hv
                cases x with
                | v q =>
                  cases q with
                  | slice a n c =>
                    cases a with
                    | some a => cases hr
                    | none =>
                      cases hr
                      obtain ⟨rfl, _⟩ := hx.atom
                      exact slice none n c e hu rfl rfl
                  | _ => cases hr
                | im cs len sz =>
                  cases hr
                  obtain ⟨a, b, o, cap, f, hl, hcap, rfl, ha, hf, hhf⟩ := hx.im_inv
                  exact slice _ _ _ e hu rfl rfl
                | sl id ver off len sz =>
                  simp only [] at hr
                  split at hr
                  · rename_i hl
                    cases hr
                    obtain ⟨l, o, cap, hl, hv, hcap, ho, hg, rfl⟩ := hx.sl_live hw hl
                    exact slice _ _ _ e hu rfl rfl
                  · cases hr
                | _ => cases hr
            | _ => cases hr
          | _ => cases hr
        · rename_i e hu
          cases y with
          | v q =>
            cases q with
            | pointer a =>
              cases a with
              | some a => cases hr
              | none =>
                obtain ⟨rfl, hv⟩ := hy.atom
                cases x with
                | v q =>
                  cases q with
                  | pointer a =>
                    cases a with
                    | some a => cases hr
                    | none =>
                      cases hr
                      obtain ⟨rfl, _⟩ := hx.atom
                      exact ptr none e hu rfl rfl
                  | _ => cases hr
                | ip cs =>
                  cases hr
                  obtain ⟨b, o, rfl, _⟩ := hw.at_ptr hx (cs := cs) rfl
                  exact ptr _ e hu rfl rfl
                | ptr id ver off =>
                  simp only [] at hr
                  split at hr
                  · rename_i hl
                    cases hr
                    obtain ⟨rest, hrest⟩ := Option.isSome_iff_exists.1 hl
                    obtain ⟨b, o, rfl, _⟩ := hw.at_ptr hx hrest
                    exact ptr _ e hu rfl rfl
                  · cases hr
                | _ => cases hr
            | _ => cases hr
          | ptr id ver off =>
            cases x with
            | ptr id' ver' off' =>
              simp only [] at hr
              split at hr
              · rename_i hc
                obtain ⟨rfl, rfl, rfl, hl, hi⟩ := hc
                cases hr
                obtain ⟨rest, hrest⟩ := Option.isSome_iff_exists.1 hl
                obtain ⟨i, hi⟩ := Option.isSome_iff_exists.1 hi
                obtain ⟨a, rfl, rfl⟩ := hw.ptr_same hx hy hrest
                have := run_eq_of (w := w) (by simp) (by simp) (by simp) (by simp) (run_eqIn_same (w := w) (a := a) 9999 hu hi)
                simp only [binRun, eqGuard_at_pointer, Sem.run_bind, Sem.run_pure, Result.andThen_ok]
                exact this
              · cases hr
            | _ => cases hr
          | _ => cases hr
        · rename_i ms hu
          cases y with
          | v q =>
            cases q with
            | nilIface =>
              obtain ⟨rfl, hv⟩ := hy.atom
              cases x with
              | ifc d z =>
                cases hr
                obtain ⟨v, rfl⟩ : ∃ v, u = .iface d v := by
                  cases hx with
                  | cl hx => cases hx with | ifc _ => exact ⟨_, rfl⟩
                  | ifc _ => exact ⟨_, rfl⟩
                have := run_eq_of (w := w) (by simp) (by simp) (by simp) (by simp) (run_eqIn_ifc (w := w) (q := d) (v := v) 9999 hu)
                simp only [binRun, eqGuard_at_iface, Sem.run_bind, Sem.run_pure, Result.andThen_ok]
                exact this
              | _ => cases hr
            | _ => cases hr
          | _ => cases hr
        · cases hr
      split at h
      · obtain ⟨r, hr, h⟩ := Option.map_eq_some_iff.1 h
        cases h
        exact .same hw (key r hr).1 (.cl (.v rfl))
      · obtain ⟨r, hr, h⟩ := Option.map_eq_some_iff.1 h
        cases h
        exact .same hw (key r hr).2 (.cl (.v rfl))
      · cases h

end Go.SL

/- The operations on abstract values, and that the model's do the same: the rest, and all of them. -/
namespace Go.SL
variable [BaseC]
set_option linter.unusedVariables false

def unlit : CV → CV
  | .lit cs len sz => .im cs len sz
  | x => x

theorem VR.unlit {g : Gh} {x : CV} {v : Value} (h : VR g x v) : VR g (unlit x) v := by
  cases x with
  | lit cs len sz =>
    cases h with
    | cl h => cases h
    | lit ho hl hcap hf hh => exact .cl (.im hl hcap (fun _ => rfl) hf hh)
  | _ => exact h

/-- The bytes of a text: closed, or an object. -/
def dS2B (P : Program) (s d : TypeId) (x : CV) (H : Hp) (mu : Bool) : Option (CV × Hp) :=
  match P.underlying s, P.underlying d, x with
  | some .string, some (.slice e), .v (.string str) =>
    if isU8 (P.underlying e) then some (if mu then (.sl H.length 0 0 str.size 1, H ++ [.cells 0 (bytesC str) e]) else (.im (bytesC str) str.size 1, H)) else none
  | _, _, _ => none

theorem later_bytes (w : World) (e : TypeId) (s : ByteArray) : Later w (Lib.bytesWorld w e s) :=
  ⟨by simp [Lib.bytesWorld, World.freeze, World.alloc, World.drew, -World.alloc_eq, -World.drew_eq], by simp [Lib.bytesWorld, World.freeze, World.alloc, World.drew, -World.alloc_eq, -World.drew_eq], by simp [Lib.bytesWorld, World.freeze, World.alloc, World.drew, -World.alloc_eq, -World.drew_eq],
    by rw [Lib.bytesWorld_size]; omega, fun b hb => Lib.bytesWorld_at_old w e s b hb⟩

theorem bytesC_length (s : ByteArray) : (bytesC s).length = s.size := by
  simp only [bytesC, List.length_map, Array.length_toList]; rfl

theorem bytesCells_get (w : World) (e : TypeId) (s : ByteArray) (i : Nat) (hi : i < s.size) : ∃ n : Int, (Lib.bytesCells w e s)[i]? = some (.int .u8 n) ∧ ∀ hi', (bytesC s)[i]'hi' = .v (.int .u8 n) := by
  have h2 : i < s.data.size := hi
  refine ⟨(s.data[i]).toNat, ?_, fun hi' => ?_⟩
  · unfold Lib.bytesCells
    rw [Array.getElem?_append_left (by simpa using h2), Array.getElem?_map, Array.getElem?_eq_getElem h2]
    rfl
  · simp [bytesC]

theorem bytesCells_size (w : World) (e : TypeId) (s : ByteArray) : (Lib.bytesCells w e s).size = grownCap w s.size 0 e := by
  have := grownCap_ge w s.size 0 e
  have h : s.data.size = s.size := rfl
  simp [Lib.bytesCells, h]; omega

theorem dS2B_good {P : Program} {g : Gh} {H H2 : Hp} {w : World} (hw : WR g H w) {s d : TypeId} {x y : CV} {v : Value} {mu : Bool} (hx : VR g x v) (h : dS2B P s d x H mu = some (y, H2)) :
    GoodV P g H w ((convert s d v).run P w) y H2 := by
  unfold dS2B at h
  split at h
  · rename_i e str hs hd
    split at h
    · rename_i he
      replace he := isU8_eq he
      obtain ⟨rfl, _⟩ := hx.atom
      have hr := Lib.run_convert_string_bytes (P := P) w s d e str hs hd he
      have hge := grownCap_ge w str.size 0 e
      have hl := bytesC_length str
      split at h
      · cases h
        obtain ⟨a1, a2⟩ := hw.fresh (later_bytes w e str) (Lib.bytesWorld_at_new w e str) (cs := bytesC str) (by rw [hl, bytesCells_size]; exact hge)
          (fun i hi => by
            obtain ⟨n, h1, h2⟩ := bytesCells_get w e str i (by omega)
            exact ⟨_, h1, rfl, by rw [h2 hi]; exact .cl (.v rfl)⟩) (.inr (Nat.le_refl _))
        refine ⟨_, _, _, hr, VR.sl (l := ⟨w.heap.size, 0, 0, _⟩) (g.add_last hw _) rfl hge (fun _ => rfl) (.inr ?_), a1, a2⟩
        simp only [Nat.zero_add, Nat.mul_one]
        rw [bytesCells_size]
        exact Nat.le_refl _
      · cases h
        obtain ⟨a1, a2, a3⟩ := hw.close (later_bytes w e str) (Lib.bytesWorld_at_new w e str) (fun v hv => by
          unfold Lib.bytesCells at hv
          rcases Array.mem_append.1 hv with hv | hv
          · obtain ⟨b, _, rfl⟩ := Array.mem_map.1 hv; rfl
          · rw [(Array.mem_replicate.1 hv).2]; rfl)
        refine ⟨_, _, _, hr, .cl (.im (f := fun j => ((Lib.bytesCells w e str)[j]?).getD undef) (by rw [hl, Nat.mul_one]) hge (fun _ => rfl) (fun j hj => ?_) (fun j hj => ?_)), a1, a2⟩
        · obtain ⟨n, h1, h2⟩ := bytesCells_get w e str j (by omega)
          rw [Nat.zero_add, a3 j _ h1, h1]; rfl
        · obtain ⟨n, h1, h2⟩ := bytesCells_get w e str j (by omega)
          simp only [h1, Option.getD_some, h2 hj]
          exact .v rfl
    · cases h
  · cases h

/-- A written slice of bytes, converted to its own type: the mark of a conversion is laid. -/
def dB2B (P : Program) (s d : TypeId) (x : CV) : Option CV :=
  match P.underlying s, P.underlying d, x with
  | some (.slice _), some (.slice e), .lit cs len sz => if s = d ∧ isU8 (P.underlying e) then some (.im cs len sz) else none
  | _, _, _ => none

theorem dB2B_good {P : Program} {g : Gh} {H : Hp} {w : World} (hw : WR g H w) {s d : TypeId} {x y : CV} {v : Value} (hx : VR g x v) (h : dB2B P s d x = some y) :
    GoodV P g H w ((convert s d v).run P w) y H := by
  unfold dB2B at h
  split at h
  · rename_i e0 e cs len sz hs hd
    split at h
    · rename_i hc
      cases h
      obtain ⟨rfl, he⟩ := hc
      replace he := isU8_eq he
      cases hx with
      | cl hx => cases hx
      | lit ho hl hcap hf hh =>
        rename_i b o cap f
        obtain ⟨hb1, hb2⟩ := hw.own b ho
        have hev : ∀ (n : Nat), Evo g H w g H (w.freeze ⟨b, n, none⟩ 1) := by
          intro n
          refine ⟨rfl, rfl, rfl, by simp [World.freeze], fun k hk hm => ?_, fun _ h => .inr h, fun _ _ _ h => h, locs_refl g, fun _ h => h⟩
          have : b ≠ k := fun e => hm (.inl (e ▸ ho))
          simp [World.freeze, Array.getElem?_modify, this]
        have hwr : ∀ (n : Nat), WR g H (w.freeze ⟨b, n, none⟩ 1) := by
          intro n
          have hother : ∀ k, k ≠ b → (w.freeze ⟨b, n, none⟩ 1).heap[k]? = w.heap[k]? := by
            intro k hk
            simp [World.freeze, Array.getElem?_modify, Ne.symm hk]
          have hcell : ∀ a, (w.freeze ⟨b, n, none⟩ 1).cell? a = w.cell? a := by
            intro a
            by_cases ha : a.block = b
            · subst ha
              simp only [World.cell?, World.freeze, Nat.one_ne_zero, if_false, Array.getElem?_modify, if_true]
              cases w.heap[a.block]? with
              | none => rfl
              | some ob => cases ob <;> rfl
            · exact World.cell?_of_block (hother _ ha)
          refine ⟨hw.len, fun id q l a c => ?_, hw.inj, fun b' o' v' hv => ⟨by rw [hcell]; exact (hw.im b' o' v' hv).1, (hw.im b' o' v' hv).2⟩, hw.dis, fun b' hb' => ⟨by simpa [World.freeze] using (hw.own b' hb').1, (hw.own b' hb').2⟩, hw.base, hw.org, fun b' c' hb' => by
            obtain ⟨e2, f2, h2⟩ := hw.blk b' c' hb'
            by_cases hbb : b' = b
            · subst hbb
              obtain ⟨lo, hi⟩ := f2
              exact ⟨e2, _, by simp only [World.freeze, Nat.one_ne_zero, if_false, Array.getElem?_modify, if_true, h2]; rfl⟩
            · exact ⟨e2, f2, by rw [hother b' hbb]; exact h2⟩⟩
          by_cases hlv : q.live = true
          · exact (hw.obj id q l a c).congr (hother _ (hb2 id q l a hlv c))
          · cases q with
            | gone ver => exact hw.obj id _ l a c
            | cells => simp [CO.live] at hlv
            | map => simp [CO.live] at hlv
            | loop => simp [CO.live] at hlv
        have hvr : VR g (.im cs len sz) (.slice (some ⟨b, o, none⟩) len cap) := .cl (.im hl hcap (fun _ => rfl) hf hh)
        cases hsh : w.shape? b with
        | none =>
          refine .same hw ?_ hvr
          have hb3 : b < w.heap.size := hb1
          simp [convert, run_underlying hd, run_underlying he, markStringish, hsh]
        | some en =>
          obtain ⟨e', n⟩ := en
          refine ⟨_, g, _, ?_, hvr, hwr n, hev n⟩
          simp [convert, run_underlying hd, run_underlying he, markStringish, hsh]
    · cases h
  · cases h

def unA (op : UnOp) (x : Value) : Option Value :=
  match op, x with
  | .not, .bool b => some (.bool !b)
  | .neg, .int k n => some (.int k (k.wrap (0 - n)))
  | .xor, .int k n => some (.int k (bits .xor k (if k.signed then -1 else k.max) n))
  | _, _ => none

theorem unA_run {P : Program} {w : World} {op : UnOp} {x y : Value} (h : unA op x = some y) : (Op.unary op x).run P w = .ok y w ∧ atomV y = true := by
  unfold unA at h
  split at h
  · cases h; exact ⟨rfl, rfl⟩
  · cases h; exact ⟨rfl, rfl⟩
  · cases h; rw [unary_xor, intBits_xor]; exact ⟨rfl, rfl⟩
  · cases h

def dUn (op : UnOp) (x : CV) : Option CV :=
  match x with
  | .v a => (unA op a).map .v
  | _ => none

theorem dUn_good {P : Program} {g : Gh} {H : Hp} {w : World} (hw : WR g H w) {op : UnOp} {x y : CV} {v : Value} (hx : VR g x v) (h : dUn op x = some y) : GoodV P g H w ((Op.unary op v).run P w) y H := by
  unfold dUn at h
  split at h
  · obtain ⟨r, hr, h⟩ := Option.map_eq_some_iff.1 h
    cases h
    obtain ⟨rfl, _⟩ := hx.atom
    obtain ⟨h1, h2⟩ := unA_run (P := P) (w := w) hr
    exact .same hw h1 (.cl (.v h2))
  · cases h

/-- The greatest, the least of whole numbers. -/
def dMax (f : Int → Int → Int) : List CV → Option CV
  | .v (.int k a) :: rest => rest.foldlM (fun (x : CV) (y : CV) => match x, y with | .v (.int k a), .v (.int _ b) => some (CV.v (.int k (f a b))) | _, _ => none) (CV.v (.int k a))
  | _ => none

theorem dMax_run {P : Program} {g : Gh} {w : World} {f : Int → Int → Int} {m : Value → Value → Sem Value} (hm : ∀ k a k' b, (m (.int k a) (.int k' b)).run P w = .ok (.int k (f a b)) w) : ∀ (rest : List CV) (vs : List Value) (k : IntKind) (a : Int) (y : CV),
    rest.length = vs.length → (∀ i (hi : i < rest.length) (hi' : i < vs.length), VR g rest[i] vs[i]) →
    rest.foldlM (fun (x : CV) (y : CV) => match x, y with | .v (.int k a), .v (.int _ b) => some (CV.v (.int k (f a b))) | _, _ => none) (CV.v (.int k a)) = some y → ∃ n, y = .v (.int k n) ∧ (vs.foldlM m (.int k a)).run P w = .ok (.int k n) w
  | [], [], k, a, y, _, _, h => by simp at h; exact ⟨a, h.symm, rfl⟩
  | x :: rest, v :: vs, k, a, y, hl, hh, h => by
    simp only [List.foldlM_cons] at h
    obtain ⟨z, hz, h⟩ := Option.bind_eq_some_iff.1 h
    split at hz
    · rename_i h1
      cases h1
      cases hz
      rename_i k2 b _
      have h0 := hh 0 (by simp) (by simp)
      simp only [List.getElem_cons_zero] at h0
      obtain ⟨rfl, _⟩ := h0.atom
      obtain ⟨n, hn, hr⟩ := dMax_run hm rest vs k (f a b) y (by simpa using hl) (fun i hi hi' => by have := hh (i + 1) (by simpa using hi) (by simpa using hi'); simpa using this) h
      refine ⟨n, hn, ?_⟩
      simp only [List.foldlM_cons, Sem.run_bind, hm, Result.andThen_ok]
      exact hr
    · cases hz

def mx (a b : Int) : Int := if b > a then b else a
def mn (a b : Int) : Int := if b < a then b else a

/-- Lists of values. -/
def ListR (g : Gh) (xs : List CV) (vs : Array Value) : Prop := xs.length = vs.toList.length ∧ ∀ i (hi : i < xs.length) (hi' : i < vs.toList.length), VR g xs[i] vs.toList[i]

theorem dMax_good {P : Program} {g : Gh} {H : Hp} {w : World} (hw : WR g H w) {f : Int → Int → Int} {m : Value → Value → Sem Value} (hm : ∀ k a k' b, (m (.int k a) (.int k' b)).run P w = .ok (.int k (f a b)) w) {xs : List CV} {vs : Array Value} {y : CV}
    (hl : ListR g xs vs) (h : dMax f xs = some y) : GoodV P g H w ((match vs.toList with | [] => stuck "x" | x :: rest => rest.foldlM m x : Sem Value).run P w) y H := by
  unfold dMax at h
  split at h
  · rename_i k a rest
    obtain ⟨h1, h2⟩ := hl
    cases hv : vs.toList with
    | nil => rw [hv] at h1; simp at h1
    | cons v vs' =>
      have h0 := h2 0 (by simp) (by rw [hv]; simp)
      simp only [hv, List.getElem_cons_zero] at h0
      obtain ⟨rfl, _⟩ := h0.atom
      obtain ⟨n, rfl, hr⟩ := dMax_run (g := g) hm rest vs' k a y (by rw [hv] at h1; simpa using h1) (fun i hi hi' => by
        have := h2 (i + 1) (by simpa using hi) (by rw [hv]; simpa using hi')
        simpa [hv] using this) h
      exact .same hw hr (.cl (.v rfl))
  · cases h

end Go.SL

/- The operations on abstract values, and that the model's do the same: maps. -/
namespace Go.SL
variable [BaseC]
set_option linter.unusedVariables false

theorem WR.upd {g : Gh} {H : Hp} {w w2 : World} (h : WR g H w) {id : Nat} {o o2 : CO} {l : Loc} (ho : H[id]? = some o) (hlv : o.live = true) (hlv2 : o2.live = true) (hl : g.locs[id]? = some l)
    (hos : w2.os = w.os) (ht : w2.tape = w.tape) (hout : w2.output = w.output) (hsz : w.heap.size = w2.heap.size) (hk : ∀ b, b ≠ l.b → w2.heap[b]? = w.heap[b]?) (ho2 : OR g o2 l w2) (horg : ∀ cs e, o2 ≠ .cells 0 cs e) :
    WR g (H.set id o2) w2 ∧ Evo g H w g (H.set id o2) w2 := by
  have hid := (List.getElem?_eq_some_iff.1 ho).1
  have hget : ∀ (i : Nat) (x : CO), (H.set id o2)[i]? = some x → (i ≠ id ∧ H[i]? = some x) ∨ (i = id ∧ x = o2) := by
    intro i x hi
    by_cases e1 : id = i
    · subst e1; rw [List.getElem?_set_self hid] at hi; exact .inr ⟨rfl, (Option.some.inj hi).symm⟩
    · rw [List.getElem?_set_ne e1] at hi; exact .inl ⟨fun e => e1 e.symm, hi⟩
  have lift : ∀ (i : Nat) (x : CO), (H.set id o2)[i]? = some x → x.live = true → ∃ x' : CO, H[i]? = some x' ∧ x'.live = true := by
    intro i x hi hxl
    rcases hget i x hi with ⟨_, hx⟩ | ⟨rfl, rfl⟩
    · exact ⟨x, hx, hxl⟩
    · exact ⟨o, ho, hlv⟩
  refine ⟨⟨by simp [h.len], ?_, ?_, ?_, ?_, ?_, h.base, fun i cs' e' m hi hm => by
    rcases hget i _ hi with ⟨_, hx⟩ | ⟨rfl, hx⟩
    · exact h.org _ _ _ m hx hm
    · exact absurd hx.symm (horg _ _), fun b' c' hb' => by
    obtain ⟨e2, f2, h2⟩ := h.blk b' c' hb'
    exact ⟨e2, f2, by rw [hk b' (h.ne_base ho hlv hl hb')]; exact h2⟩⟩, ⟨hos, ht, hout, by omega, fun b hb hm => hk b (fun e => hm (.inr ⟨id, o, l, ho, hlv, hl, e.symm⟩)), ?_, fun _ _ _ h => h, locs_refl g, fun _ h => h⟩⟩
  · intro i x m hi hm
    rcases hget i x hi with ⟨hne, hx⟩ | ⟨rfl, rfl⟩
    · by_cases hxl : x.live = true
      · exact (h.obj i x m hx hm).congr (hk _ (fun e1 => hne (h.inj i id x o m l hx ho hxl hlv hm hl e1)))
      · cases x with
        | gone ver => exact h.obj i _ m hx hm
        | cells => simp [CO.live] at hxl
        | map => simp [CO.live] at hxl
        | loop => simp [CO.live] at hxl
    · rw [hl] at hm; cases hm; exact ho2
  · intro i j oi oj li lj h1 h2 h3 h4 h5 h6 e1
    obtain ⟨a, ha, ha'⟩ := lift i oi h1 h3
    obtain ⟨d, hd, hd'⟩ := lift j oj h2 h4
    exact h.inj i j a d li lj ha hd ha' hd' h5 h6 e1
  · intro b o' v hb'
    have := h.im b o' v hb'
    have hbl : b ≠ l.b := by
      intro e1; subst e1
      rw [h.dis id _ l ho hlv hl o'] at hb'; cases hb'
    exact ⟨by rw [World.cell?_of_block (w := w) (w' := w2) (a := ⟨b, o', none⟩) (hk b hbl)]; exact this.1, this.2⟩
  · intro i x m hi hxl hm off
    obtain ⟨a, ha, ha'⟩ := lift i x hi hxl
    exact h.dis i a m ha ha' hm off
  · intro b hb
    refine ⟨by rw [← hsz]; exact (h.own b hb).1, fun i x m hi hxl hm => ?_⟩
    obtain ⟨a, ha, ha'⟩ := lift i x hi hxl
    exact (h.own b hb).2 i a m ha ha' hm
  · rintro b (hb | ⟨i, x, m, hi, hxl, hm, rfl⟩)
    · exact .inr (.inl hb)
    · obtain ⟨a, ha, ha'⟩ := lift i x hi hxl
      exact .inr (.inr ⟨i, a, m, ha, ha', hm, rfl⟩)

def eqK : CV → CV → Option Bool
  | .v (.string a), .v (.string b) => some (a.toList == b.toList)
  | .v (.int k a), .v (.int k' b) => if k = k' then some (a == b) else none
  | _, _ => none
def keyB (d : Option TypeDesc) (k : CV) : Bool :=
  match d, k with
  | some .string, .v (.string _) => true
  | some (.int _), .v (.int _ _) => true
  | _, _ => false

def findC (k : CV) : List (CV × CV) → Nat → Option (Option (Nat × CV))
  | [], _ => some none
  | e :: es, i =>
    match eqK k e.1 with
    | some true => some (some (i, e.2))
    | some false => findC k es (i + 1)
    | none => none

def EntR (g : Gh) (es : List (CV × CV)) (es' : Array MapEntry) : Prop := es'.size = es.length ∧ ∀ i (hi : i < es.length) (hi' : i < es'.size), VC g.im es[i].1 es'[i].key ∧ VR g es[i].2 es'[i].val

theorem eqK_now {P : Program} {g : Gh} {d : TypeDesc} {k q : CV} {kv qv : Value} {r : Bool} (hd : keyB (some d) k = true) (hk : VR g k kv) (hq : VC g.im q qv) (h : eqK k q = some r) : Instr.sameNow d kv qv = some r := by
  unfold eqK at h
  split at h
  · cases h
    obtain ⟨rfl, _⟩ := hk.atom
    obtain ⟨rfl, _⟩ := (VR.cl hq).atom
    unfold keyB at hd
    split at hd
    · rename_i heq1 heq2; cases heq1; simp [Instr.sameNow, beq_toListBytes]
    · rename_i heq2; cases heq2
    · cases hd
  · split at h
    · rename_i hkk
      subst hkk
      cases h
      obtain ⟨rfl, _⟩ := hk.atom
      obtain ⟨rfl, _⟩ := (VR.cl hq).atom
      unfold keyB at hd
      split at hd
      · rename_i heq1 heq2; cases heq2
      · rename_i heq1 heq2; cases heq1; simp [Instr.sameNow]
      · cases hd
    · cases h
  · cases h

theorem findC_run {P : Program} {g : Gh} {d : TypeDesc} {k : CV} {kv : Value} (hd : keyB (some d) k = true) (hk : VR g k kv) : ∀ (es : List (CV × CV)) (es' : List MapEntry) (n : Nat) (r : Option (Nat × CV)), es'.length = es.length →
    (∀ i (hi : i < es.length) (hi' : i < es'.length), VC g.im es[i].1 es'[i].key ∧ VR g es[i].2 es'[i].val) → findC k es n = some r →
    (r = none ∧ Instr.findNow d kv es' n = some none) ∨ ∃ i x v, r = some (n + i, x) ∧ Instr.findNow d kv es' n = some (some (n + i, v)) ∧ VR g x v ∧ ∃ (hi : i < es.length) (hi' : i < es'.length), es[i].2 = x ∧ es'[i].val = v ∧ eqK k es[i].1 = some true
  | [], [], n, r, _, _, h => by simp only [findC, Option.some.injEq] at h; exact .inl ⟨h.symm, rfl⟩
  | e :: es, e' :: es', n, r, hl, hh, h => by
    have h0 := hh 0 (by simp) (by simp)
    simp only [List.getElem_cons_zero] at h0
    unfold findC at h
    unfold Instr.findNow
    split at h
    · rename_i heq
      cases h
      rw [eqK_now (P := P) hd hk h0.1 heq]
      exact .inr ⟨0, e.2, e'.val, by simp, by simp, h0.2, by simp, by simp, by simp, by simp, by simpa using heq⟩
    · rename_i heq
      rw [eqK_now (P := P) hd hk h0.1 heq]
      rcases findC_run (P := P) hd hk es es' (n + 1) r (by simpa using hl) (fun i hi hi' => by have := hh (i + 1) (by simpa using hi) (by simpa using hi'); simpa using this) h with ⟨h1, h2⟩ | ⟨i, x, v, h1, h2, h3, hi, hi', h4, h5, h6⟩
      · exact .inl ⟨h1, h2⟩
      · refine .inr ⟨i + 1, x, v, by rw [h1, show n + 1 + i = n + (i + 1) by omega], by rw [h2, show n + 1 + i = n + (i + 1) by omega], h3, by simpa using hi, by simpa using hi', by simpa using h4, by simpa using h5, by simpa using h6⟩
    · cases h

theorem run_checkKey {P : Program} {w : World} {t : TypeId} {d : TypeDesc} {k : CV} {kv : Value} {g : Gh} {b : Bool} (n : Nat) (hu : P.underlying t = some d) (hd : keyB (some d) k = true) (hk : VR g k kv) : (Instr.checkKey b (n + 1) t kv).run P w = .ok () w := by
  unfold keyB at hd
  split at hd
  · rename_i s heq1; cases heq1
    obtain ⟨rfl, _⟩ := hk.atom
    simp [Instr.checkKey, run_underlying hu]
  · rename_i q k' n' heq1; cases heq1
    obtain ⟨rfl, _⟩ := hk.atom
    simp [Instr.checkKey, run_underlying hu]
  · cases hd

def zeroCV (P : Program) (t : TypeId) : Option CV := (P.info? t).bind fun i => i.zero.bind ofV

def mapAt (H : Hp) : CV → Option (List (CV × CV))
  | .v (.map none) => some []
  | .mp id ver => match H[id]? with | some (.map v es _) => if v = ver then some es else none | _ => none
  | _ => none

theorem WR.map_inv {g : Gh} {H : Hp} {w : World} (hw : WR g H w) {id ver k : Nat} {v : Value} {es : List (CV × CV)} (hm : H[id]? = some (.map ver es k)) (hx : VR g (.mp id ver) v) :
    ∃ l, g.locs[id]? = some l ∧ l.ver = ver ∧ v = .map (some l.b) ∧ ∃ es', w.heap[l.b]? = some (.map es' k) ∧ EntR g es es' := by
  have hid := (List.getElem?_eq_some_iff.1 hm).1
  have hl : id < g.locs.length := by rw [hw.len]; exact hid
  have hl2 := List.getElem?_eq_getElem hl
  have ho := hw.obj id _ _ hm hl2
  obtain ⟨h1, es', h2, h3, h4⟩ := ho
  cases hx with
  | cl hx => cases hx
  | mp h5 hv => rw [hl2] at h5; cases h5; exact ⟨_, hl2, h1, rfl, es', h2, h3, h4⟩
  | smp h5 hv => rw [hl2] at h5; cases h5; omega

def dLookup (P : Program) (t : TypeId) (x ix : CV) (ok : Bool) (H : Hp) : Option CV :=
  match P.underlying t with
  | some (.map kt et) => (P.underlying kt).bind fun d => (mapAt H x).bind fun es => (zeroCV P et).bind fun z =>
      if keyB (some d) ix then (findC ix es 0).map fun r =>
        match r with
        | some (_, v) => if ok then .tup [v, .v (.bool true)] else v
        | none => if ok then .tup [z, .v (.bool false)] else z
      else none
  | _ => none

theorem VR.pair {g : Gh} {x y : CV} {u v : Value} (hx : VR g x u) (hy : VR g y v) : VR g (.tup [x, y]) (.tuple #[u, v]) := by
  refine .tup rfl fun i hi hi' => ?_
  match i, hi with
  | 0, _ => exact hx
  | 1, _ => exact hy
  | i + 2, hi => exact absurd hi (by simp)

theorem dLookup_good {P : Program} {g : Gh} {H : Hp} {w : World} (hw : WR g H w) {t : TypeId} {x ix y : CV} {v u : Value} {ok : Bool} (hx : VR g x v) (hi : VR g ix u) (h : dLookup P t x ix ok H = some y) :
    GoodV P g H w ((Instr.lookup t v u ok).run P w) y H := by
  unfold dLookup at h
  split at h
  · rename_i kt et hu
    obtain ⟨d, hd, h⟩ := Option.bind_eq_some_iff.1 h
    obtain ⟨es, hes, h⟩ := Option.bind_eq_some_iff.1 h
    obtain ⟨z, hz, h⟩ := Option.bind_eq_some_iff.1 h
    split at h
    · rename_i hkey
      obtain ⟨r, hr, h⟩ := Option.map_eq_some_iff.1 h
      obtain ⟨zi, hzi, hz⟩ := Option.bind_eq_some_iff.1 hz
      obtain ⟨zv, hzv, hz⟩ := Option.bind_eq_some_iff.1 hz
      have hzero : (zeroValue et).run P w = .ok zv w := by simp [zeroValue, typeInfo, hzi, hzv]
      have hck : ∀ b, (Instr.checkKey b 10000 kt u).run P w = .ok () w := fun b => run_checkKey (P := P) (w := w) (b := b) (t := kt) 9999 hd hkey hi
      have fin : ∀ es' : Array MapEntry, EntR g es es' → (v = .map none ∧ es' = #[] ∨ ∃ b k, v = .map (some b) ∧ (getObj b).run P w = .ok (.map es' k) w) → GoodV P g H w ((Instr.lookup t v u ok).run P w) y H := by
        intro es' hee hv
        rcases findC_run (P := P) hkey hi es es'.toList 0 r (by simpa using hee.1) (fun i h1 h2 => by
          have := hee.2 i h1 (by simpa using h2); simpa using this) hr with ⟨rfl, h2⟩ | ⟨i, x, q, rfl, h2, h3, _⟩
        · have hval : (Instr.lookup t v u ok).run P w = .ok (if ok then Value.tuple #[zv, .bool false] else zv) w := by
            rcases hv with ⟨rfl, rfl⟩ | ⟨b, k, rfl, hg⟩
            · simp only [Instr.lookup, Sem.run_bind, run_underlying hu, Result.andThen_ok, Sem.run_pure, hck, Instr.findKey, run_underlying hd, h2, hzero]
            · simp only [Instr.lookup, Sem.run_bind, run_underlying hu, Result.andThen_ok, Sem.run_pure, hg, hck, Instr.findKey, run_underlying hd, h2, hzero]
          rw [hval]
          cases ok
          · simp at h; subst h; exact .same hw rfl (ofV_vr hz)
          · simp at h; subst h; exact .same hw rfl ((ofV_vr hz).pair (.bool _ _))
        · have hval : (Instr.lookup t v u ok).run P w = .ok (if ok then Value.tuple #[q, .bool true] else q) w := by
            rcases hv with ⟨rfl, rfl⟩ | ⟨b, k, rfl, hg⟩
            · simp only [Instr.lookup, Sem.run_bind, run_underlying hu, Result.andThen_ok, Sem.run_pure, hck, Instr.findKey, run_underlying hd, h2]
            · simp only [Instr.lookup, Sem.run_bind, run_underlying hu, Result.andThen_ok, Sem.run_pure, hg, hck, Instr.findKey, run_underlying hd, h2]
          rw [hval]
          cases ok
          · simp at h; subst h; exact .same hw rfl h3
          · simp at h; subst h; exact .same hw rfl (h3.pair (.bool _ _))
      unfold mapAt at hes
      split at hes
      · cases hes
        obtain ⟨rfl, _⟩ := hx.atom
        exact fin #[] ⟨rfl, fun i hi => absurd hi (by simp)⟩ (.inl ⟨rfl, rfl⟩)
      · rename_i id ver
        split at hes
        · rename_i v0 es0 k0 hm
          split at hes
          · rename_i hv; subst hv; cases hes
            obtain ⟨l, hl, hlv, rfl, es', hb, hee⟩ := hw.map_inv hm hx
            have hg : (getObj l.b).run P w = .ok (.map es' k0) w := by simp [getObj, Sem.run, hb]
            exact fin es' hee (.inr ⟨_, _, rfl, hg⟩)
          · cases hes
        · cases hes
      · cases hes
    · cases h
  · cases h

def setAt (es : List (CV × CV)) (i : Nat) (k x : CV) : List (CV × CV) := es.set i (k, x)

/-- A store into a map. -/
def dMapUpd (P : Program) (t : TypeId) (m k x : CV) (H : Hp) : Option Hp :=
  match P.underlying t, m with
  | some (.map kt _), .mp id ver =>
    match H[id]? with
    | some (.map v es clock) => if v = ver then (P.underlying kt).bind fun d => if keyB (some d) k && clB k then (findC k es 0).map fun r =>
        match r with
        | some (i, _) => H.set id (.map v (es.set i (k, x)) clock)
        | none => H.set id (.map v (es ++ [(k, x)]) (clock + 1))
      else none
      else none
    | _ => none
  | _, _ => none

theorem eqK_same {g : Gh} {k q : CV} {kv qv : Value} (hk : VR g k kv) (hq : VR g q qv) (h : eqK k q = some true) : Instr.sameBits 10000 qv kv = true := by
  unfold eqK at h
  split at h
  · obtain ⟨rfl, _⟩ := hk.atom
    obtain ⟨rfl, _⟩ := hq.atom
    simp only [Option.some.injEq, ← beq_toListBytes] at h
    have : ∀ a b : ByteArray, (a == b) = true → (b == a) = true := by
      intro a b hab
      rw [beq_toListBytes] at hab ⊢
      simp only [beq_iff_eq] at hab ⊢
      exact hab.symm
    simp only [Instr.sameBits]
    exact this _ _ h
  · split at h
    · rename_i hkk
      obtain ⟨rfl, _⟩ := hk.atom
      obtain ⟨rfl, _⟩ := hq.atom
      simp only [Option.some.injEq, beq_iff_eq] at h
      simp [Instr.sameBits, hkk, h]
    · cases h
  · cases h

theorem dMapUpd_good {P : Program} {g : Gh} {H H2 : Hp} {w : World} (hw : WR g H w) {t : TypeId} {m k x : CV} {mv kv xv : Value} (hm : VR g m mv) (hk : VR g k kv) (hx : VR g x xv) (h : dMapUpd P t m k x H = some H2) :
    ∃ g2 w2, (Instr.mapUpdate t mv kv xv).run P w = .ok () w2 ∧ WR g2 H2 w2 ∧ Evo g H w g2 H2 w2 := by
  unfold dMapUpd at h
  split at h
  · rename_i kt et id ver hu
    split at h
    · rename_i v es clock hmm
      split at h
      · rename_i hv; subst hv
        obtain ⟨d, hd, h⟩ := Option.bind_eq_some_iff.1 h
        split at h
        · rename_i hkc
          simp only [Bool.and_eq_true] at hkc
          obtain ⟨hkey, hcl⟩ := hkc
          obtain ⟨r, hr, h⟩ := Option.map_eq_some_iff.1 h
          obtain ⟨l, hl, hlv, rfl, es', hb, hee⟩ := hw.map_inv hmm hm
          have hg : (getObj l.b).run P w = .ok (.map es' clock) w := by simp [getObj, Sem.run, hb]
          have hck : (Instr.checkKey false 10000 kt kv).run P w = .ok () w := run_checkKey (P := P) (w := w) (t := kt) 9999 hd hkey hk
          have hset : ∀ o : Obj, (setObj l.b o).run P w = .ok () { w with heap := w.heap.setIfInBounds l.b o } := fun o => by simp [setObj, Sem.run, hb]
          have hlt : l.b < w.heap.size := (Array.getElem?_eq_some_iff.1 hb).1
          have hup : ∀ (es2 : List (CV × CV)) (es2' : Array MapEntry) (c2 : Nat), EntR g es2 es2' → WR g (H.set id (.map v es2 c2)) { w with heap := w.heap.setIfInBounds l.b (.map es2' c2) } ∧
              Evo g H w g (H.set id (.map v es2 c2)) { w with heap := w.heap.setIfInBounds l.b (.map es2' c2) } := by
            intro es2 es2' c2 hee2
            refine hw.upd hmm rfl rfl hl rfl rfl rfl (by simp) (fun b hne => by simp [Array.getElem?_setIfInBounds_ne (Ne.symm hne)]) ⟨hlv, es2', ?_, hee2⟩ (fun _ _ h => by cases h)
            simp [Array.getElem?_setIfInBounds_self_of_lt hlt]
          rcases findC_run (P := P) hkey hk es es'.toList 0 r (by simpa using hee.1) (fun i h1 h2 => by
            have := hee.2 i h1 (by simpa using h2); simpa using this) hr with ⟨rfl, h2⟩ | ⟨i, q, qv, rfl, h2, h3, hi, hi', h4, h5, h6⟩
          · simp only [] at h
            subst h
            obtain ⟨a1, a2⟩ := hup (es ++ [(k, x)]) (es'.push { key := kv, val := xv, born := clock }) (clock + 1) ⟨by simp [hee.1], fun j hj hj' => by
              by_cases hlt2 : j < es.length
              · rw [List.getElem_append_left hlt2, Array.getElem_push_lt (by rw [hee.1]; exact hlt2)]
                exact hee.2 j hlt2 (by rw [hee.1]; exact hlt2)
              · have : j = es.length := by simp at hj; omega
                subst this
                rw [List.getElem_append_right (Nat.le_refl _)]
                simp only [Nat.sub_self, List.getElem_cons_zero]
                have e1 : (es'.push { key := kv, val := xv, born := clock })[es.length] = { key := kv, val := xv, born := clock } := by
                  simp [← hee.1]
                rw [e1]
                exact ⟨hk.closed hcl, hx⟩⟩
            refine ⟨g, _, ?_, a1, a2⟩
            simp only [Instr.mapUpdate, Sem.run_bind, run_underlying hu, Result.andThen_ok, hg, hck, Instr.findKey, run_underlying hd, h2, Sem.run_pure, hset]
          · simp only [Nat.zero_add] at h h2
            subst h
            have hi2 : i < es'.size := by simpa using hi'
            have hkey2 := (hee.2 i hi hi2).1
            have hsame : Instr.sameBits 10000 (es'[i]'hi2).key kv = true := eqK_same hk (.cl hkey2) h6
            obtain ⟨a1, a2⟩ := hup (es.set i (k, x)) (es'.modify i fun e => { e with key := kv, val := xv }) clock ⟨by simp [hee.1], fun j hj hj' => by
              have hj2 : j < es.length := by simpa using hj
              have hj3 : j < es'.size := by rw [hee.1]; exact hj2
              rw [List.getElem_set, Array.getElem_modify]
              by_cases e : i = j
              · subst e
                simp only [if_true]
                exact ⟨hk.closed hcl, hx⟩
              · simp only [e, if_false]
                exact hee.2 j hj2 hj3⟩
            refine ⟨g, _, ?_, a1, a2⟩
            have hstay : (Instr.keyThatStays (((es'[i]?).map (·.key)).getD kv) kv).run P w = .ok kv w := by
              rw [Array.getElem?_eq_getElem hi2]
              simp only [Option.map_some, Option.getD_some, Instr.keyThatStays, hsame, if_true, Sem.run_pure]
            simp only [Instr.mapUpdate, Sem.run_bind, run_underlying hu, Result.andThen_ok, hg, hck, Instr.findKey, run_underlying hd, h2, Sem.run_pure, hstay, hset]
        · cases h
      · cases h
    · cases h
  · cases h

end Go.SL

/- A text out of a builder's bytes: unsafe.SliceData, unsafe.String. -/
namespace Go.SL
set_option linter.unusedVariables false
variable [BaseC]

theorem liesAt_bytes_at {P : Program} {e : TypeId} (hc : P.cellsOf e = 1) (count off n : Nat) (hn : off + n ≤ count) : liesAt P P.depth e count off e n = true := by
  have hd : P.depth = (2 * (P.types.size + Made.depth) + 1) + 1 := rfl
  rw [hd]
  simp only [liesAt, Bool.or_eq_true]
  left
  rw [hd]
  have h1 : off % 1 = 0 := Nat.mod_one off
  simp [rowAt, hc, sameLayout, h1, hn]
theorem run_unsafeString_at {P : Program} (w : World) (pt it ty e : TypeId) (hp : P.underlying pt = some (.pointer e)) (hc : P.cellsOf e = 1) (b o cells : Nat) (hsh : w.shape? b = some (e, cells)) (l : List UInt8) (h0 : l ≠ []) (hn : o + l.length ≤ cells)
    (h63 : l.length ≤ 9223372036854775807) (hcell : ∀ j x, l[j]? = some x → w.cell? ((⟨b, o, none⟩ : Addr).add j) = some (.int .u8 x.toNat)) :
    (Builtin.unsafeString_ #[pt, it] ty #[.pointer (some ⟨b, o, none⟩), .int .i64 l.length]).run P w = .ok (.string ⟨l.toArray⟩) (w.freeze ⟨b, o, none⟩ l.length) := by
  have hl : l.length ≠ 0 := by simpa using h0
  have hlb := Lib.run_loadBytes (P := P) w l ⟨b, o, none⟩ .empty hcell
  have hlies := liesAt_bytes_at (P := P) hc (cells / P.cellsOf e) o l.length (by rw [hc]; simpa using hn)
  have h63' : ¬ (9223372036854775807 : Int) < (l.length : Int) := by omega
  have hdef : Builtin.unsafeString_ #[pt, it] ty #[.pointer (some ⟨b, o, none⟩), .int .i64 l.length] =
      (do
        let n ← asInt (.int .i64 l.length)
        if n < 0 then runtimePanic (.error "unsafe.String: len out of range")
        if n > IntKind.i64.max then unsupported (.unsafePointer "String: a length above the largest int")
        if n = 0 then pure (.string .empty)
        else if ← variablesAt ⟨b, o, none⟩ (← elemOf pt) n.toNat then do
          let s ← loadBytes ⟨b, o, none⟩ .empty n.toNat
          freeze ⟨b, o, none⟩ n.toNat
          pure (.string s)
        else unsupported (.unsafePointer "String: not so many bytes at ptr")) := rfl
  rw [hdef]
  have hmax : IntKind.i64.max = 9223372036854775807 := rfl
  have hneg : ¬ (l.length : Int) < 0 := by omega
  simp [asInt, asIntOf, hmax, h63', hneg, hl, variablesAt, hsh, elemOf, run_underlying hp, hlies, hlb]

/-- Where a slice's bytes begin. -/
def dUnsD (x : CV) (H : Hp) : Option CV :=
  match x with
  | .v (.slice none _ _) => some (.v (.pointer none))
  | .sl id ver off len _ => if 0 < len ∧ (cellsAt H id ver).isSome = true then some (.ptr id ver off) else none
  | _ => none
theorem dUnsD_good {P : Program} {g : Gh} {H : Hp} {w : World} (hw : WR g H w) {ts : Array TypeId} {ty : TypeId} {x y : CV} {v : Value} (hx : VR g x v) (h : dUnsD x H = some y) : GoodV P g H w ((Builtin.unsafeSliceData_ ts ty #[v]).run P w) y H := by
  unfold dUnsD at h
  split at h
  · cases h
    obtain ⟨rfl, _⟩ := hx.atom
    exact .same hw (Lib.run_unsafeSliceData_nil w ts ty _ _) (.cl (.v rfl))
  · split at h
    · rename_i hc
      cases h
      obtain ⟨l, o, cap, hl, hv, hcap, ho, hg, rfl⟩ := hx.sl_live hw hc.2
      rw [ho hc.1]
      exact .same hw (Lib.run_unsafeSliceData_row w ts ty _ _ _ (by omega)) (.ptr hl hv)
    · cases h
  · cases h
/-- A text out of bytes; they are written no more. -/
def dUnsS (P : Program) (pt : TypeId) (x n : CV) (H : Hp) : Option (CV × Hp) :=
  match n, x with
  | .v (.int .i64 k), .v (.pointer none) => if k = 0 then some (.v (.string .empty), H) else none
  | .v (.int .i64 k), .ptr id ver off =>
    match H[id]?, P.underlying pt with
    | some (.cells v cs e), some (.pointer e') =>
      if e' = e ∧ v = ver ∧ P.cellsOf e = 1 ∧ 0 < k ∧ k ≤ 9223372036854775807 ∧ off + k.toNat ≤ cs.length then
        (numsOf ((cs.drop off).take k.toNat)).bind fun ns => if ∀ n ∈ ns, 0 ≤ n ∧ n < 256 then some (.v (.string ⟨(ns.map fun n => n.toNat.toUInt8).toArray⟩), H.set id (.gone (v + 1))) else none
      else none
    | _, _ => none
  | _, _ => none
theorem dUnsS_good {P : Program} {g : Gh} {H H2 : Hp} {w : World} (hw : WR g H w) {pt it ty : TypeId} {x n y : CV} {v u : Value} (hx : VR g x v) (hn : VR g n u) (h : dUnsS P pt x n H = some (y, H2)) : GoodV P g H w ((Builtin.unsafeString_ #[pt, it] ty #[v, u]).run P w) y H2 := by
  unfold dUnsS at h
  split at h
  · rename_i k
    split at h
    · rename_i hk
      cases h
      subst hk
      obtain ⟨rfl, _⟩ := hx.atom
      obtain ⟨rfl, _⟩ := hn.atom
      exact .same hw (Lib.run_unsafeString_none w pt it ty none) (.cl (.v rfl))
    · cases h
  · rename_i k id ver off
    obtain ⟨rfl, _⟩ := hn.atom
    split at h
    · rename_i v' cs e e' he hu
      split at h
      · rename_i hc
        obtain ⟨rfl, rfl, hc1, hk0, hk63, hlen⟩ := hc
        obtain ⟨ns, hns, h⟩ := Option.bind_eq_some_iff.1 h
        split at h
        · rename_i hr
          cases h
          obtain ⟨l, hl, hv, c, fr, hb, hsz, hs, hcs, hf⟩ := hw.cells he
          obtain ⟨hnl, hng⟩ := numsOf_get hns
          have hvv : v = .pointer (some ⟨l.b, l.s + off, none⟩) := by
            cases hx with
            | cl hx => cases hx
            | ptr h2 hv2 => rw [hl] at h2; cases h2; rfl
            | sptr h2 hv2 => rw [hl] at h2; cases h2; omega
          subst hvv
          have hkn : ns.length = k.toNat := by rw [hnl]; simp; omega
          have hkk : k = ((ns.map fun n => n.toNat.toUInt8).length : Int) := by rw [List.length_map]; omega
          have hrun := run_unsafeString_at (P := P) w pt it ty e' hu hc1 l.b (l.s + off) c.size (by simp [World.shape?, hb]) (ns.map fun n => n.toNat.toUInt8) (by
            intro e0
            have := congrArg List.length e0
            simp at this
            rw [this] at hkn; simp at hkn; omega) (by rw [List.length_map]; omega) (by rw [List.length_map]; omega) (fun j a ha => by
              rw [List.getElem?_map] at ha
              obtain ⟨n, hn1, rfl⟩ := Option.map_eq_some_iff.1 ha
              obtain ⟨hj, hn2⟩ := List.getElem?_eq_some_iff.1 hn1
              obtain ⟨z, h1, h2, h3⟩ := hcs (off + j) (by omega)
              have h4 := hng j (by simp; omega)
              rw [List.getElem_take, List.getElem_drop] at h4
              rw [h4] at h3
              obtain ⟨rfl, _⟩ := h3.atom
              have h5 := hr n (by rw [← hn2]; exact List.getElem_mem hj)
              have h6 : ((n.toNat.toUInt8).toNat : Int) = ns.getD j 0 := by
                rw [List.getD_eq_getElem?_getD, hn1]
                simp; omega
              rw [Addr.add_lit, h6]
              simp only [World.cell?, hb]
              simp
              rw [Nat.add_assoc]; exact h1)
          rw [← hkk] at hrun
          obtain ⟨a1, a2⟩ := hw.relay (w2 := w.freeze ⟨l.b, l.s + off, none⟩ (ns.map fun n => n.toNat.toUInt8).length) he rfl hl (l2 := ⟨l.b, l.s, v' + 1, l.n⟩) (o2 := .gone (v' + 1)) (by show l.ver < v' + 1; omega) (.inl rfl)
            (by unfold World.freeze; split <;> rfl) (by unfold World.freeze; split <;> rfl) (by unfold World.freeze; split <;> rfl) (by unfold World.freeze; split <;> simp) (fun b hb1 hb2 => by
              unfold World.freeze
              split
              · rfl
              · simp [Array.getElem?_modify, Ne.symm hb2]) rfl
          exact ⟨_, _, _, hrun, .cl (.v rfl), a1, a2⟩
        · cases h
      · cases h
    · cases h
  · cases h
/-- Bytes are copied over others. -/
def dCopy (P : Program) (t : TypeId) (s x : CV) (H : Hp) : Option (CV × Hp) :=
  match P.underlying t, s with
  | some (.slice e), .sl id ver off len sz =>
    match P.info? e, H[id]? with
    | some i, some (.cells v cc e') => (atS H x).bind fun cn => (numsOf cn.1).bind fun _ =>
      if v = ver ∧ sz = 1 ∧ i.size = 1 ∧ off + len ≤ cc.length ∧ cn.1.length = cn.2 then
        (if min cn.2 len = 0 then some (.v (.int .i64 0), H) else some (.v (.int .i64 (min cn.2 len : Nat)), putH H id off (cn.1.take (min cn.2 len)))) else none
    | _, _ => none
  | _, _ => none
theorem dCopy_good {P : Program} {g : Gh} {H H2 : Hp} {w : World} (hw : WR g H w) {t tx ty : TypeId} {s x y : CV} {sv xv : Value} (hs : VR g s sv) (hx : VR g x xv) (h : dCopy P t s x H = some (y, H2)) : GoodV P g H w ((Builtin.copy_ #[t, tx] ty #[sv, xv]).run P w) y H2 := by
  unfold dCopy at h
  split at h
  · rename_i e id ver off len sz hu
    split at h
    · rename_i i v cc e' hi he
      obtain ⟨⟨cs, n⟩, hat, ha0⟩ := Option.bind_eq_some_iff.1 h
      clear h
      obtain ⟨ns, hns, h⟩ := Option.bind_eq_some_iff.1 ha0
      clear ha0
      dsimp only at h hns
      by_cases hc : v = ver ∧ sz = 1 ∧ i.size = 1 ∧ off + len ≤ cc.length ∧ cs.length = n
      · rw [if_pos hc] at h
        obtain ⟨rfl, rfl, hsz, hoff, hcn⟩ := hc
        obtain ⟨l, hl, hv, c, fr, hb, hn, hss, hcs, hf⟩ := hw.cells he
        obtain ⟨o, cap, hcap, ho, rfl⟩ : ∃ o cap, len ≤ cap ∧ (0 < len → o = l.s + off) ∧ sv = .slice (some ⟨l.b, o, none⟩) len cap := by
          cases hs with
          | cl hs => cases hs
          | sl h2 hv2 hcap ho hg => rw [hl] at h2; cases h2; exact ⟨_, _, hcap, ho, rfl⟩
          | ssl h2 hv2 => rw [hl] at h2; cases h2; omega
        rcases hw.at_sl hx hat with ⟨rfl, rfl, rfl⟩ | ⟨a, b, o2, cap2, rfl, hcap2, ha, hh, hz⟩
        · simp at h
          obtain ⟨rfl, rfl⟩ := h
          exact .same hw (by simp [Builtin.copy_, run_underlying hu, Builtin.lenOf, Builtin.firstCells, sizeOf, typeInfo, hi, storeCells, goInt]) (.cl (.v rfl))
        · split at h
          · rename_i h0
            obtain ⟨rfl, rfl⟩ := Prod.mk.inj (Option.some.inj h)
            have hl0 : (loadCells a 0).run P w = .ok #[] w := by simpa using run_loadCells_list (P := P) w a [] (by simp)
            exact .same hw (by simp [Builtin.copy_, run_underlying hu, Builtin.lenOf, Builtin.firstCells, sizeOf, typeInfo, hi, storeCells, goInt, h0, hl0]) (.cl (.v rfl))
          · rename_i h0
            obtain ⟨rfl, rfl⟩ := Prod.mk.inj (Option.some.inj h)
            have hn0 : 0 < n := by omega
            have hlen0 : 0 < len := by omega
            obtain rfl := ha hn0
            obtain rfl := ho hlen0
            obtain ⟨us, h1, h2, h3, h4⟩ := ((hh hn0).take (min n len)).list
            have hul : us.length = min n len := by rw [h1, List.length_take]; omega
            have hrun := run_loadCells_list (P := P) w ⟨b, o2, none⟩ us h2
            have hst := run_storeCells_put P l.b (l.s + off) e' fr us 0 c w hb (by omega) h3 (fun q hq => hf q hq)
            obtain ⟨a1, a2⟩ := hw.put he hl hb hn hss hcs hf hv (xs := cs.take (min n len)) (vs := us) (off := off) h1.symm (by rw [List.length_take]; omega) (fun j hj hj' => ⟨h4 j hj hj', h3 _ (List.getElem_mem hj')⟩)
            refine ⟨_, _, _, ?_, .cl (.v rfl), a1, a2⟩
            have hmn : Nat.min n len = us.length := hul.symm
            simp only [Nat.add_zero] at hst
            rw [← hul]
            simp only [Builtin.copy_, List.getElem?_toArray, List.getElem?_cons_zero, List.getElem?_cons_succ, Sem.run_bind, Sem.run_pure, Result.andThen_ok, run_underlying hu, Builtin.lenOf, hmn, sizeOf, typeInfo, Builtin.firstCells, hi, hsz, Nat.mul_one, hrun, hst, goInt]
            simp [hi, hsz, hrun, hst, goInt, hmn]
      · rw [if_neg hc] at h; cases h
    · cases h
  · cases h
end Go.SL

/- All operations but calls of functions. -/
namespace Go.SL
variable [BaseC]
set_option linter.unusedVariables false

/-- How a function is carried out: are its variables laid anew in place; may it write to what it makes of texts and literals? -/
structure Cfg where
  reuse : Bool := true
  mu : Bool := false
  /-- In a round of a range over a function. -/
  inR : Bool := false
  /-- The function. -/
  fn : FuncId := 0
  /-- What is closed ahead of a region. -/
  clo : Nat → List Tmp := fun _ => []

def evL (fr : Fr) : List Operand → Option (List CV)
  | [] => some []
  | o :: os => (evO fr o).bind fun x => (evL fr os).map (x :: ·)

theorem evL_vr {g : Gh} {fr : Fr} {a : Act} (h : FrR g fr a) : ∀ {os : List Operand} {xs : List CV}, evL fr os = some xs → xs.length = os.length ∧ ∀ i (hi : i < xs.length) (hi' : i < os.length), VR g xs[i] (a.eval os[i])
  | [], xs, hx => by simp only [evL, Option.some.injEq] at hx; subst hx; exact ⟨rfl, fun i hi => absurd hi (by simp)⟩
  | o :: os, xs, hx => by
    unfold evL at hx
    obtain ⟨x, h1, hx⟩ := Option.bind_eq_some_iff.1 hx
    obtain ⟨ys, h2, hx⟩ := Option.map_eq_some_iff.1 hx
    subst hx
    obtain ⟨h3, h4⟩ := evL_vr h h2
    refine ⟨by simp [h3], fun i hi hi' => ?_⟩
    cases i with
    | zero => exact evO_vr h h1
    | succ i => simpa using h4 i (by simpa using hi) (by simpa using hi')

theorem evL_list {g : Gh} {fr : Fr} {a : Act} (h : FrR g fr a) {os : Array Operand} {xs : List CV} (hx : evL fr os.toList = some xs) : ListR g xs (os.map a.eval) := by
  obtain ⟨h1, h2⟩ := evL_vr h hx
  refine ⟨by simpa using h1, fun i hi hi' => ?_⟩
  have := h2 i hi (by omega)
  simpa using this

def evP (fr : Fr) : List (Nat × Operand) → Option (List (Nat × CV))
  | [] => some []
  | p :: ps => (evO fr p.2).bind fun x => (evP fr ps).map ((p.1, x) :: ·)

theorem evP_vr {g : Gh} {fr : Fr} {a : Act} (h : FrR g fr a) : ∀ {ps : List (Nat × Operand)} {xs : List (Nat × CV)}, evP fr ps = some xs → xs.length = ps.length ∧ ∀ i (hi : i < xs.length) (hi' : i < ps.length), xs[i].1 = ps[i].1 ∧ VR g xs[i].2 (a.eval ps[i].2)
  | [], xs, hx => by simp only [evP, Option.some.injEq] at hx; subst hx; exact ⟨rfl, fun i hi => absurd hi (by simp)⟩
  | p :: ps, xs, hx => by
    unfold evP at hx
    obtain ⟨x, h1, hx⟩ := Option.bind_eq_some_iff.1 hx
    obtain ⟨ys, h2, hx⟩ := Option.map_eq_some_iff.1 hx
    subst hx
    obtain ⟨h3, h4⟩ := evP_vr h h2
    refine ⟨by simp [h3], fun i hi hi' => ?_⟩
    cases i with
    | zero => exact ⟨rfl, evO_vr h h1⟩
    | succ i => simpa using h4 i (by simpa using hi) (by simpa using hi')

theorem evP_parts {g : Gh} {fr : Fr} {a : Act} (h : FrR g fr a) {ps : Array (Nat × Operand)} {xs : List (Nat × CV)} (hx : evP fr ps.toList = some xs) : PartsR g xs (ps.map fun (i, x) => (i, a.eval x)) := by
  obtain ⟨h1, h2⟩ := evP_vr h hx
  refine ⟨by simpa using h1, fun i hi hi' => ?_⟩
  have := h2 i hi (by omega)
  simpa using this

def evM (fr : Fr) : Option Operand → Option (Option CV)
  | none => some none
  | some o => (evO fr o).map some

theorem evM_vr {g : Gh} {fr : Fr} {a : Act} (h : FrR g fr a) {o : Option Operand} {x : Option CV} (hx : evM fr o = some x) : OptR g x (o.map a.eval) := by
  cases o with
  | none => cases hx; trivial
  | some o =>
    obtain ⟨y, h1, h2⟩ := Option.map_eq_some_iff.1 hx
    subst h2
    exact evO_vr h h1

/-- The builtin functions. -/
def dBuiltin (P : Program) (b : Builtin) (ts : List TypeId) (xs : List CV) (H : Hp) : Option (CV × Hp) :=
  match b with
  | .append => (match ts, xs with | [t, tx], [s, x] => dAppend P t tx s x H | _, _ => none)
  | .len => (match ts, xs with | [t], [x] => (dLenS P t x H).map (·, H) | _, _ => none)
  | .max => (dMax mx xs).map (·, H)
  | .min => (dMax mn xs).map (·, H)
  | .copy => (match ts, xs with | [t, _], [s, x] => dCopy P t s x H | _, _ => none)
  | .unsafeSliceData => (match xs with | [x] => (dUnsD x H).map (·, H) | _ => none)
  | .unsafeString => (match ts, xs with | [pt, _], [x, n] => dUnsS P pt x n H | _, _ => none)
  | _ => none

/-- An operation that is no call of a function. -/
def opE (P : Program) (cfg : Cfg) (fr : Fr) (old : CV) (H : Hp) : Op → Option (CV × Hp)
  | .move x | .assign x => (evO fr x).map fun x => (unlit x, H)
  | .pick c a b => (evO fr c).bind fun c => match c with | .v (.bool t) => (evO fr (if t then a else b)).map (·, H) | _ => none
  | .alloc t => if cfg.reuse then (match dRealloc P t old H with | some r => some r | none => dAlloc P t H) else dAlloc P t H
  | .box t x => (evO fr x).bind fun x => dBox t x H
  | .build t ps => (evP fr ps.toList).bind fun ps => (dBuild P t ps).map (·, H)
  | .buildSlice t n ps => (evP fr ps.toList).bind fun ps => dBuildSlice P t n ps H cfg.mu
  | .load t x => (evO fr x).bind fun x => (dLoad P t x H).map (·, H)
  | .store t x y => (evO fr x).bind fun x => (evO fr y).bind fun y => (dStore P t x y H).map (CV.tup [], ·)
  | .nilCheck x => (evO fr x).bind fun x => if (atP H x).isSome then some (x, H) else none
  | .binOp op t x y _ => (evO fr x).bind fun x => (evO fr y).bind fun y => (dBin P op t x y H).map (·, H)
  | .unOp op _ x => (evO fr x).bind fun x => (dUn op x).map (·, H)
  | .convert s d x => (evO fr x).bind fun x => match dConv P s d x H with
      | some y => some (y, H)
      | none => match dB2B P s d x with
        | some y => some (y, H)
        | none => dS2B P s d x H cfg.mu
  | .makeInterface t x => (evO fr x).bind fun x => if P.concrete t then some (.ifc t (unlit x), H) else none
  | .makeFunc (.func f) fs cs => (evL fr fs.toList).bind fun fs => (evL fr cs.toList).map fun cs => (.fn (.func f) fs cs, H)
  | .makeMap _ none => some (.mp H.length 0, H ++ [.map 0 [] 0])
  | .slice t x lo hi none => (evO fr x).bind fun x => (evM fr lo).bind fun lo => (evM fr hi).bind fun hi => (dSlice P t x lo hi H).map (·, H)
  | .fieldAddr t x f => (evO fr x).bind fun x => (dFieldAddr P t x f H).map (·, H)
  | .field t x f => (evO fr x).bind fun x => (dField P t x f).map (·, H)
  | .indexAddr t x i => (evO fr x).bind fun x => (evO fr i).bind fun i => (dIndexAddr P t x i H).map (·, H)
  | .index t x i => (evO fr x).bind fun x => (evO fr i).bind fun i => (dIndex P t x i).map (·, H)
  | .lookup t x i ok => (evO fr x).bind fun x => (evO fr i).bind fun i => (dLookup P t x i ok H).map (·, H)
  | .mapUpdate t m k x | .insert t m k x => (evO fr m).bind fun m => (evO fr k).bind fun k => (evO fr x).bind fun x => (dMapUpd P t m k x H).map (CV.tup [], ·)
  | .extract x i => (evO fr x).bind fun x => (dExtract x i).map (·, H)
  | .call c => match c.callee with
    | .builtin b => (evL fr c.args.toList).bind fun xs => dBuiltin P b c.argTypes.toList xs H
    | _ => none
  | _ => none

theorem good_bind {P : Program} {g : Gh} {H H2 : Hp} {w : World} {s : Sem Value} {x : CV} (h : GoodV P g H w (s.run P w) x H2) : Good P g H w ((do pure (.value (← s)) : Sem Next).run P w) x H2 := h.value

theorem good_unit {P : Program} {g : Gh} {H H2 : Hp} {w : World} {s : Sem Unit} (h : ∃ g2 w2, s.run P w = .ok () w2 ∧ WR g2 H2 w2 ∧ Evo g H w g2 H2 w2) : Good P g H w ((do s; pure .skip : Sem Next).run P w) (.tup []) H2 := by
  obtain ⟨g2, w2, h1, h2, h3⟩ := h
  exact ⟨undef, g2, w2, .inr ⟨by simp [h1], rfl⟩, .cl .undef, h2, h3⟩

theorem good_pure {P : Program} {g : Gh} {H : Hp} {w : World} {x : CV} {v : Value} (hw : WR g H w) (h : VR g x v) : Good P g H w ((pure (.value v) : Sem Next).run P w) x H :=
  ⟨v, g, w, .inl rfl, h, hw, Evo.refl g H w⟩

theorem max2_run {P : Program} {w : World} (k : IntKind) (a : Int) (k' : IntKind) (b : Int) : (Builtin.max2 (.int k a) (.int k' b)).run P w = .ok (.int k (mx a b)) w := rfl
theorem min2_run {P : Program} {w : World} (k : IntKind) (a : Int) (k' : IntKind) (b : Int) : (Builtin.min2 (.int k a) (.int k' b)).run P w = .ok (.int k (mn a b)) w := rfl

theorem ListR.two {g : Gh} {x y : CV} {vs : Array Value} (h : ListR g [x, y] vs) : ∃ u v, vs = #[u, v] ∧ VR g x u ∧ VR g y v := by
  obtain ⟨h1, h2⟩ := h
  match hv : vs.toList, h1 with
  | [u, v], _ =>
    have e : vs = #[u, v] := by apply Array.ext'; simpa using hv
    subst e
    exact ⟨u, v, rfl, h2 0 (by simp) (by simp), h2 1 (by simp) (by simp)⟩
theorem ListR.one {g : Gh} {x : CV} {vs : Array Value} (h : ListR g [x] vs) : ∃ u, vs = #[u] ∧ VR g x u := by
  obtain ⟨h1, h2⟩ := h
  match hv : vs.toList, h1 with
  | [u], _ =>
    have e : vs = #[u] := by apply Array.ext'; simpa using hv
    subst e
    exact ⟨u, rfl, h2 0 (by simp) (by simp)⟩

theorem dBuiltin_good {P : Program} {g : Gh} {H H2 : Hp} {w : World} {b : Builtin} {argTypes : Array TypeId} {xs : List CV} {vs : Array Value} {y : CV} {ty : TypeId} {cn : Array Bool} (hw : WR g H w) (hl : ListR g xs vs)
    (h : dBuiltin P b argTypes.toList xs H = some (y, H2)) : Good P g H w ((builtin b argTypes ty cn vs).run P w) y H2 := by
  cases b with
  | append =>
    simp only [dBuiltin] at h
    split at h
    · rename_i t tx s x ht
      obtain ⟨u, v, hv, h3, h4⟩ := hl.two
      have hat : argTypes = #[t, tx] := by apply Array.ext'; simpa using ht
      rw [hv, hat]
      exact good_bind (s := Builtin.append_ _ ty _) (dAppend_good hw h3 h4 h)
    · cases h
  | len =>
    simp only [dBuiltin] at h
    split at h
    · rename_i t x ht
      obtain ⟨u, hv, h3⟩ := hl.one
      have hat : argTypes = #[t] := by apply Array.ext'; simpa using ht
      obtain ⟨q, h4, h5⟩ := Option.map_eq_some_iff.1 h
      cases h5
      rw [hv, hat]
      exact good_bind (s := Builtin.len_ _ ty _) (dLenS_good hw h3 h4)
    · cases h
  | max =>
    obtain ⟨q, h4, h5⟩ := Option.map_eq_some_iff.1 h
    cases h5
    refine good_bind (s := Builtin.max_ argTypes ty vs) ?_
    have := dMax_good (P := P) (m := Builtin.max2) hw (fun k a k' b => max2_run k a k' b) hl h4
    unfold Builtin.max_
    cases hv : vs.toList with
    | nil =>
      obtain ⟨l1, _⟩ := hl
      rw [hv] at l1
      have : xs = [] := List.eq_nil_of_length_eq_zero (by simpa using l1)
      subst this
      simp [dMax] at h4
    | cons x rest => rw [hv] at this; exact this
  | min =>
    obtain ⟨q, h4, h5⟩ := Option.map_eq_some_iff.1 h
    cases h5
    refine good_bind (s := Builtin.min_ argTypes ty vs) ?_
    have := dMax_good (P := P) (m := Builtin.min2) hw (fun k a k' b => min2_run k a k' b) hl h4
    unfold Builtin.min_
    cases hv : vs.toList with
    | nil =>
      obtain ⟨l1, _⟩ := hl
      rw [hv] at l1
      have : xs = [] := List.eq_nil_of_length_eq_zero (by simpa using l1)
      subst this
      simp [dMax] at h4
    | cons x rest => rw [hv] at this; exact this
  | copy =>
    simp only [dBuiltin] at h
    split at h
    · rename_i t tx s x ht
      obtain ⟨u, v, hv, h3, h4⟩ := hl.two
      have hat : argTypes = #[t, tx] := by apply Array.ext'; simpa using ht
      rw [hv, hat]
      exact good_bind (s := Builtin.copy_ _ ty _) (dCopy_good hw h3 h4 h)
    · cases h
  | unsafeSliceData =>
    simp only [dBuiltin] at h
    split at h
    · rename_i x
      obtain ⟨u, hv, h3⟩ := hl.one
      obtain ⟨q, h4, h5⟩ := Option.map_eq_some_iff.1 h
      cases h5
      rw [hv]
      exact good_bind (s := Builtin.unsafeSliceData_ _ ty _) (dUnsD_good hw h3 h4)
    · cases h
  | unsafeString =>
    simp only [dBuiltin] at h
    split at h
    · rename_i pt it x n ht
      obtain ⟨u, v, hv, h3, h4⟩ := hl.two
      have hat : argTypes = #[pt, it] := by apply Array.ext'; simpa using ht
      rw [hv, hat]
      exact good_bind (s := Builtin.unsafeString_ _ ty _) (dUnsS_good hw h3 h4 h)
    · cases h
  | _ => cases h

theorem opE_good {P : Program} {cfg : Cfg} {g : Gh} {H H2 : Hp} {w : World} {fr : Fr} {a : Act} {old y : CV} (hw : WR g H w) (hf : FrR g fr a) (o : Oper) (h : opE P cfg fr old H o.op = some (y, H2)) :
    Good P g H w ((execOp a.eval o).run P w) y H2 := by
  obtain ⟨dst, op, ty, pos, after, guard⟩ := o
  simp only at h
  cases op with
  | move x =>
    obtain ⟨z, h1, h2⟩ := Option.map_eq_some_iff.1 h
    cases h2
    exact good_pure hw (evO_vr hf h1).unlit
  | assign x =>
    obtain ⟨z, h1, h2⟩ := Option.map_eq_some_iff.1 h
    cases h2
    exact good_pure hw (evO_vr hf h1).unlit
  | pick c x z =>
    obtain ⟨cv, h1, h⟩ := Option.bind_eq_some_iff.1 h
    have hc := evO_vr hf h1
    split at h
    · rename_i t
      obtain ⟨q, h2, h3⟩ := Option.map_eq_some_iff.1 h
      cases h3
      obtain ⟨hc, _⟩ := hc.atom
      refine ⟨_, g, w, .inl ?_, evO_vr hf h2, hw, Evo.refl g H w⟩
      simp only [execOp, Sem.run_bind, hc, asBool, Sem.run_pure, Result.andThen_ok]
      cases t <;> rfl
    · cases h
  | alloc t =>
    refine good_bind (s := Instr.alloc t true (.tuple #[])) ?_
    simp only [opE] at h
    split at h
    · split at h
      · rename_i r hr; cases h; exact dRealloc_good hw hr
      · exact dAlloc_good hw h
    · exact dAlloc_good hw h
  | box t x =>
    obtain ⟨z, h1, h⟩ := Option.bind_eq_some_iff.1 h
    exact good_bind (s := Instr.box t (a.eval x)) (dBox_good hw (evO_vr hf h1) h)
  | build t ps =>
    obtain ⟨z, h1, h⟩ := Option.bind_eq_some_iff.1 h
    obtain ⟨q, h2, h3⟩ := Option.map_eq_some_iff.1 h
    cases h3
    exact good_bind (s := Instr.build t _) (dBuild_good hw (evP_parts hf h1) h2)
  | buildSlice t n ps =>
    obtain ⟨z, h1, h⟩ := Option.bind_eq_some_iff.1 h
    exact good_bind (s := Instr.buildSlice t n _) (dBuildSlice_good hw (evP_parts hf h1) h)
  | load t x =>
    obtain ⟨z, h1, h⟩ := Option.bind_eq_some_iff.1 h
    obtain ⟨q, h2, h3⟩ := Option.map_eq_some_iff.1 h
    cases h3
    exact good_bind (s := Instr.loadAt t _) (dLoad_good hw (evO_vr hf h1) h2)
  | store t x z =>
    obtain ⟨xv, h1, h⟩ := Option.bind_eq_some_iff.1 h
    obtain ⟨zv, h2, h⟩ := Option.bind_eq_some_iff.1 h
    obtain ⟨q, h3, h4⟩ := Option.map_eq_some_iff.1 h
    cases h4
    exact good_unit (s := Instr.storeAt t _ _) (dStore_good hw (evO_vr hf h1) (evO_vr hf h2) h3)
  | nilCheck x =>
    obtain ⟨z, h1, h⟩ := Option.bind_eq_some_iff.1 h
    split at h
    · rename_i hs
      cases h
      obtain ⟨rest, hr⟩ := Option.isSome_iff_exists.1 hs
      have hx := evO_vr hf h1
      obtain ⟨b, o, hv, _⟩ := hw.at_ptr hx hr
      refine ⟨_, g, w, .inl ?_, hx, hw, Evo.refl g H w⟩
      simp only [execOp, hv, Sem.run_pure]
    · cases h
  | binOp op t x z t2 =>
    obtain ⟨xv, h1, h⟩ := Option.bind_eq_some_iff.1 h
    obtain ⟨zv, h2, h⟩ := Option.bind_eq_some_iff.1 h
    obtain ⟨q, h3, h4⟩ := Option.map_eq_some_iff.1 h
    cases h4
    exact good_bind (s := binRun op t x z _ _) (dBin_good hw (evO_vr hf h1) (evO_vr hf h2) h3)
  | unOp op t x =>
    obtain ⟨xv, h1, h⟩ := Option.bind_eq_some_iff.1 h
    obtain ⟨q, h3, h4⟩ := Option.map_eq_some_iff.1 h
    cases h4
    exact good_bind (s := Op.unary op _) (dUn_good hw (evO_vr hf h1) h3)
  | convert s d x =>
    obtain ⟨xv, h1, h⟩ := Option.bind_eq_some_iff.1 h
    refine good_bind (s := convert s d _) ?_
    split at h
    · rename_i q hq; cases h; exact dConv_good hw (evO_vr hf h1) hq
    · split at h
      · rename_i q hq; cases h; exact dB2B_good hw (evO_vr hf h1) hq
      · exact dS2B_good hw (evO_vr hf h1) h
  | makeInterface t x =>
    obtain ⟨xv, h1, h⟩ := Option.bind_eq_some_iff.1 h
    split at h
    · rename_i hc
      cases h
      exact good_bind (s := Instr.makeInterface t _) (.same hw (run_makeInterface w t _ hc) (.ifc (evO_vr hf h1).unlit))
    · cases h
  | makeFunc f fs cs =>
    cases f with
    | func f =>
      obtain ⟨xs, h1, h⟩ := Option.bind_eq_some_iff.1 h
      obtain ⟨ys, h2, h3⟩ := Option.map_eq_some_iff.1 h
      cases h3
      obtain ⟨a1, a2⟩ := evL_list hf h1
      obtain ⟨b1, b2⟩ := evL_list hf h2
      refine good_bind (s := Instr.makeFunc _ _ _) (.same hw rfl (.fn (by simpa using a1) (by simpa using b1) (fun i hi hi' => ?_) (fun i hi hi' => ?_) (fun l e => by cases e)))
      · have := a2 i hi (by simpa using hi'); simpa using this
      · have := b2 i hi (by simpa using hi'); simpa using this
    | _ => cases h
  | makeMap t r =>
    cases r with
    | some r => cases h
    | none =>
      cases h
      obtain ⟨f1, f2, f3⟩ := hw.free_new (Nat.le_refl w.heap.size)
      have hb : (w.alloc (.map #[] 0)).heap[w.heap.size]? = some (.map #[] 0) := heap_alloc_new w _
      have a1 := (hw.later (later_alloc w (.map #[] 0))).add (.map 0 [] 0) ⟨w.heap.size, 0, 0, 0⟩ f1 f2 f3 ⟨rfl, #[], hb, rfl, fun i hi => absurd hi (by simp)⟩ fun _ _ h => by cases h
      refine good_bind (s := Instr.makeMap t none) ⟨.map (some w.heap.size), _, w.alloc (.map #[] 0), by simp [Instr.makeMap], VR.mp (l := ⟨w.heap.size, 0, 0, 0⟩) (g.add_last hw _) rfl, a1,
        ⟨rfl, rfl, rfl, by simp, fun b hb _ => heap_alloc_lt w _ b hb, fun b hb => (hb.add hw.len).imp (fun e => by rw [e]; exact Nat.le_refl _) id, fun _ _ _ h => h, locs_app g _, fun _ h => h⟩⟩
  | slice t x lo hi mx' =>
    cases mx' with
    | some m => cases h
    | none =>
      obtain ⟨xv, h1, h⟩ := Option.bind_eq_some_iff.1 h
      obtain ⟨lv, h2, h⟩ := Option.bind_eq_some_iff.1 h
      obtain ⟨hv, h3, h⟩ := Option.bind_eq_some_iff.1 h
      obtain ⟨q, h4, h5⟩ := Option.map_eq_some_iff.1 h
      cases h5
      exact good_bind (s := Instr.sliceAt t _ _ _ none) (dSlice_good hw (evO_vr hf h1) (evM_vr hf h2) (evM_vr hf h3) h4)
  | fieldAddr t x f =>
    obtain ⟨xv, h1, h⟩ := Option.bind_eq_some_iff.1 h
    obtain ⟨q, h4, h5⟩ := Option.map_eq_some_iff.1 h
    cases h5
    exact good_bind (s := Instr.fieldAt t _ f) (dFieldAddr_good hw (evO_vr hf h1) h4)
  | field t x f =>
    obtain ⟨xv, h1, h⟩ := Option.bind_eq_some_iff.1 h
    obtain ⟨q, h4, h5⟩ := Option.map_eq_some_iff.1 h
    cases h5
    exact good_bind (s := Instr.field t _ f) (dField_good hw (evO_vr hf h1) h4)
  | indexAddr t x i =>
    obtain ⟨xv, h1, h⟩ := Option.bind_eq_some_iff.1 h
    obtain ⟨iv, h2, h⟩ := Option.bind_eq_some_iff.1 h
    obtain ⟨q, h4, h5⟩ := Option.map_eq_some_iff.1 h
    cases h5
    exact good_bind (s := Instr.indexAt t _ _) (dIndexAddr_good hw (evO_vr hf h1) (evO_vr hf h2) h4)
  | index t x i =>
    obtain ⟨xv, h1, h⟩ := Option.bind_eq_some_iff.1 h
    obtain ⟨iv, h2, h⟩ := Option.bind_eq_some_iff.1 h
    obtain ⟨q, h4, h5⟩ := Option.map_eq_some_iff.1 h
    cases h5
    exact good_bind (s := Instr.index t _ _) (dIndex_good hw (evO_vr hf h1) (evO_vr hf h2) h4)
  | lookup t x i ok =>
    obtain ⟨xv, h1, h⟩ := Option.bind_eq_some_iff.1 h
    obtain ⟨iv, h2, h⟩ := Option.bind_eq_some_iff.1 h
    obtain ⟨q, h4, h5⟩ := Option.map_eq_some_iff.1 h
    cases h5
    exact good_bind (s := Instr.lookup t _ _ ok) (dLookup_good hw (evO_vr hf h1) (evO_vr hf h2) h4)
  | mapUpdate t m k x =>
    obtain ⟨mv, h1, h⟩ := Option.bind_eq_some_iff.1 h
    obtain ⟨kv, h2, h⟩ := Option.bind_eq_some_iff.1 h
    obtain ⟨xv, h3, h⟩ := Option.bind_eq_some_iff.1 h
    obtain ⟨q, h4, h5⟩ := Option.map_eq_some_iff.1 h
    cases h5
    exact good_unit (s := Instr.mapUpdate t _ _ _) (dMapUpd_good hw (evO_vr hf h1) (evO_vr hf h2) (evO_vr hf h3) h4)
  | insert t m k x =>
    obtain ⟨mv, h1, h⟩ := Option.bind_eq_some_iff.1 h
    obtain ⟨kv, h2, h⟩ := Option.bind_eq_some_iff.1 h
    obtain ⟨xv, h3, h⟩ := Option.bind_eq_some_iff.1 h
    obtain ⟨q, h4, h5⟩ := Option.map_eq_some_iff.1 h
    cases h5
    exact good_unit (s := Instr.mapUpdate t _ _ _) (dMapUpd_good hw (evO_vr hf h1) (evO_vr hf h2) (evO_vr hf h3) h4)
  | extract x i =>
    obtain ⟨xv, h1, h⟩ := Option.bind_eq_some_iff.1 h
    obtain ⟨q, h4, h5⟩ := Option.map_eq_some_iff.1 h
    cases h5
    exact good_bind (s := Instr.extract _ i) (dExtract_good hw (evO_vr hf h1) h4)
  | call c =>
    obtain ⟨callee, args, argTypes⟩ := c
    cases callee with
    | value f => cases h
    | invoke r m => cases h
    | builtin b =>
      obtain ⟨xs, h1, h⟩ := Option.bind_eq_some_iff.1 h
      have hl := evL_list hf h1
      simp only at h hl
      unfold execOp
      simp only [resolve, Sem.run_bind, Sem.run_pure, Result.andThen_ok, invoke]
      exact dBuiltin_good hw hl h
  | _ => cases h

end Go.SL

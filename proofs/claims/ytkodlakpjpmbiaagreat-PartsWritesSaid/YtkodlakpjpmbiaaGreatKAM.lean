/- The functions that are known otherwise are as is said. -/
import Derived.Test.YtkodlakpjpmbiaaGreatKAL
import Derived.Test.YtkodlakpjpmbiaaGreatShelf
import Derived.KernelRfl
import Derived.Shelf.Bytes.SlIndexWhole
import Derived.Lib.IndexLaws
import Derived.Below
import Derived.Test.YtkodlakpjpmbiaaGreatRows
import Derived.ProofKit
import Derived.HandedShaped
import Derived.Shelf.Vars
import Derived.ChangeSlices
import Derived.Carry
import Derived.OpenShut
import Derived.Deep.Strs
import Derived.Test.YtkodlakpjpmbiaaGreatKAJ

set_option linter.all false

namespace Go.SL
/-- A number that a variable of the library holds. -/
class MaxC where
  mx : Int
instance maxB [MaxC] : BaseC := ⟨fun b o => if b = 0 ∧ o = 0 then some (.int .i64 MaxC.mx) else none⟩
theorem WR.drewN [BaseC] {g : Gh} {H : Hp} {w : World} (h : WR g H w) (n : Nat) : WR g H (w.drewN n) :=
  ⟨h.len, fun id o l a b => (h.obj id o l a b).congr (w2 := w.drewN n) rfl, h.inj, fun b o v hb => h.im b o v hb, h.dis, h.own, h.base⟩
theorem Evo.drewN (g : Gh) (H : Hp) (w : World) (n : Nat) : Evo g H w g H (w.drewN n) := ⟨rfl, rfl, rfl, Nat.le_refl _, fun _ _ _ => rfl, fun _ h => .inr h, fun _ _ _ h => h, locs_refl g, fun _ h => h⟩
end Go.SL
namespace Go.Proofs.Tryz
open Go Go.SL
set_option linter.unusedVariables false

theorem fx110 : Extern.findNext f110 = none := by kernel_rfl
theorem fe110 : Extern.find f110 = some Extern.BytealgIndexByte.indexByte := by kernel_rfl
theorem call110 (s : ByteArray) (c : Int) (w : World) : (callFunc 110 #[.string s, .int .u8 c]).run prog w = .ok (.value (.int .i64 (Lib.indexByte s.data.toList c.toNat.toUInt8))) w := by
  have hn : ¬ f110.name = "runtime.NumGoroutine" := by decide
  have hb : f110.body = none := rfl
  have hr := Lib.run_indexByteString (P := prog) s c w
  simp [callFunc, func110, hn, hb, fx110, fe110, hr]
theorem enter80 (vs : Array Value) (w : World) : (callFunc 80 vs).run prog w = .ok (.enter 80 vs) w := by
  have hn : ¬ f80.name = "runtime.NumGoroutine" := by decide
  have hb : ¬ f80.body = none := by intro h; cases h
  simp [callFunc, func80, hn, hb]
theorem enter100 (vs : Array Value) (w : World) : (callFunc 100 vs).run prog w = .ok (.enter 100 vs) w := by
  have hn : ¬ f100.name = "runtime.NumGoroutine" := by decide
  have hb : ¬ f100.body = none := by intro h; cases h
  simp [callFunc, func100, hn, hb]
theorem enter90 (vs : Array Value) (w : World) : (callFunc 90 vs).run prog w = .ok (.enter 90 vs) w := by
  have hn : ¬ f90.name = "runtime.NumGoroutine" := by decide
  have hb : ¬ f90.body = none := by intro h; cases h
  simp [callFunc, func90, hn, hb]
/-- Arguments, one by one. -/
theorem list2 [BaseC] {g : Gh} {x y : CV} {vs : Array Value} (h : ListR g [x, y] vs) : ∃ u v, vs = #[u, v] ∧ VR g x u ∧ VR g y v := ListR.two h
variable [MaxC]
theorem idb_ok (m : Nat) (f : FuncId) (hf : f = 80 ∨ f = 110 ∨ f = 100) (args : List CV) (H : Hp) (r : CV) (H2 : Hp) (h : idbP args H = some (r, H2)) : CallS prog m f args H r H2 := by
  unfold idbP at h
  split at h
  · rename_i s c
    cases h
    intro g w vs hw hl
    obtain ⟨u, v, rfl, hu, hv⟩ := list2 hl
    obtain ⟨rfl, _⟩ := hu.atom
    obtain ⟨rfl, _⟩ := hv.atom
    refine ⟨Keeps.refl _ _, ?_⟩
    rcases hf with rfl | rfl | rfl
    · exact .inr ⟨enter80 _ _, (strings_IndexByte s c w).mono fun e w' ⟨he, hw'⟩ => by subst he hw'; exact ⟨_, g, rfl, .cl (.v rfl), hw, Evo.refl _ _ _⟩⟩
    · exact .inl ⟨_, g, w, call110 s c w, .cl (.v rfl), hw, Evo.refl _ _ _⟩
    · exact .inr ⟨enter100 _ _, (stringslite_IndexByte s c w).mono fun e w' ⟨he, hw'⟩ => by subst he hw'; exact ⟨_, g, rfl, .cl (.v rfl), hw, Evo.refl _ _ _⟩⟩
  · cases h
/-- Bytes that cells hold. -/
theorem cells_num {g : Gh} {w : World} {b o : Nat} {cs : List CV} {ns : List Int} (hn : numsOf cs = some ns) (hh : Holds g w b o cs) (i : Nat) (hi : i < ns.length) : w.cell? ((⟨b, o, none⟩ : Addr).add i) = some (.int .u8 (ns.getD i 0)) := by
  obtain ⟨hl, hg⟩ := numsOf_get hn
  obtain ⟨u, h1, _, h3⟩ := hh i (by omega)
  rw [hg i (by omega)] at h3
  obtain ⟨rfl, _⟩ := h3.atom
  rw [Lib.add_plain']; exact h1
theorem idx_ok (m : Nat) (args : List CV) (H : Hp) (r : CV) (H2 : Hp) (h : idxP args H = some (r, H2)) : CallS prog m 90 args H r H2 := by
  unfold idxP at h
  split at h
  · rename_i x y
    obtain ⟨⟨cx, nx⟩, hx, h⟩ := Option.bind_eq_some_iff.1 h
    obtain ⟨⟨cy, ny⟩, hy, h⟩ := Option.bind_eq_some_iff.1 h
    obtain ⟨xs, hxs, h⟩ := Option.bind_eq_some_iff.1 h
    obtain ⟨ys, hys, h⟩ := Option.bind_eq_some_iff.1 h
    simp only at hx hy hxs hys h
    split at h
    · rename_i hc
      obtain ⟨h1, h2, h3, h4, h5, h6⟩ := hc
      cases h
      intro g w vs hw hl
      obtain ⟨u, v, rfl, hu, hv⟩ := list2 hl
      refine ⟨Keeps.refl _ _, .inr ⟨enter90 _ _, ?_⟩⟩
      have hmx : w.cell? ⟨0, 0, none⟩ = some (.int .i64 MaxC.mx) := (hw.im 0 0 _ (hw.base 0 0 _ (by simp [BaseC.im]))).1
      have hbig : xs.length < 4294967281 := by unfold big at h3; omega
      rcases hw.at_sl hv hy with ⟨rfl, _, hn0⟩ | ⟨a2, b2, o2, c2, rfl, hcap2, ha2, hh2, _⟩
      · omega
      have hlen2 := (numsOf_get hys).1
      rcases hw.at_sl hu hx with ⟨rfl, rfl, hn0⟩ | ⟨a1, b1, o1, c1, rfl, hcap1, ha1, hh1, hz1⟩
      · have hxs0 : xs = [] := by simp [numsOf] at hxs; exact hxs
        subst hxs0
        have hidx : Lib.index (Lib.bytesOf []) (Lib.bytesOf ys) = -1 := Lib.index_long (by simp [Lib.bytesOf]) (by
          intro e
          have := congrArg List.length e
          simp [Lib.bytesOf] at this
          rw [this] at h4; simp at h4)
        rw [hidx]
        subst h2
        refine (Any.bytes_Index_nil lays185 _ ys.length c2 w (by omega) (fun h => by omega)).mono fun e w' ⟨he, hw'⟩ => ?_
        subst he hw'
        rw [if_neg (by omega)]
        exact ⟨_, g, rfl, .cl (.v rfl), hw, Evo.refl _ _ _⟩
      · by_cases hx0 : xs.length = 0
        · have hxs0 : xs = [] := List.eq_nil_of_length_eq_zero hx0
          subst hxs0
          have hidx : Lib.index (Lib.bytesOf []) (Lib.bytesOf ys) = -1 := Lib.index_long (by simp [Lib.bytesOf]) (by
            intro e
            have := congrArg List.length e
            simp [Lib.bytesOf] at this
            rw [this] at h4; simp at h4)
          rw [hidx]
          subst h1 h2
          refine (Any.bytes_Index_longer lays185 (some a1) (some a2) 0 c1 ys.length c2 w (by omega) (by omega) (by omega)).mono fun e w' ⟨he, hw'⟩ => ?_
          subst he hw'
          exact ⟨_, g, rfl, .cl (.v rfl), hw, Evo.refl _ _ _⟩
        subst h1 h2
        obtain rfl := ha1 (by omega)
        obtain rfl := ha2 (by omega)
        refine (Any.bytes_Index_at lays185 ⟨b1, o1, none⟩ ⟨b2, o2, none⟩ xs.length c1 ys.length c2 xs ys MaxC.mx w rfl rfl h5 h6 (fun i hi => cells_num hxs (hh1 (by omega)) i hi) (fun i hi => cells_num hys (hh2 (by omega)) i hi) hcap1 hbig (by omega) hmx).mono fun e w' ⟨he, q, hw'⟩ => ?_
        subst he hw'
        exact ⟨_, g, rfl, .cl (.v rfl), hw.drewN q, Evo.drewN _ _ _ _⟩
    · cases h
  · cases h
@[reducible] def L0 : LayerC := ⟨false⟩
@[reducible] def L1 : LayerC := ⟨true⟩
theorem prim0 : PrimOK prog (@cs0 L0) := by
  intro f p hp m args H r H2 h
  have hp : (if f = 90 then some idxP else if f = 80 ∨ f = 110 ∨ f = 100 then some idbP else if (f == 54) && false then some lowP else if (f == 88) && false then some tokP else none) = some p := hp
  split at hp
  · rename_i hf; cases hp; subst hf; exact idx_ok m args H r H2 h
  · split at hp
    · rename_i hf; cases hp; exact idb_ok m f hf args H r H2 h
    · simp at hp
omit [MaxC] in
theorem noGo : ∀ (f : FuncId) (fn : Func), prog.funcs[f]? = some fn → fn.name ≠ "runtime.NumGoroutine" := by
  have h : (prog.funcs.toList.all fun fn => fn.name != "runtime.NumGoroutine") = true := by kernel_rfl
  intro f fn hf e
  have := List.all_eq_true.1 h fn (Array.mem_toList_iff.2 (Array.mem_of_getElem? hf))
  rw [e] at this
  simp at this
theorem low_ok (m : Nat) (args : List CV) (H : Hp) (r : CV) (H2 : Hp) (h : lowP args H = some (r, H2)) : CallS prog m 54 args H r H2 := by
  unfold lowP at h
  split at h
  · rename_i s
    split at h
    · rename_i hs
      cases h
      obtain ⟨k, y, hk, h1, h2⟩ := @w54 L0 m s.data.toList H hs
      obtain ⟨y1, y2⟩ := y
      simp only at h1 h2
      subst h1
      rw [h2] at hk
      exact (evCall_good prim0 noGo k).1 m 54 _ H _ H hk
    · cases h
  · cases h
theorem tok_ok (m : Nat) (args : List CV) (H : Hp) (r : CV) (H2 : Hp) (h : tokP args H = some (r, H2)) : CallS prog m 88 args H r H2 := by
  unfold tokP at h
  split at h
  · rename_i s
    split at h
    · rename_i hs
      cases h
      obtain ⟨k, y, hk, h1, h2⟩ := @w88 L0 m s.data.toList H hs
      obtain ⟨y1, y2⟩ := y
      simp only at h1 h2
      subst h1
      rw [h2] at hk
      exact (evCall_good prim0 noGo k).1 m 88 _ H _ H hk
    · cases h
  · cases h
theorem prim1 : PrimOK prog (@cs0 L1) := by
  intro f p hp m args H r H2 h
  have hp : (if f = 90 then some idxP else if f = 80 ∨ f = 110 ∨ f = 100 then some idbP else if (f == 54) && true then some lowP else if (f == 88) && true then some tokP else none) = some p := hp
  split at hp
  · rename_i hf; cases hp; subst hf; exact idx_ok m args H r H2 h
  · split at hp
    · rename_i hf; cases hp; exact idb_ok m f hf args H r H2 h
    · split at hp
      · rename_i hf
        simp at hf
        cases hp; subst hf; exact low_ok m args H r H2 h
      · split at hp
        · rename_i hf
          simp at hf
          cases hp; subst hf; exact tok_ok m args H r H2 h
        · cases hp
end Go.Proofs.Tryz

/- From the evaluator to a row: the first world, and what a call leaves. -/
namespace Go.SL
open Go.RowKit
set_option linter.unusedVariables false
/-- A world, and no object. -/
def g0 (W : World) : Gh := ⟨[], fun b o => (W.cell? ⟨b, o, none⟩).filter (·.oneCell'), fun _ => False⟩
theorem WR.init [BaseC] {W : World} (h : ∀ b o v, BaseC.im b o = some v → W.cell? ⟨b, o, none⟩ = some v ∧ v.oneCell' = true) : WR (g0 W) [] W where
  len := rfl
  obj := fun id o l h => by simp at h
  inj := fun i j oi oj li lj h => by simp at h
  im := fun b o v hv => by
    simp only [g0, Option.filter_eq_some_iff] at hv
    exact ⟨hv.1, hv.2⟩
  dis := fun id o l h => by simp at h
  own := fun b hb => hb.elim
  base := fun b o v hv => by
    simp only [g0, Option.filter_eq_some_iff]
    exact h b o v hv
theorem Evo.below {W w2 : World} {g2 : Gh} {H2 : Hp} (h : Evo (g0 W) [] W g2 H2 w2) : Below W.heap.size W w2 :=
  ⟨h.os, h.tape, h.output, h.size, fun k hk => h.keep k hk (by
    rintro (h | ⟨id, o, l, h, _⟩)
    · exact h
    · simp at h)⟩
theorem im_g0 {W : World} {b o : Nat} {v : Value} (h : W.cell? ⟨b, o, none⟩ = some v) (h1 : v.oneCell' = true) : (g0 W).im b o = some v := by
  simp only [g0, Option.filter_eq_some_iff]; exact ⟨h, h1⟩
end Go.SL
namespace Go.Proofs.Tryz
open Go Go.SL Go.RowKit
set_option linter.unusedVariables false
/-- A law's walk, as a call from any world. -/
theorem law_calls {mx : Int} {f : FuncId} {fn : Func} {W : World} {xs : List CV} {vs : Array Value} (hf : prog.funcs[f]? = some fn) (hb : fn.body ≠ none) (hmx : W.cell? ⟨0, 0, none⟩ = some (.int .i64 mx)) (hl : ListR (g0 W) xs vs)
    (hr : @Ret prog (@cs0 L1) 0 f xs [] (.v (.bool true)) []) : Calls prog f vs W fun e W' => e = .returned (.bool true) ∧ Below W.heap.size W W' := by
  letI : MaxC := ⟨mx⟩
  have hw : WR (g0 W) [] W := WR.init fun b o v hv => by
    simp only [BaseC.im] at hv
    split at hv
    · rename_i hc
      obtain ⟨rfl, rfl⟩ := hc
      cases hv
      exact ⟨hmx, rfl⟩
    · cases hv
  obtain ⟨k, ⟨y1, y2⟩, hk, h1, h2⟩ := hr
  simp only at h1 h2
  subst h1
  rw [h2] at hk
  have henter : (callFunc f vs).run prog W = .ok (.enter f vs) W := by
    have := noGo f fn hf
    simp [callFunc, hf, this, hb]
  rcases ((evCall_good prim1 noGo k).1 0 f xs [] _ [] hk (g0 W) W vs hw hl).2 with ⟨v, g2, w2, h3, _⟩ | ⟨_, h3⟩
  · rw [henter] at h3; cases h3
  · refine h3.mono fun e w' ⟨v, g2, he, hv, _, hev⟩ => ?_
    obtain ⟨rfl, _⟩ := hv.atom
    exact ⟨he, hev.below⟩
/-- Bytes of a world, as an argument. -/
theorem byt_vr {W : World} {a : Option Addr} {len cap : Nat} {zs : List Int} (h : (a = none ∧ len = 0 ∧ cap = 0) ∨ ∃ x, a = some x ∧ x.spot = none ∧ len ≤ cap ∧ zs.length = cap ∧ (∀ i, i < zs.length → W.cell? (x.add i) = some (.int .u8 (zs.getD i 0))) ∧ ∀ n ∈ zs, 0 ≤ n ∧ n < 256) :
    ∃ x b, CB x b ∧ VR (g0 W) x (.slice a len cap) := by
  rcases h with ⟨rfl, rfl, rfl⟩ | ⟨x, rfl, hsp, hlc, hz, hc, hr⟩
  · exact ⟨nilC, [], .inr ⟨rfl, rfl, rfl⟩, .cl (.v rfl)⟩
  · obtain ⟨b, o, sp⟩ := x
    simp only at hsp
    subst hsp
    have hlen : ((zs.take len).map fun n => n.toNat.toUInt8).length = len := by simp; omega
    refine ⟨byt ((zs.take len).map fun n => n.toNat.toUInt8), _, .inl rfl, .cl ?_⟩
    unfold byt
    rw [hlen]
    refine .im (f := fun i => .int .u8 (zs.getD i 0)) (by simp; omega) hlc (fun _ => rfl) (fun i hi => ?_) fun i hi => ?_
    · simp at hi
      have := hc i (by omega)
      rw [Lib.add_plain'] at this
      exact im_g0 this rfl
    · simp at hi
      have hi' : i < zs.length := by omega
      have hg : zs.getD i 0 = zs[i] := by simp [List.getD, hi']
      have hrr := hr zs[i] (List.getElem_mem hi')
      have : (u8s ((zs.take len).map fun n => n.toNat.toUInt8))[i] = .v (.int .u8 (zs.getD i 0)) := by
        simp only [u8s, List.getElem_map, List.getElem_take, u8, hg]
        congr 2
        simp
        omega
      rw [this]
      exact .v rfl
end Go.Proofs.Tryz

/- The law PartsParses: for every input the call returns true, and the argument reads behind it as it did. -/
namespace Go.Proofs.YtkodlakpjpmbiaaGreat
open Go.ChangeShapes Go.WideShapes Go.ChangeAt Go.RowKit
set_option linter.unusedVariables false

theorem Tryz.own : ownKnob Tryz.prog.godebug = none := by kernel_rfl
theorem Tryz.laidOut : laidOutB Tryz.prog = true := by kernel_rfl
theorem max_cell {W : World} (h : W.ShapedOpen Tryz.prog) : ∃ m, W.cell? ⟨0, 0, none⟩ = some (.int .i64 m) :=
  cell_of_shapedOpen_int (t := 3) (zero := #[.int .i64 0]) h (of_decide_eq_true (by kernel_rfl)) (by kernel_rfl) rfl (by kernel_rfl) (by kernel_rfl) Tryz.underlying3
set_option maxRecDepth 100000 in
theorem parses_lifted (os : Os) (started : os.Started) (H : Type) (enc : TypeId × Value → H) :
    ReturnsInHanded {} Tryz.checked os 3 .any (Rows.partsParsesSpec.pre6 enc Tryz.prog Tryz.f3 Rows.partsParsesRow.domain false) (Rows.partsParsesSpec.post enc Tryz.prog Tryz.f3 false true false false) := by
  refine returnsInHanded_of_change_shaped (C := Tryz.checked) Tryz.own started (by kernel_rfl) Tryz.func3
    (ChangeSpec.witness6 (enc := enc) (C := Tryz.checked) false ⟨#[], #[.slice none 0 0], []⟩ 8 (by kernel_rfl) (by kernel_rfl) (by kernel_rfl) (by kernel_rfl)) ?_
  intro W base args ds gs before hval0 hW hcnd _ hsh _
  have hval : ∀ (j : Nat) t v, Tryz.f3.params[j]? = some t → args[j]? = some v → Value.okWide Tryz.prog W .any base t v := hval0
  have hW' := hW
  obtain ⟨p, q, hA0, hV, rfl, hfz, hnd⟩ := hW
  have hA : DataW.TrodAll enc Tryz.prog W 0 (fun _ => true) true Tryz.f3.params.toList args.toList ds p := hA0
  rw [Tryz.params3] at hA hval
  obtain ⟨v0, vs0, d0, ds0, p0, q0, hargs, rfl, rfl, h0, r0⟩ := trodAll_cons hA
  obtain ⟨rfl, rfl, rfl⟩ := trodAll_nil r0
  obtain rfl : args = #[v0] := by cases args; simp_all
  obtain ⟨rfl, rfl⟩ := trodVars_none hV
  have hok := hval 0 22 v0 rfl rfl
  obtain ⟨a0, len0, cap0, rfl⟩ := okWide_slice Tryz.underlying22 hok
  have k0 := h0
  have lt0 : ∀ x ∈ p0, x.block < W.heap.size := by obtain ⟨m, hm⟩ := k0; exact DataW.trod_lt m _ _ _ hm
  obtain ⟨zs, hz⟩ : ∃ zs : List Int, (a0 = none ∧ len0 = 0 ∧ cap0 = 0) ∨ ∃ x, a0 = some x ∧ x.spot = none ∧ len0 ≤ cap0 ∧ zs.length = cap0 ∧ (∀ i, i < zs.length → W.cell? (x.add i) = some (.int .u8 (zs.getD i 0))) ∧ ∀ n ∈ zs, 0 ≤ n ∧ n < 256 := by
    obtain ⟨fuel, hf⟩ := h0
    rcases open_ints Tryz.underlying22 Tryz.underlying5 (by kernel_rfl) hf with ⟨hcs, _⟩ | ⟨x, l, c, zs, hcs, _, hl, hm, hz, _, hcell, hwz⟩
    · simp [Value.cells] at hcs
      obtain ⟨rfl, rfl, rfl⟩ := hcs
      exact ⟨[], .inl ⟨rfl, rfl, rfl⟩⟩
    · simp [Value.cells] at hcs
      obtain ⟨rfl, rfl, rfl⟩ := hcs
      refine ⟨zs, .inr ⟨_, rfl, ?_, hl, by simpa using hz, hcell, fun n hn => ?_⟩⟩
      · have : W.has Tryz.prog .any base x 5 cap0 := by
          simp only [Value.okWide, Tryz.underlying22, Cell.okWide, Cell.ok] at hok
          exact hok.2.2
        exact this.2.1
      · have := hwz n hn
        simp [Lit.wf, IntKind.min, IntKind.max, IntKind.signed, IntKind.bits] at this
        omega
  obtain ⟨x, b, hx, hvr⟩ := Go.Proofs.Tryz.byt_vr hz
  obtain ⟨mx, hmx⟩ := max_cell hsh
  refine (Go.Proofs.Tryz.law_calls (mx := mx) (xs := [x]) Tryz.func3 (by intro h; cases h) hmx ⟨rfl, fun i hi hi' => by
    have : i = 0 := by simp at hi; exact hi
    subst this; exact hvr⟩ (@Go.Proofs.Tryz.w3 Go.Proofs.Tryz.L1 rfl 0 x b [] hx)).mono fun e W' ⟨he, bel⟩ => ?_
  subst he
  exact ⟨_, rfl, _, _, _, [], _, [], hW', trodAll_mk1 (shut_bool Tryz.underlying4 _), (trodAll_cons_mk (Below.trod Tryz.laidOut (by kernel_rfl) (of_decide_eq_true (by kernel_rfl)) k0 bel lt0) trodAll_mk0), rfl, bel.frame _, fun h => by cases h⟩
theorem partsParses_holds : Rows.PartsParsesSaid :=
  OpenClaim.holds_of_wide 3 Tryz.f3 rfl rfl rfl rfl rfl rfl rfl ⟨rfl, rfl, rfl, rfl, rfl⟩ rfl rfl rfl rfl rfl (by kernel_rfl) Tryz.func3 (by kernel_rfl)
    (of_decide_eq_true (by kernel_rfl)) (by unfold Func.isWrapper; first | (rw [if_pos (by decide +kernel)]; kernel_rfl) | (rw [if_neg (by decide +kernel)]; exact ⟨rfl, rfl⟩))
    (fun os started H enc _ => parses_lifted os started H enc)
end Go.Proofs.YtkodlakpjpmbiaaGreat

/- From the evaluator to a row: trees among the arguments. -/
namespace Go.SL
open Go.ChangeShapes Go.RowKit
set_option linter.unusedVariables false
section
variable {H : Type} {enc : TypeId × Value → H} {P : Program} {W : World} {base : Nat} {spare : Nat → Bool} {held : Bool}
/-- Cells that can be read stand at addresses without a spot. -/
theorem cell_addr {a : Addr} {u : Value} (h : W.cell? a = some u) : a = ⟨a.block, a.off, none⟩ := by
  obtain ⟨b, o, sp⟩ := a
  cases sp with
  | none => rfl
  | some s => simp [World.cell?] at h; split at h <;> simp at h
/-- A slice that is read, whose elements are. -/
theorem rd_sl {κ : Type} {R : κ → List CV → Prop} {t e : TypeId} {sz fuel : Nat} {cs : List Value} {x : DataW H × List MemPlace} (ht : P.underlying t = some (.slice e)) (hsz : P.cellsOf e = sz) (hpos : 0 < sz)
    (hR : ∀ n, n < fuel → ∀ (cs : List Value) y, DataW.trod enc P W base spare held n e cs = some y → ∃ k c, R k c ∧ c.length = sz ∧ cs.length = sz ∧ ∀ i (h1 : i < c.length) (h2 : i < cs.length), VC (g0 W).im c[i] cs[i] ∧ cs[i].oneCell' = true)
    (h : DataW.trod enc P W base spare held fuel t cs = some x) :
    ∃ (y : CV) (v : Value) (ks : List κ) (ch : List (List CV)), cs = [v] ∧ Cls y ch.flatten ch.length sz ∧ Chunks ch sz ∧ VC (g0 W).im y v ∧ v.oneCell' = true ∧ ks.length = ch.length ∧ (∀ i (h1 : i < ks.length) (h2 : i < ch.length), R ks[i] ch[i]) := by
  rcases DataW.trod_slice ht h with ⟨rfl, _⟩ | ⟨a, len, cap, elems, rest, n, rfl, rfl, rfl, hb, hl, hm, hlen, hel, hsp, hns⟩
  · exact ⟨nilC, _, [], [], rfl, .inr ⟨rfl, rfl, rfl⟩, (fun c hc => by cases hc), .v rfl, rfl, rfl, (fun i h1 => by simp at h1)⟩
  · have each : ∀ i : Fin len, ∃ q : κ × List CV × List Value, R q.1 q.2.1 ∧ q.2.1.length = sz ∧ W.cells? base (a.add (i.1 * sz)) sz = some q.2.2 ∧ q.2.2.length = sz ∧ ∀ j (h1 : j < q.2.1.length) (h2 : j < q.2.2.length), VC (g0 W).im q.2.1[j] q.2.2[j] ∧ q.2.2[j].oneCell' = true := by
      intro i
      have h1 := hel i.1 i.2
      have h2 : i.1 < elems.length := by omega
      rw [List.getElem?_eq_getElem h2, hsz] at h1
      obtain ⟨us, hus, hy⟩ := Option.bind_eq_some_iff.1 h1
      obtain ⟨k, c, h3, h4, h5, h6⟩ := hR n (by omega) us _ hy
      exact ⟨(k, c, us), h3, h4, hus, h5, h6⟩
    let f := fun i => Classical.choose (each i)
    have hf := fun i => Classical.choose_spec (each i)
    have hfe : ∀ i, Classical.choose (each i) = f i := fun i => rfl
    simp only [hfe] at hf
    clear_value f
    have hch : Chunks (List.ofFn fun i => (f i).2.1) sz := by
      intro c hc
      obtain ⟨i, rfl⟩ := (List.mem_ofFn).1 hc
      exact (hf i).2.1
    have hfl := hch.len
    rw [List.length_ofFn] at hfl
    have cell : ∀ (i : Fin len) (r : Nat) (hr : r < sz), W.cell? ((a.add (i.1 * sz)).add r) = (f i).2.2[r]? := fun i r hr => (World.cells?_some (hf i).2.2.1).2.2 r hr
    have hadr : 0 < len → a = ⟨a.block, a.off, none⟩ := by
      intro hp
      have h1 := cell ⟨0, hp⟩ 0 hpos
      rw [List.getElem?_eq_getElem (by rw [(hf ⟨0, hp⟩).2.2.2.1]; exact hpos)] at h1
      have h2 : (a.add (0 * sz)).add 0 = a := by simp [Addr.add]
      rw [h2] at h1
      exact cell_addr h1
    have at' : ∀ j, j < len * sz → ∃ (hi : j / sz < len) (hr : j % sz < sz) (h1 : j % sz < (f ⟨j / sz, hi⟩).2.1.length) (h2 : j % sz < (f ⟨j / sz, hi⟩).2.2.length), W.cell? ⟨a.block, a.off + j, none⟩ = some ((f ⟨j / sz, hi⟩).2.2[j % sz]) ∧
        (List.ofFn fun i => (f i).2.1).flatten[j]? = some ((f ⟨j / sz, hi⟩).2.1[j % sz]) := by
      intro j hj
      have hi : j / sz < len := (Nat.div_lt_iff_lt_mul hpos).2 hj
      have hr := Nat.mod_lt j hpos
      refine ⟨hi, hr, by rw [(hf _).2.1]; exact hr, by rw [(hf _).2.2.2.1]; exact hr, ?_, ?_⟩
      · have h1 := cell ⟨j / sz, hi⟩ _ hr
        rw [List.getElem?_eq_getElem (by rw [(hf _).2.2.2.1]; exact hr)] at h1
        rw [← h1]
        have e := hadr (Nat.lt_of_le_of_lt (Nat.zero_le _) hi)
        have h3 : j / sz * sz + j % sz = j := Nat.div_add_mod' j sz
        rw [e]
        simp only [Addr.add_lit]
        rw [Nat.add_assoc, h3]
      · have h3 : j / sz * sz + j % sz = j := Nat.div_add_mod' j sz
        have h4 := hch.get (i := j / sz) (k := j % sz) (by rw [List.length_ofFn]; exact hi) hr
        rw [h3] at h4
        rw [h4, List.getElem_ofFn, List.getElem?_eq_getElem]
    refine ⟨.im (List.ofFn fun i => (f i).2.1).flatten len sz, _, List.ofFn fun i => (f i).1, List.ofFn fun i => (f i).2.1, rfl, .inl (by rw [List.length_ofFn]), hch, .im (f := fun j => (W.cell? ⟨a.block, a.off + j, none⟩).getD undef) hfl hl hadr (fun j hj => ?_) (fun j hj => ?_), rfl, by rw [List.length_ofFn, List.length_ofFn], fun i h1 h2 => ?_⟩
    · rw [hfl] at hj
      obtain ⟨hi, hr, h1, h2, h3, h4⟩ := at' j hj
      rw [h3]
      exact im_g0 h3 ((hf ⟨j / sz, hi⟩).2.2.2.2 (j % sz) h1 h2).2
    · have hj' := hj
      rw [hfl] at hj'
      obtain ⟨hi, hr, h1, h2, h3, h4⟩ := at' j hj'
      have h5 : (List.ofFn fun i => (f i).2.1).flatten[j] = (f ⟨j / sz, hi⟩).2.1[j % sz] := by
        rw [List.getElem?_eq_getElem hj] at h4
        exact Option.some.inj h4
      rw [h3, h5]
      exact ((hf ⟨j / sz, hi⟩).2.2.2.2 (j % sz) h1 h2).1
    · rw [List.getElem_ofFn, List.getElem_ofFn]
      exact (hf _).1
/-- A text that is read. -/
theorem rd_str {t : TypeId} {fuel : Nat} {cs : List Value} {x : DataW H × List MemPlace} (ht : P.underlying t = some .string) (h : DataW.trod enc P W base spare held fuel t cs = some x) :
    ∃ (s : Bs) (v : Value), cs = [v] ∧ VC (g0 W).im (str s) v ∧ v.oneCell' = true := by
  obtain ⟨s, rfl, _, _⟩ := DataW.trod_string ht h
  exact ⟨s.data.toList, _, rfl, .v rfl, rfl⟩
/-- A byte that is read. -/
theorem rd_u8 {t : TypeId} {fuel : Nat} {cs : List Value} {x : DataW H × List MemPlace} (ht : P.underlying t = some (.int .u8)) (h : DataW.trod enc P W base spare held fuel t cs = some x) :
    ∃ (s : UInt8) (v : Value), cs = [v] ∧ VC (g0 W).im (u8 s) v ∧ v.oneCell' = true := by
  obtain ⟨n, rfl, _, hw⟩ := DataW.trod_int ht h
  have : 0 ≤ n ∧ n < 256 := by
    simp [Lit.wf, IntKind.min, IntKind.max, IntKind.signed, IntKind.bits] at hw
    omega
  refine ⟨n.toNat.toUInt8, _, rfl, ?_, rfl⟩
  have : u8 n.toNat.toUInt8 = .v (.int .u8 n) := by
    simp only [u8]
    congr 2
    simp
    omega
  rw [this]
  exact .v rfl
/-- Bytes that are read. -/
theorem rd_bytes {t e : TypeId} {fuel : Nat} {cs : List Value} {x : DataW H × List MemPlace} (ht : P.underlying t = some (.slice e)) (he : P.underlying e = some (.int .u8)) (hc : P.cellsOf e = 1) (h : DataW.trod enc P W base spare held fuel t cs = some x) :
    ∃ (y : CV) (b : Bs) (v : Value), cs = [v] ∧ CB y b ∧ VC (g0 W).im y v ∧ v.oneCell' = true := by
  obtain ⟨y, v, ks, ch, rfl, hy, hch, hv, h1, hl, hR⟩ := rd_sl (R := fun (k : UInt8) c => c = [u8 k]) ht hc (by omega) (fun n hn cs y h => by
    obtain ⟨s, v, rfl, hv, h1⟩ := rd_u8 he h
    refine ⟨s, [u8 s], rfl, rfl, rfl, fun i h1' h2 => ?_⟩
    have : i = 0 := by simp at h2; exact h2
    subst this
    exact ⟨hv, h1⟩) h
  have hfl : ch.flatten = u8s ks := by
    have : ch = ks.map fun k => [u8 k] := by
      refine List.ext_getElem (by simp [hl]) fun i h1 h2 => ?_
      rw [List.getElem_map]
      exact hR i (by omega) h1
    rw [this]
    clear this hR hl h hv hy hch
    induction ks with
    | nil => rfl
    | cons k ks ih => rw [List.map_cons, List.flatten_cons, ih]; rfl
  refine ⟨y, ks, v, rfl, ?_, hv, h1⟩
  rw [hfl, ← hl] at hy
  rcases hy with rfl | ⟨h1, _, rfl⟩
  · exact .inl rfl
  · refine .inr ⟨h1, by rw [List.eq_nil_of_length_eq_zero h1]; rfl, rfl⟩
end
end Go.SL

/- A tree of parts that is read. -/
namespace Go.Proofs.Tryz
open Go Go.SL Go.RowKit Go.ChangeShapes Go.Deep
set_option linter.unusedVariables false
section
variable {H : Type} {enc : TypeId × Value → H} {W : World} {base : Nat} {spare : Nat → Bool} {held : Bool}
theorem len2 {α : Type} {l : List α} (h : l.length = 2) : ∃ a b, l = [a, b] := by
  match l, h with
  | [a, b], _ => exact ⟨a, b, rfl⟩
theorem len3 {α : Type} {l : List α} (h : l.length = 3) : ∃ a b c, l = [a, b, c] := by
  match l, h with
  | [a, b, c], _ => exact ⟨a, b, c, rfl⟩
/-- A field that is read. -/
theorem rd_fld {fuel : Nat} {cs : List Value} {x : DataW H × List MemPlace} (h : DataW.trod enc prog W base spare held fuel 67 cs = some x) :
    ∃ (k : Fld) (c : List CV), c = k.c ∧ c.length = 2 ∧ cs.length = 2 ∧ ∀ i (h1 : i < c.length) (h2 : i < cs.length), VC (g0 W).im c[i] cs[i] ∧ cs[i].oneCell' = true := by
  have hcl : prog.cellsOf 67 = 2 := by kernel_rfl
  have hc9 : prog.cellsOf 9 = 1 := by kernel_rfl
  obtain ⟨y0, y1, n, rfl, hl, h0, h1⟩ := trod_struct2 underlying67 h
  rw [hcl] at hl
  obtain ⟨a, b, rfl⟩ := len2 hl
  clear hl
  · simp only [hc9] at h0 h1
    obtain ⟨s0, v0, e0, hv0, o0⟩ := rd_str underlying9 h0
    obtain ⟨s1, v1, e1, hv1, o1⟩ := rd_str underlying9 h1
    simp at e0 e1
    subst e0 e1
    refine ⟨⟨s0, s1⟩, [str s0, str s1], rfl, rfl, rfl, fun i h1 h2 => ?_⟩
    match i, h1 with
    | 0, _ => exact ⟨hv0, o0⟩
    | 1, _ => exact ⟨hv1, o1⟩
/-- A part that is read. -/
theorem rd_part (fuel : Nat) : ∀ {cs : List Value} {x : DataW H × List MemPlace} (h : DataW.trod enc prog W base spare held fuel 28 cs = some x),
    ∃ (k : Prt) (c : List CV), PV k c ∧ c.length = 3 ∧ cs.length = 3 ∧ ∀ i (h1 : i < c.length) (h2 : i < cs.length), VC (g0 W).im c[i] cs[i] ∧ cs[i].oneCell' = true := by
  have hcl : prog.cellsOf 28 = 3 := by kernel_rfl
  have hc25 : prog.cellsOf 25 = 1 := by kernel_rfl
  have hc22 : prog.cellsOf 22 = 1 := by kernel_rfl
  have hc26 : prog.cellsOf 26 = 1 := by kernel_rfl
  have hc67 : prog.cellsOf 67 = 2 := by kernel_rfl
  have hc5 : prog.cellsOf 5 = 1 := by kernel_rfl
  induction fuel using Nat.strongRecOn with
  | _ fuel ih =>
  intro cs x h
  obtain ⟨ys, n, rfl, rfl, hl, hlen, hf⟩ := DataW.trod_struct underlying28 h
  rw [hcl] at hl
  obtain ⟨y0, y1, y2, rfl⟩ := len3 hlen
  obtain ⟨a, b, c, rfl⟩ := len3 hl
  have h0 : DataW.trod enc prog W base spare held n 25 (([a, b, c].drop 0).take (prog.cellsOf 25)) = some y0 := hf 0 _ rfl
  have h1 : DataW.trod enc prog W base spare held n 22 (([a, b, c].drop 1).take (prog.cellsOf 22)) = some y1 := hf 1 _ rfl
  have h2 : DataW.trod enc prog W base spare held n 26 (([a, b, c].drop 2).take (prog.cellsOf 26)) = some y2 := hf 2 _ rfl
  clear hf hl hlen h
  · simp only [hc25, hc22, hc26] at h0 h1 h2
    obtain ⟨f, v0, fs, ch0, e0, f0, c0, hv0, o0, l0, r0⟩ := rd_sl (R := fun (k : Fld) c => c = k.c) underlying25 hc67 (by omega) (fun n hn cs y h => rd_fld h) h0
    obtain ⟨y, bs, v1, e1, f1, hv1, o1⟩ := rd_bytes underlying22 underlying5 hc5 h1
    obtain ⟨q, v2, ps, ch2, e2, f2, c2, hv2, o2, l2, r2⟩ := rd_sl (R := PV) underlying26 hcl (by omega) (fun m hm cs y h => ih m (by omega) h) h2
    simp at e0 e1 e2
    subst e0 e1 e2
    have hch0 : ch0 = fs.map Fld.c := by
      refine List.ext_getElem (by rw [List.length_map, l0]) fun i h1 h2 => ?_
      rw [List.getElem_map]
      exact r0 i (by omega) h1
    rw [← l0, hch0] at f0
    refine ⟨.mk fs bs ps, [f, y, q], .mk f0 f1 l2.symm c2 (by rw [l2]; exact f2) r2, rfl, rfl, fun i h1 h2 => ?_⟩
    match i, h1 with
    | 0, _ => exact ⟨hv0, o0⟩
    | 1, _ => exact ⟨hv1, o1⟩
    | 2, _ => exact ⟨hv2, o2⟩
end
end Go.Proofs.Tryz

/- The law PartsWrites: for every input the call returns true, and the argument reads behind it as it did. -/
namespace Go.Proofs.YtkodlakpjpmbiaaGreat
open Go.ChangeShapes Go.WideShapes Go.ChangeAt Go.RowKit
set_option linter.unusedVariables false
set_option maxRecDepth 100000 in
theorem writes_lifted (os : Os) (started : os.Started) (H : Type) (enc : TypeId × Value → H) :
    ReturnsInHanded {} Tryz.checked os 4 .any (Rows.partsWritesSpec.pre6 enc Tryz.prog Tryz.f4 Rows.partsWritesRow.domain false) (Rows.partsWritesSpec.post enc Tryz.prog Tryz.f4 false true false false) := by
  refine returnsInHanded_of_change_shaped (C := Tryz.checked) Tryz.own started (by kernel_rfl) Tryz.func4
    (ChangeSpec.witness6 (enc := enc) (C := Tryz.checked) false ⟨#[], #[.agg #[.slice none 0 0, .slice none 0 0, .slice none 0 0]], []⟩ 8 (by kernel_rfl) (by kernel_rfl) (by kernel_rfl) (by kernel_rfl)) ?_
  intro W base args ds gs before hval0 hW hcnd _ hsh _
  have hval : ∀ (j : Nat) t v, Tryz.f4.params[j]? = some t → args[j]? = some v → Value.okWide Tryz.prog W .any base t v := hval0
  have hW' := hW
  obtain ⟨p, q, hA0, hV, rfl, hfz, hnd⟩ := hW
  have hA : DataW.TrodAll enc Tryz.prog W 0 (fun _ => true) true Tryz.f4.params.toList args.toList ds p := hA0
  rw [Tryz.params4] at hA hval
  obtain ⟨v0, vs0, d0, ds0, p0, q0, hargs, rfl, rfl, h0, r0⟩ := trodAll_cons hA
  obtain ⟨rfl, rfl, rfl⟩ := trodAll_nil r0
  obtain rfl : args = #[v0] := by cases args; simp_all
  obtain ⟨rfl, rfl⟩ := trodVars_none hV
  have hok := hval 0 28 v0 rfl rfl
  obtain ⟨cs0, rfl, hsz⟩ := okWide_struct Tryz.underlying28 hok
  have k0 := h0
  have lt0 : ∀ x ∈ p0, x.block < W.heap.size := by obtain ⟨m, hm⟩ := k0; exact DataW.trod_lt m _ _ _ hm
  obtain ⟨fuel, hf⟩ := h0
  obtain ⟨k, c, hk, hc3, hl3, hcs⟩ := Go.Proofs.Tryz.rd_part fuel hf
  simp only [Value.cells] at hl3 hcs
  obtain ⟨mx, hmx⟩ := max_cell hsh
  refine (Go.Proofs.Tryz.law_calls (mx := mx) (xs := [.agg c]) Tryz.func4 (by intro h; cases h) hmx ⟨rfl, fun i hi hi' => by
    have : i = 0 := by simp at hi; exact hi
    subst this; exact .agg (by rw [hc3]; simpa using hl3.symm) fun j h1 h2 => .cl (by simpa using (hcs j h1 (by simpa using h2)).1)⟩ (@Go.Proofs.Tryz.w4 Go.Proofs.Tryz.L1 rfl k 0 c [] hk)).mono fun e W' ⟨he, bel⟩ => ?_
  subst he
  exact ⟨_, rfl, _, _, _, [], _, [], hW', trodAll_mk1 (shut_bool Tryz.underlying4 _), (trodAll_cons_mk (Below.trod Tryz.laidOut (by kernel_rfl) (of_decide_eq_true (by kernel_rfl)) k0 bel lt0) trodAll_mk0), rfl, bel.frame _, fun h => by cases h⟩
theorem partsWrites_holds : Rows.PartsWritesSaid :=
  OpenClaim.holds_of_wide 4 Tryz.f4 rfl rfl rfl rfl rfl rfl rfl ⟨rfl, rfl, rfl, rfl, rfl⟩ rfl rfl rfl rfl rfl (by kernel_rfl) Tryz.func4 (by kernel_rfl)
    (of_decide_eq_true (by kernel_rfl)) (by unfold Func.isWrapper; first | (rw [if_pos (by decide +kernel)]; kernel_rfl) | (rw [if_neg (by decide +kernel)]; exact ⟨rfl, rfl⟩))
    (fun os started H enc _ => writes_lifted os started H enc)
end Go.Proofs.YtkodlakpjpmbiaaGreat

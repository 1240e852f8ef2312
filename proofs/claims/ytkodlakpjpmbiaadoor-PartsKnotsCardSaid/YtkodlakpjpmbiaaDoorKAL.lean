/- The functions that are known otherwise are as is said. -/
import Derived.Test.YtkodlakpjpmbiaaDoorKAK
import Derived.Test.YtkodlakpjpmbiaaDoorShelf
import Derived.KernelRfl
import Derived.Shelf.Bytes.SlIndexWhole
import Derived.Lib.IndexLaws
import Derived.Sort.Grow
import Derived.Lib.LaidTab
import Derived.Below
import Derived.ChangeSlices
import Derived.Deep.Strs
import Derived.Test.YtkodlakpjpmbiaaDoorKAJ
import Derived.Test.YtkodlakpjpmbiaaDoorCards
import Derived.Test.YtkodlakpjpmbiaaDoorTie
import Derived.ProofKit
import Derived.HandedShaped
import Derived.Shelf.Vars
import Derived.Carry
import Derived.OpenShut
import Derived.ShutString
import Derived.LaidMore
import Derived.Stop.Joined
import Derived.Stop.LaidErr
import Derived.SevenTiedAt
import Derived.MakeChecks
import Derived.Lib.ItoaNum
import Derived.Test.YtkodlakpjpmbiaaDoorKAG

set_option linter.all false

namespace Go.SL
/-- A number that a variable of the library holds. -/
class MaxC where
  mx : Int
  /-- A table behind it, or none. -/
  tab : List Int := []
instance maxB [MaxC] : BaseC where
  im := fun b o => if b = 0 ∧ o = 0 then some (.int .i64 MaxC.mx) else if b = 1 then (MaxC.tab[o]?).map (.int .u64) else none
  blk := fun b => if b = 1 ∧ MaxC.tab ≠ [] then some (MaxC.tab.map (.int .u64)).toArray else none
  blk_im := by
    intro b c h
    split at h
    · rename_i hb
      obtain ⟨rfl, hn⟩ := hb
      cases ht : MaxC.tab with
      | nil => exact absurd ht hn
      | cons x l => exact ⟨0, .int .u64 x, by simp [ht]⟩
    · cases h
theorem WR.drewN [BaseC] {g : Gh} {H : Hp} {w : World} (h : WR g H w) (n : Nat) : WR g H (w.drewN n) :=
  ⟨h.len, fun id o l a b => (h.obj id o l a b).congr (w2 := w.drewN n) rfl, h.inj, fun b o v hb => h.im b o v hb, h.dis, h.own, h.base, h.org, h.blk⟩
theorem Evo.drewN (g : Gh) (H : Hp) (w : World) (n : Nat) : Evo g H w g H (w.drewN n) := ⟨rfl, rfl, rfl, Nat.le_refl _, fun _ _ _ => rfl, fun _ h => .inr h, fun _ _ _ h => h, locs_refl g, fun _ h => h⟩
end Go.SL
namespace Go.Proofs.Tryd
open Go Go.SL
set_option linter.unusedVariables false

theorem fx110 : Extern.findNext f85 = none := by kernel_rfl
theorem fe110 : Extern.find f85 = some Extern.BytealgIndexByte.indexByte := by kernel_rfl
theorem call110 (s : ByteArray) (c : Int) (w : World) : (callFunc 85 #[.string s, .int .u8 c]).run prog w = .ok (.value (.int .i64 (Lib.indexByte s.data.toList c.toNat.toUInt8))) w := by
  have hn : ¬ f85.name = "runtime.NumGoroutine" := by decide
  have hb : f85.body = none := rfl
  have hr := Lib.run_indexByteString (P := prog) s c w
  simp [callFunc, func85, hn, hb, fx110, fe110, hr]
theorem enter80 (vs : Array Value) (w : World) : (callFunc 59 vs).run prog w = .ok (.enter 59 vs) w := by
  have hn : ¬ f59.name = "runtime.NumGoroutine" := by decide
  have hb : ¬ f59.body = none := by intro h; cases h
  simp [callFunc, func59, hn, hb]
theorem enter100 (vs : Array Value) (w : World) : (callFunc 79 vs).run prog w = .ok (.enter 79 vs) w := by
  have hn : ¬ f79.name = "runtime.NumGoroutine" := by decide
  have hb : ¬ f79.body = none := by intro h; cases h
  simp [callFunc, func79, hn, hb]
theorem enter90 (vs : Array Value) (w : World) : (callFunc 32 vs).run prog w = .ok (.enter 32 vs) w := by
  have hn : ¬ f32.name = "runtime.NumGoroutine" := by decide
  have hb : ¬ f32.body = none := by intro h; cases h
  simp [callFunc, func32, hn, hb]
/-- Arguments, one by one. -/
theorem list2 [BaseC] {g : Gh} {x y : CV} {vs : Array Value} (h : ListR g [x, y] vs) : ∃ u v, vs = #[u, v] ∧ VR g x u ∧ VR g y v := ListR.two h
variable [MaxC]
theorem idb_ok (m : Nat) (f : FuncId) (hf : f = 59 ∨ f = 85 ∨ f = 79) (args : List CV) (H : Hp) (r : CV) (H2 : Hp) (h : idbP args H = some (r, H2)) : CallS prog m f args H r H2 := by
  unfold idbP at h
  split at h
  · rename_i s c
    cases h
    intro g w vs hw hl
    obtain ⟨u, v, rfl, hu, hv⟩ := list2 hl
    obtain ⟨rfl, _⟩ := hu.atom
    obtain ⟨rfl, _⟩ := hv.atom
    refine ⟨Keeps.refl _ _, ?_⟩
    rcases hf with rfl | rfl | rfl
    · exact .inr ⟨enter80 _ _, (strings_IndexByte s c w).mono fun e w' ⟨he, hw'⟩ => by subst he hw'; exact ⟨_, g, rfl, .cl (.v rfl), hw, Evo.refl _ _ _⟩⟩
    · exact .inl ⟨_, g, w, call110 s c w, .cl (.v rfl), hw, Evo.refl _ _ _⟩
    · exact .inr ⟨enter100 _ _, (stringslite_IndexByte s c w).mono fun e w' ⟨he, hw'⟩ => by subst he hw'; exact ⟨_, g, rfl, .cl (.v rfl), hw, Evo.refl _ _ _⟩⟩
  · cases h
/-- Bytes that cells hold. -/
theorem cells_num {g : Gh} {w : World} {b o : Nat} {cs : List CV} {ns : List Int} (hn : numsOf cs = some ns) (hh : Holds g w b o cs) (i : Nat) (hi : i < ns.length) : w.cell? ((⟨b, o, none⟩ : Addr).add i) = some (.int .u8 (ns.getD i 0)) := by
  obtain ⟨hl, hg⟩ := numsOf_get hn
  obtain ⟨u, h1, _, h3⟩ := hh i (by omega)
  rw [hg i (by omega)] at h3
  obtain ⟨rfl, _⟩ := h3.atom
  rw [Lib.add_plain']; exact h1
theorem idx_ok (m : Nat) (args : List CV) (H : Hp) (r : CV) (H2 : Hp) (h : idxP args H = some (r, H2)) : CallS prog m 32 args H r H2 := by
  unfold idxP at h
  split at h
  · rename_i x y
    obtain ⟨⟨cx, nx⟩, hx, h⟩ := Option.bind_eq_some_iff.1 h
    obtain ⟨⟨cy, ny⟩, hy, h⟩ := Option.bind_eq_some_iff.1 h
    obtain ⟨xs, hxs, h⟩ := Option.bind_eq_some_iff.1 h
    obtain ⟨ys, hys, h⟩ := Option.bind_eq_some_iff.1 h
    simp only at hx hy hxs hys h
    split at h
    · rename_i hc
      obtain ⟨h1, h2, h3, h4, h5, h6⟩ := hc
      cases h
      intro g w vs hw hl
      obtain ⟨u, v, rfl, hu, hv⟩ := list2 hl
      refine ⟨Keeps.refl _ _, .inr ⟨enter90 _ _, ?_⟩⟩
      have hmx : w.cell? ⟨0, 0, none⟩ = some (.int .i64 MaxC.mx) := (hw.im 0 0 _ (hw.base 0 0 _ (by simp [BaseC.im]))).1
      have hbig : xs.length < 4294967281 := by unfold big at h3; omega
      rcases hw.at_sl hv hy with ⟨rfl, _, hn0⟩ | ⟨a2, b2, o2, c2, rfl, hcap2, ha2, hh2, _⟩
      · omega
      have hlen2 := (numsOf_get hys).1
      rcases hw.at_sl hu hx with ⟨rfl, rfl, hn0⟩ | ⟨a1, b1, o1, c1, rfl, hcap1, ha1, hh1, hz1⟩
      · have hxs0 : xs = [] := by simp [numsOf] at hxs; exact hxs
        subst hxs0
        have hidx : Lib.index (Lib.bytesOf []) (Lib.bytesOf ys) = -1 := Lib.index_long (by simp [Lib.bytesOf]) (by
          intro e
          have := congrArg List.length e
          simp [Lib.bytesOf] at this
          rw [this] at h4; simp at h4)
        rw [hidx]
        subst h2
        refine (Any.bytes_Index_nil lays185 _ ys.length c2 w (by omega) (fun h => by omega)).mono fun e w' ⟨he, hw'⟩ => ?_
        subst he hw'
        rw [if_neg (by omega)]
        exact ⟨_, g, rfl, .cl (.v rfl), hw, Evo.refl _ _ _⟩
      · by_cases hx0 : xs.length = 0
        · have hxs0 : xs = [] := List.eq_nil_of_length_eq_zero hx0
          subst hxs0
          have hidx : Lib.index (Lib.bytesOf []) (Lib.bytesOf ys) = -1 := Lib.index_long (by simp [Lib.bytesOf]) (by
            intro e
            have := congrArg List.length e
            simp [Lib.bytesOf] at this
            rw [this] at h4; simp at h4)
          rw [hidx]
          subst h1 h2
          refine (Any.bytes_Index_longer lays185 (some a1) (some a2) 0 c1 ys.length c2 w (by omega) (by omega) (by omega)).mono fun e w' ⟨he, hw'⟩ => ?_
          subst he hw'
          exact ⟨_, g, rfl, .cl (.v rfl), hw, Evo.refl _ _ _⟩
        subst h1 h2
        obtain rfl := ha1 (by omega)
        obtain rfl := ha2 (by omega)
        refine (Any.bytes_Index_at lays185 ⟨b1, o1, none⟩ ⟨b2, o2, none⟩ xs.length c1 ys.length c2 xs ys MaxC.mx w rfl rfl h5 h6 (fun i hi => cells_num hxs (hh1 (by omega)) i hi) (fun i hi => cells_num hys (hh2 (by omega)) i hi) hcap1 hbig (by omega) hmx).mono fun e w' ⟨he, q, hw'⟩ => ?_
        subst he hw'
        exact ⟨_, g, rfl, .cl (.v rfl), hw.drewN q, Evo.drewN _ _ _ _⟩
    · cases h
  · cases h
@[reducible] def L0 : LayerC := ⟨false⟩
@[reducible] def L1 : LayerC := ⟨true⟩
omit [MaxC] in
theorem noGo : ∀ (f : FuncId) (fn : Func), prog.funcs[f]? = some fn → fn.name ≠ "runtime.NumGoroutine" := by
  have h : (prog.funcs.toList.all fun fn => fn.name != "runtime.NumGoroutine") = true := by kernel_rfl
  intro f fn hf e
  have := List.all_eq_true.1 h fn (Array.mem_toList_iff.2 (Array.mem_of_getElem? hf))
  rw [e] at this
  simp at this
end Go.Proofs.Tryd

/- The functions that are known otherwise are as is said (a seat whose numerals rest on a table of the library). -/
namespace Go.Proofs.Tryd
open Go Go.SL Go.Sort
set_option linter.unusedVariables false
theorem gPow : prog.globalNamed "internal/strconv.uint64pow10" = some 1 := by kernel_rfl
theorem enter11 (vs : Array Value) (w : World) : (callFunc 11 vs).run prog w = .ok (.enter 11 vs) w := by
  have hn : ¬ f11.name = "runtime.NumGoroutine" := by decide
  have hb : ¬ f11.body = none := by intro h; cases h
  simp [callFunc, func11, hn, hb]
variable [MaxC]
theorem tab_of (ht : MaxC.tab = Lib.pow10Tab) {g : Gh} {H : Hp} {w : World} (hw : WR g H w) : Lib.TabIs prog w "internal/strconv.uint64pow10" .u64 Lib.pow10Tab := by
  have hne : Lib.pow10Tab ≠ [] := by decide
  obtain ⟨e, fr, hb⟩ := hw.blk 1 (Lib.pow10Tab.map (Value.int .u64)).toArray (by
    simp only [BaseC.blk, ht]
    rw [if_pos ⟨trivial, hne⟩])
  unfold Lib.TabIs World.var?
  rw [gPow]
  simp only [Option.bind_some, hb]
omit [MaxC] in
theorem later_grow (w : World) (os : Array Obj) : Later w (grow w os) := ⟨rfl, rfl, rfl, by simp, fun b hb => by simp only [grow]; rw [Array.getElem?_append_left hb]⟩
theorem ito_ok (ht : MaxC.tab = Lib.pow10Tab) (m : Nat) (args : List CV) (H : Hp) (r : CV) (H2 : Hp) (h : itoP args H = some (r, H2)) : CallS prog m 11 args H r H2 := by
  unfold itoP at h
  split at h
  · rename_i n
    split at h
    · rename_i hc
      cases h
      intro g w vs hw hl
      obtain ⟨u, rfl, hu⟩ := hl.one
      obtain ⟨rfl, _⟩ := hu.atom
      refine ⟨Keeps.refl _ _, .inr ⟨enter11 _ _, (strconv_Itoa n hc.1 hc.2 w (tab_of ht hw)).mono fun e w' ⟨he, k, os, hw'⟩ => ?_⟩⟩
      subst he hw'
      exact ⟨_, g, rfl, .cl (.v rfl), (hw.drewN k).later (later_grow _ _), (Evo.drewN g H w k).trans (later_grow _ _).evo⟩
    · cases h
  · cases h
theorem prim1 (ht : MaxC.tab = Lib.pow10Tab) : PrimOK prog (@cs0 L1) := by
  intro f p hp m args H r H2 h
  have hp : (if f = 32 then some idxP else if f = 59 ∨ f = 85 ∨ f = 79 then some idbP else if false && true then some lowP else if false && true then some tokP else if f = 11 then some itoP else none) = some p := hp
  split at hp
  · rename_i hf; cases hp; subst hf; exact idx_ok m args H r H2 h
  · split at hp
    · rename_i hf; cases hp; exact idb_ok m f hf args H r H2 h
    · simp only [Bool.false_and, Bool.false_eq_true, if_false] at hp
      split at hp
      · rename_i hf; cases hp; subst hf; exact ito_ok ht m args H r H2 h
      · cases hp
end Go.Proofs.Tryd

/- From the evaluator to a row: the first world, and what a call leaves. -/
namespace Go.SL
open Go.RowKit
set_option linter.unusedVariables false
/-- A world, and no object. -/
def g0 (W : World) : Gh := ⟨[], fun b o => (W.cell? ⟨b, o, none⟩).filter (·.oneCell'), fun _ => False⟩
theorem WR.init [BaseC] {W : World} (h : ∀ b o v, BaseC.im b o = some v → W.cell? ⟨b, o, none⟩ = some v ∧ v.oneCell' = true) (hk : ∀ b c, BaseC.blk b = some c → ∃ e fr, W.heap[b]? = some (.cells c e fr)) : WR (g0 W) [] W where
  len := rfl
  obj := fun id o l h => by simp at h
  inj := fun i j oi oj li lj h => by simp at h
  im := fun b o v hv => by
    simp only [g0, Option.filter_eq_some_iff] at hv
    exact ⟨hv.1, hv.2⟩
  dis := fun id o l h => by simp at h
  own := fun b hb => hb.elim
  base := fun b o v hv => by
    simp only [g0, Option.filter_eq_some_iff]
    exact h b o v hv
  org := fun id cs e l h => by simp at h
  blk := hk
theorem Evo.below {W w2 : World} {g2 : Gh} {H2 : Hp} (h : Evo (g0 W) [] W g2 H2 w2) : Below W.heap.size W w2 :=
  ⟨h.os, h.tape, h.output, h.size, fun k hk => h.keep k hk (by
    rintro (h | ⟨id, o, l, h, _⟩)
    · exact h
    · simp at h)⟩
theorem im_g0 {W : World} {b o : Nat} {v : Value} (h : W.cell? ⟨b, o, none⟩ = some v) (h1 : v.oneCell' = true) : (g0 W).im b o = some v := by
  simp only [g0, Option.filter_eq_some_iff]; exact ⟨h, h1⟩
end Go.SL
namespace Go.Proofs.Tryd
open Go Go.SL Go.RowKit
set_option linter.unusedVariables false
/-- A law's walk, as a call from any world; a table stands behind it. -/
theorem law_callsT {mx : Int} {tb : List Int} {f : FuncId} {fn : Func} {W : World} {xs : List CV} {vs : Array Value} (hprim : ∀ mx : Int, @PrimOK (@maxB ⟨mx, tb⟩) prog (@cs0 L1)) (hf : prog.funcs[f]? = some fn) (hb : fn.body ≠ none) (hmx : W.cell? ⟨0, 0, none⟩ = some (.int .i64 mx))
    (htb : tb ≠ [] → ∃ e fr, W.heap[1]? = some (.cells (tb.map (Value.int .u64)).toArray e fr)) (hl : ListR (g0 W) xs vs)
    (hr : @Ret prog (@cs0 L1) 0 f xs [] (.v (.bool true)) []) : Calls prog f vs W fun e W' => e = .returned (.bool true) ∧ Below W.heap.size W W' := by
  letI : MaxC := ⟨mx, tb⟩
  have hw : WR (g0 W) [] W := WR.init (fun b o v hv => by
    simp only [BaseC.im] at hv
    split at hv
    · rename_i hc
      obtain ⟨rfl, rfl⟩ := hc
      cases hv
      exact ⟨hmx, rfl⟩
    · split at hv
      · rename_i hc
        subst hc
        obtain ⟨z, hz, rfl⟩ := Option.map_eq_some_iff.1 hv
        have hne : tb ≠ [] := by rintro rfl; cases hz
        obtain ⟨e, fr, hh⟩ := htb hne
        have hz' : tb[o]? = some z := hz
        exact ⟨by simp [World.cell?, hh, hz'], rfl⟩
      · cases hv) fun b c hc => by
    simp only [BaseC.blk] at hc
    split at hc
    · rename_i hq
      obtain ⟨rfl, hne⟩ := hq
      cases hc
      exact htb hne
    · cases hc
  obtain ⟨k, ⟨y1, y2⟩, hk, h1, h2⟩ := hr
  simp only at h1 h2
  subst h1
  rw [h2] at hk
  have henter : (callFunc f vs).run prog W = .ok (.enter f vs) W := by
    have := noGo f fn hf
    simp [callFunc, hf, this, hb]
  rcases ((evCall_good (hprim mx) noGo k).1 0 f xs [] _ [] hk (g0 W) W vs hw hl).2 with ⟨v, g2, w2, h3, _⟩ | ⟨_, h3⟩
  · rw [henter] at h3; cases h3
  · refine h3.mono fun e w' ⟨v, g2, he, hv, _, hev⟩ => ?_
    obtain ⟨rfl, _⟩ := hv.atom
    exact ⟨he, hev.below⟩
/-- A law's walk, as a call from any world in which the table stands. -/
theorem law_calls {mx : Int} {f : FuncId} {fn : Func} {W : World} {xs : List CV} {vs : Array Value} (hf : prog.funcs[f]? = some fn) (hb : fn.body ≠ none) (hmx : W.cell? ⟨0, 0, none⟩ = some (.int .i64 mx)) (ht : Lib.TabIs prog W "internal/strconv.uint64pow10" .u64 Lib.pow10Tab) (hl : ListR (g0 W) xs vs)
    (hr : @Ret prog (@cs0 L1) 0 f xs [] (.v (.bool true)) []) : Calls prog f vs W fun e W' => e = .returned (.bool true) ∧ Below W.heap.size W W' :=
  law_callsT (tb := Lib.pow10Tab) (fun mx => @prim1 ⟨mx, Lib.pow10Tab⟩ rfl) hf hb hmx (fun _ => by
    unfold Lib.TabIs World.var? at ht
    rw [gPow] at ht
    simp only [Option.bind_some] at ht
    split at ht
    · rename_i cs e fr hh
      cases ht
      exact ⟨_, _, hh⟩
    · cases ht) hl hr
/-- Bytes of a world, as an argument. -/
theorem byt_vr {W : World} {a : Option Addr} {len cap : Nat} {zs : List Int} (h : (a = none ∧ len = 0 ∧ cap = 0) ∨ ∃ x, a = some x ∧ x.spot = none ∧ len ≤ cap ∧ zs.length = cap ∧ (∀ i, i < zs.length → W.cell? (x.add i) = some (.int .u8 (zs.getD i 0))) ∧ ∀ n ∈ zs, 0 ≤ n ∧ n < 256) :
    ∃ x b, CB x b ∧ VR (g0 W) x (.slice a len cap) := by
  rcases h with ⟨rfl, rfl, rfl⟩ | ⟨x, rfl, hsp, hlc, hz, hc, hr⟩
  · exact ⟨nilC, [], .inr ⟨rfl, rfl, rfl⟩, .cl (.v rfl)⟩
  · obtain ⟨b, o, sp⟩ := x
    simp only at hsp
    subst hsp
    have hlen : ((zs.take len).map fun n => n.toNat.toUInt8).length = len := by simp; omega
    refine ⟨byt ((zs.take len).map fun n => n.toNat.toUInt8), _, .inl rfl, .cl ?_⟩
    unfold byt
    rw [hlen]
    refine .im (f := fun i => .int .u8 (zs.getD i 0)) (by simp; omega) hlc (fun _ => rfl) (fun i hi => ?_) fun i hi => ?_
    · simp at hi
      have := hc i (by omega)
      rw [Lib.add_plain'] at this
      exact im_g0 this rfl
    · simp at hi
      have hi' : i < zs.length := by omega
      have hg : zs.getD i 0 = zs[i] := by simp [List.getD, hi']
      have hrr := hr zs[i] (List.getElem_mem hi')
      have : (u8s ((zs.take len).map fun n => n.toNat.toUInt8))[i] = .v (.int .u8 (zs.getD i 0)) := by
        simp only [u8s, List.getElem_map, List.getElem_take, u8, hg]
        congr 2
        simp
        omega
      rw [this]
      exact .v rfl
end Go.Proofs.Tryd

/- From the evaluator to a row: trees among the arguments. -/
namespace Go.SL
open Go.ChangeShapes Go.RowKit
set_option linter.unusedVariables false
section
variable {H : Type} {enc : TypeId × Value → H} {P : Program} {W : World} {base : Nat} {spare : Nat → Bool} {held : Bool}
/-- Cells that can be read stand at addresses without a spot. -/
theorem cell_addr {a : Addr} {u : Value} (h : W.cell? a = some u) : a = ⟨a.block, a.off, none⟩ := by
  obtain ⟨b, o, sp⟩ := a
  cases sp with
  | none => rfl
  | some s => simp [World.cell?] at h; split at h <;> simp at h
/-- A slice that is read, whose elements are. -/
theorem rd_sl {κ : Type} {R : κ → List CV → Prop} {t e : TypeId} {sz fuel : Nat} {cs : List Value} {x : DataW H × List MemPlace} (ht : P.underlying t = some (.slice e)) (hsz : P.cellsOf e = sz) (hpos : 0 < sz)
    (hR : ∀ n, n < fuel → ∀ (cs : List Value) y, DataW.trod enc P W base spare held n e cs = some y → ∃ k c, R k c ∧ c.length = sz ∧ cs.length = sz ∧ ∀ i (h1 : i < c.length) (h2 : i < cs.length), VC (g0 W).im c[i] cs[i] ∧ cs[i].oneCell' = true)
    (h : DataW.trod enc P W base spare held fuel t cs = some x) :
    ∃ (y : CV) (v : Value) (ks : List κ) (ch : List (List CV)), cs = [v] ∧ Cls y ch.flatten ch.length sz ∧ Chunks ch sz ∧ VC (g0 W).im y v ∧ v.oneCell' = true ∧ ks.length = ch.length ∧ (∀ i (h1 : i < ks.length) (h2 : i < ch.length), R ks[i] ch[i]) := by
  rcases DataW.trod_slice ht h with ⟨rfl, _⟩ | ⟨a, len, cap, elems, rest, n, rfl, rfl, rfl, hb, hl, hm, hlen, hel, hsp, hns⟩
  · exact ⟨nilC, _, [], [], rfl, .inr ⟨rfl, rfl, rfl⟩, (fun c hc => by cases hc), .v rfl, rfl, rfl, (fun i h1 => by simp at h1)⟩
  · have each : ∀ i : Fin len, ∃ q : κ × List CV × List Value, R q.1 q.2.1 ∧ q.2.1.length = sz ∧ W.cells? base (a.add (i.1 * sz)) sz = some q.2.2 ∧ q.2.2.length = sz ∧ ∀ j (h1 : j < q.2.1.length) (h2 : j < q.2.2.length), VC (g0 W).im q.2.1[j] q.2.2[j] ∧ q.2.2[j].oneCell' = true := by
      intro i
      have h1 := hel i.1 i.2
      have h2 : i.1 < elems.length := by omega
      rw [List.getElem?_eq_getElem h2, hsz] at h1
      obtain ⟨us, hus, hy⟩ := Option.bind_eq_some_iff.1 h1
      obtain ⟨k, c, h3, h4, h5, h6⟩ := hR n (by omega) us _ hy
      exact ⟨(k, c, us), h3, h4, hus, h5, h6⟩
    let f := fun i => Classical.choose (each i)
    have hf := fun i => Classical.choose_spec (each i)
    have hfe : ∀ i, Classical.choose (each i) = f i := fun i => rfl
    simp only [hfe] at hf
    clear_value f
    have hch : Chunks (List.ofFn fun i => (f i).2.1) sz := by
      intro c hc
      obtain ⟨i, rfl⟩ := (List.mem_ofFn).1 hc
      exact (hf i).2.1
    have hfl := hch.len
    rw [List.length_ofFn] at hfl
    have cell : ∀ (i : Fin len) (r : Nat) (hr : r < sz), W.cell? ((a.add (i.1 * sz)).add r) = (f i).2.2[r]? := fun i r hr => (World.cells?_some (hf i).2.2.1).2.2 r hr
    have hadr : 0 < len → a = ⟨a.block, a.off, none⟩ := by
      intro hp
      have h1 := cell ⟨0, hp⟩ 0 hpos
      rw [List.getElem?_eq_getElem (by rw [(hf ⟨0, hp⟩).2.2.2.1]; exact hpos)] at h1
      have h2 : (a.add (0 * sz)).add 0 = a := by simp [Addr.add]
      rw [h2] at h1
      exact cell_addr h1
    have at' : ∀ j, j < len * sz → ∃ (hi : j / sz < len) (hr : j % sz < sz) (h1 : j % sz < (f ⟨j / sz, hi⟩).2.1.length) (h2 : j % sz < (f ⟨j / sz, hi⟩).2.2.length), W.cell? ⟨a.block, a.off + j, none⟩ = some ((f ⟨j / sz, hi⟩).2.2[j % sz]) ∧
        (List.ofFn fun i => (f i).2.1).flatten[j]? = some ((f ⟨j / sz, hi⟩).2.1[j % sz]) := by
      intro j hj
      have hi : j / sz < len := (Nat.div_lt_iff_lt_mul hpos).2 hj
      have hr := Nat.mod_lt j hpos
      refine ⟨hi, hr, by rw [(hf _).2.1]; exact hr, by rw [(hf _).2.2.2.1]; exact hr, ?_, ?_⟩
      · have h1 := cell ⟨j / sz, hi⟩ _ hr
        rw [List.getElem?_eq_getElem (by rw [(hf _).2.2.2.1]; exact hr)] at h1
        rw [← h1]
        have e := hadr (Nat.lt_of_le_of_lt (Nat.zero_le _) hi)
        have h3 : j / sz * sz + j % sz = j := Nat.div_add_mod' j sz
        rw [e]
        simp only [Addr.add_lit]
        rw [Nat.add_assoc, h3]
      · have h3 : j / sz * sz + j % sz = j := Nat.div_add_mod' j sz
        have h4 := hch.get (i := j / sz) (k := j % sz) (by rw [List.length_ofFn]; exact hi) hr
        rw [h3] at h4
        rw [h4, List.getElem_ofFn, List.getElem?_eq_getElem]
    refine ⟨.im (List.ofFn fun i => (f i).2.1).flatten len sz, _, List.ofFn fun i => (f i).1, List.ofFn fun i => (f i).2.1, rfl, .inl (by rw [List.length_ofFn]), hch, .im (f := fun j => (W.cell? ⟨a.block, a.off + j, none⟩).getD undef) hfl hl hadr (fun j hj => ?_) (fun j hj => ?_), rfl, by rw [List.length_ofFn, List.length_ofFn], fun i h1 h2 => ?_⟩
    · rw [hfl] at hj
      obtain ⟨hi, hr, h1, h2, h3, h4⟩ := at' j hj
      rw [h3]
      exact im_g0 h3 ((hf ⟨j / sz, hi⟩).2.2.2.2 (j % sz) h1 h2).2
    · have hj' := hj
      rw [hfl] at hj'
      obtain ⟨hi, hr, h1, h2, h3, h4⟩ := at' j hj'
      have h5 : (List.ofFn fun i => (f i).2.1).flatten[j] = (f ⟨j / sz, hi⟩).2.1[j % sz] := by
        rw [List.getElem?_eq_getElem hj] at h4
        exact Option.some.inj h4
      rw [h3, h5]
      exact ((hf ⟨j / sz, hi⟩).2.2.2.2 (j % sz) h1 h2).1
    · rw [List.getElem_ofFn, List.getElem_ofFn]
      exact (hf _).1
/-- A text that is read. -/
theorem rd_str {t : TypeId} {fuel : Nat} {cs : List Value} {x : DataW H × List MemPlace} (ht : P.underlying t = some .string) (h : DataW.trod enc P W base spare held fuel t cs = some x) :
    ∃ (s : Bs) (v : Value), cs = [v] ∧ VC (g0 W).im (str s) v ∧ v.oneCell' = true := by
  obtain ⟨s, rfl, _, _⟩ := DataW.trod_string ht h
  exact ⟨s.data.toList, _, rfl, .v rfl, rfl⟩
/-- A byte that is read. -/
theorem rd_u8 {t : TypeId} {fuel : Nat} {cs : List Value} {x : DataW H × List MemPlace} (ht : P.underlying t = some (.int .u8)) (h : DataW.trod enc P W base spare held fuel t cs = some x) :
    ∃ (s : UInt8) (v : Value), cs = [v] ∧ VC (g0 W).im (u8 s) v ∧ v.oneCell' = true := by
  obtain ⟨n, rfl, _, hw⟩ := DataW.trod_int ht h
  have : 0 ≤ n ∧ n < 256 := by
    simp [Lit.wf, IntKind.min, IntKind.max, IntKind.signed, IntKind.bits] at hw
    omega
  refine ⟨n.toNat.toUInt8, _, rfl, ?_, rfl⟩
  have : u8 n.toNat.toUInt8 = .v (.int .u8 n) := by
    simp only [u8]
    congr 2
    simp
    omega
  rw [this]
  exact .v rfl
/-- Bytes that are read. -/
theorem rd_bytes {t e : TypeId} {fuel : Nat} {cs : List Value} {x : DataW H × List MemPlace} (ht : P.underlying t = some (.slice e)) (he : P.underlying e = some (.int .u8)) (hc : P.cellsOf e = 1) (h : DataW.trod enc P W base spare held fuel t cs = some x) :
    ∃ (y : CV) (b : Bs) (v : Value), cs = [v] ∧ CB y b ∧ VC (g0 W).im y v ∧ v.oneCell' = true := by
  obtain ⟨y, v, ks, ch, rfl, hy, hch, hv, h1, hl, hR⟩ := rd_sl (R := fun (k : UInt8) c => c = [u8 k]) ht hc (by omega) (fun n hn cs y h => by
    obtain ⟨s, v, rfl, hv, h1⟩ := rd_u8 he h
    refine ⟨s, [u8 s], rfl, rfl, rfl, fun i h1' h2 => ?_⟩
    have : i = 0 := by simp at h2; exact h2
    subst this
    exact ⟨hv, h1⟩) h
  have hfl : ch.flatten = u8s ks := by
    have : ch = ks.map fun k => [u8 k] := by
      refine List.ext_getElem (by simp [hl]) fun i h1 h2 => ?_
      rw [List.getElem_map]
      exact hR i (by omega) h1
    rw [this]
    clear this hR hl h hv hy hch
    induction ks with
    | nil => rfl
    | cons k ks ih => rw [List.map_cons, List.flatten_cons, ih]; rfl
  refine ⟨y, ks, v, rfl, ?_, hv, h1⟩
  rw [hfl, ← hl] at hy
  rcases hy with rfl | ⟨h1, _, rfl⟩
  · exact .inl rfl
  · refine .inr ⟨h1, by rw [List.eq_nil_of_length_eq_zero h1]; rfl, rfl⟩
end
end Go.SL

/- A tree of parts that is read. -/
namespace Go.Proofs.Tryd
open Go Go.SL Go.RowKit Go.ChangeShapes Go.Deep
set_option linter.unusedVariables false
section
variable {H : Type} {enc : TypeId × Value → H} {W : World} {base : Nat} {spare : Nat → Bool} {held : Bool}
theorem len2 {α : Type} {l : List α} (h : l.length = 2) : ∃ a b, l = [a, b] := by
  match l, h with
  | [a, b], _ => exact ⟨a, b, rfl⟩
theorem len3 {α : Type} {l : List α} (h : l.length = 3) : ∃ a b c, l = [a, b, c] := by
  match l, h with
  | [a, b, c], _ => exact ⟨a, b, c, rfl⟩
/-- A field that is read. -/
theorem rd_fld {fuel : Nat} {cs : List Value} {x : DataW H × List MemPlace} (h : DataW.trod enc prog W base spare held fuel 31 cs = some x) :
    ∃ (k : Fld) (c : List CV), c = k.c ∧ c.length = 2 ∧ cs.length = 2 ∧ ∀ i (h1 : i < c.length) (h2 : i < cs.length), VC (g0 W).im c[i] cs[i] ∧ cs[i].oneCell' = true := by
  have hcl : prog.cellsOf 31 = 2 := by kernel_rfl
  have hc9 : prog.cellsOf 9 = 1 := by kernel_rfl
  obtain ⟨y0, y1, n, rfl, hl, h0, h1⟩ := trod_struct2 underlying31 h
  rw [hcl] at hl
  obtain ⟨a, b, rfl⟩ := len2 hl
  clear hl
  · simp only [hc9] at h0 h1
    obtain ⟨s0, v0, e0, hv0, o0⟩ := rd_str underlying9 h0
    obtain ⟨s1, v1, e1, hv1, o1⟩ := rd_str underlying9 h1
    simp at e0 e1
    subst e0 e1
    refine ⟨⟨s0, s1⟩, [str s0, str s1], rfl, rfl, rfl, fun i h1 h2 => ?_⟩
    match i, h1 with
    | 0, _ => exact ⟨hv0, o0⟩
    | 1, _ => exact ⟨hv1, o1⟩
/-- A part that is read. -/
theorem rd_part (fuel : Nat) : ∀ {cs : List Value} {x : DataW H × List MemPlace} (h : DataW.trod enc prog W base spare held fuel 28 cs = some x),
    ∃ (k : Prt) (c : List CV), PV k c ∧ c.length = 3 ∧ cs.length = 3 ∧ ∀ i (h1 : i < c.length) (h2 : i < cs.length), VC (g0 W).im c[i] cs[i] ∧ cs[i].oneCell' = true := by
  have hcl : prog.cellsOf 28 = 3 := by kernel_rfl
  have hc25 : prog.cellsOf 24 = 1 := by kernel_rfl
  have hc22 : prog.cellsOf 25 = 1 := by kernel_rfl
  have hc26 : prog.cellsOf 26 = 1 := by kernel_rfl
  have hc67 : prog.cellsOf 31 = 2 := by kernel_rfl
  have hc5 : prog.cellsOf 5 = 1 := by kernel_rfl
  induction fuel using Nat.strongRecOn with
  | _ fuel ih =>
  intro cs x h
  obtain ⟨ys, n, rfl, rfl, hl, hlen, hf⟩ := DataW.trod_struct underlying28 h
  rw [hcl] at hl
  obtain ⟨y0, y1, y2, rfl⟩ := len3 hlen
  obtain ⟨a, b, c, rfl⟩ := len3 hl
  have h0 : DataW.trod enc prog W base spare held n 24 (([a, b, c].drop 0).take (prog.cellsOf 24)) = some y0 := hf 0 _ rfl
  have h1 : DataW.trod enc prog W base spare held n 25 (([a, b, c].drop 1).take (prog.cellsOf 25)) = some y1 := hf 1 _ rfl
  have h2 : DataW.trod enc prog W base spare held n 26 (([a, b, c].drop 2).take (prog.cellsOf 26)) = some y2 := hf 2 _ rfl
  clear hf hl hlen h
  · simp only [hc25, hc22, hc26] at h0 h1 h2
    obtain ⟨f, v0, fs, ch0, e0, f0, c0, hv0, o0, l0, r0⟩ := rd_sl (R := fun (k : Fld) c => c = k.c) underlying24 hc67 (by omega) (fun n hn cs y h => rd_fld h) h0
    obtain ⟨y, bs, v1, e1, f1, hv1, o1⟩ := rd_bytes underlying25 underlying5 hc5 h1
    obtain ⟨q, v2, ps, ch2, e2, f2, c2, hv2, o2, l2, r2⟩ := rd_sl (R := PV) underlying26 hcl (by omega) (fun m hm cs y h => ih m (by omega) h) h2
    simp at e0 e1 e2
    subst e0 e1 e2
    have hch0 : ch0 = fs.map Fld.c := by
      refine List.ext_getElem (by rw [List.length_map, l0]) fun i h1 h2 => ?_
      rw [List.getElem_map]
      exact r0 i (by omega) h1
    rw [← l0, hch0] at f0
    refine ⟨.mk fs bs ps, [f, y, q], .mk f0 f1 l2.symm c2 (by rw [l2]; exact f2) r2, rfl, rfl, fun i h1 h2 => ?_⟩
    match i, h1 with
    | 0, _ => exact ⟨hv0, o0⟩
    | 1, _ => exact ⟨hv1, o1⟩
    | 2, _ => exact ⟨hv2, o2⟩
end
end Go.Proofs.Tryd

/- What all laws of this seat ask of the program and the first world. -/
namespace Go.SL
/-- A contract that asks the tables, and the world's shape, is a row's. -/
theorem handed_both {H : Type} {enc : TypeId × Value → H} {C : Checked} {os : Os} {f : FuncId} {fn : Func} {s : ChangeSpec} {X : World → Array Value → Prop} (hX : ∀ (w w' : World) (args : Array Value), w.heap = w'.heap → X w args → X w' args)
    (own : ownKnob C.prog.godebug = none) (started : os.Started) (noInit : C.prog.inits.idxOf? f = none) (hfn : C.prog.funcs[f]? = some fn)
    (wit : ∃ (w : World) (tape : Tape) (i : Input), w.os = os ∧ (w.forCall tape i).Shaped C.prog ∧ i.vars = [] ∧ Input.okWide C.prog (w.forCall tape i) .any w.heap.size f i ∧
      ((s.pre enc C.prog fn [] false (w.forCall tape i).memory i.args ∧ X (w.forCall tape i).memory i.args) ∧ sizedMet enc C.prog fn (OpenSpec.ofChange s) false (w.forCall tape i).memory i.args) ∧ ({} : Assume).holds C.prog (lone (Frame.enter C.prog f i.args .normal) [] (w.forCall tape i)))
    (contract : ∀ (W : World) (base : Nat) (args : Array Value) (ds gs : List (DataW H)) (before : List MemPlace), (∀ (j : Nat) t v, fn.params[j]? = some t → args[j]? = some v → Value.okWide C.prog W .any base t v) →
      DataW.Whole enc C.prog fn.params.toList s.vars false W args.toList ds gs before → (DataW.weightsEach C.prog (fn.params.toList ++ s.plain.varTypes C.prog) (ds ++ gs)).all (· ≤ reachBytes) = true → X W args → W.ShapedOpen C.prog →
      Calls C.prog f args W fun e W' => ∃ v, e = .returned v ∧ s.post enc C.prog fn false true false false W args v W') :
    ReturnsInHanded {} C os f .any (fun w args => (s.pre enc C.prog fn [] false w args ∧ X w args) ∧ sizedMet enc C.prog fn (OpenSpec.ofChange s) false w args) (s.post enc C.prog fn false true false false) := by
  refine returnsInHanded_of_calls own started noInit wit fun w tape i _ hsh _ hok hpre _ => ?_
  obtain ⟨_, _, _, fn2, h2, _, _, _, _, hval⟩ := hok
  obtain rfl : fn2 = fn := Option.some.inj (h2.symm.trans hfn)
  obtain ⟨⟨⟨ds, gs, before, hw, _⟩, hx⟩, hz⟩ := hpre
  have hw2 := DataW.Whole.of_heap (w' := w.forCall tape i) (by rfl) hw
  refine (contract _ _ i.args ds gs before hval hw2 (hz.weights hw) (hX _ _ _ (by rfl) hx) hsh).mono ?_
  rintro e W' ⟨v, rfl, hp⟩
  exact ChangeSpec.post_blind hp
end Go.SL
namespace Go.Proofs.YtkodlakpjpmbiaaDoor
open Go.ChangeShapes Go.WideShapes Go.ChangeAt Go.RowKit
set_option linter.unusedVariables false
theorem Tryd.own : ownKnob Tryd.prog.godebug = none := by kernel_rfl
theorem Tryd.laidOut : laidOutB Tryd.prog = true := by kernel_rfl
theorem max_cell {W : World} (h : W.ShapedOpen Tryd.prog) : ∃ m, W.cell? ⟨0, 0, none⟩ = some (.int .i64 m) :=
  cell_of_shapedOpen_int (t := 3) (zero := #[.int .i64 0]) h (of_decide_eq_true (by kernel_rfl)) (by kernel_rfl) rfl (by kernel_rfl) (by kernel_rfl) Tryd.underlying3
end Go.Proofs.YtkodlakpjpmbiaaDoor

/- Laws: a border that no text has is among the first ones. -/
namespace Go.Proofs.Tryd
open Go Go.SL
set_option linter.unusedVariables false
theorem dd_mem (u : Nat) : ∀ c ∈ Lib.decDigits u, 48 ≤ c.toNat ∧ c.toNat ≤ 57 := by
  induction u using Nat.strongRecOn with
  | ind u ih =>
  intro c hc
  rw [Lib.decDigits] at hc
  split at hc
  · rename_i h
    obtain rfl := List.mem_singleton.1 hc
    have : (UInt8.ofNat (48 + u)).toNat = 48 + u := by simp; omega
    omega
  · rename_i h
    rcases List.mem_append.1 hc with hc | hc
    · exact ih (u / 10) (by omega) c hc
    · obtain rfl := List.mem_singleton.1 hc
      have : (UInt8.ofNat (48 + u % 10)).toNat = 48 + u % 10 := by simp; omega
      omega
/-- A numeral's number. -/
def numV (l : Bs) : Nat := l.foldl (fun v c => v * 10 + (c.toNat - 48)) 0
theorem numV_snoc (l : Bs) (c : UInt8) : numV (l ++ [c]) = numV l * 10 + (c.toNat - 48) := by simp [numV, List.foldl_append]
theorem numV_dd (u : Nat) : numV (Lib.decDigits u) = u := by
  induction u using Nat.strongRecOn with
  | ind u ih =>
  rw [Lib.decDigits]
  split
  · rename_i h
    have : (UInt8.ofNat (48 + u)).toNat = 48 + u := by simp; omega
    simp only [numV, List.foldl_cons, List.foldl_nil, this]; omega
  · rename_i h
    have : (UInt8.ofNat (48 + u % 10)).toNat = 48 + u % 10 := by simp; omega
    rw [numV_snoc, ih (u / 10) (by omega), this]; omega
theorem dd_ne (u : Nat) : Lib.decDigits u ≠ [] := by
  rw [Lib.decDigits]; split <;> simp
theorem dd_len (u : Nat) : (Lib.decDigits u).length ≤ u + 1 := by
  induction u using Nat.strongRecOn with
  | ind u ih =>
  rw [Lib.decDigits]
  split
  · simp
  · have := ih (u / 10) (by omega)
    rw [List.length_append]; simp; omega
theorem dd_len6 (u : Nat) (h : u < 1000000) : (Lib.decDigits u).length ≤ 6 := by
  have key : ∀ k u : Nat, u < 10 ^ (k + 1) → (Lib.decDigits u).length ≤ k + 1 := by
    intro k
    induction k with
    | zero => intro u h; rw [Lib.decDigits, dif_pos (by omega)]; simp
    | succ k ih =>
      intro u h
      rw [Lib.decDigits]
      split
      · simp
      · have := ih (u / 10) (by rw [Nat.pow_succ] at h; omega)
        rw [List.length_append]; simp; omega
  exact key 5 u h
theorem itoa_nat (i : Nat) : Lib.itoa (i : Nat) = Lib.decDigits i := by unfold Lib.itoa; rw [if_neg (by omega)]; simp
/-- The border of a number; its line's front. -/
def bdr (i : Nat) : Bs := 98 :: Lib.decDigits i
def bdF (i : Nat) : Bs := 45 :: 45 :: bdr i
theorem bdF_inj {i j : Nat} (h : bdF i = bdF j) : i = j := by
  unfold bdF bdr at h
  have : Lib.decDigits i = Lib.decDigits j := by
    injection h with _ h; injection h with _ h; injection h
  rw [← numV_dd i, this, numV_dd]
theorem sub_len {α : Type} [DecidableEq α] : ∀ (l k : List α), l.Nodup → (∀ x ∈ l, x ∈ k) → l.length ≤ k.length := by
  intro l
  induction l with
  | nil => intro k _ _; simp
  | cons a l ih =>
    intro k hn hs
    obtain ⟨h1, h2⟩ := List.nodup_cons.1 hn
    have ha := hs a (by simp)
    have := ih (k.erase a) h2 (fun x hx => by
      have hxk := hs x (by simp [hx])
      exact (List.mem_erase_of_ne (fun e => h1 (by rw [← e]; exact hx))).2 hxk)
    rw [List.length_erase_of_mem ha] at this
    have := List.length_pos_of_mem ha
    simp; omega
theorem lines_len : ∀ (n : Nat) (r : Bs), r.length ≤ n → ((linesS r).map List.length).sum = r.length := by
  intro n
  induction n with
  | zero =>
    intro r h
    obtain rfl := List.eq_nil_of_length_eq_zero (by omega : r.length = 0)
    rw [linesS_nil]; rfl
  | succ n ih =>
    intro r h
    by_cases h0 : r = []
    · subst h0; rw [linesS_nil]; rfl
    · have hp := lineN_pos h0
      have := List.length_pos_iff.2 h0
      rw [linesS_cons h0]
      simp only [List.map_cons, List.sum_cons]
      rw [ih _ (by simp; omega)]
      simp
      omega
/-- The fronts of a text's lines. -/
def fronts (r : Bs) : List Bs := (linesS r).flatMap fun l => (List.range l.length).map fun k => l.take (k + 1)
theorem fronts_len (r : Bs) : (fronts r).length = r.length := by
  rw [← lines_len _ r (Nat.le_refl _)]
  unfold fronts
  rw [List.length_flatMap]
  congr 1
  simp
theorem beg_front {r t : Bs} (h : begL r t) (ht : t ≠ []) : t ∈ fronts r := by
  obtain ⟨l, hl, u, hu⟩ := h
  refine List.mem_flatMap.2 ⟨l, hl, List.mem_map.2 ⟨t.length - 1, ?_, ?_⟩⟩
  · have := List.length_pos_iff.2 ht
    rw [List.mem_range, ← hu, List.length_append]; omega
  · have := List.length_pos_iff.2 ht
    rw [show t.length - 1 + 1 = t.length by omega, ← hu, List.take_left']
    rfl
/-- A number whose border is in none of the texts. -/
def freeB (bs : List Bs) (i : Nat) : Prop := ∀ b ∈ bs, ¬ begL b (bdF i)
theorem free_ex (bs : List Bs) : ∃ i, i ≤ (bs.map List.length).sum ∧ freeB bs i := by
  refine Classical.byContradiction fun hno => ?_
  have hall : ∀ i, i ≤ (bs.map List.length).sum → ∃ b ∈ bs, begL b (bdF i) := fun i hi =>
    Classical.byContradiction fun h => hno ⟨i, hi, fun b hb hg => h ⟨b, hb, hg⟩⟩
  have h1 := sub_len ((List.range ((bs.map List.length).sum + 1)).map bdF) (bs.flatMap fronts) (by
    rw [List.nodup_iff_pairwise_ne, List.pairwise_map]
    exact List.Pairwise.imp (fun hne he => hne (bdF_inj he)) (List.nodup_iff_pairwise_ne.1 List.nodup_range)) (fun x hx => by
    obtain ⟨i, hi, rfl⟩ := List.mem_map.1 hx
    obtain ⟨b, hb, hg⟩ := hall i (by rw [List.mem_range] at hi; omega)
    exact List.mem_flatMap.2 ⟨b, hb, beg_front hg (by simp [bdF])⟩)
  rw [List.length_map, List.length_range, List.length_flatMap] at h1
  have : (bs.map (fun a => (fronts a).length)) = bs.map List.length := by
    apply List.map_congr_left; intro a _; exact fronts_len a
  rw [this] at h1
  omega
/-- The first one. -/
theorem free_first (bs : List Bs) : ∃ i, i ≤ (bs.map List.length).sum ∧ freeB bs i ∧ ∀ j, j < i → ¬ freeB bs j := by
  obtain ⟨i, hi, hf⟩ := free_ex bs
  have : ∀ n i, i ≤ n → freeB bs i → ∃ i0, i0 ≤ i ∧ freeB bs i0 ∧ ∀ j, j < i0 → ¬ freeB bs j := by
    intro n
    induction n with
    | zero => intro i h hf; exact ⟨i, Nat.le_refl _, hf, fun j hj => by omega⟩
    | succ n ih =>
      intro i h hf
      by_cases hex : ∃ j, j < i ∧ freeB bs j
      · obtain ⟨j, hj, hfj⟩ := hex
        obtain ⟨i0, h1, h2, h3⟩ := ih j (by omega) hfj
        exact ⟨i0, by omega, h2, h3⟩
      · exact ⟨i, Nat.le_refl _, hf, fun j hj hfj => hex ⟨j, hj, hfj⟩⟩
  obtain ⟨i0, h1, h2, h3⟩ := this i i (Nat.le_refl _) hf
  exact ⟨i0, by omega, h2, h3⟩
end Go.Proofs.Tryd

/- Walks: parts.Border. -/
namespace Go.Proofs.Tryd
open Go Go.SL
set_option linter.unusedVariables false
set_option linter.unusedSimpArgs false
attribute [local congr] WX_stop WC_stop W_stop
variable [LayerC]
@[simp] theorem muK5 : (cs0.of 5).mu = false := rfl
@[simp] theorem reK5 : (cs0.of 5).reuse = false := rfl
theorem k11 (m i : Nat) (H : Hp) (hi : i ≤ 9223372036854775807) : Ret prog cs0 m 11 [.v (.int .i64 (i : Nat))] H (str (Lib.decDigits i)) H := by
  unfold Ret
  rw [WC_prim (p := itoP) rfl]
  have h1 : (-9223372036854775808 : Int) ≤ (i : Nat) ∧ ((i : Nat) : Int) ≤ 9223372036854775807 := by omega
  simp only [itoP]
  rw [if_pos h1, itoa_nat]
  simp
set_option maxRecDepth 100000 in
theorem k5 (m : Nat) (x : CV) (ys : List CV) (bs : List Bs) (H : Hp) (hx : RS H x (ys.map fun y => [y]) 1) (hl : ys.length = bs.length) (hy : ∀ i (h1 : i < ys.length) (h2 : i < bs.length), RB H ys[i] bs[i]) (hbl : ∀ b ∈ bs, b.length ≤ 10000000) (hn : bs.length ≤ 100000) (hs : (bs.map List.length).sum ≤ 1000000000) :
    ∃ i, freeB bs i ∧ (∀ j, j < i → ¬ freeB bs j) ∧ i ≤ (bs.map List.length).sum ∧ Ret prog cs0 m 5 [x] H (str (bdr i)) H := by
  obtain ⟨i0, hi0, hf0, hff⟩ := free_first bs
  refine ⟨i0, hf0, hff, hi0, ?_⟩
  unfold Ret
  rw [WC_drop rfl func5 rfl rfl]
  have ux := hx.unl
  have hlen := hx.len (P := prog) underlying22
  rw [List.length_map] at hlen
  simp -implicitDefEqProofs [f5]
  obtain ⟨I, hI⟩ : ∃ I : Nat → Fr → Hp → Prop, ∀ j fr H', I j fr H' ↔ ∃ i, j = i0 - i ∧ i ≤ i0 ∧ H' = H ∧ fr 0 = x ∧ fr 3 = .v (.int .i64 (i : Nat)) := ⟨_, fun _ _ _ => Iff.rfl⟩
  refine W_rounds I ?_ (i0 - 0) _ _ ((hI _ _ _).2 ⟨0, rfl, by omega, rfl, by simp, by simp⟩)
  intro j fr H' h
  obtain ⟨i, rfl, hi, rfl, a0, a3⟩ := (hI _ _ _).1 h
  have c11 := fun m H => (k11 m i H (by omega)).wc
  have hdl := dd_len i
  have hadd1 : (1 : Nat) + (Lib.decDigits i).length ≤ 9223372036854775807 := by omega
  have hb1 : str [98] = str [98] := rfl
  simp -implicitDefEqProofs [a0, a3, ux, hlen, c11, hadd1]
  obtain ⟨J, hJ⟩ : ∃ J : Nat → Fr → Hp → Prop, ∀ k fr H2, J k fr H2 ↔ ∃ q : Bool, (q = true ↔ ∀ b ∈ bs.take k, ¬ begL b (bdF i)) ∧ H2 = H' ∧ fr 0 = x ∧ fr 3 = .v (.int .i64 (i : Nat)) ∧ fr 4 = str (bdr i) ∧ fr 5 = .v (.bool q) ∧ fr 13 = x ∧ fr 14 = .v (.int .i64 (ys.length : Nat)) ∧ fr 15 = .v (.int .i64 (k : Nat)) := ⟨_, fun _ _ _ => Iff.rfl⟩
  refine W_up ys.length J ?_ 0 _ _ (by omega) ((hJ _ _ _).2 ⟨true, by simp, rfl, by simp [a0, a3, bdr]⟩)
  intro k fr2 H2 hk hJk
  obtain ⟨q, hq, rfl, b0, b3, b4, b5, b13, b14, b15⟩ := (hJ _ _ _).1 hJk
  by_cases hlt : k < ys.length
  · have hkb : k < bs.length := by omega
    have hw := up64 (i := k) (n := ys.length) hlt (by omega)
    have hlt2 : k < (ys.map fun y => [y]).length := by simpa using hlt
    have had : dIndexAddr prog 22 x (.v (.int .i64 (k : Nat))) H2 = some (adrC x k) := by rw [hx.addr underlying22 iT25 sT25]; simp [hlt]
    have hld : dLoad prog 25 (adrC x k) H2 = some ys[k] := by rw [hx.load1 underlying25 rfl iT25 hlt2 (by omega)]; simp
    have hyk := hy k hlt hkb
    have uy := hyk.unl
    have hbk := hbl _ (List.getElem_mem hkb)
    have hbd6 : (bdF i).length ≤ 4294967280 := by simp [bdF, bdr]; omega
    have c12 := fun m => (w42 m ys[k] bs[k] (bdF i) H2 hyk (by omega) hbd6).wc
    obtain ⟨d, hd⟩ : ∃ d, d = decide (begL bs[k] (bdF i)) := ⟨_, rfl⟩
    rw [← hd] at c12
    have hdd : d = true ↔ begL bs[k] (bdF i) := by rw [hd]; simp
    have hdash : (2 : Nat) + (bdr i).length ≤ 9223372036854775807 := by simp [bdr]; omega
    have hts : bs.take (k + 1) = bs.take k ++ [bs[k]] := take_snoc hkb
    have hbF : [45, 45] ++ bdr i = bdF i := rfl
    have hbF2 : 45 :: 45 :: bdr i = bdF i := rfl
    cases q with
    | false =>
      simp -implicitDefEqProofs [b0, b3, b4, b5, b13, b14, b15, hlt, had, hld, uy, hw]
      refine (hJ _ _ _).2 ⟨false, ?_, rfl, by simp [b0, b3, b4, b13, b14]⟩
      rw [hts]
      refine ⟨fun h => (Bool.false_ne_true h).elim, fun hall => ?_⟩
      exact (Bool.false_ne_true (hq.2 fun b hb => hall b (List.mem_append_left _ hb))).elim
    | true =>
      simp -implicitDefEqProofs [b0, b3, b4, b5, b13, b14, b15, hlt, had, hld, uy, hw, hdash, hbF2, c12]
      refine (hJ _ _ _).2 ⟨!d, ?_, rfl, by simp [b0, b3, b4, b13, b14]⟩
      rw [hts]
      have hq' := hq.1 rfl
      constructor
      · intro hnd b hb
        rcases List.mem_append.1 hb with hb | hb
        · exact hq' b hb
        · obtain rfl := List.mem_singleton.1 hb
          intro hg
          rw [hdd.2 hg] at hnd
          cases hnd
      · intro hall
        have := hall bs[k] (List.mem_append_right _ (List.mem_singleton.2 rfl))
        cases d with
        | false => rfl
        | true => exact absurd (hdd.1 rfl) this
  · obtain rfl : k = ys.length := by omega
    have htk : bs.take ys.length = bs := List.take_of_length_le (by omega)
    rw [htk] at hq
    cases q with
    | true =>
      have hfi : freeB bs i := hq.1 rfl
      have : i = i0 := by
        rcases Nat.lt_or_ge i i0 with h | h
        · exact absurd hfi (hff i h)
        · omega
      subst this
      simp -implicitDefEqProofs [b0, b3, b4, b5, b13, b14, b15]
    | false =>
      have hne : i ≠ i0 := by
        rintro rfl
        have := hq.2 hf0
        cases this
      have hw2 := up64 (i := i) (n := i0) (by omega) (by omega)
      simp -implicitDefEqProofs [b0, b3, b4, b5, b13, b14, b15, hw2]
      exact ⟨_, by omega, (hI _ _ _).2 ⟨i + 1, rfl, by omega, rfl, by simp [b0], by simp⟩⟩
end Go.Proofs.Tryd

/- Laws: the lines of what is written. -/
namespace Go.Proofs.Tryd
open Go Go.SL
set_option linter.unusedVariables false

theorem pair_app {s r : Bs} {i : Nat} (h : pairAt (s ++ crlf ++ r) i) (hi : i < s.length) : pairAt s i := by
  obtain ⟨h1, h2⟩ := h
  rw [List.append_assoc, List.getElem?_append_left hi] at h1
  refine ⟨h1, ?_⟩
  by_cases h3 : i + 1 < s.length
  · rwa [List.append_assoc, List.getElem?_append_left h3] at h2
  · have : i + 1 = s.length := by omega
    rw [List.append_assoc, List.getElem?_append_right (by omega), this] at h2
    simp [crlf] at h2
theorem cr_cat {s r : Bs} (h : ∀ i, ¬ pairAt s i) : crIdx (s ++ crlf ++ r) = s.length := by
  refine cr_first ⟨?_, ?_⟩ fun i hi hp => h i (pair_app hp hi)
  · rw [List.append_assoc, List.getElem?_append_right (Nat.le_refl _)]; simp [crlf]
  · rw [List.append_assoc, List.getElem?_append_right (by omega)]; simp [crlf]
/-- A line, its end, and what is behind it. -/
theorem lnS_cat {s : Bs} (h : ∀ i, ¬ pairAt s i) (a : Nat) (r : Bs) : lnS a (s ++ crlf ++ r) = ⟨a, s, true⟩ :: lnS (a + s.length + 2) r := by
  have hc := cr_cat (r := r) h
  have h0 : 0 ≤ crIdx (s ++ crlf ++ r) := by omega
  rw [lnS_whole h0]
  have hn : lineN (s ++ crlf ++ r) = s.length + 2 := by unfold lineN; rw [if_neg (by omega), hc]; simp
  rw [hn, hc]
  have h1 : (s ++ crlf ++ r).take (s.length : Int).toNat = s := by simp
  have h2 : (s ++ crlf ++ r).drop (s.length + 2) = r := by
    have : (s ++ crlf).length = s.length + 2 := by simp [crlf]
    rw [← this, List.drop_left]
  rw [h1, h2, Nat.add_assoc]
theorem noCr_pair {s : Bs} (h : noCr s) : ∀ i, ¬ pairAt s i := by
  intro i hp
  have := List.mem_of_getElem? hp.1
  exact h 13 this rfl
/-- The lines' texts don't hang on where they begin. -/
theorem lnS_s (a b : Nat) (t : Bs) : (lnS a t).map Ln.s = (lnS b t).map Ln.s := by
  have key : ∀ n (t : Bs), t.length ≤ n → ∀ a b, (lnS a t).map Ln.s = (lnS b t).map Ln.s := by
    intro n
    induction n with
    | zero =>
      intro t ht a b
      obtain rfl := List.eq_nil_of_length_eq_zero (by omega : t.length = 0)
      rw [lnS_nil, lnS_nil]
    | succ n ih =>
      intro t ht a b
      by_cases h : t = []
      · subst h; rw [lnS_nil, lnS_nil]
      · by_cases hc : crIdx t < 0
        · rw [lnS_last h hc, lnS_last h hc]; rfl
        · have hp := lineN_pos h
          have := List.length_pos_iff.2 h
          rw [lnS_whole (a := a) (by omega), lnS_whole (a := b) (by omega), List.map_cons, List.map_cons, ih _ (by simp; omega) _ (b + lineN t)]
  exact key _ t (Nat.le_refl _) a b
/-- A text with an end put behind it: its lines, the last one whole. -/
theorem lnS_text (t r : Bs) : ∀ p, ∃ L : List Ln, lnS p (t ++ crlf ++ r) = L ++ lnS (p + t.length + 2) r ∧ ∀ x ∈ L, x.s = [] ∨ ∃ y ∈ lnS p t, x.s = y.s := by
  have key : ∀ n (t : Bs), t.length ≤ n → ∀ p, ∃ L : List Ln, lnS p (t ++ crlf ++ r) = L ++ lnS (p + t.length + 2) r ∧ ∀ x ∈ L, x.s = [] ∨ ∃ y ∈ lnS p t, x.s = y.s := by
    intro n
    induction n with
    | zero =>
      intro t ht p
      obtain rfl := List.eq_nil_of_length_eq_zero (by omega : t.length = 0)
      exact ⟨[⟨p, [], true⟩], by rw [lnS_cat (by intro i h; simp [pairAt] at h)]; rfl, fun x hx => .inl (by simp at hx; rw [hx])⟩
    | succ n ih =>
      intro t ht p
      by_cases h : t = []
      · subst h; exact ⟨[⟨p, [], true⟩], by rw [lnS_cat (by intro i h; simp [pairAt] at h)]; rfl, fun x hx => .inl (by simp at hx; rw [hx])⟩
      · by_cases hc : crIdx t < 0
        · refine ⟨[⟨p, t, true⟩], by rw [lnS_cat (no_pair hc)]; rfl, fun x hx => .inr ⟨⟨p, t, false⟩, ?_, ?_⟩⟩
          · rw [lnS_last h hc]; simp
          · simp at hx; rw [hx]
        · have hc' : 0 ≤ crIdx t := by omega
          have hp := lineN_pos h
          have hle := lineN_le t
          have hroom := crIdx_room t hc'
          have hnn : lineN t = (crIdx t).toNat + 2 := by unfold lineN; rw [if_neg hc]
          obtain ⟨k, hk⟩ : ∃ k, k = (crIdx t).toNat := ⟨_, rfl⟩
          have e : t ++ crlf ++ r = t.take k ++ crlf ++ (t.drop (lineN t) ++ crlf ++ r) := by
            have h1 := line_whole hc'
            rw [← hk] at h1
            rw [← h1]
            have h2 : t.take (lineN t) ++ (t.drop (lineN t) ++ (crlf ++ r)) = t ++ (crlf ++ r) := by rw [← List.append_assoc, List.take_append_drop]
            rw [List.append_assoc, ← h2, List.append_assoc (t.drop (lineN t))]
          have hnp : ∀ i, ¬ pairAt (t.take k) i := by
            intro i hp2
            have hi : i < k := by
              have h1 := hp2.1
              rcases Nat.lt_or_ge i (t.take k).length with h3 | h3
              · simp at h3; omega
              · rw [List.getElem?_eq_none (by omega)] at h1; cases h1
            rcases Lib.index_spec t [13, 10] with ⟨h1, _⟩ | ⟨j, h1, _, _, h4⟩
            · unfold crIdx at hc; omega
            · have hj : k = j := by rw [hk]; unfold crIdx; omega
              have h5 := h4 i (by omega)
              have h6 : Lib.occAt t [13, 10] i = true := (occ_pair t i).2 ⟨by
                  have := hp2.1
                  rw [List.getElem?_take_of_lt hi] at this
                  exact this, by
                  have := hp2.2
                  rw [List.getElem?_take] at this
                  split at this
                  · exact this
                  · cases this⟩
              rw [h6] at h5; cases h5
          have hlk : (t.take k).length = k := by simp; omega
          obtain ⟨L, h1, h2⟩ := ih (t.drop (lineN t)) (by simp; omega) (p + lineN t)
          refine ⟨⟨p, t.take k, true⟩ :: L, ?_, ?_⟩
          · rw [e, lnS_cat hnp, hlk]
            have : p + k + 2 = p + lineN t := by omega
            rw [this, h1]
            have : p + lineN t + (t.drop (lineN t)).length + 2 = p + t.length + 2 := by simp; omega
            rw [this]; rfl
          · intro x hx
            rw [lnS_whole hc']
            rcases List.mem_cons.1 hx with rfl | hx
            · exact .inr ⟨_, List.mem_cons_self, by rw [hk]⟩
            · rcases h2 x hx with h3 | ⟨y, hy, h3⟩
              · exact .inl h3
              · exact .inr ⟨y, List.mem_cons_of_mem _ hy, h3⟩
  exact key _ t (Nat.le_refl _)

theorem noCr_app {a b : Bs} (ha : noCr a) (hb : noCr b) : noCr (a ++ b) := by
  intro c hc
  rcases List.mem_append.1 hc with h | h
  · exact ha c h
  · exact hb c h
theorem name_cr {s : Bs} (h : isName s) : noCr s := by
  intro c hc e
  subst e
  have := h.2.2 13 hc
  unfold nameC at this
  revert this; decide
theorem val_cr {s : Bs} (h : isVal s) : noCr s := by
  intro c hc e
  subst e
  have := h.1 13 hc
  unfold valC at this
  revert this; decide
theorem lineF_cr {f : Fld} (h : isName f.n ∧ isVal f.v) : noCr (lineF f) := by
  unfold lineF
  refine noCr_app (noCr_app (name_cr h.1) (by intro c hc; simp at hc; subst hc; decide)) ?_
  split
  · intro c hc; simp at hc
  · intro c hc
    rcases List.mem_cons.1 hc with rfl | hc
    · decide
    · exact val_cr h.2 c hc
/-- Lines that are written are read as lines. -/
theorem emit_lines (os : List Bs) (r : Bs) (h : ∀ s ∈ os, noCr s) : ∀ a, ∃ L : List Ln, lnS a (emit os ++ r) = L ++ lnS (a + (emit os).length) r ∧ L.map Ln.s = os ∧ (∀ x ∈ L, x.w = true) := by
  induction os with
  | nil => intro a; exact ⟨[], by simp [emit], rfl, by simp⟩
  | cons s os ih =>
    intro a
    obtain ⟨L, h1, h2, h3⟩ := ih (fun t ht => h t (by simp [ht])) (a + s.length + 2)
    refine ⟨⟨a, s, true⟩ :: L, ?_, by rw [List.map_cons, h2], ?_⟩
    · have e : emit (s :: os) ++ r = s ++ crlf ++ (emit os ++ r) := by simp [emit]
      rw [e, lnS_cat (noCr_pair (h s (by simp))), h1]
      have : a + s.length + 2 + (emit os).length = a + (emit (s :: os)).length := by simp [emit, crlf]; omega
      rw [this]; rfl
    · intro x hx
      rcases List.mem_cons.1 hx with rfl | hx
      · rfl
      · exact h3 x hx
theorem fold_tail {s : Bs} {f : Nat} {o : List Bs} (h : FoldR s f o) : f = 1 → s.head?.map blankC = some true → ∀ x ∈ o, x.head?.map blankC = some true := by
  induction h with
  | stop => intro _ hs x hx; simp at hx; subst hx; exact hs
  | @step s f k out h hp ho ih =>
    intro hf hs x hx
    subst hf
    rcases List.mem_cons.1 hx with rfl | hx
    · obtain ⟨h1, _⟩ := hp
      cases s with
      | nil => simp at hs
      | cons a s =>
        cases k with
        | zero => omega
        | succ k => simpa using hs
    · refine ih rfl ?_ x hx
      rw [List.head?_drop, hp.2.2.1]
      rfl
/-- A folded line: the first one holds the beginning, all others begin with a blank. -/
theorem fold_head {s : Bs} {f : Nat} {o : List Bs} (h : FoldR s f o) (hf : f ≤ s.length + 2) : ∃ (a : Bs) (os : List Bs), o = a :: os ∧ (∀ x ∈ os, x.head?.map blankC = some true) ∧ a ++ os.flatten = s ∧ (os = [] ∨ f ≤ a.length) := by
  cases h with
  | stop h => exact ⟨s, [], rfl, by simp, by simp, .inl rfl⟩
  | @step _ _ k out h hp ho =>
    refine ⟨s.take k, out, rfl, fold_tail ho rfl ?_, ?_, .inr ?_⟩
    · rw [List.head?_drop, hp.2.2.1]; rfl
    · rw [ho.flat, List.take_append_drop]
    · have := hp.1; have := hp.2.1; simp; omega
theorem blank_all (n : Nat) (L : List Ln) (xs : List Ln) (l : List Fld) (a : Nat) (nm : Bs) : ∀ (v : Bs), (∀ x ∈ L, x.w = true ∧ ¬ 998 < x.s.length ∧ x.s.head?.map blankC = some true) → hdrG n (L ++ xs) l (some ⟨a, nm, v⟩) = hdrG n xs l (some ⟨a, nm, v ++ (L.map Ln.s).flatten⟩) := by
  induction L with
  | nil => intro v _; simp
  | cons x L ih =>
    intro v h
    obtain ⟨h1, h2, h3⟩ := h x (by simp)
    rw [List.cons_append, hdrG_b1 h1 h2 h3, ih _ (fun y hy => h y (by simp [hy]))]
    simp
theorem headT_app {n r : Bs} (h : ∀ c ∈ n, c ≠ 58) : headT (n ++ 58 :: r) 58 = n := by
  unfold headT
  rw [List.takeWhile_append_of_pos (fun c hc => by simpa using h c hc)]
  simp
theorem trim_sp {v : Bs} (h : trim v = v) : trim (if v = [] then [] else 32 :: v) = v := by
  split
  · rename_i e; subst e; rfl
  · have : trim (32 :: v) = trim v := by
      unfold trim
      have : trimL (32 :: v) = trimL v := by unfold trimL; rw [List.dropWhile_cons]; rfl
      rw [this]
    rw [this, h]
/-- A field's lines. -/
theorem fld_lines {f : Fld} (hf : isName f.n ∧ isVal f.v) {o : List Bs} (ho : FoldR (lineF f) (f.n.length + 3) o) (h9 : ∀ s ∈ o, s.length ≤ 998) {n : Nat} {L : List Ln} (hL : L.map Ln.s = o) (hw : ∀ x ∈ L, x.w = true) (xs : List Ln) (l l1 : List Fld) (q : Option Opn) (hs : shutG l q = some l1) :
    ∃ a, hdrG n (L ++ xs) l q = hdrG n xs l1 (some ⟨a, f.n, if f.v = [] then [] else 32 :: f.v⟩) := by
  have hlen : (lineF f).length = f.n.length + 1 + (if f.v = [] then [] else 32 :: f.v).length := by simp [lineF]; omega
  obtain ⟨a, os, rfl, h1, h2, h3⟩ := fold_head ho (by
    rw [hlen]; split <;> simp <;> omega)
  cases L with
  | nil => simp at hL
  | cons x L =>
    simp only [List.map_cons, List.cons.injEq] at hL
    obtain ⟨hx, hL⟩ := hL
    have hxw := hw x (by simp)
    have hx9 : ¬ 998 < x.s.length := by have := h9 a (by simp); rw [hx]; omega
    obtain ⟨c0, nt, hn0⟩ : ∃ c0 nt, f.n = c0 :: nt := by
      cases e : f.n with
      | nil => have := hf.1.1; rw [e] at this; simp at this
      | cons c t => exact ⟨c, t, rfl⟩
    obtain ⟨r, hr⟩ : ∃ r, a = f.n ++ 58 :: r := by
      have e : lineF f = f.n ++ 58 :: (if f.v = [] then [] else 32 :: f.v) := by simp [lineF]
      rw [e] at h2
      rcases List.append_eq_append_iff.1 h2 with ⟨u, h4, h5⟩ | ⟨u, h4, h5⟩
      · cases u with
        | nil =>
          exfalso
          rw [List.append_nil] at h4
          rcases h3 with h3 | h3
          · subst h3; simp at h5
          · rw [← h4] at h3; omega
        | cons d u =>
          exfalso
          rcases h3 with h3 | h3
          · subst h3; simp at h5
          · rw [h4] at h3; simp at h3; omega
      · cases u with
        | nil =>
          exfalso
          rw [List.append_nil] at h4
          rcases h3 with h3 | h3
          · subst h3; simp at h5
          · rw [h4] at h3; omega
        | cons d u =>
          simp at h5
          exact ⟨u, by rw [h4, h5.1]⟩
    have hno : ∀ c ∈ f.n, c ≠ 58 := fun c hc e => (hf.1.2.2 c hc).2.2 (by rw [e]; rfl)
    have hht : headT x.s 58 = f.n := by rw [hx, hr]; exact headT_app hno
    have hnb : ¬ (x.s.head?.map blankC) = some true := by
      rw [hx, hr, hn0]
      simp only [List.cons_append, List.head?_cons, Option.map_some, Option.some.injEq, Bool.not_eq_true]
      have := hf.1.2.2 c0 (by rw [hn0]; simp)
      unfold nameC at this
      unfold blankC
      simp; omega
    have hne : x.s ≠ [] := by rw [hx, hr, hn0]; simp
    refine ⟨x.a, ?_⟩
    rw [List.cons_append, hdrG_open hxw hx9 hnb hs hne (by rw [hht, hx, hr]; simp; exact hf.1), hht]
    rw [blank_all n L xs l1 x.a f.n _ (fun y hy => ⟨hw y (by simp [hy]), by have := h9 y.s (by rw [List.mem_cons, ← hL]; exact .inr (List.mem_map_of_mem hy)); omega, h1 y.s (by rw [← hL]; exact List.mem_map_of_mem hy)⟩)]
    have e : x.s.drop (f.n.length + 1) ++ (L.map Ln.s).flatten = if f.v = [] then [] else 32 :: f.v := by
      have e : lineF f = f.n ++ 58 :: (if f.v = [] then [] else 32 :: f.v) := by simp [lineF]
      rw [e, hr] at h2
      rw [hx, hr, hL]
      simp at h2
      simp [h2]
    rw [e]
/-- A header that is written is read. -/
theorem folds_back {l : List Fld} {os : List Bs} (ho : FoldsR l os) {n : Nat} : (∀ f ∈ l, isName f.n ∧ isVal f.v) → l.length ≤ 128 → (∀ s ∈ os, s.length ≤ 998) → ∀ (L : List Ln), L.map Ln.s = os → (∀ x ∈ L, x.w = true) → ∀ xs : List Ln,
    ∃ (l0 : List Fld) (q : Option Opn), shutG l0 q = some l ∧ hdrG n (L ++ xs) [] none = hdrG n xs l0 q := by
  induction ho with
  | nil =>
    intro _ _ _ L hL _ xs
    obtain rfl : L = [] := by simpa using hL
    exact ⟨[], none, rfl, rfl⟩
  | @snoc l f o os h hf ih =>
    intro hb hl h9 L hL hw xs
    obtain ⟨L1, L2, rfl, h1, h2⟩ := List.map_eq_append_iff.1 hL
    obtain ⟨l0, q, hs, he⟩ := ih (fun g hg => hb g (by simp [hg])) (by simp at hl; omega) (fun s hs => h9 s (by simp [hs])) L1 h1 (fun x hx => hw x (by simp [hx])) (L2 ++ xs)
    obtain ⟨a, ha⟩ := fld_lines (hb f (by simp)) hf (fun s hs => h9 s (by simp [hs])) (n := n) h2 (fun x hx => hw x (by simp [hx])) xs l0 l q hs
    refine ⟨l, _, ?_, by rw [List.append_assoc, he, ha]⟩
    have hv := (hb f (by simp)).2
    unfold shutG
    simp only [trim_sp hv.2.2]
    rw [if_pos ⟨hv, by simp at hl; omega⟩]
theorem FoldsR.cr {l : List Fld} {os : List Bs} (h : FoldsR l os) : (∀ f ∈ l, isName f.n ∧ isVal f.v) → ∀ s ∈ os, noCr s := by
  induction h with
  | nil => intro _ s hs; cases hs
  | @snoc l f o os h hf ih =>
    intro hb s hs
    rcases List.mem_append.1 hs with h1 | h1
    · exact ih (fun g hg => hb g (by simp [hg])) s h1
    · intro c hc
      exact lineF_cr (hb f (by simp)) c (by rw [← hf.flat]; exact List.mem_flatten.2 ⟨s, h1, hc⟩)
theorem hdr_back {l : List Fld} {hd : Bs} (h : hdO l = some hd) (n : Nat) (body : Bs) : hdrG n (lnS 0 (hd ++ body)) [] none = .ok l hd.length := by
  unfold hdO at h
  split at h
  · rename_i hex
    have hw := hex.choose_spec
    cases h
    obtain ⟨b, hb⟩ : ∃ b, b = hex.choose := ⟨_, rfl⟩
    rw [← hb] at hw ⊢
    cases hw with
    | ok h hbb os ho h9 =>
      obtain ⟨L, h1, h2, h3⟩ := emit_lines os (crlf ++ body) (ho.cr hbb) 0
      rw [List.append_assoc, h1]
      have h4 : lnS (0 + (emit os).length) (crlf ++ body) = ⟨0 + (emit os).length, [], true⟩ :: lnS (0 + (emit os).length + 2) body := by
        have := lnS_cat (s := []) (by intro i hp; simp [pairAt] at hp) (0 + (emit os).length) body
        simpa using this
      rw [h4]
      obtain ⟨l0, q, hs, he⟩ := folds_back ho (n := n) hbb h h9 L h2 h3 (⟨0 + (emit os).length, [], true⟩ :: lnS (0 + (emit os).length + 2) body)
      rw [he, hdrG_end rfl rfl hs]
      simp [crlf]
  · cases h
end Go.Proofs.Tryd

/- Laws: a tree that is written is read as it was. -/
namespace Go.Proofs.Tryd
open Go Go.SL
set_option linter.unusedVariables false

theorem edge_no {s b : Bs} (h : ¬ dash2 ++ b <+: s) : edgeC s b = 0 := by unfold edgeC edgeG; rw [if_neg h]
theorem edge_nil (b : Bs) : edgeC [] b = 0 := edge_no (by rintro ⟨r, hr⟩; simp [dash2] at hr)
theorem beh_self (a b : Bs) : behind (a ++ b) a = b := by unfold behind; rw [if_pos (List.prefix_append a b), List.drop_left]
theorem edge_one (b : Bs) : edgeC (dash2 ++ b) b = 1 := by
  unfold edgeC edgeG
  rw [if_pos (List.prefix_refl _)]
  have h1 : behind (dash2 ++ b) (dash2 ++ b) = [] := by have := beh_self (dash2 ++ b) []; simpa using this
  rw [h1]
  rfl
theorem edge_two (b : Bs) : edgeC (dash2 ++ b ++ dash2) b = 2 := by
  unfold edgeC edgeG
  rw [if_pos (List.prefix_append _ _), beh_self]
  rfl
/-- A knot's content. -/
def knotT (b : Bs) : List Bs → Bs
  | [] => dash2 ++ b ++ dash2 ++ crlf
  | t :: ts => dash2 ++ b ++ crlf ++ t ++ crlf ++ knotT b ts
theorem cut_skip {l b : Bs} (xs : List Ln) (fr : Option Nat) (out : List Bs) : ∀ L : List Ln, (∀ x ∈ L, edgeC x.s b = 0) → cutG l b (L ++ xs) fr out = cutG l b xs fr out := by
  intro L
  induction L with
  | nil => intro _; rfl
  | cons x L ih =>
    intro h
    rw [List.cons_append, cutG, if_pos (h x (by simp)), ih fun y hy => h y (by simp [hy])]
theorem outN_at {l : Bs} {x y : Ln} (h : x.a = y.a) (fr : Option Nat) (out : List Bs) : outN l x fr out = outN l y fr out := by unfold outN; rw [h]
theorem cut_back {b : Bs} (hb : noCr b) : ∀ (ts : List Bs) (pre : Bs) (fr : Option Nat) (out : List Bs), (∀ t ∈ ts, ¬ begR t (dash2 ++ b)) →
    cutG (pre ++ knotT b ts) b (lnS pre.length (knotT b ts)) fr out = some (outN (pre ++ knotT b ts) ⟨pre.length, [], true⟩ fr out ++ ts) := by
  intro ts
  induction ts with
  | nil =>
    intro pre fr out _
    have h1 : lnS pre.length (knotT b []) = ⟨pre.length, dash2 ++ b ++ dash2, true⟩ :: lnS (pre.length + (dash2 ++ b ++ dash2).length + 2) [] := by
      have := lnS_cat (noCr_pair (noCr_app (dash_cr hb) dash_cr0)) pre.length []
      simpa [knotT] using this
    rw [h1, cutG, edge_two]
    simp only [List.append_nil]
    rw [if_neg (by decide), if_pos trivial]
    exact congrArg some (outN_at rfl fr out)
  | cons t ts ih =>
    intro pre fr out ht
    obtain ⟨K, hK⟩ : ∃ K, K = knotT b (t :: ts) := ⟨_, rfl⟩
    have e1 : K = (dash2 ++ b) ++ crlf ++ (t ++ crlf ++ knotT b ts) := by rw [hK, knotT]; simp
    have h1 : lnS pre.length K = ⟨pre.length, dash2 ++ b, true⟩ :: lnS (pre.length + (dash2 ++ b).length + 2) (t ++ crlf ++ knotT b ts) := by
      rw [e1, lnS_cat (noCr_pair (dash_cr hb))]
    obtain ⟨L, h2, h3⟩ := lnS_text t (knotT b ts) (pre.length + (dash2 ++ b).length + 2)
    have hno := ht t (by simp)
    have h4 : ∀ x ∈ L, edgeC x.s b = 0 := by
      intro x hx
      rcases h3 x hx with h | ⟨y, hy, h⟩
      · rw [h]; exact edge_nil b
      · rw [h]
        refine edge_no fun hp => hno ?_
        have hm : y.s ∈ (lnS 0 t).map Ln.s := by rw [lnS_s 0 (pre.length + (dash2 ++ b).length + 2) t]; exact List.mem_map_of_mem hy
        obtain ⟨z, hz, hz2⟩ := List.mem_map.1 hm
        exact ⟨z, hz, by rw [hz2]; exact hp⟩
    rw [← hK, h1, h2, cutG, edge_one, if_neg (by decide), if_neg (by decide), cut_skip _ _ _ L h4]
    have hn : nextN ⟨pre.length, dash2 ++ b, true⟩ = pre.length + (dash2 ++ b).length + 2 := rfl
    rw [hn]
    obtain ⟨f, hf⟩ : ∃ f, f = pre.length + (dash2 ++ b).length + 2 := ⟨_, rfl⟩
    obtain ⟨pre2, hpre2⟩ : ∃ pre2, pre2 = pre ++ (dash2 ++ b) ++ crlf ++ t ++ crlf := ⟨_, rfl⟩
    have e2 : pre ++ K = pre2 ++ knotT b ts := by rw [e1, hpre2]; simp
    have e3 : pre2.length = f + t.length + 2 := by rw [hpre2, hf]; simp [crlf]; omega
    rw [← hf, ← e3, e2, ih pre2 _ _ fun u hu => ht u (by simp [hu])]
    have e4 : outN (pre2 ++ knotT b ts) ⟨pre2.length, [], true⟩ (some f) (outN (pre2 ++ knotT b ts) ⟨pre.length, dash2 ++ b, true⟩ fr out) = outN (pre2 ++ knotT b ts) ⟨pre.length, [], true⟩ fr out ++ [t] := by
      rw [outN_at (x := ⟨pre.length, dash2 ++ b, true⟩) (y := ⟨pre.length, [], true⟩) rfl]
      conv => lhs; rw [outN]
      simp only []
      have hm : max (pre2.length - 2) f = f + t.length := by omega
      rw [hm]
      have h5 : pre2 ++ knotT b ts = (pre ++ (dash2 ++ b) ++ crlf ++ t) ++ (crlf ++ knotT b ts) := by rw [hpre2]; simp
      have h6 : (pre ++ (dash2 ++ b) ++ crlf ++ t).length = f + t.length := by rw [hf]; simp [crlf]; omega
      have h7 : (pre ++ (dash2 ++ b) ++ crlf).length = f := by rw [hf]; simp [crlf]; omega
      rw [h5, ← h6, List.take_left, ← h7, List.drop_left]
    rw [e4]
    simp
/-- A knot's parts, one by one, are written. -/
theorem wrRl_knot {b : Bs} : ∀ (ps : List Prt) (hd t : Bs), wrRl ps b hd = some t → ∃ ts : List Bs, t = hd ++ knotT b ts ∧ ts.length = ps.length ∧ (∀ u ∈ ts, ¬ begR u (dash2 ++ b)) ∧ ∀ i (h1 : i < ps.length) (h2 : i < ts.length), wrRt ps[i] = some ts[i] := by
  intro ps
  induction ps with
  | nil =>
    intro hd t h
    rw [wrRl] at h
    cases h
    exact ⟨[], by simp [knotT], rfl, by simp, fun i h1 => by simp at h1⟩
  | cons p ps ih =>
    intro hd t h
    rw [wrRl] at h
    split at h
    · cases h
    · rename_i u hu
      split at h
      · cases h
      · rename_i hnb
        obtain ⟨ts, h1, h2, h3, h4⟩ := ih _ _ h
        refine ⟨u :: ts, by rw [h1, knotT]; simp, by simp [h2], fun v hv => ?_, fun i h5 h6 => ?_⟩
        · rcases List.mem_cons.1 hv with rfl | hv
          · exact hnb
          · exact h3 v hv
        · cases i with
          | zero => exact hu
          | succ i => exact h4 i (by simpa using h5) (by simpa using h6)
theorem rdL_all {f : Bs → Nat → (Int ⊕ Prt) × Nat} : ∀ (ps : List Prt) (ts : List Bs) (c : Nat) (acc : List Prt), ts.length = ps.length → (∀ i (h1 : i < ps.length) (h2 : i < ts.length) c', c' + cntN ps[i] ≤ c + cntN.cntNL ps → f ts[i] c' = (.inr ps[i], c' + cntN ps[i])) →
    rdL f ts c acc = (.inr (acc ++ ps), c + cntN.cntNL ps) := by
  intro ps
  induction ps with
  | nil =>
    intro ts c acc hl _
    obtain rfl := List.eq_nil_of_length_eq_zero hl
    rw [rdL]; simp [cntN.cntNL]
  | cons p ps ih =>
    intro ts c acc hl h
    cases ts with
    | nil => simp at hl
    | cons t ts =>
      have h0 := h 0 (by simp) (by simp) c (by simp [cntN.cntNL])
      simp only [List.getElem_cons_zero] at h0
      rw [rdL, h0]
      simp only []
      rw [ih ts _ _ (by simpa using hl) fun i h1 h2 c' hc => ?_]
      · simp [cntN.cntNL]; omega
      · have := h (i + 1) (by simpa using h1) (by simpa using h2) c' (by simp [cntN.cntNL]; omega)
        simpa using this
theorem cntN_pos (p : Prt) : 0 < cntN p := by cases p; rw [cntN]; omega
theorem dep_pos (p : Prt) : 0 < dep p := by cases p; rw [dep]; exact depL_ge _ _
/-- What is written is read. -/
theorem tree_back (k : Nat) : ∀ (p : Prt) (t : Bs) (c : Nat), wrRt p = some t → dep p ≤ k + 1 → c + cntN p ≤ 64 → rdP k t c = (.inr p, c + cntN p) := by
  induction k with
  | zero =>
    intro p t c h hd hc
    obtain ⟨fs, b, ps⟩ := p
    have hps : ps = [] := by
      cases ps with
      | nil => rfl
      | cons q ps =>
        rw [dep] at hd
        have := depL_mem (p := q) (ps := q :: ps) (by simp) 1
        have := dep_pos q
        omega
    subst hps
    rw [wrRt] at h
    rw [cntN] at hc ⊢
    simp only [cntN.cntNL] at hc ⊢
    split at h
    · cases h
    · rename_i hd' hh
      split at h
      · cases h
      · rename_i hk
        split at h
        · rename_i hm
          simp at h
          subst h
          rw [rdP, if_neg (by omega), hdr_back hh]
          simp only []
          rw [if_neg hk, if_pos hm, List.drop_left]
        · simp at h
  | succ k ih =>
    intro p t c h hd hc
    obtain ⟨fs, b, ps⟩ := p
    rw [wrRt] at h
    rw [cntN] at hc ⊢
    split at h
    · cases h
    · rename_i hd' hh
      split at h
      · cases h
      · rename_i hk
        split at h
        · rename_i hm
          split at h
          · rename_i h0
            obtain rfl := List.eq_nil_of_length_eq_zero h0
            simp at h
            subst h
            simp only [cntN.cntNL] at hc ⊢
            rw [rdP, if_neg (by omega), hdr_back hh]
            simp only []
            rw [if_neg hk, if_pos hm, List.drop_left]
          · cases h
        · rename_i hm
          split at h
          · cases h
          · rename_i hor
            obtain ⟨hbo, hor⟩ := not_or.1 hor
            obtain ⟨hp0, hb0⟩ := not_or.1 hor
            obtain rfl : b = [] := List.eq_nil_of_length_eq_zero (by omega)
            obtain ⟨ts, rfl, h1, h2, h3⟩ := wrRl_knot ps hd' t h
            have hcb := cut_back (b := bord (kindO fs).1.ps) (bord_cr _) ts [] none [] h2
            simp only [List.nil_append, List.length_nil] at hcb
            have hout : outN (knotT (bord (kindO fs).1.ps) ts) ⟨0, [], true⟩ none [] = [] := rfl
            rw [hout, List.nil_append] at hcb
            rw [rdP, if_neg (by omega), hdr_back hh]
            simp only []
            rw [if_neg hk, if_neg hm, if_neg hbo, List.drop_left, hcb]
            simp only []
            rw [if_neg (by omega)]
            rw [rdL_all ps ts (c + 1) [] h1 fun i h4 h5 c' hc' => ?_]
            · simp [finR]; omega
            · refine ih ps[i] ts[i] c' (h3 i h4 h5) ?_ (by omega)
              have := depL_mem (p := ps[i]) (ps := ps) (List.getElem_mem h4) 1
              rw [dep] at hd
              omega
theorem write_parse {p : Prt} {t : Bs} (h : wrR p = some t) : psP t = .inr p := by
  unfold wrR at h
  split at h
  · cases h
  · rename_i hc
    obtain ⟨h1, h2⟩ := not_or.1 hc
    unfold capO at h
    obtain ⟨u, hu, h⟩ := Option.bind_eq_some_iff.1 h
    split at h
    · cases h
    · rename_i hl
      cases h
      unfold psP
      rw [if_neg hl, tree_back 7 p t 0 hu (by omega) (by omega)]
end Go.Proofs.Tryd

/- Laws: a knot of leaves, with a border of its own, can be written. -/
namespace Go.Proofs.Tryd
open Go Go.SL
set_option linter.unusedVariables false
def mixS : Bs := [109, 105, 120, 101, 100]
def mpPre : Bs := mpart ++ 47 :: (mixS ++ 59 :: 32 :: (boName ++ [61]))
def valK (i : Nat) : Bs := mpPre ++ bdr i
theorem tok_pre (a : Bs) (c : UInt8) (r : Bs) (ha : ∀ x ∈ a, tokC x) (hc : ¬ tokC c) : tokF (a ++ c :: r) = a ∧ tokR (a ++ c :: r) = c :: r := by
  have h : ∀ x ∈ a, tokB x = true := fun x hx => by simp [tokB, ha x hx]
  have h2 : tokB c = false := by simp [tokB, hc]
  constructor
  · unfold tokF; rw [List.takeWhile_append_of_pos h, List.takeWhile_cons, h2]; simp
  · unfold tokR; rw [List.dropWhile_append_of_pos h, List.dropWhile_cons, h2]; simp
theorem dig_tok : ∀ c : UInt8, 48 ≤ c.toNat ∧ c.toNat ≤ 57 → tokC c ∧ borC c ∧ valC c ∧ blankC c = false ∧ c ≠ 34 := by
  intro c h
  have key : ∀ n : Fin 256, 48 ≤ n.val ∧ n.val ≤ 57 → tokC (UInt8.ofNat n.val) ∧ borC (UInt8.ofNat n.val) ∧ valC (UInt8.ofNat n.val) ∧ blankC (UInt8.ofNat n.val) = false ∧ UInt8.ofNat n.val ≠ 34 := by decide +kernel
  have := key ⟨c.toNat, c.toNat_lt⟩ h
  have e : UInt8.ofNat c.toNat = c := by simp
  rw [e] at this
  exact this
theorem bdr_mem {i : Nat} {c : UInt8} (h : c ∈ bdr i) : tokC c ∧ borC c ∧ valC c ∧ blankC c = false ∧ c ≠ 34 := by
  rcases List.mem_cons.1 h with rfl | h
  · decide
  · exact dig_tok c (dd_mem i c h)
theorem bdr_len {i : Nat} (h : i < 1000000) : (bdr i).length ≤ 7 := by
  have := dd_len6 i h
  simp [bdr]; omega
def kMixB (i : Nat) : Kd := ⟨mpart, mixS, [⟨boName, bdr i⟩]⟩
theorem read_valK {i : Nat} (hi : i < 1000000) : readK (valK i) = some (kMixB i) := by
  have hl := bdr_len hi
  have e0 : valK i = mpart ++ 47 :: (mixS ++ 59 :: 32 :: (boName ++ 61 :: bdr i)) := by simp [valK, mpPre]
  have t0 : trimL (valK i) = valK i := by rw [e0]; exact trimL_stop _ (by decide)
  obtain ⟨f1, r1⟩ := tok_pre mpart 47 (mixS ++ 59 :: 32 :: (boName ++ 61 :: bdr i)) (by decide) (by decide)
  obtain ⟨f2, r2⟩ := tok_pre mixS 59 (32 :: (boName ++ 61 :: bdr i)) (by decide) (by decide)
  obtain ⟨f3, r3⟩ := tok_pre boName 61 (bdr i) (by decide) (by decide)
  have t1 : trimL (59 :: 32 :: (boName ++ 61 :: bdr i)) = 59 :: (32 :: (boName ++ 61 :: bdr i)) := trimL_stop _ (by decide)
  have t2 : trimL (32 :: (boName ++ 61 :: bdr i)) = boName ++ 61 :: bdr i := by rw [trimL_blank _ (by decide)]; exact trimL_stop _ (by decide)
  have f4 : tokF (bdr i) = bdr i ∧ tokR (bdr i) = [] := tw_end fun c hc => by simp [tokB, (bdr_mem hc).1]
  have hv : valR (bdr i) = ([], some (bdr i)) := by
    unfold valR
    rw [if_neg (by simp [bdr]), f4.1, f4.2, if_pos]
    exact ⟨fun c hc => (bdr_mem hc).1, by simp [bdr], by omega⟩
  have hpar : parR (boName ++ 61 :: bdr i) = some (⟨boName, bdr i⟩, []) := by
    unfold parR
    rw [r3, f3]
    simp only [if_true, hv, Option.map_some]
    have : low boName = boName := by decide
    rw [this]
  have hps : parsS (59 :: 32 :: (boName ++ 61 :: bdr i)) = some [⟨boName, bdr i⟩] := by
    rw [parsS_par t1 (by rw [t2]; simp [boName]), t2, hpar]
    simp only []
    rw [parsS_nil rfl]; rfl
  have lm : low mpart = mpart := by decide
  have lx : low mixS = mixS := by decide
  have hk : kOK mpart mixS [⟨boName, bdr i⟩] := by
    refine ⟨by decide, by decide, by simp, fun p hp => ?_, by simp⟩
    obtain rfl := List.mem_singleton.1 hp
    refine ⟨by show small boName; decide, fun c hc => ?_, by show (bdr i).length ≤ 256; omega⟩
    have := (bdr_mem (i := i) hc).1
    exact ⟨by have := this.1; omega, by have := this.2.1; omega⟩
  unfold readK
  rw [t0, e0, r1, f1]
  simp only [if_true]
  rw [r2, f2, hps]
  simp only [Option.bind_some, lm, lx]
  rw [if_pos hk]; rfl
theorem kind_valK {i : Nat} (hi : i < 1000000) : kindO [⟨ctName2, valK i⟩] = (kMixB i, 0) := by
  have h1 : fall [⟨ctName2, valK i⟩] ctName = [valK i] := by
    have : (low ctName2 == low ctName) = true := by decide
    simp [fall, this]
  unfold kindO
  rw [h1]
  simp only [read_valK hi]
theorem bord_valK {i : Nat} (hi : i < 1000000) : bord (kMixB i).ps = bdr i := by
  have hl := bdr_len hi
  have : kget (kMixB i).ps boName = some (bdr i) := by simp [kget, kMixB]
  unfold bord
  rw [this]
  simp only [Option.getD_some]
  rw [if_pos ⟨fun c hc => (bdr_mem hc).2.1, by omega⟩]
theorem trim_id {s : Bs} (h1 : ∀ c ∈ s.head?, blankC c = false) (h2 : ∀ c ∈ s.getLast?, blankC c = false) : trim s = s := by
  have t1 : trimL s = s := by
    cases s with
    | nil => rfl
    | cons a s => exact trimL_stop _ (h1 a (by simp))
  rw [trim_eq, t1]
  rcases List.eq_nil_or_concat s with rfl | ⟨l, c, rfl⟩
  · rfl
  · rw [List.concat_eq_append]; exact trimR_stop _ (h2 c (by simp))
theorem valK_val {i : Nat} (hi : i < 1000000) : isVal (valK i) := by
  have hl := bdr_len hi
  refine ⟨fun c hc => ?_, ?_, ?_⟩
  · rcases List.mem_append.1 hc with h | h
    · have key : ∀ c ∈ mpPre, valC c := by decide
      exact key c h
    · exact (bdr_mem h).2.2.1
  · have : mpPre.length = 26 := by decide
    simp [valK, this]; omega
  · refine trim_id (fun c hc => ?_) (fun c hc => ?_)
    · simp [valK, mpPre, mpart] at hc; subst hc; decide
    · have : c ∈ bdr i := by
        rw [valK, List.getLast?_append] at hc
        cases hb : (bdr i).getLast? with
        | none => simp [bdr] at hb
        | some d => rw [hb] at hc; simp at hc; subst hc; exact List.mem_of_getLast? hb
      exact (bdr_mem this).2.2.2.1
def hdK (i : Nat) : Bs := lineF ⟨ctName2, valK i⟩ ++ crlf ++ crlf
theorem lineK_len {i : Nat} (hi : i < 1000000) : (lineF ⟨ctName2, valK i⟩).length ≤ 60 := by
  have hl := bdr_len hi
  have h1 : mpPre.length = 26 := by decide
  have h2 : ctName2.length = 12 := by decide
  have h3 : valK i ≠ [] := by simp [valK, mpPre, mpart]
  unfold lineF
  simp only [h3, if_false]
  simp [h2, valK, h1]; omega
theorem hd_valK {i : Nat} (hi : i < 1000000) : hdO [⟨ctName2, valK i⟩] = some (hdK i) := by
  have hlen := lineK_len hi
  have hf : FoldR (lineF ⟨ctName2, valK i⟩) ((⟨ctName2, valK i⟩ : Fld).n.length + 3) [lineF ⟨ctName2, valK i⟩] := .stop (.inl (by omega))
  have hs : FoldsR [⟨ctName2, valK i⟩] ([] ++ [lineF ⟨ctName2, valK i⟩]) := FoldsR.snoc (l := []) .nil hf
  have := (hd_of (WrR.ok (l := [⟨ctName2, valK i⟩]) (by simp) (fun f hf => by
    obtain rfl := List.mem_singleton.1 hf
    exact ⟨by show isName ctName2; decide, valK_val hi⟩) _ hs (fun s hs => by
    simp at hs
    subst hs
    omega))).1
  rw [this]
  simp [emit, hdK]
theorem leaf_w (b : Bs) (d k : Nat) (hd : d ≤ 8) (hk : k < 64) : wrPt (.mk [] b []) d k = (some (crlf ++ b), k + 1) := by
  rw [wrPt, hd_nil]
  simp only [kind_nil]
  rw [if_neg (by omega), if_pos (by decide), if_pos (show ([] : List Prt).length = 0 from rfl)]
theorem beg_crlf (b : Bs) (i : Nat) (h : ¬ begL b (bdF i)) : ¬ begL (crlf ++ b) (dash2 ++ bdr i) := by
  have hc : crIdx (crlf ++ b) = 0 := by
    have := cr_cat (s := []) (r := b) (fun j => by rintro ⟨h1, _⟩; simp at h1)
    simpa using this
  have hln : lineN (crlf ++ b) = 2 := by unfold lineN; rw [hc]; rfl
  rintro ⟨x, hx, hp⟩
  rw [linesS_cons (by simp [crlf]), hln] at hx
  rcases List.mem_cons.1 hx with rfl | hx
  · obtain ⟨t, ht⟩ := hp
    have h2 : (crlf ++ b).take 2 = [13, 10] := rfl
    rw [h2] at ht
    have := congrArg List.head? ht
    simp [dash2] at this
  · exact h ⟨x, by simpa [crlf] using hx, hp⟩
/-- The leaves' texts. -/
theorem leaves_w (i : Nat) (d : Nat) (hd : d ≤ 7) : ∀ (bs : List Bs) (hd0 : Bs) (c : Nat), (∀ b ∈ bs, b.length ≤ 1000 ∧ ¬ begL b (bdF i)) → c + bs.length ≤ 64 → hd0.length + bs.length * 1100 ≤ 500000 → i < 1000000 →
    ∃ t, wrLp (bs.map fun b => .mk [] b []) (bdr i) hd0 d c = (some t, c + bs.length) ∧ t.length ≤ hd0.length + bs.length * 1100 + 100 := by
  intro bs
  induction bs with
  | nil =>
    intro hd0 c _ _ _ hi
    have hl := bdr_len hi
    exact ⟨_, by rw [List.map_nil, wrLp]; rfl, by simp [dash2, crlf]; omega⟩
  | cons b bs ih =>
    intro hd0 c hb hc hl hi
    have hbl := bdr_len hi
    obtain ⟨hb1, hb2⟩ := hb b (by simp)
    rw [List.map_cons, wrLp, leaf_w _ _ _ (by omega) (by simp at hc; omega)]
    simp only []
    simp only [List.length_cons, Nat.succ_mul] at hl hc
    rw [if_neg (by
      rintro (h | h)
      · exact beg_crlf b i hb2 h
      · simp [crlf] at h; omega)]
    obtain ⟨t, ht, htl⟩ := ih (hd0 ++ (dash2 ++ bdr i ++ crlf) ++ (crlf ++ b) ++ crlf) (c + 1) (fun b' hb' => hb b' (by simp [hb'])) (by omega) (by simp [dash2, crlf]; omega) hi
    refine ⟨t, by rw [ht]; congr 1; simp; omega, ?_⟩
    simp [dash2, crlf] at htl
    simp [Nat.succ_mul]; omega
def knotB (i : Nat) (bs : List Bs) : Prt := .mk [⟨ctName2, valK i⟩] [] (bs.map fun b => .mk [] b [])
theorem knot_w {bs : List Bs} {i : Nat} (h0 : bs ≠ []) (hn : bs.length ≤ 30) (hb : ∀ b ∈ bs, b.length ≤ 1000) (hi : i < 1000000) (hf : freeB bs i) : ∃ t, wrR (knotB i bs) = some t := by
  have hlen := lineK_len hi
  obtain ⟨t, ht, htl⟩ := leaves_w i 1 (by omega) bs (hdK i) 1 (fun b hb' => ⟨hb b hb', hf b hb'⟩) (by omega) (by
    simp [hdK, crlf]
    have : bs.length * 1100 ≤ 30 * 1100 := Nat.mul_le_mul_right _ hn
    omega) hi
  have hpos := List.length_pos_iff.2 h0
  have h : wrPt (knotB i bs) 1 0 = (some t, 1 + bs.length) := by
    rw [knotB, wrPt, hd_valK hi]
    simp only [kind_valK hi, bord_valK hi]
    rw [if_neg (by omega), if_neg (fun h => h rfl), if_neg (by simp [bdr]; exact h0)]
    exact ht
  refine ⟨t, ?_⟩
  rw [← wr_law]
  unfold wrP capO
  rw [h]
  simp only [Option.bind_some]
  rw [if_neg]
  have : bs.length * 1100 ≤ 30 * 1100 := Nat.mul_le_mul_right _ hn
  simp [hdK, crlf] at htl
  omega
end Go.Proofs.Tryd

/- Walks: the statement on knots. -/
namespace Go.Proofs.Tryd
open Go Go.SL
set_option linter.unusedVariables false
set_option linter.unusedSimpArgs false
attribute [local congr] WX_stop WC_stop W_stop
theorem take_preK {A H : Hp} {o : CO} {L : Hp} (h : H.take (A.length + 1) = (A ++ o :: L).take (A.length + 1)) : ∃ L2, H = A ++ o :: L2 := by
  refine ⟨H.drop (A.length + 1), ?_⟩
  have h6 : (A ++ o :: L).take (A.length + 1) = A ++ [o] := by rw [List.take_append, List.take_of_length_le (by omega)]; simp
  rw [h6] at h
  conv => lhs; rw [← List.take_append_drop (A.length + 1) H, h]
  simp
variable [LayerC]
@[simp] theorem muK3 : (cs0.of 3).mu = false := rfl
@[simp] theorem reK3 : (cs0.of 3).reuse = false := rfl
theorem mpE : str [109, 117, 108, 116, 105, 112, 97, 114, 116, 47, 109, 105, 120, 101, 100, 59, 32, 98, 111, 117, 110, 100, 97, 114, 121, 61] = str mpPre := rfl
theorem ct2E : str [67, 111, 110, 116, 101, 110, 116, 45, 84, 121, 112, 101] = str ctName2 := rfl
def leafC (y : CV) : List CV := [nilC, y, nilC]
set_option maxRecDepth 100000 in
set_option maxHeartbeats 2000000 in
theorem kLaw (m : Nat) (x : CV) (ys : List CV) (bs : List Bs) (H : Hp) (hx : ∀ H, RS H x (ys.map fun y => [y]) 1) (hl : ys.length = bs.length) (hy : ∀ i (h1 : i < ys.length) (h2 : i < bs.length), CB ys[i] bs[i]) : Ret prog cs0 m 3 [x] H (.v (.bool true)) H := by
  unfold Ret
  rw [WC_drop rfl func3 rfl rfl]
  have ux := (hx H).unl
  have hlen : ∀ H, dLenS prog 22 x H = some (.v (.int .i64 (ys.length : Nat))) := fun H => by
    have := (hx H).len (P := prog) underlying22
    rwa [List.length_map] at this
  have c4 := fun H2 => (w5 H.length H2).wc
  by_cases h0 : ys.length = 0
  · simp -implicitDefEqProofs [f3, ux, hlen, h0, c4]
  by_cases h30 : 30 < ys.length
  · simp -implicitDefEqProofs [f3, ux, hlen, h0, h30, c4]
  simp -implicitDefEqProofs [f3, ux, hlen, h0, h30, aQ, dAlloc, b28_0, store_at iT28, cells_agg, stQ]
  obtain ⟨I, hI⟩ : ∃ I : Nat → Fr → Hp → Prop, ∀ i fr H', I i fr H' ↔ ∃ q L, H' = H ++ CO.cells 0 [nilC, nilC, q] 28 :: L ∧ Grow (H.length + 1) H' q ((ys.take i).map leafC).flatten i 3 28 ∧ fr 0 = x ∧ fr 3 = .ptr H.length 0 0 ∧ fr 4 = .v (.int .i64 (i : Nat)) ∧ ∀ j (h : j < bs.length), j < i → bs[j].length ≤ 1000 := ⟨_, fun _ _ _ => Iff.rfl⟩
  refine W_up ys.length I ?_ 0 _ _ (by omega) ((hI _ _ _).2 ⟨nilC, [], rfl, Grow.nil _ _ 3 28, by simp, by simp, by simp, fun j _ h => by omega⟩)
  intro i fr H' hi h
  obtain ⟨q, L, rfl, hg, a0, a3, a4, hsm⟩ := (hI _ _ _).1 h
  by_cases hlt : i < ys.length
  · have hib : i < bs.length := by omega
    have hw := up64 (i := i) (n := ys.length) hlt (by omega)
    have hlt2 : i < (ys.map fun y => [y]).length := by simpa using hlt
    have had : ∀ H, dIndexAddr prog 22 x (.v (.int .i64 (i : Nat))) H = some (adrC x i) := fun H => by rw [(hx H).addr underlying22 iT25 sT25]; simp [hlt]
    have hld : ∀ H, dLoad prog 25 (adrC x i) H = some ys[i] := fun H => by rw [(hx H).load1 underlying25 rfl iT25 hlt2 (by omega)]; simp
    have hyi := hy i hlt hib
    have uy := hyi.unl
    have hyl : ∀ H, dLenS prog 25 ys[i] H = some (.v (.int .i64 (bs[i].length : Nat))) := fun H => (hyi.rb H).len (P := prog) underlying25
    by_cases hbig : 1000 < bs[i].length
    · simp -implicitDefEqProofs [a0, a3, a4, ux, hlen, hlt, had, hld, uy, hyl, hbig, c4]
    simp -implicitDefEqProofs [a0, a3, a4, ux, hlen, hlt, had, hld, uy, hyl, hbig]
    rw [W_drawJ TJ [(0, 7), (1, 7)] _ _ _ _ _ _ followsT trivial (by rfl) (fun _ _ _ => keep_T) (by
      intro k j i oj oi hm h1 h2
      simp at hm
      rcases hm with ⟨rfl, rfl⟩ | ⟨rfl, rfl⟩ <;> simp at h1 h2 <;> subst h1 h2
      · exact cmt_grow (by rfl) (mon_faddr rfl) (gro_buildSlice rfl) _
      · exact cmt_grow (by rfl) (mon_load rfl) (gro_buildSlice rfl) _)]
    have cy := (hyi.rb []).cells
    have oy := hyi.one
    have ky := hyi.clB
    have hmk := fun H => mkA1 (P := prog) (t := 26) (cs := [nilC, ys[i], nilC]) underlying26 (by rw [underlying28]; rfl) iT28 zT28 rfl sT28 (by omega) (by omega) rfl (by simp [oy]) (by simp [ky, clB]) H
    have hbd := b28_i ys[i] cy
    obtain ⟨q2, H3, e1, e2, e3, e4, e5⟩ := Grow.append (P := prog) (t := 26) (tx := 26) (y := .im [nilC, ys[i], nilC] 1 3) underlying26 iT28 zT28 rfl sT28 (by omega) (by simp) hg (src_clo (n := 1) underlying26 (.inl rfl) rfl _) rfl (by simp; omega) (by omega)
    obtain ⟨L3, rfl⟩ := take_preK e3
    have hap : ∀ y, apQ H.length q y = true := Grow.ap hg (by omega)
    have uq := Grow.unl hg
    have uq2 := Grow.unl e2
    have cq2 := Grow.cells e2
    have hst : ∀ x off, stQ H.length (.ptr H.length 0 off) x = true := fun x off => by simp [stQ]
    simp -implicitDefEqProofs [a0, a3, a4, ux, hlen, hlt, had, hld, uy, faddr_ptr, underlying28, load_one underlying26 rfl iT26, atP, hbd, hmk, uq, hap, e1, uq2, store_at iT26, cq2, hst, hw]
    refine (hI _ _ _).2 ⟨q2, L3, rfl, ?_, by simp [a0], by simp [a3], by simp, fun j h1 h2 => ?_⟩
    · have hts : ys.take (i + 1) = ys.take i ++ [ys[i]] := take_snoc hlt
      rw [hts, List.map_append, List.flatten_append]
      have := Grow.of_obj e2 (H' := H ++ CO.cells 0 [nilC, nilC, q2] 28 :: L3) fun id v c hi' hk => by
        obtain ⟨t, rfl⟩ : ∃ t, id = H.length + (t + 1) := ⟨id - H.length - 1, by omega⟩
        rw [get_own, get_own]; rfl
      simpa [leafC] using this
    · by_cases hj : j = i
      · subst hj; omega
      · exact hsm j h1 (by omega)
  · obtain rfl : i = ys.length := by omega
    have hsm' : ∀ b ∈ bs, b.length ≤ 1000 := fun b hb => by
      obtain ⟨j, hj, rfl⟩ := List.getElem_of_mem hb
      exact hsm j hj (by omega)
    have hsum : ∀ l : List Bs, (∀ b ∈ l, b.length ≤ 1000) → (l.map List.length).sum ≤ 1000 * l.length := by
      intro l
      induction l with
      | nil => intro _; simp
      | cons b l ih =>
        intro h
        have h1 := h b (by simp)
        have h2 := ih fun c hc => h c (by simp [hc])
        simp [Nat.mul_add]; omega
    have hsum' := hsum bs hsm'
    obtain ⟨i0, hf0, hff, hi0, h5⟩ := k5 H.length x ys bs (H ++ CO.cells 0 [nilC, nilC, q] 28 :: L) (hx _) hl (fun j h1 h2 => (hy j h1 h2).rb _) (fun b hb => by have := hsm' b hb; omega) (by omega) (by omega)
    have c5 := h5.wc
    have hi1 : i0 < 1000000 := by omega
    have hbl := bdr_len hi1
    have hpl : mpPre.length = 26 := by decide
    have hadd : mpPre.length + (bdr i0).length ≤ 9223372036854775807 := by omega
    have hval : mpPre ++ bdr i0 = valK i0 := rfl
    have hts : ys.take ys.length = ys := List.take_length
    rw [hts] at hg
    -- the slice of the leaves
    rcases hg with ⟨h00, _, _⟩ | ⟨hgl, id, ver, hid, rfl, hgc⟩
    · exact absurd h00 h0
    obtain ⟨t, rfl⟩ : ∃ t, id = H.length + (t + 1) := ⟨id - H.length - 1, by omega⟩
    rw [get_own, List.getElem?_cons_succ] at hgc
    obtain ⟨cs, hcs⟩ : ∃ cs, cs = (ys.map leafC).flatten := ⟨_, rfl⟩
    rw [← hcs] at hgl hgc
    have hcl : cs.all clB = true := by
      rw [hcs, List.all_eq_true]
      intro z hz
      obtain ⟨l, hl1, hl2⟩ := List.mem_flatten.1 hz
      obtain ⟨y, hy1, rfl⟩ := List.mem_map.1 hl1
      obtain ⟨j, hj, rfl⟩ := List.getElem_of_mem hy1
      have := (hy j hj (by omega)).clB
      simp only [leafC, List.mem_cons, List.not_mem_nil, or_false] at hl2
      rcases hl2 with rfl | rfl | rfl
      · rfl
      · exact this
      · rfl
    have htk : cs.take (ys.length * 3) = cs := List.take_of_length_le (by omega)
    have hclo : ∀ fr : Fr, fr 3 = .ptr H.length 0 0 → ∃ L', cloR H.length [3] (fr, H ++ CO.cells 0 [.im [str ctName2, str (valK i0)] 1 2, nilC, .sl (H.length + (t + 1)) ver 0 ys.length 3] 28 :: L) = (fun u => rpl (H.length + (t + 1)) ver cs (fr u), H ++ CO.cells 0 [.im [str ctName2, str (valK i0)] 1 2, nilC, .im cs ys.length 3] 28 :: L') := fun fr h3 => by
      obtain ⟨L', h⟩ := cloR_at (H := H) (L := L) (fr := fr) (t := 3) (ver := ver) (n := ys.length) (sz := 3) (e := 28) (e2 := 28) (k := t) (a := [.im [str ctName2, str (valK i0)] 1 2, nilC]) (b := []) (cs := cs) h3 (by
        intro z hz i v off len sz
        simp at hz
        rcases hz with rfl | rfl <;> intro h <;> cases h) (by simp) hgc hcl (by omega)
      rw [htk] at h
      exact ⟨L', h⟩
    have hst : ∀ x off, stQ H.length (.ptr H.length 0 off) x = true := fun x off => by simp [stQ]
    simp -implicitDefEqProofs [a0, a3, a4, ux, hlen, c5, mpE, ct2E, hadd, hval, b31_2, mkF1, faddr_ptr, underlying28, atP, store_at iT24, hst, cvCells]
    refine W_closedE rfl (hclo _ (by simp [a3])) fun L' => ?_
    have hpv : PVs (bs.map fun b => (.mk [] b [] : Prt)) (ys.map leafC) := by
      refine ⟨by simp [hl], fun c hc => ?_, fun j h1 h2 => ?_⟩
      · obtain ⟨y, _, rfl⟩ := List.mem_map.1 hc; rfl
      · simp only [List.getElem_map]
        exact PV.of (fs := []) (.inr ⟨rfl, rfl, rfl⟩) (hy j (by simpa using h2) (by simpa using h1)) PVs.nil (.inr ⟨rfl, rfl, rfl⟩)
    have hp : PV (knotB i0 bs) [.im [str ctName2, str (valK i0)] 1 2, nilC, .im cs ys.length 3] := by
      refine PV.of (fs := [⟨ctName2, valK i0⟩]) (.inl rfl) (.inr ⟨rfl, rfl, rfl⟩) hpv (.inl ?_)
      rw [hcs, List.length_map]
    have hbs0 : bs ≠ [] := fun h => by rw [h] at hl; exact h0 (by simpa using hl)
    have hval2 := valK_val hi1
    have hlin : Lin (knotB i0 bs) := .mk (by simp) (fun f hf => by
      obtain rfl := List.mem_singleton.1 hf
      exact ⟨by show ctName2.length ≤ 100000; decide, by have := hval2.2.1; show (valK i0).length ≤ 100000; omega⟩) (by simp) (by simp; omega) (fun p hp => by
      obtain ⟨b, hb, rfl⟩ := List.mem_map.1 hp
      exact .mk (by simp) (by simp) (by have := hsm' b hb; omega) (by simp) (by simp))
    obtain ⟨tx, htx⟩ := knot_w hbs0 (by omega) hsm' hi1 hf0
    simp -implicitDefEqProofs [a0, a3, a4, load_aggp underlying28 rfl iT28]
    refine WC_mono (w12 _ hlin _ _ _ hp) ?_
    rintro y1 H2 ⟨e2, hy1⟩
    rw [e2]
    clear e2 H2
    rw [wr_law, htx] at hy1
    obtain ⟨htl, z, hz, rfl⟩ := hy1
    have uz := hz.unl
    simp -implicitDefEqProofs [dExtract, uz]
    refine WC_mono (w7 _ z tx _ (hz.rb _)) ?_
    rintro y2 H2 ⟨e2, hy2⟩
    rw [e2]
    clear e2 H2
    rw [write_parse htx] at hy2
    obtain ⟨cs2, hp2, rfl⟩ := hy2
    have c8 : ∀ H2 K, WC prog cs0 H.length (.f 8) [.agg [.im [str ctName2, str (valK i0)] 1 2, nilC, .im cs ys.length 3], .agg cs2] H2 K ↔ K (.v (.bool true)) H2 := by
      intro H2
      obtain ⟨r, hr, h9⟩ := w9 (knotB i0 bs) hlin.lim (knotB i0 bs) H.length _ cs2 H2 hp hp2
      rw [hr.2 rfl] at h9; exact h9.wc
    obtain ⟨u1, u2, u3, ch2, rfl, g1, g2, -, -, -, g3, -⟩ := hp2.inv
    have o1 := g1.one
    have o2 := g2.one
    have o3 := g3.one
    have hstk : ∀ k x off, stQ H.length (.ptr (H.length + k) 0 off) x = true := fun k x off => by simp [stQ]
    simp -implicitDefEqProofs [a3, aQ, dAlloc, dExtract, store_at iT28, cells_agg, o1, o2, o3, hstk, c4, load_aggp underlying28 rfl iT28, c8]
end Go.Proofs.Tryd

/- The law PartsKnots: for every input the call returns true, and the argument reads behind it as it did; the tables of the library that are read hold what the program lays there, and the card ties that to the program's text. -/
namespace Go.Proofs.YtkodlakpjpmbiaaDoor.partsKnots
open Go.ChangeShapes Go.WideShapes Go.ChangeAt Go.RowKit Go.SL
set_option linter.unusedVariables false
theorem tPow : (Tryd.prog.globals[1]?).map (·.type) = some 115 := by kernel_rfl
theorem cE : Tryd.prog.cellsOf 100 = 1 := by kernel_rfl
theorem cT : Tryd.prog.cellsOf 115 = 20 := by kernel_rfl
theorem powData : (Rows.laid_internal_strconv_uint64pow10 : DataW Unit) = Lib.tabData .u64 Lib.pow10Tab := by kernel_rfl
theorem laid_of {W : World} (h : laidMetH Tryd.prog Rows.partsKnotsRow.laid W) : Lib.TabIs Tryd.prog W "internal/strconv.uint64pow10" .u64 Lib.pow10Tab := by
  rw [MakeChecks.laidMetH_plain _ _ _ (by kernel_rfl)] at h
  have h0 : laidMet Tryd.prog [("math/bits.deBruijn32tab", Rows.laid_math_bits_deBruijn32tab), ("math/bits.deBruijn64tab", Rows.laid_math_bits_deBruijn64tab), ("internal/strconv.uint64pow10", Rows.laid_internal_strconv_uint64pow10)] W := h
  have h1 := h0.tail
  have h2 := h1.tail
  rw [powData] at h2
  exact Lib.tabIs_of_head Go.Proofs.Tryd.gPow tPow Tryd.underlying115 Tryd.underlying100 cE cT h2
/-- What start-up lays meets the row's condition. -/
theorem door_met (os : Os) (args : Array Value) : laidMetH Tryd.prog Rows.partsKnotsRow.laid ((World.doorLaid Tryd.prog 400 os).forCall (fun _ _ => 0) ⟨#[], args, []⟩).memory := by
  rw [MakeChecks.laidMetH_plain _ _ _ (by kernel_rfl)]
  exact laidMet_of_run' 8 (by kernel_rfl) (by kernel_rfl)
set_option maxRecDepth 100000 in
theorem lifted (os : Os) (started : os.Started) (H : Type) (enc : TypeId × Value → H) :
    ReturnsInHanded {} Tryd.checked os 3 .any (fun w args => (Rows.partsKnotsSpec.pre enc Tryd.prog Tryd.f3 [] false w args ∧ laidMetH Tryd.prog Rows.partsKnotsRow.laid w) ∧ sizedMet enc Tryd.prog Tryd.f3 (OpenSpec.ofChange Rows.partsKnotsSpec) false w args)
      (Rows.partsKnotsSpec.post enc Tryd.prog Tryd.f3 false true false false) := by
  refine handed_both (C := Tryd.checked) (X := fun w _ => laidMetH Tryd.prog Rows.partsKnotsRow.laid w) (fun _ _ _ hh h => h.of_heap hh) Tryd.own started (by kernel_rfl) Tryd.func3
    (ChangeSpec.witness_shaped (enc := enc) (C := Tryd.checked) (os := os) (X := fun w _ => laidMetH Tryd.prog Rows.partsKnotsRow.laid w) false (World.doorLaid Tryd.prog 400 os) #[.slice none 0 0] 8 rfl (World.shaped_of_RefB (by kernel_rfl) (by kernel_rfl)) (by kernel_rfl) (by kernel_rfl) (by kernel_rfl) (door_met os _)) ?_
  intro W base args ds gs before hval0 hW _ hL hsh
  have hval : ∀ (j : Nat) t v, Tryd.f3.params[j]? = some t → args[j]? = some v → Value.okWide Tryd.prog W .any base t v := hval0
  have hW' := hW
  obtain ⟨p, q, hA0, hV, rfl, hfz, hnd⟩ := hW
  have hA : DataW.TrodAll enc Tryd.prog W 0 (fun _ => true) true Tryd.f3.params.toList args.toList ds p := hA0
  rw [Tryd.params3] at hA hval
  obtain ⟨v0, vs0, d0, ds0, p0, q0, hargs, rfl, rfl, h0, r0⟩ := trodAll_cons hA
  obtain ⟨rfl, rfl, rfl⟩ := trodAll_nil r0
  obtain rfl : args = #[v0] := by cases args; simp_all
  obtain ⟨rfl, rfl⟩ := trodVars_none hV
  have k0 := h0
  have lt0 : ∀ x ∈ p0, x.block < W.heap.size := by obtain ⟨m, hm⟩ := k0; exact DataW.trod_lt m _ _ _ hm
  have hok := hval 0 22 v0 rfl rfl
  obtain ⟨a0, len0, cap0, rfl⟩ := okWide_slice Tryd.underlying22 hok
  obtain ⟨fuel, hf⟩ := h0
  have hc25 : Tryd.prog.cellsOf 25 = 1 := by kernel_rfl
  have hc5 : Tryd.prog.cellsOf 5 = 1 := by kernel_rfl
  obtain ⟨y, v, ks, ch, hcs, hy, hch, hv, h1, hl, hR⟩ := rd_sl (R := fun (k : Bs) c => ∃ y, c = [y] ∧ CB y k) Tryd.underlying22 hc25 (by omega) (fun n hn cs y h => by
    obtain ⟨y, b, v, rfl, hy, hv, h1⟩ := rd_bytes Tryd.underlying25 Tryd.underlying5 hc5 h
    refine ⟨b, [y], ⟨y, rfl, hy⟩, rfl, rfl, fun i h1' h2 => ?_⟩
    have : i = 0 := by simp at h2; exact h2
    subst this
    exact ⟨hv, h1⟩) hf
  obtain rfl : Value.slice a0 len0 cap0 = v := by simpa [Value.cells] using hcs
  obtain ⟨ys, hys, hyl⟩ : ∃ ys : List CV, ch = ys.map (fun y => [y]) ∧ ∀ i (h1 : i < ys.length) (h2 : i < ks.length), CB ys[i] ks[i] := by
    refine ⟨ch.map fun c => c.headD nilC, ?_, fun i h1 h2 => ?_⟩
    · rw [List.map_map]
      conv => lhs; rw [← List.map_id ch]
      refine List.map_congr_left fun c hc => ?_
      obtain ⟨i, hi, rfl⟩ := List.getElem_of_mem hc
      obtain ⟨y, e, _⟩ := hR i (by omega) hi
      simp [e]
    · rw [List.length_map] at h1
      obtain ⟨y, e, hy2⟩ := hR i h2 h1
      simp [e]; exact hy2
  subst hys
  have hx : ∀ H, RS H y (ys.map fun y => [y]) 1 := fun H => Cls.rs hy hch H
  obtain ⟨mx, hmx⟩ := max_cell hsh
  refine (Go.Proofs.Tryd.law_calls (mx := mx) (xs := [y]) Tryd.func3 (by intro h; cases h) hmx (laid_of hL) ⟨rfl, fun i hi hi' => by
    have : i = 0 := by simp at hi; exact hi
    subst this; exact .cl hv⟩ (@Go.Proofs.Tryd.kLaw Go.Proofs.Tryd.L1 0 y ys ks [] hx (by simpa using hl.symm) hyl)).mono fun e W' ⟨he, bel⟩ => ?_
  subst he
  exact ⟨_, rfl, _, _, _, [], _, [], hW', trodAll_mk1 (shut_bool Tryd.underlying4 _), (trodAll_cons_mk (Below.trod Tryd.laidOut (by kernel_rfl) (of_decide_eq_true (by kernel_rfl)) k0 bel lt0) trodAll_mk0), rfl, bel.frame _, fun h => by cases h⟩
theorem over : Rows.partsKnotsRow.holds Tryd.pinned (OpenSpec.ofChange Rows.partsKnotsSpec) :=
  OpenClaim.holds_of_wide 3 Tryd.f3 rfl rfl rfl rfl rfl rfl rfl ⟨rfl, rfl, rfl, rfl, rfl⟩ rfl rfl rfl rfl rfl (by kernel_rfl) Tryd.func3 (by kernel_rfl)
    (of_decide_eq_true (by kernel_rfl)) (by unfold Func.isWrapper; first | (rw [if_pos (by decide +kernel)]; kernel_rfl) | (rw [if_neg (by decide +kernel)]; exact ⟨rfl, rfl⟩))
    (fun os started H enc _ => lifted os started H enc)
/-- The tied card. -/
theorem card_holds : Rows.PartsKnotsCardSaid :=
  Claim7.holds_tied_plain_at .later [] [.data, .data, .data] true (true, "ad2818caed82de377e0f360e3ec46a69f18d35869d53b2be6a80c228ae6d0699") false
    over (fun _ h => by cases h) (by kernel_rfl) (fun _ h => by cases h) partsKnots_row_tie rfl ⟨rfl, rfl⟩ (by kernel_rfl) rfl
    (fun f fn hf hfn => by
      obtain rfl : f = 3 := Option.some.inj ((show Tryd.prog.funcNamed "posthorn/posthornlaw09.PartsKnots" = some 3 by kernel_rfl).symm.trans hf) |>.symm
      obtain rfl : fn = Tryd.f3 := (Option.some.inj (Tryd.func3.symm.trans hfn)).symm
      exact ⟨by kernel_rfl, fun j t ht => by
        rw [Tryd.params3] at ht
        have hm : t ∈ [22] := by simpa using Array.mem_of_getElem? ht
        have hall : ([22].all fun u => !Tryd.prog.wantsStandIn u) = true := by kernel_rfl
        exact (show Tryd.prog.wantsStandIn t = false by simpa using List.all_eq_true.1 hall t (by simpa using hm))⟩)
    (by kernel_rfl)
end Go.Proofs.YtkodlakpjpmbiaaDoor.partsKnots
namespace Go.Proofs.YtkodlakpjpmbiaaDoor
/-- The card, under a short name, for the claim. -/
theorem partsKnots_card_holds : Rows.PartsKnotsCardSaid := partsKnots.card_holds
end Go.Proofs.YtkodlakpjpmbiaaDoor

/- The functions that are known otherwise are as is said. -/
import Derived.Test.YtkodlakpjpmbiaaGreatDoorKAL
import Derived.Test.YtkodlakpjpmbiaaGreatDoorShelf
import Derived.KernelRfl
import Derived.Shelf.Bytes.SlIndexWhole
import Derived.Lib.IndexLaws
import Derived.Sort.Grow
import Derived.Lib.LaidTab
import Derived.Below
import Derived.ChangeSlices
import Derived.Deep.Strs
import Derived.Test.YtkodlakpjpmbiaaGreatDoorKAK
import Derived.Test.YtkodlakpjpmbiaaGreatDoorCards
import Derived.Test.YtkodlakpjpmbiaaGreatDoorTie
import Derived.ProofKit
import Derived.HandedShaped
import Derived.Shelf.Vars
import Derived.Carry
import Derived.OpenShut
import Derived.ShutString
import Derived.LaidMore
import Derived.Stop.Joined
import Derived.Stop.LaidErr
import Derived.SevenTiedAt
import Derived.MakeChecks
import Derived.Test.YtkodlakpjpmbiaaGreatDoorKAH
import Derived.Test.YtkodlakpjpmbiaaGreatDoorKAG
import Derived.Test.YtkodlakpjpmbiaaGreatDoorKAI
import Derived.Test.YtkodlakpjpmbiaaGreatDoorKAJ
import Derived.Lib.ItoaNum

set_option linter.all false

namespace Go.SL
/-- A number that a variable of the library holds. -/
class MaxC where
  mx : Int
  /-- A table behind it, or none. -/
  tab : List Int := []
instance maxB [MaxC] : BaseC where
  im := fun b o => if b = 0 ∧ o = 0 then some (.int .i64 MaxC.mx) else if b = 1 then (MaxC.tab[o]?).map (.int .u64) else none
  blk := fun b => if b = 1 ∧ MaxC.tab ≠ [] then some (MaxC.tab.map (.int .u64)).toArray else none
  blk_im := by
    intro b c h
    split at h
    · rename_i hb
      obtain ⟨rfl, hn⟩ := hb
      cases ht : MaxC.tab with
      | nil => exact absurd ht hn
      | cons x l => exact ⟨0, .int .u64 x, by simp [ht]⟩
    · cases h
theorem WR.drewN [BaseC] {g : Gh} {H : Hp} {w : World} (h : WR g H w) (n : Nat) : WR g H (w.drewN n) :=
  ⟨h.len, fun id o l a b => (h.obj id o l a b).congr (w2 := w.drewN n) rfl, h.inj, fun b o v hb => h.im b o v hb, h.dis, h.own, h.base, h.org, h.blk⟩
theorem Evo.drewN (g : Gh) (H : Hp) (w : World) (n : Nat) : Evo g H w g H (w.drewN n) := ⟨rfl, rfl, rfl, Nat.le_refl _, fun _ _ _ => rfl, fun _ h => .inr h, fun _ _ _ h => h, locs_refl g, fun _ h => h⟩
end Go.SL
namespace Go.Proofs.Tryz
open Go Go.SL
set_option linter.unusedVariables false

theorem fxIdb : Extern.findNext f114 = none := by kernel_rfl
theorem feIdb : Extern.find f114 = some Extern.BytealgIndexByte.indexByte := by kernel_rfl
theorem callIdb (s : ByteArray) (c : Int) (w : World) : (callFunc 114 #[.string s, .int .u8 c]).run prog w = .ok (.value (.int .i64 (Lib.indexByte s.data.toList c.toNat.toUInt8))) w := by
  have hn : ¬ f114.name = "runtime.NumGoroutine" := by decide
  have hb : f114.body = none := rfl
  have hr := Lib.run_indexByteString (P := prog) s c w
  simp [callFunc, func114, hn, hb, fxIdb, feIdb, hr]
theorem enter80 (vs : Array Value) (w : World) : (callFunc 65 vs).run prog w = .ok (.enter 65 vs) w := by
  have hn : ¬ f65.name = "runtime.NumGoroutine" := by decide
  have hb : ¬ f65.body = none := by intro h; cases h
  simp [callFunc, func65, hn, hb]
theorem enter100 (vs : Array Value) (w : World) : (callFunc 91 vs).run prog w = .ok (.enter 91 vs) w := by
  have hn : ¬ f91.name = "runtime.NumGoroutine" := by decide
  have hb : ¬ f91.body = none := by intro h; cases h
  simp [callFunc, func91, hn, hb]
theorem enter90 (vs : Array Value) (w : World) : (callFunc 81 vs).run prog w = .ok (.enter 81 vs) w := by
  have hn : ¬ f81.name = "runtime.NumGoroutine" := by decide
  have hb : ¬ f81.body = none := by intro h; cases h
  simp [callFunc, func81, hn, hb]
/-- Arguments, one by one. -/
theorem list2 [BaseC] {g : Gh} {x y : CV} {vs : Array Value} (h : ListR g [x, y] vs) : ∃ u v, vs = #[u, v] ∧ VR g x u ∧ VR g y v := ListR.two h
variable [MaxC]
theorem idb_ok (m : Nat) (f : FuncId) (hf : f = 65 ∨ f = 114 ∨ f = 91) (args : List CV) (H : Hp) (r : CV) (H2 : Hp) (h : idbP args H = some (r, H2)) : CallS prog m f args H r H2 := by
  unfold idbP at h
  split at h
  · rename_i s c
    cases h
    intro g w vs hw hl
    obtain ⟨u, v, rfl, hu, hv⟩ := list2 hl
    obtain ⟨rfl, _⟩ := hu.atom
    obtain ⟨rfl, _⟩ := hv.atom
    refine ⟨Keeps.refl _ _, ?_⟩
    rcases hf with rfl | rfl | rfl
    · exact .inr ⟨enter80 _ _, (strings_IndexByte s c w).mono fun e w' ⟨he, hw'⟩ => by subst he hw'; exact ⟨_, g, rfl, .cl (.v rfl), hw, Evo.refl _ _ _⟩⟩
    · exact .inl ⟨_, g, w, callIdb s c w, .cl (.v rfl), hw, Evo.refl _ _ _⟩
    · exact .inr ⟨enter100 _ _, (stringslite_IndexByte s c w).mono fun e w' ⟨he, hw'⟩ => by subst he hw'; exact ⟨_, g, rfl, .cl (.v rfl), hw, Evo.refl _ _ _⟩⟩
  · cases h
/-- Bytes that cells hold. -/
theorem cells_num {g : Gh} {w : World} {b o : Nat} {cs : List CV} {ns : List Int} (hn : numsOf cs = some ns) (hh : Holds g w b o cs) (i : Nat) (hi : i < ns.length) : w.cell? ((⟨b, o, none⟩ : Addr).add i) = some (.int .u8 (ns.getD i 0)) := by
  obtain ⟨hl, hg⟩ := numsOf_get hn
  obtain ⟨u, h1, _, h3⟩ := hh i (by omega)
  rw [hg i (by omega)] at h3
  obtain ⟨rfl, _⟩ := h3.atom
  rw [Lib.add_plain']; exact h1
theorem idx_ok (m : Nat) (args : List CV) (H : Hp) (r : CV) (H2 : Hp) (h : idxP args H = some (r, H2)) : CallS prog m 81 args H r H2 := by
  unfold idxP at h
  split at h
  · rename_i x y
    obtain ⟨⟨cx, nx⟩, hx, h⟩ := Option.bind_eq_some_iff.1 h
    obtain ⟨⟨cy, ny⟩, hy, h⟩ := Option.bind_eq_some_iff.1 h
    obtain ⟨xs, hxs, h⟩ := Option.bind_eq_some_iff.1 h
    obtain ⟨ys, hys, h⟩ := Option.bind_eq_some_iff.1 h
    simp only at hx hy hxs hys h
    split at h
    · rename_i hc
      obtain ⟨h1, h2, h3, h4, h5, h6⟩ := hc
      cases h
      intro g w vs hw hl
      obtain ⟨u, v, rfl, hu, hv⟩ := list2 hl
      refine ⟨Keeps.refl _ _, .inr ⟨enter90 _ _, ?_⟩⟩
      have hmx : w.cell? ⟨0, 0, none⟩ = some (.int .i64 MaxC.mx) := (hw.im 0 0 _ (hw.base 0 0 _ (by simp [BaseC.im]))).1
      have hbig : xs.length < 4294967281 := by unfold big at h3; omega
      rcases hw.at_sl hv hy with ⟨rfl, _, hn0⟩ | ⟨a2, b2, o2, c2, rfl, hcap2, ha2, hh2, _⟩
      · omega
      have hlen2 := (numsOf_get hys).1
      rcases hw.at_sl hu hx with ⟨rfl, rfl, hn0⟩ | ⟨a1, b1, o1, c1, rfl, hcap1, ha1, hh1, hz1⟩
      · have hxs0 : xs = [] := by simp [numsOf] at hxs; exact hxs
        subst hxs0
        have hidx : Lib.index (Lib.bytesOf []) (Lib.bytesOf ys) = -1 := Lib.index_long (by simp [Lib.bytesOf]) (by
          intro e
          have := congrArg List.length e
          simp [Lib.bytesOf] at this
          rw [this] at h4; simp at h4)
        rw [hidx]
        subst h2
        refine (Any.bytes_Index_nil lays185 _ ys.length c2 w (by omega) (fun h => by omega)).mono fun e w' ⟨he, hw'⟩ => ?_
        subst he hw'
        rw [if_neg (by omega)]
        exact ⟨_, g, rfl, .cl (.v rfl), hw, Evo.refl _ _ _⟩
      · by_cases hx0 : xs.length = 0
        · have hxs0 : xs = [] := List.eq_nil_of_length_eq_zero hx0
          subst hxs0
          have hidx : Lib.index (Lib.bytesOf []) (Lib.bytesOf ys) = -1 := Lib.index_long (by simp [Lib.bytesOf]) (by
            intro e
            have := congrArg List.length e
            simp [Lib.bytesOf] at this
            rw [this] at h4; simp at h4)
          rw [hidx]
          subst h1 h2
          refine (Any.bytes_Index_longer lays185 (some a1) (some a2) 0 c1 ys.length c2 w (by omega) (by omega) (by omega)).mono fun e w' ⟨he, hw'⟩ => ?_
          subst he hw'
          exact ⟨_, g, rfl, .cl (.v rfl), hw, Evo.refl _ _ _⟩
        subst h1 h2
        obtain rfl := ha1 (by omega)
        obtain rfl := ha2 (by omega)
        refine (Any.bytes_Index_at lays185 ⟨b1, o1, none⟩ ⟨b2, o2, none⟩ xs.length c1 ys.length c2 xs ys MaxC.mx w rfl rfl h5 h6 (fun i hi => cells_num hxs (hh1 (by omega)) i hi) (fun i hi => cells_num hys (hh2 (by omega)) i hi) hcap1 hbig (by omega) hmx).mono fun e w' ⟨he, q, hw'⟩ => ?_
        subst he hw'
        exact ⟨_, g, rfl, .cl (.v rfl), hw.drewN q, Evo.drewN _ _ _ _⟩
    · cases h
  · cases h
@[reducible] def L0 : LayerC := ⟨false⟩
@[reducible] def L1 : LayerC := ⟨true⟩
omit [MaxC] in
theorem noGo : ∀ (f : FuncId) (fn : Func), prog.funcs[f]? = some fn → fn.name ≠ "runtime.NumGoroutine" := by
  have h : (prog.funcs.toList.all fun fn => fn.name != "runtime.NumGoroutine") = true := by kernel_rfl
  intro f fn hf e
  have := List.all_eq_true.1 h fn (Array.mem_toList_iff.2 (Array.mem_of_getElem? hf))
  rw [e] at this
  simp at this
end Go.Proofs.Tryz

/- The functions that are known otherwise are as is said (a seat whose numerals rest on a table of the library). -/
namespace Go.Proofs.Tryz
open Go Go.SL Go.Sort
set_option linter.unusedVariables false
theorem gPow : prog.globalNamed "internal/strconv.uint64pow10" = some 1 := by kernel_rfl
theorem enter34 (vs : Array Value) (w : World) : (callFunc 34 vs).run prog w = .ok (.enter 34 vs) w := by
  have hn : ¬ f34.name = "runtime.NumGoroutine" := by decide
  have hb : ¬ f34.body = none := by intro h; cases h
  simp [callFunc, func34, hn, hb]
variable [MaxC]
theorem tab_of (ht : MaxC.tab = Lib.pow10Tab) {g : Gh} {H : Hp} {w : World} (hw : WR g H w) : Lib.TabIs prog w "internal/strconv.uint64pow10" .u64 Lib.pow10Tab := by
  have hne : Lib.pow10Tab ≠ [] := by decide
  obtain ⟨e, fr, hb⟩ := hw.blk 1 (Lib.pow10Tab.map (Value.int .u64)).toArray (by
    simp only [BaseC.blk, ht]
    rw [if_pos ⟨trivial, hne⟩])
  unfold Lib.TabIs World.var?
  rw [gPow]
  simp only [Option.bind_some, hb]
omit [MaxC] in
theorem later_grow (w : World) (os : Array Obj) : Later w (grow w os) := ⟨rfl, rfl, rfl, by simp, fun b hb => by simp only [grow]; rw [Array.getElem?_append_left hb]⟩
theorem ito_ok (ht : MaxC.tab = Lib.pow10Tab) (m : Nat) (args : List CV) (H : Hp) (r : CV) (H2 : Hp) (h : itoP args H = some (r, H2)) : CallS prog m 34 args H r H2 := by
  unfold itoP at h
  split at h
  · rename_i n
    split at h
    · rename_i hc
      cases h
      intro g w vs hw hl
      obtain ⟨u, rfl, hu⟩ := hl.one
      obtain ⟨rfl, _⟩ := hu.atom
      refine ⟨Keeps.refl _ _, .inr ⟨enter34 _ _, (strconv_Itoa n hc.1 hc.2 w (tab_of ht hw)).mono fun e w' ⟨he, k, os, hw'⟩ => ?_⟩⟩
      subst he hw'
      exact ⟨_, g, rfl, .cl (.v rfl), (hw.drewN k).later (later_grow _ _), (Evo.drewN g H w k).trans (later_grow _ _).evo⟩
    · cases h
  · cases h
theorem prim0 (ht : MaxC.tab = Lib.pow10Tab) : PrimOK prog (@cs0 L0) := by
  intro f p hp m args H r H2 h
  have hp : (if f = 81 then some idxP else if f = 65 ∨ f = 114 ∨ f = 91 then some idbP else if (f == 26) && false then some lowP else if (f == 99) && false then some tokP else if f = 34 then some itoP else none) = some p := hp
  split at hp
  · rename_i hf; cases hp; subst hf; exact idx_ok m args H r H2 h
  · split at hp
    · rename_i hf; cases hp; exact idb_ok m f hf args H r H2 h
    · simp only [Bool.and_false, Bool.false_eq_true, if_false] at hp
      split at hp
      · rename_i hf; cases hp; subst hf; exact ito_ok ht m args H r H2 h
      · cases hp
theorem low_ok (ht : MaxC.tab = Lib.pow10Tab) (m : Nat) (args : List CV) (H : Hp) (r : CV) (H2 : Hp) (h : lowP args H = some (r, H2)) : CallS prog m 26 args H r H2 := by
  unfold lowP at h
  split at h
  · rename_i s
    split at h
    · rename_i hs
      cases h
      obtain ⟨k, y, hk, h1, h2⟩ := @w54 L0 m s.data.toList H hs
      obtain ⟨y1, y2⟩ := y
      simp only at h1 h2
      subst h1
      rw [h2] at hk
      exact (evCall_good (prim0 ht) noGo k).1 m 26 _ H _ H hk
    · cases h
  · cases h
theorem tok_ok (ht : MaxC.tab = Lib.pow10Tab) (m : Nat) (args : List CV) (H : Hp) (r : CV) (H2 : Hp) (h : tokP args H = some (r, H2)) : CallS prog m 99 args H r H2 := by
  unfold tokP at h
  split at h
  · rename_i s
    split at h
    · rename_i hs
      cases h
      obtain ⟨k, y, hk, h1, h2⟩ := @w88 L0 m s.data.toList H hs
      obtain ⟨y1, y2⟩ := y
      simp only at h1 h2
      subst h1
      rw [h2] at hk
      exact (evCall_good (prim0 ht) noGo k).1 m 99 _ H _ H hk
    · cases h
  · cases h
theorem prim1 (ht : MaxC.tab = Lib.pow10Tab) : PrimOK prog (@cs0 L1) := by
  intro f p hp m args H r H2 h
  have hp : (if f = 81 then some idxP else if f = 65 ∨ f = 114 ∨ f = 91 then some idbP else if (f == 26) && true then some lowP else if (f == 99) && true then some tokP else if f = 34 then some itoP else none) = some p := hp
  split at hp
  · rename_i hf; cases hp; subst hf; exact idx_ok m args H r H2 h
  · split at hp
    · rename_i hf; cases hp; exact idb_ok m f hf args H r H2 h
    · split at hp
      · rename_i hf
        simp at hf
        cases hp; subst hf; exact low_ok ht m args H r H2 h
      · split at hp
        · rename_i hf
          simp at hf
          cases hp; subst hf; exact tok_ok ht m args H r H2 h
        · split at hp
          · rename_i hf; cases hp; subst hf; exact ito_ok ht m args H r H2 h
          · cases hp
end Go.Proofs.Tryz

/- From the evaluator to a row: the first world, and what a call leaves. -/
namespace Go.SL
open Go.RowKit
set_option linter.unusedVariables false
/-- A world, and no object. -/
def g0 (W : World) : Gh := ⟨[], fun b o => (W.cell? ⟨b, o, none⟩).filter (·.oneCell'), fun _ => False⟩
theorem WR.init [BaseC] {W : World} (h : ∀ b o v, BaseC.im b o = some v → W.cell? ⟨b, o, none⟩ = some v ∧ v.oneCell' = true) (hk : ∀ b c, BaseC.blk b = some c → ∃ e fr, W.heap[b]? = some (.cells c e fr)) : WR (g0 W) [] W where
  len := rfl
  obj := fun id o l h => by simp at h
  inj := fun i j oi oj li lj h => by simp at h
  im := fun b o v hv => by
    simp only [g0, Option.filter_eq_some_iff] at hv
    exact ⟨hv.1, hv.2⟩
  dis := fun id o l h => by simp at h
  own := fun b hb => hb.elim
  base := fun b o v hv => by
    simp only [g0, Option.filter_eq_some_iff]
    exact h b o v hv
  org := fun id cs e l h => by simp at h
  blk := hk
theorem Evo.below {W w2 : World} {g2 : Gh} {H2 : Hp} (h : Evo (g0 W) [] W g2 H2 w2) : Below W.heap.size W w2 :=
  ⟨h.os, h.tape, h.output, h.size, fun k hk => h.keep k hk (by
    rintro (h | ⟨id, o, l, h, _⟩)
    · exact h
    · simp at h)⟩
theorem im_g0 {W : World} {b o : Nat} {v : Value} (h : W.cell? ⟨b, o, none⟩ = some v) (h1 : v.oneCell' = true) : (g0 W).im b o = some v := by
  simp only [g0, Option.filter_eq_some_iff]; exact ⟨h, h1⟩
end Go.SL
namespace Go.Proofs.Tryz
open Go Go.SL Go.RowKit
set_option linter.unusedVariables false
/-- A law's walk, as a call from any world; a table stands behind it. -/
theorem law_callsT {mx : Int} {tb : List Int} {f : FuncId} {fn : Func} {W : World} {xs : List CV} {vs : Array Value} (hprim : ∀ mx : Int, @PrimOK (@maxB ⟨mx, tb⟩) prog (@cs0 L1)) (hf : prog.funcs[f]? = some fn) (hb : fn.body ≠ none) (hmx : W.cell? ⟨0, 0, none⟩ = some (.int .i64 mx))
    (htb : tb ≠ [] → ∃ e fr, W.heap[1]? = some (.cells (tb.map (Value.int .u64)).toArray e fr)) (hl : ListR (g0 W) xs vs)
    (hr : @Ret prog (@cs0 L1) 0 f xs [] (.v (.bool true)) []) : Calls prog f vs W fun e W' => e = .returned (.bool true) ∧ Below W.heap.size W W' := by
  letI : MaxC := ⟨mx, tb⟩
  have hw : WR (g0 W) [] W := WR.init (fun b o v hv => by
    simp only [BaseC.im] at hv
    split at hv
    · rename_i hc
      obtain ⟨rfl, rfl⟩ := hc
      cases hv
      exact ⟨hmx, rfl⟩
    · split at hv
      · rename_i hc
        subst hc
        obtain ⟨z, hz, rfl⟩ := Option.map_eq_some_iff.1 hv
        have hne : tb ≠ [] := by rintro rfl; cases hz
        obtain ⟨e, fr, hh⟩ := htb hne
        have hz' : tb[o]? = some z := hz
        exact ⟨by simp [World.cell?, hh, hz'], rfl⟩
      · cases hv) fun b c hc => by
    simp only [BaseC.blk] at hc
    split at hc
    · rename_i hq
      obtain ⟨rfl, hne⟩ := hq
      cases hc
      exact htb hne
    · cases hc
  obtain ⟨k, ⟨y1, y2⟩, hk, h1, h2⟩ := hr
  simp only at h1 h2
  subst h1
  rw [h2] at hk
  have henter : (callFunc f vs).run prog W = .ok (.enter f vs) W := by
    have := noGo f fn hf
    simp [callFunc, hf, this, hb]
  rcases ((evCall_good (hprim mx) noGo k).1 0 f xs [] _ [] hk (g0 W) W vs hw hl).2 with ⟨v, g2, w2, h3, _⟩ | ⟨_, h3⟩
  · rw [henter] at h3; cases h3
  · refine h3.mono fun e w' ⟨v, g2, he, hv, _, hev⟩ => ?_
    obtain ⟨rfl, _⟩ := hv.atom
    exact ⟨he, hev.below⟩
/-- A law's walk, as a call from any world in which the table stands. -/
theorem law_calls {mx : Int} {f : FuncId} {fn : Func} {W : World} {xs : List CV} {vs : Array Value} (hf : prog.funcs[f]? = some fn) (hb : fn.body ≠ none) (hmx : W.cell? ⟨0, 0, none⟩ = some (.int .i64 mx)) (ht : Lib.TabIs prog W "internal/strconv.uint64pow10" .u64 Lib.pow10Tab) (hl : ListR (g0 W) xs vs)
    (hr : @Ret prog (@cs0 L1) 0 f xs [] (.v (.bool true)) []) : Calls prog f vs W fun e W' => e = .returned (.bool true) ∧ Below W.heap.size W W' :=
  law_callsT (tb := Lib.pow10Tab) (fun mx => @prim1 ⟨mx, Lib.pow10Tab⟩ rfl) hf hb hmx (fun _ => by
    unfold Lib.TabIs World.var? at ht
    rw [gPow] at ht
    simp only [Option.bind_some] at ht
    split at ht
    · rename_i cs e fr hh
      cases ht
      exact ⟨_, _, hh⟩
    · cases ht) hl hr
/-- Bytes of a world, as an argument. -/
theorem byt_vr {W : World} {a : Option Addr} {len cap : Nat} {zs : List Int} (h : (a = none ∧ len = 0 ∧ cap = 0) ∨ ∃ x, a = some x ∧ x.spot = none ∧ len ≤ cap ∧ zs.length = cap ∧ (∀ i, i < zs.length → W.cell? (x.add i) = some (.int .u8 (zs.getD i 0))) ∧ ∀ n ∈ zs, 0 ≤ n ∧ n < 256) :
    ∃ x b, CB x b ∧ VR (g0 W) x (.slice a len cap) := by
  rcases h with ⟨rfl, rfl, rfl⟩ | ⟨x, rfl, hsp, hlc, hz, hc, hr⟩
  · exact ⟨nilC, [], .inr ⟨rfl, rfl, rfl⟩, .cl (.v rfl)⟩
  · obtain ⟨b, o, sp⟩ := x
    simp only at hsp
    subst hsp
    have hlen : ((zs.take len).map fun n => n.toNat.toUInt8).length = len := by simp; omega
    refine ⟨byt ((zs.take len).map fun n => n.toNat.toUInt8), _, .inl rfl, .cl ?_⟩
    unfold byt
    rw [hlen]
    refine .im (f := fun i => .int .u8 (zs.getD i 0)) (by simp; omega) hlc (fun _ => rfl) (fun i hi => ?_) fun i hi => ?_
    · simp at hi
      have := hc i (by omega)
      rw [Lib.add_plain'] at this
      exact im_g0 this rfl
    · simp at hi
      have hi' : i < zs.length := by omega
      have hg : zs.getD i 0 = zs[i] := by simp [List.getD, hi']
      have hrr := hr zs[i] (List.getElem_mem hi')
      have : (u8s ((zs.take len).map fun n => n.toNat.toUInt8))[i] = .v (.int .u8 (zs.getD i 0)) := by
        simp only [u8s, List.getElem_map, List.getElem_take, u8, hg]
        congr 2
        simp
        omega
      rw [this]
      exact .v rfl
end Go.Proofs.Tryz

/- From the evaluator to a row: trees among the arguments. -/
namespace Go.SL
open Go.ChangeShapes Go.RowKit
set_option linter.unusedVariables false
section
variable {H : Type} {enc : TypeId × Value → H} {P : Program} {W : World} {base : Nat} {spare : Nat → Bool} {held : Bool}
/-- Cells that can be read stand at addresses without a spot. -/
theorem cell_addr {a : Addr} {u : Value} (h : W.cell? a = some u) : a = ⟨a.block, a.off, none⟩ := by
  obtain ⟨b, o, sp⟩ := a
  cases sp with
  | none => rfl
  | some s => simp [World.cell?] at h; split at h <;> simp at h
/-- A slice that is read, whose elements are. -/
theorem rd_sl {κ : Type} {R : κ → List CV → Prop} {t e : TypeId} {sz fuel : Nat} {cs : List Value} {x : DataW H × List MemPlace} (ht : P.underlying t = some (.slice e)) (hsz : P.cellsOf e = sz) (hpos : 0 < sz)
    (hR : ∀ n, n < fuel → ∀ (cs : List Value) y, DataW.trod enc P W base spare held n e cs = some y → ∃ k c, R k c ∧ c.length = sz ∧ cs.length = sz ∧ ∀ i (h1 : i < c.length) (h2 : i < cs.length), VC (g0 W).im c[i] cs[i] ∧ cs[i].oneCell' = true)
    (h : DataW.trod enc P W base spare held fuel t cs = some x) :
    ∃ (y : CV) (v : Value) (ks : List κ) (ch : List (List CV)), cs = [v] ∧ Cls y ch.flatten ch.length sz ∧ Chunks ch sz ∧ VC (g0 W).im y v ∧ v.oneCell' = true ∧ ks.length = ch.length ∧ (∀ i (h1 : i < ks.length) (h2 : i < ch.length), R ks[i] ch[i]) := by
  rcases DataW.trod_slice ht h with ⟨rfl, _⟩ | ⟨a, len, cap, elems, rest, n, rfl, rfl, rfl, hb, hl, hm, hlen, hel, hsp, hns⟩
  · exact ⟨nilC, _, [], [], rfl, .inr ⟨rfl, rfl, rfl⟩, (fun c hc => by cases hc), .v rfl, rfl, rfl, (fun i h1 => by simp at h1)⟩
  · have each : ∀ i : Fin len, ∃ q : κ × List CV × List Value, R q.1 q.2.1 ∧ q.2.1.length = sz ∧ W.cells? base (a.add (i.1 * sz)) sz = some q.2.2 ∧ q.2.2.length = sz ∧ ∀ j (h1 : j < q.2.1.length) (h2 : j < q.2.2.length), VC (g0 W).im q.2.1[j] q.2.2[j] ∧ q.2.2[j].oneCell' = true := by
      intro i
      have h1 := hel i.1 i.2
      have h2 : i.1 < elems.length := by omega
      rw [List.getElem?_eq_getElem h2, hsz] at h1
      obtain ⟨us, hus, hy⟩ := Option.bind_eq_some_iff.1 h1
      obtain ⟨k, c, h3, h4, h5, h6⟩ := hR n (by omega) us _ hy
      exact ⟨(k, c, us), h3, h4, hus, h5, h6⟩
    let f := fun i => Classical.choose (each i)
    have hf := fun i => Classical.choose_spec (each i)
    have hfe : ∀ i, Classical.choose (each i) = f i := fun i => rfl
    simp only [hfe] at hf
    clear_value f
    have hch : Chunks (List.ofFn fun i => (f i).2.1) sz := by
      intro c hc
      obtain ⟨i, rfl⟩ := (List.mem_ofFn).1 hc
      exact (hf i).2.1
    have hfl := hch.len
    rw [List.length_ofFn] at hfl
    have cell : ∀ (i : Fin len) (r : Nat) (hr : r < sz), W.cell? ((a.add (i.1 * sz)).add r) = (f i).2.2[r]? := fun i r hr => (World.cells?_some (hf i).2.2.1).2.2 r hr
    have hadr : 0 < len → a = ⟨a.block, a.off, none⟩ := by
      intro hp
      have h1 := cell ⟨0, hp⟩ 0 hpos
      rw [List.getElem?_eq_getElem (by rw [(hf ⟨0, hp⟩).2.2.2.1]; exact hpos)] at h1
      have h2 : (a.add (0 * sz)).add 0 = a := by simp [Addr.add]
      rw [h2] at h1
      exact cell_addr h1
    have at' : ∀ j, j < len * sz → ∃ (hi : j / sz < len) (hr : j % sz < sz) (h1 : j % sz < (f ⟨j / sz, hi⟩).2.1.length) (h2 : j % sz < (f ⟨j / sz, hi⟩).2.2.length), W.cell? ⟨a.block, a.off + j, none⟩ = some ((f ⟨j / sz, hi⟩).2.2[j % sz]) ∧
        (List.ofFn fun i => (f i).2.1).flatten[j]? = some ((f ⟨j / sz, hi⟩).2.1[j % sz]) := by
      intro j hj
      have hi : j / sz < len := (Nat.div_lt_iff_lt_mul hpos).2 hj
      have hr := Nat.mod_lt j hpos
      refine ⟨hi, hr, by rw [(hf _).2.1]; exact hr, by rw [(hf _).2.2.2.1]; exact hr, ?_, ?_⟩
      · have h1 := cell ⟨j / sz, hi⟩ _ hr
        rw [List.getElem?_eq_getElem (by rw [(hf _).2.2.2.1]; exact hr)] at h1
        rw [← h1]
        have e := hadr (Nat.lt_of_le_of_lt (Nat.zero_le _) hi)
        have h3 : j / sz * sz + j % sz = j := Nat.div_add_mod' j sz
        rw [e]
        simp only [Addr.add_lit]
        rw [Nat.add_assoc, h3]
      · have h3 : j / sz * sz + j % sz = j := Nat.div_add_mod' j sz
        have h4 := hch.get (i := j / sz) (k := j % sz) (by rw [List.length_ofFn]; exact hi) hr
        rw [h3] at h4
        rw [h4, List.getElem_ofFn, List.getElem?_eq_getElem]
    refine ⟨.im (List.ofFn fun i => (f i).2.1).flatten len sz, _, List.ofFn fun i => (f i).1, List.ofFn fun i => (f i).2.1, rfl, .inl (by rw [List.length_ofFn]), hch, .im (f := fun j => (W.cell? ⟨a.block, a.off + j, none⟩).getD undef) hfl hl hadr (fun j hj => ?_) (fun j hj => ?_), rfl, by rw [List.length_ofFn, List.length_ofFn], fun i h1 h2 => ?_⟩
    · rw [hfl] at hj
      obtain ⟨hi, hr, h1, h2, h3, h4⟩ := at' j hj
      rw [h3]
      exact im_g0 h3 ((hf ⟨j / sz, hi⟩).2.2.2.2 (j % sz) h1 h2).2
    · have hj' := hj
      rw [hfl] at hj'
      obtain ⟨hi, hr, h1, h2, h3, h4⟩ := at' j hj'
      have h5 : (List.ofFn fun i => (f i).2.1).flatten[j] = (f ⟨j / sz, hi⟩).2.1[j % sz] := by
        rw [List.getElem?_eq_getElem hj] at h4
        exact Option.some.inj h4
      rw [h3, h5]
      exact ((hf ⟨j / sz, hi⟩).2.2.2.2 (j % sz) h1 h2).1
    · rw [List.getElem_ofFn, List.getElem_ofFn]
      exact (hf _).1
/-- A text that is read. -/
theorem rd_str {t : TypeId} {fuel : Nat} {cs : List Value} {x : DataW H × List MemPlace} (ht : P.underlying t = some .string) (h : DataW.trod enc P W base spare held fuel t cs = some x) :
    ∃ (s : Bs) (v : Value), cs = [v] ∧ VC (g0 W).im (str s) v ∧ v.oneCell' = true := by
  obtain ⟨s, rfl, _, _⟩ := DataW.trod_string ht h
  exact ⟨s.data.toList, _, rfl, .v rfl, rfl⟩
/-- A byte that is read. -/
theorem rd_u8 {t : TypeId} {fuel : Nat} {cs : List Value} {x : DataW H × List MemPlace} (ht : P.underlying t = some (.int .u8)) (h : DataW.trod enc P W base spare held fuel t cs = some x) :
    ∃ (s : UInt8) (v : Value), cs = [v] ∧ VC (g0 W).im (u8 s) v ∧ v.oneCell' = true := by
  obtain ⟨n, rfl, _, hw⟩ := DataW.trod_int ht h
  have : 0 ≤ n ∧ n < 256 := by
    simp [Lit.wf, IntKind.min, IntKind.max, IntKind.signed, IntKind.bits] at hw
    omega
  refine ⟨n.toNat.toUInt8, _, rfl, ?_, rfl⟩
  have : u8 n.toNat.toUInt8 = .v (.int .u8 n) := by
    simp only [u8]
    congr 2
    simp
    omega
  rw [this]
  exact .v rfl
/-- Bytes that are read. -/
theorem rd_bytes {t e : TypeId} {fuel : Nat} {cs : List Value} {x : DataW H × List MemPlace} (ht : P.underlying t = some (.slice e)) (he : P.underlying e = some (.int .u8)) (hc : P.cellsOf e = 1) (h : DataW.trod enc P W base spare held fuel t cs = some x) :
    ∃ (y : CV) (b : Bs) (v : Value), cs = [v] ∧ CB y b ∧ VC (g0 W).im y v ∧ v.oneCell' = true := by
  obtain ⟨y, v, ks, ch, rfl, hy, hch, hv, h1, hl, hR⟩ := rd_sl (R := fun (k : UInt8) c => c = [u8 k]) ht hc (by omega) (fun n hn cs y h => by
    obtain ⟨s, v, rfl, hv, h1⟩ := rd_u8 he h
    refine ⟨s, [u8 s], rfl, rfl, rfl, fun i h1' h2 => ?_⟩
    have : i = 0 := by simp at h2; exact h2
    subst this
    exact ⟨hv, h1⟩) h
  have hfl : ch.flatten = u8s ks := by
    have : ch = ks.map fun k => [u8 k] := by
      refine List.ext_getElem (by simp [hl]) fun i h1 h2 => ?_
      rw [List.getElem_map]
      exact hR i (by omega) h1
    rw [this]
    clear this hR hl h hv hy hch
    induction ks with
    | nil => rfl
    | cons k ks ih => rw [List.map_cons, List.flatten_cons, ih]; rfl
  refine ⟨y, ks, v, rfl, ?_, hv, h1⟩
  rw [hfl, ← hl] at hy
  rcases hy with rfl | ⟨h1, _, rfl⟩
  · exact .inl rfl
  · refine .inr ⟨h1, by rw [List.eq_nil_of_length_eq_zero h1]; rfl, rfl⟩
end
end Go.SL

/- A tree of parts that is read. -/
namespace Go.Proofs.Tryz
open Go Go.SL Go.RowKit Go.ChangeShapes Go.Deep
set_option linter.unusedVariables false
section
variable {H : Type} {enc : TypeId × Value → H} {W : World} {base : Nat} {spare : Nat → Bool} {held : Bool}
theorem len2 {α : Type} {l : List α} (h : l.length = 2) : ∃ a b, l = [a, b] := by
  match l, h with
  | [a, b], _ => exact ⟨a, b, rfl⟩
theorem len3 {α : Type} {l : List α} (h : l.length = 3) : ∃ a b c, l = [a, b, c] := by
  match l, h with
  | [a, b, c], _ => exact ⟨a, b, c, rfl⟩
/-- A field that is read. -/
theorem rd_fld {fuel : Nat} {cs : List Value} {x : DataW H × List MemPlace} (h : DataW.trod enc prog W base spare held fuel 62 cs = some x) :
    ∃ (k : Fld) (c : List CV), c = k.c ∧ c.length = 2 ∧ cs.length = 2 ∧ ∀ i (h1 : i < c.length) (h2 : i < cs.length), VC (g0 W).im c[i] cs[i] ∧ cs[i].oneCell' = true := by
  have hcl : prog.cellsOf 62 = 2 := by kernel_rfl
  have hc9 : prog.cellsOf 9 = 1 := by kernel_rfl
  obtain ⟨y0, y1, n, rfl, hl, h0, h1⟩ := trod_struct2 underlying62 h
  rw [hcl] at hl
  obtain ⟨a, b, rfl⟩ := len2 hl
  clear hl
  · simp only [hc9] at h0 h1
    obtain ⟨s0, v0, e0, hv0, o0⟩ := rd_str underlying9 h0
    obtain ⟨s1, v1, e1, hv1, o1⟩ := rd_str underlying9 h1
    simp at e0 e1
    subst e0 e1
    refine ⟨⟨s0, s1⟩, [str s0, str s1], rfl, rfl, rfl, fun i h1 h2 => ?_⟩
    match i, h1 with
    | 0, _ => exact ⟨hv0, o0⟩
    | 1, _ => exact ⟨hv1, o1⟩
/-- A part that is read. -/
theorem rd_part (fuel : Nat) : ∀ {cs : List Value} {x : DataW H × List MemPlace} (h : DataW.trod enc prog W base spare held fuel 26 cs = some x),
    ∃ (k : Prt) (c : List CV), PV k c ∧ c.length = 3 ∧ cs.length = 3 ∧ ∀ i (h1 : i < c.length) (h2 : i < cs.length), VC (g0 W).im c[i] cs[i] ∧ cs[i].oneCell' = true := by
  have hcl : prog.cellsOf 26 = 3 := by kernel_rfl
  have hc25 : prog.cellsOf 22 = 1 := by kernel_rfl
  have hc22 : prog.cellsOf 23 = 1 := by kernel_rfl
  have hc26 : prog.cellsOf 24 = 1 := by kernel_rfl
  have hc67 : prog.cellsOf 62 = 2 := by kernel_rfl
  have hc5 : prog.cellsOf 5 = 1 := by kernel_rfl
  induction fuel using Nat.strongRecOn with
  | _ fuel ih =>
  intro cs x h
  obtain ⟨ys, n, rfl, rfl, hl, hlen, hf⟩ := DataW.trod_struct underlying26 h
  rw [hcl] at hl
  obtain ⟨y0, y1, y2, rfl⟩ := len3 hlen
  obtain ⟨a, b, c, rfl⟩ := len3 hl
  have h0 : DataW.trod enc prog W base spare held n 22 (([a, b, c].drop 0).take (prog.cellsOf 22)) = some y0 := hf 0 _ rfl
  have h1 : DataW.trod enc prog W base spare held n 23 (([a, b, c].drop 1).take (prog.cellsOf 23)) = some y1 := hf 1 _ rfl
  have h2 : DataW.trod enc prog W base spare held n 24 (([a, b, c].drop 2).take (prog.cellsOf 24)) = some y2 := hf 2 _ rfl
  clear hf hl hlen h
  · simp only [hc25, hc22, hc26] at h0 h1 h2
    obtain ⟨f, v0, fs, ch0, e0, f0, c0, hv0, o0, l0, r0⟩ := rd_sl (R := fun (k : Fld) c => c = k.c) underlying22 hc67 (by omega) (fun n hn cs y h => rd_fld h) h0
    obtain ⟨y, bs, v1, e1, f1, hv1, o1⟩ := rd_bytes underlying23 underlying5 hc5 h1
    obtain ⟨q, v2, ps, ch2, e2, f2, c2, hv2, o2, l2, r2⟩ := rd_sl (R := PV) underlying24 hcl (by omega) (fun m hm cs y h => ih m (by omega) h) h2
    simp at e0 e1 e2
    subst e0 e1 e2
    have hch0 : ch0 = fs.map Fld.c := by
      refine List.ext_getElem (by rw [List.length_map, l0]) fun i h1 h2 => ?_
      rw [List.getElem_map]
      exact r0 i (by omega) h1
    rw [← l0, hch0] at f0
    refine ⟨.mk fs bs ps, [f, y, q], .mk f0 f1 l2.symm c2 (by rw [l2]; exact f2) r2, rfl, rfl, fun i h1 h2 => ?_⟩
    match i, h1 with
    | 0, _ => exact ⟨hv0, o0⟩
    | 1, _ => exact ⟨hv1, o1⟩
    | 2, _ => exact ⟨hv2, o2⟩
end
end Go.Proofs.Tryz

/- What all laws of this seat ask of the program and the first world. -/
namespace Go.SL
/-- A contract that asks the tables, and the world's shape, is a row's. -/
theorem handed_both {H : Type} {enc : TypeId × Value → H} {C : Checked} {os : Os} {f : FuncId} {fn : Func} {s : ChangeSpec} {X : World → Array Value → Prop} (hX : ∀ (w w' : World) (args : Array Value), w.heap = w'.heap → X w args → X w' args)
    (own : ownKnob C.prog.godebug = none) (started : os.Started) (noInit : C.prog.inits.idxOf? f = none) (hfn : C.prog.funcs[f]? = some fn)
    (wit : ∃ (w : World) (tape : Tape) (i : Input), w.os = os ∧ (w.forCall tape i).Shaped C.prog ∧ i.vars = [] ∧ Input.okWide C.prog (w.forCall tape i) .any w.heap.size f i ∧
      ((s.pre enc C.prog fn [] false (w.forCall tape i).memory i.args ∧ X (w.forCall tape i).memory i.args) ∧ sizedMet enc C.prog fn (OpenSpec.ofChange s) false (w.forCall tape i).memory i.args) ∧ ({} : Assume).holds C.prog (lone (Frame.enter C.prog f i.args .normal) [] (w.forCall tape i)))
    (contract : ∀ (W : World) (base : Nat) (args : Array Value) (ds gs : List (DataW H)) (before : List MemPlace), (∀ (j : Nat) t v, fn.params[j]? = some t → args[j]? = some v → Value.okWide C.prog W .any base t v) →
      DataW.Whole enc C.prog fn.params.toList s.vars false W args.toList ds gs before → (DataW.weightsEach C.prog (fn.params.toList ++ s.plain.varTypes C.prog) (ds ++ gs)).all (· ≤ reachBytes) = true → X W args → W.ShapedOpen C.prog →
      Calls C.prog f args W fun e W' => ∃ v, e = .returned v ∧ s.post enc C.prog fn false true false false W args v W') :
    ReturnsInHanded {} C os f .any (fun w args => (s.pre enc C.prog fn [] false w args ∧ X w args) ∧ sizedMet enc C.prog fn (OpenSpec.ofChange s) false w args) (s.post enc C.prog fn false true false false) := by
  refine returnsInHanded_of_calls own started noInit wit fun w tape i _ hsh _ hok hpre _ => ?_
  obtain ⟨_, _, _, fn2, h2, _, _, _, _, hval⟩ := hok
  obtain rfl : fn2 = fn := Option.some.inj (h2.symm.trans hfn)
  obtain ⟨⟨⟨ds, gs, before, hw, _⟩, hx⟩, hz⟩ := hpre
  have hw2 := DataW.Whole.of_heap (w' := w.forCall tape i) (by rfl) hw
  refine (contract _ _ i.args ds gs before hval hw2 (hz.weights hw) (hX _ _ _ (by rfl) hx) hsh).mono ?_
  rintro e W' ⟨v, rfl, hp⟩
  exact ChangeSpec.post_blind hp
end Go.SL
namespace Go.Proofs.YtkodlakpjpmbiaaGreatDoor
open Go.ChangeShapes Go.WideShapes Go.ChangeAt Go.RowKit
set_option linter.unusedVariables false
theorem Tryz.own : ownKnob Tryz.prog.godebug = none := by kernel_rfl
theorem Tryz.laidOut : laidOutB Tryz.prog = true := by kernel_rfl
theorem max_cell {W : World} (h : W.ShapedOpen Tryz.prog) : ∃ m, W.cell? ⟨0, 0, none⟩ = some (.int .i64 m) :=
  cell_of_shapedOpen_int (t := 3) (zero := #[.int .i64 0]) h (of_decide_eq_true (by kernel_rfl)) (by kernel_rfl) rfl (by kernel_rfl) (by kernel_rfl) Tryz.underlying3
end Go.Proofs.YtkodlakpjpmbiaaGreatDoor

/- Walks: the small functions of bits and quoted. -/
namespace Go.Proofs.Tryz
open Go Go.SL
set_option linter.unusedVariables false
set_option linter.unusedSimpArgs false
attribute [local congr] WX_stop WC_stop W_stop
variable [LayerC]
@[simp] theorem muE14 : (cs0.of 7).mu = false := rfl
@[simp] theorem reE14 : (cs0.of 7).reuse = false := rfl
@[simp] theorem muE28 : (cs0.of 43).mu = false := rfl
@[simp] theorem reE28 : (cs0.of 43).reuse = false := rfl
@[simp] theorem muE32 : (cs0.of 22).mu = true := rfl
@[simp] theorem reE32 : (cs0.of 22).reuse = false := rfl
@[simp] theorem muE33 : (cs0.of 23).mu = false := rfl
@[simp] theorem reE33 : (cs0.of 23).reuse = false := rfl
@[simp] theorem muE34 : (cs0.of 24).mu = false := rfl
@[simp] theorem reE34 : (cs0.of 24).reuse = false := rfl
@[simp] theorem muE47 : (cs0.of 42).mu = false := rfl
@[simp] theorem reE47 : (cs0.of 42).reuse = false := rfl
@[simp] theorem muE48 : (cs0.of 44).mu = false := rfl
@[simp] theorem reE48 : (cs0.of 44).reuse = false := rfl
@[simp] theorem muE49 : (cs0.of 45).mu = false := rfl
@[simp] theorem reE49 : (cs0.of 45).reuse = false := rfl
section
omit [LayerC]
theorem wrap8 {n : Int} (h : 0 ≤ n) (h2 : n < 256) : IntKind.u8.wrap n = n := by simp [IntKind.wrap, IntKind.bits, IntKind.signed]; omega
end
/-- A digit's number. -/
def dgt (c : UInt8) : Nat := if 48 ≤ c.toNat ∧ c.toNat ≤ 57 then c.toNat - 48 else if 65 ≤ c.toNat ∧ c.toNat ≤ 70 then c.toNat - 55 else if 97 ≤ c.toNat ∧ c.toNat ≤ 102 then c.toNat - 87 else 16
theorem e48 (m : Nat) (c : UInt8) (H : Hp) : Ret prog cs0 m 44 [.v (.int .u8 c.toNat)] H (.v (.int .u8 (dgt c : Nat))) H := by
  unfold Ret
  rw [WC_drop rfl func44 rfl rfl]
  have hb := c.toNat_lt
  obtain ⟨n, hn⟩ : ∃ n, n = c.toNat := ⟨_, rfl⟩
  unfold dgt
  rw [← hn] at hb ⊢
  have w1 : 48 ≤ n → IntKind.u8.wrap ((n : Int) - 48) = ((n - 48 : Nat) : Int) := fun h => by rw [wrap8 (by omega) (by omega)]; omega
  have w2 : 65 ≤ n → IntKind.u8.wrap (IntKind.u8.wrap ((n : Int) - 65) + 10) = ((n - 55 : Nat) : Int) := fun h => by rw [wrap8 (n := (n : Int) - 65) (by omega) (by omega)]; simp [IntKind.wrap, IntKind.bits, IntKind.signed]; omega
  have w3 : 97 ≤ n → IntKind.u8.wrap (IntKind.u8.wrap ((n : Int) - 97) + 10) = ((n - 87 : Nat) : Int) := fun h => by rw [wrap8 (n := (n : Int) - 97) (by omega) (by omega)]; simp [IntKind.wrap, IntKind.bits, IntKind.signed]; omega
  have hcases : n < 48 ∨ (48 ≤ n ∧ n ≤ 57) ∨ (58 ≤ n ∧ n ≤ 64) ∨ (65 ≤ n ∧ n ≤ 70) ∨ (71 ≤ n ∧ n ≤ 96) ∨ (97 ≤ n ∧ n ≤ 102) ∨ 103 ≤ n := by omega
  rcases hcases with hh | hh | hh | hh | hh | hh | hh <;> (
    first | have g1 : 48 ≤ n := by omega | have g1 : ¬ 48 ≤ n := by omega
    first | have g2 : n ≤ 57 := by omega | have g2 : ¬ n ≤ 57 := by omega
    first | have g3 : 65 ≤ n := by omega | have g3 : ¬ 65 ≤ n := by omega
    first | have g4 : n ≤ 70 := by omega | have g4 : ¬ n ≤ 70 := by omega
    first | have g5 : 97 ≤ n := by omega | have g5 : ¬ 97 ≤ n := by omega
    first | have g6 : n ≤ 102 := by omega | have g6 : ¬ n ≤ 102 := by omega
    simp -implicitDefEqProofs [f44, g1, g2, g3, g4, g5, g6, w1, w2, w3])
theorem e28 (m : Nat) (s : Bs) (i : Nat) (H : Hp) (hi : i ≤ s.length) : Ret prog cs0 m 43 [str s, .v (.int .i64 (i : Nat))] H (.v (.bool (decide ([13, 10] <+: s.drop i)))) H := by
  unfold Ret
  rw [WC_drop rfl func43 rfl rfl]
  have c44 := fun m H => (w82 m (s.drop i) [13, 10] H).wc
  have hs : str [13, 10] = .v (.string ⟨#[13, 10]⟩) := rfl
  simp -implicitDefEqProofs [f43, slice_str underlying9, hi, ← hs, c44]
end Go.Proofs.Tryz

/- Walks: strings.Builder. -/
namespace Go.Proofs.Tryz
open Go Go.SL
set_option linter.unusedVariables false
set_option linter.unusedSimpArgs false
attribute [local congr] WX_stop WC_stop W_stop
abbrev nilP : CV := .v (.pointer none)
section
theorem co5 : prog.cellsOf 5 = 1 := by simp [Program.cellsOf, iT5]
theorem cells_ptrE (id ver off : Nat) : cvCells (.ptr id ver off) = some [.ptr id ver off] := (rfl)
end
theorem _root_.Go.SL.Grow.cvc {m : Nat} {H : Hp} {x : CV} {cs : List CV} {n sz : Nat} {e : TypeId} (h : Grow m H x cs n sz e) : cvCells x = some [x] := by
  rcases h with ⟨_, _, rfl⟩ | ⟨_, _, _, _, rfl, _⟩ <;> rfl
variable [LayerC]
omit [LayerC] in
theorem bd_swap {A L : Hp} {c c' : CO} {x : CV} {l : Bs} (hg : GB (A.length + 1) (A ++ c :: L) x l) : GB (A.length + 1) (A ++ c' :: L) x l := Grow.of_obj hg fun i v c hi hk => by
  obtain ⟨t, rfl⟩ : ∃ t, i = A.length + (t + 1) := ⟨i - A.length - 1, by omega⟩
  rw [get_own, get_own]; rfl
end Go.Proofs.Tryz

/- abi.NoEscape gives back what it is given. -/
namespace Go.Proofs.Tryz
open Go Go.SL
set_option linter.unusedVariables false
end Go.Proofs.Tryz

/- Walks: more small functions of bits and quoted. -/
namespace Go.Proofs.Tryz
open Go Go.SL
set_option linter.unusedVariables false
set_option linter.unusedSimpArgs false
attribute [local congr] WX_stop WC_stop W_stop
theorem while_len {p : UInt8 → Bool} : ∀ (l : Bs) (n : Nat), (∀ c ∈ l.take n, p c = true) → (n = l.length ∨ ∃ h : n < l.length, p l[n] = false) → (l.takeWhile p).length = n := by
  intro l
  induction l with
  | nil =>
    intro n _ h
    rcases h with rfl | ⟨h, _⟩
    · rfl
    · simp at h
  | cons a l ih =>
    intro n h1 h2
    cases n with
    | zero =>
      rcases h2 with h | ⟨_, h⟩
      · simp at h
      · simp at h; simp [h]
    | succ n =>
      have h3 : p a = true := h1 a (by simp)
      rw [List.takeWhile_cons, h3]
      simp only [if_true, List.length_cons]
      rw [ih n (fun c hc => h1 c (by simp [hc])) (by
        rcases h2 with h | ⟨h, h'⟩
        · left; simpa using h
        · right; exact ⟨by simpa using h, by simpa using h'⟩)]
variable [LayerC]
/-- The signs. -/
def sgn : Bs := [65, 66, 67, 68, 69, 70, 71, 72, 73, 74, 75, 76, 77, 78, 79, 80, 81, 82, 83, 84, 85, 86, 87, 88, 89, 90, 97, 98, 99, 100, 101, 102, 103, 104, 105, 106, 107, 108, 109, 110, 111, 112, 113, 114, 115, 116, 117, 118, 119, 120, 121, 122, 48, 49, 50, 51, 52, 53, 54, 55, 56, 57, 43, 47]
theorem e47 (m : Nat) (c : UInt8) (H : Hp) : Ret prog cs0 m 42 [.v (.int .u8 c.toNat)] H (.tup [.v (.int .u32 (IntKind.u32.wrap (Lib.indexByte sgn c))), .v (.bool (decide (0 ≤ Lib.indexByte sgn c)))]) H := by
  unfold Ret
  rw [WC_drop rfl func42 rfl rfl]
  have c64 := fun m H => (w80 m sgn c H).wc
  have hs : str [65, 66, 67, 68, 69, 70, 71, 72, 73, 74, 75, 76, 77, 78, 79, 80, 81, 82, 83, 84, 85, 86, 87, 88, 89, 90, 97, 98, 99, 100, 101, 102, 103, 104, 105, 106, 107, 108, 109, 110, 111, 112, 113, 114, 115, 116, 117, 118, 119, 120, 121, 122, 48, 49, 50, 51, 52, 53, 54, 55, 56, 57, 43, 47] = str sgn := rfl
  have hc : ∀ n H, cvt prog false 3 73 (.v (.int .i64 n)) H = some (.v (.int .u32 (IntKind.u32.wrap n)), H) := fun n H => by simp [cvt, dConv, underlying3, underlying73]
  simp -implicitDefEqProofs [f42, hs, c64, hc]
theorem e49 (m : Nat) (s : Bs) (i : Nat) (H : Hp) (hi : i ≤ s.length) (hs : s.length ≤ 4294967280) : Ret prog cs0 m 45 [str s, .v (.int .i64 (i : Nat))] H (.v (.int .i64 (((s.drop i).takeWhile blankC).length : Nat))) H := by
  unfold Ret
  rw [WC_drop rfl func45 rfl rfl]
  simp -implicitDefEqProofs [f45]
  refine W_up (s.length - i) (fun n fr H' => H' = H ∧ fr 0 = str s ∧ fr 1 = .v (.int .i64 (i : Nat)) ∧ fr 5 = .v (.int .i64 (n : Nat)) ∧ ∀ c ∈ (s.drop i).take n, blankC c = true) ?_ 0 _ _ (by omega) (by simp)
  rintro n fr H' hn ⟨rfl, a0, a1, a5, hk⟩
  have hdl : (s.drop i).length = s.length - i := by simp
  have hw0 : IntKind.i64.wrap ((i : Int) + (n : Nat)) = ((i + n : Nat) : Int) := by simp [IntKind.wrap, IntKind.bits, IntKind.signed]; omega
  by_cases hlt : i + n < s.length
  · have hw := up64 (n := s.length) (i := n) (by omega) (by omega)
    have hnn : ((i : Int) + (n : Nat)).toNat = i + n := by omega
    have hcast : (i : Int) + (n : Nat) < (s.length : Nat) := by omega
    have hge : (0 : Int) ≤ (i : Int) + (n : Nat) := by omega
    by_cases hb : blankC s[i + n] = true
    · have hy : ∀ c ∈ (s.drop i).take (n + 1), blankC c = true := by
        intro c hc
        rw [List.take_add_one] at hc
        rcases List.mem_append.1 hc with h | h
        · exact hk c h
        · rw [List.getElem?_drop, List.getElem?_eq_getElem hlt] at h
          simp at h; rw [h]; exact hb
      simp -implicitDefEqProofs [a0, a1, a5, hlt, hw, hw0, index_str underlying9, len_str underlying9, hnn, hcast, hge]
      have h39 : s[i + n].toNat = 32 ∨ s[i + n].toNat = 9 := by simpa [blankC] using hb
      split
      · exact ⟨by omega, hy⟩
      · split
        · exact ⟨by omega, hy⟩
        · omega
    · simp -implicitDefEqProofs [a0, a1, a5, hlt, hw, hw0, index_str underlying9, len_str underlying9, hnn, hcast, hge]
      have h39 : ¬ s[i + n].toNat = 32 ∧ ¬ s[i + n].toNat = 9 := by simpa [blankC] using hb
      rw [if_neg h39.1, if_neg h39.2]
      exact (while_len (p := blankC) (s.drop i) n hk (.inr ⟨by omega, by rw [List.getElem_drop]; simpa using hb⟩)).symm
  · have hcast : ¬ (i : Int) + (n : Nat) < (s.length : Nat) := by omega
    have he := while_len (p := blankC) (s.drop i) n hk (.inl (by omega))
    simp -implicitDefEqProofs [a0, a1, a5, hlt, hw0, len_str underlying9, hcast, he]
end Go.Proofs.Tryz

/- Walks: small letters; two digits. -/
namespace Go.Proofs.Tryz
open Go Go.SL
set_option linter.unusedVariables false
set_option linter.unusedSimpArgs false
variable [LayerC]
theorem e32 (m : Nat) (s : Bs) (H : Hp) (hs : s.length ≤ 4294967280) : Ret prog cs0 m 22 [str s] H (str (low s)) H := by
  unfold Ret
  rw [WC_drop rfl func22 rfl rfl]
  simp [f22, cvt_s2b underlying9 underlying23 underlying5, dLenS_sl underlying23]
  refine W_up s.length (fun i fr H' => ∃ L, L = low (s.take i) ++ s.drop i ∧ H' = H ++ [.cells 0 (u8s L) 5] ∧ fr 3 = .sl H.length 0 0 s.length 1 ∧ fr 8 = .sl H.length 0 0 s.length 1 ∧ fr 9 = .v (.int .i64 s.length) ∧ fr 10 = .v (.int .i64 i)) ?_ 0 _ _ (by omega) ⟨s, rfl, by simp⟩
  rintro i fr H' hi ⟨L, hL, rfl, a3, a8, a9, a10⟩
  have hl : L.length = s.length := by subst hL; simp; omega
  by_cases hlt : i < s.length
  · have hL2 : ∀ h : i < L.length, L[i] = s[i] := by subst hL; intro h; simp [List.getElem_append_right, low, Nat.min_eq_left hi]
    have hL3 : ∀ b, L.take i ++ b :: L.drop (i + 1) = low (s.take i) ++ b :: s.drop (i + 1) := by intro b; subst hL; simp [low, List.drop_append, Nat.min_eq_left hi, List.drop_drop]
    have hs' : low (s.take (i + 1)) ++ s.drop (i + 1) = low (s.take i) ++ lowB s[i] :: s.drop (i + 1) := by rw [take_snoc hlt, low_snoc, List.append_assoc]; rfl
    have hw := up64 hlt (by omega)
    have hs2 : L = low (s.take i) ++ s[i] :: s.drop (i + 1) := by rw [hL, List.drop_eq_getElem_cons hlt]
    have hsame : ¬ (65 ≤ s[i].toNat ∧ s[i].toNat ≤ 90) → L = low (s.take (i + 1)) ++ s.drop (i + 1) := fun h => by rw [hs', hs2, lowB_lo h]
    by_cases hc : 65 ≤ s[i].toNat ∧ s[i].toNat ≤ 90
    · simp [a3, a8, a9, a10, hlt, addr_sl underlying23 iT5, load_one underlying5 rfl iT5, hL2, store_at iT5, hl, hw, Nat.add_one_le_iff, -u8s_append, hc.1, hc.2, lowB_wrap hc]
      rw [hs', ← hL3]
      simp [u8s_cons]
    · have hc' : 65 ≤ s[i].toNat → ¬ s[i].toNat ≤ 90 := fun a b => hc ⟨a, b⟩
      simp [a3, a8, a9, a10, hlt, addr_sl underlying23 iT5, load_one underlying5 rfl iT5, hL2, store_at iT5, hl, hw, Nat.add_one_le_iff, -u8s_append]
      split
      · rw [if_neg (hc' (by assumption))]; exact hsame hc
      · exact hsame hc
  · obtain rfl : i = s.length := by omega
    have e : L = low s := by simpa using hL
    subst e
    have e2 : (low s).take s.length = low s := List.take_of_length_le (by simp)
    simp [a3, a8, a9, a10, cvt_sl' (L := low s) _ underlying23 underlying9 underlying5, e2]


attribute [local congr] WX_stop WC_stop W_stop
/-- Two digits of a byte. -/
def hexS : Bs := [48, 49, 50, 51, 52, 53, 54, 55, 56, 57, 65, 66, 67, 68, 69, 70]
def hex2 (c : UInt8) : Bs := [hexS.getD (c.toNat / 16) 0, hexS.getD (c.toNat % 16) 0]
theorem and15 : ∀ n : Fin 256, binA .and (.int .u8 (n.val : Int)) (.int .u8 15) = some (.int .u8 ((n.val % 16 : Nat) : Int)) := by
  intro n
  simp only [binA, if_true]
  congr 2
  revert n
  decide +kernel
theorem hex_at : ∀ p : Fin 16, (hexS.take (p.val + 1)).drop p.val = [hexS.getD p.val 0] := by decide +kernel
end Go.Proofs.Tryz

/- Walks: the reference's signs, digits, pairs. -/
namespace Go.Proofs.Tryz
open Go Go.SL
set_option linter.unusedVariables false
set_option linter.unusedSimpArgs false
attribute [local congr] WX_stop WC_stop W_stop
variable [LayerC]
@[simp] theorem muC3 : (cs0.of 3).mu = false := rfl
@[simp] theorem reC3 : (cs0.of 3).reuse = false := rfl
@[simp] theorem muC8 : (cs0.of 8).mu = false := rfl
@[simp] theorem reC8 : (cs0.of 8).reuse = false := rfl
@[simp] theorem muC11 : (cs0.of 11).mu = false := rfl
@[simp] theorem reC11 : (cs0.of 11).reuse = false := rfl
@[simp] theorem muC12 : (cs0.of 12).mu = false := rfl
@[simp] theorem reC12 : (cs0.of 12).reuse = false := rfl
@[simp] theorem muC13 : (cs0.of 13).mu = false := rfl
@[simp] theorem reC13 : (cs0.of 13).reuse = false := rfl
@[simp] theorem muC28 : (cs0.of 28).mu = false := rfl
@[simp] theorem reC28 : (cs0.of 28).reuse = false := rfl
@[simp] theorem muC29 : (cs0.of 29).mu = false := rfl
@[simp] theorem reC29 : (cs0.of 29).reuse = false := rfl
@[simp] theorem muC36 : (cs0.of 36).mu = false := rfl
@[simp] theorem reC36 : (cs0.of 36).reuse = false := rfl
@[simp] theorem muC47 : (cs0.of 47).mu = false := rfl
@[simp] theorem reC47 : (cs0.of 47).reuse = false := rfl
@[simp] theorem muC48 : (cs0.of 48).mu = false := rfl
@[simp] theorem reC48 : (cs0.of 48).reuse = false := rfl
@[simp] theorem muC49 : (cs0.of 49).mu = false := rfl
@[simp] theorem reC49 : (cs0.of 49).reuse = false := rfl
@[simp] theorem muC51 : (cs0.of 51).mu = false := rfl
@[simp] theorem reC51 : (cs0.of 51).reuse = false := rfl
@[simp] theorem muC52 : (cs0.of 52).mu = false := rfl
@[simp] theorem reC52 : (cs0.of 52).reuse = false := rfl
@[simp] theorem muC67 : (cs0.of 67).mu = false := rfl
@[simp] theorem reC67 : (cs0.of 67).reuse = false := rfl
section
omit [LayerC]
theorem sgn_nat : ∀ v : Fin 64, (sgn.getD v.val 0).toNat = if v.val < 26 then 65 + v.val else if v.val < 52 then 71 + v.val else if v.val < 62 then v.val - 4 else if v.val = 62 then 43 else 47 := by decide +kernel
end
theorem c67 (m v : Nat) (H : Hp) (hv : v < 64) : Ret prog cs0 m 67 [.v (.int .i64 (v : Nat))] H (.tup [.v (.int .u8 (sgn.getD v 0).toNat), .v (.bool true)]) H := by
  unfold Ret
  rw [WC_drop rfl func67 rfl rfl]
  have hn := sgn_nat ⟨v, hv⟩
  simp only at hn
  obtain ⟨p, hp⟩ : ∃ p, p = (sgn.getD v 0).toNat := ⟨_, rfl⟩
  rw [← hp] at hn ⊢
  have hcv : ∀ (n : Nat) H, n < 256 → cvt prog false 3 5 (.v (.int .i64 (n : Nat))) H = some (.v (.int .u8 (n : Nat)), H) := fun n H h => by simp [cvt, dConv, underlying3, underlying5, wrapU8 n h]
  by_cases h1 : v < 26
  · rw [if_pos h1] at hn
    have w1 : IntKind.i64.wrap (65 + (v : Int)) = (p : Int) := wrN (by omega) (by omega)
    have hc := fun H => hcv p H (by omega)
    have g1 : v ≤ 25 := by omega
    simp -implicitDefEqProofs [f67, g1, w1, hc]
  rw [if_neg h1] at hn
  have g1 : ¬ v ≤ 25 := by omega
  have g2 : 26 ≤ v := by omega
  by_cases h2 : v < 52
  · rw [if_pos h2] at hn
    have w1 : IntKind.i64.wrap (97 + (v : Int)) = ((97 + v : Nat) : Int) := wrN (by omega) (by omega)
    have w2 : IntKind.i64.wrap (97 + (v : Int) - 26) = (p : Int) := wrN (by omega) (by omega)
    have hc := fun H => hcv p H (by omega)
    have g3 : v ≤ 51 := by omega
    simp -implicitDefEqProofs [f67, g1, g2, g3, w1, w2, hc]
  rw [if_neg h2] at hn
  have g3 : ¬ v ≤ 51 := by omega
  have g4 : 52 ≤ v := by omega
  by_cases h3 : v < 62
  · rw [if_pos h3] at hn
    have w1 : IntKind.i64.wrap (48 + (v : Int)) = ((48 + v : Nat) : Int) := wrN (by omega) (by omega)
    have w2 : IntKind.i64.wrap (48 + (v : Int) - 52) = (p : Int) := wrN (by omega) (by omega)
    have hc := fun H => hcv p H (by omega)
    have g5 : v ≤ 61 := by omega
    simp -implicitDefEqProofs [f67, g1, g2, g3, g4, g5, w1, w2, hc]
  rw [if_neg h3] at hn
  have g5 : ¬ v ≤ 61 := by omega
  by_cases h4 : v = 62
  · rw [if_pos h4] at hn
    simp -implicitDefEqProofs [f67, g1, g2, g3, g4, g5, h4, hn]
  · rw [if_neg h4] at hn
    have h5 : v = 63 := by omega
    subst h5
    simp -implicitDefEqProofs [f67, hn]
theorem c48 (m : Nat) (c : UInt8) (H : Hp) : Ret prog cs0 m 48 [.v (.int .u8 c.toNat)] H (.v (.int .i64 (Lib.indexByte sgn c))) H := by
  unfold Ret
  rw [WC_drop rfl func48 rfl rfl]
  simp -implicitDefEqProofs [f48]
  have hsl : sgn.length = 64 := rfl
  refine W_up 64 (fun v fr H' => H' = H ∧ fr 0 = .v (.int .u8 c.toNat) ∧ fr 3 = .v (.int .i64 (v : Nat)) ∧ ∀ j, j < v → sgn[j]? ≠ some c) ?_ 0 _ _ (by omega) (by simp)
  rintro v fr H' hv ⟨rfl, a0, a3, hk⟩
  by_cases hlt : v < 64
  · have c67' := fun m H => (c67 m v H hlt).wc
    have hw := up64 (i := v) (n := 64) hlt (by omega)
    have hgv : sgn[v]? = some (sgn.getD v 0) := by simp [List.getD, hsl, hlt]
    obtain ⟨d, hd⟩ : ∃ d, d = sgn.getD v 0 := ⟨_, rfl⟩
    rw [← hd] at c67' hgv
    by_cases he : d = c
    · subst he
      have : Lib.indexByte sgn d = v := by
        rcases idb_first sgn d with ⟨_, h2⟩ | ⟨q, h1, h2, h3, h4⟩
        · exact absurd hgv (h2 v)
        · rw [h1]
          have : q = v := by
            rcases Nat.lt_trichotomy q v with h | h | h
            · exact absurd h3 (hk q h)
            · exact h
            · exact absurd hgv (h4 v h)
          rw [this]
      simp -implicitDefEqProofs [a0, a3, hlt, c67', dExtract, this]
    · have he' : ¬ d.toNat = c.toNat := fun h => he (UInt8.toNat_inj.1 h)
      simp -implicitDefEqProofs [a0, a3, hlt, c67', dExtract, he', hw]
      intro j hj
      rcases Nat.lt_or_ge j v with h | h
      · exact hk j h
      · obtain rfl : j = v := by omega
        rw [hgv]; intro h; exact he (Option.some.inj h)
  · obtain rfl : v = 64 := by omega
    have : Lib.indexByte sgn c = -1 := by
      rcases idb_first sgn c with ⟨h1, _⟩ | ⟨q, h1, h2, h3, h4⟩
      · exact h1
      · exact absurd h3 (hk q (by rw [hsl] at h2; exact h2))
    simp -implicitDefEqProofs [a0, a3, this]
/-- A digit's number, or -1. -/
def hexV (c : UInt8) : Int := if dgt c ≤ 15 then (dgt c : Nat) else -1
theorem c51 (m : Nat) (c : UInt8) (H : Hp) : Ret prog cs0 m 51 [.v (.int .u8 c.toNat)] H (.v (.int .i64 (hexV c))) H := by
  unfold Ret
  rw [WC_drop rfl func51 rfl rfl]
  have hb := c.toNat_lt
  obtain ⟨n, hn⟩ : ∃ n, n = c.toNat := ⟨_, rfl⟩
  unfold hexV dgt
  rw [← hn] at hb ⊢
  have hcv : ∀ H, cvt prog false 5 3 (.v (.int .u8 (n : Nat))) H = some (.v (.int .i64 (n : Nat)), H) := fun H => by
    have : IntKind.i64.wrap (n : Int) = (n : Int) := wrN rfl (by omega)
    simp [cvt, dConv, underlying3, underlying5, this]
  have w1 : 48 ≤ n → IntKind.i64.wrap ((n : Int) - 48) = ((n - 48 : Nat) : Int) := fun h => wrN (by omega) (by omega)
  have w2 : 65 ≤ n → IntKind.i64.wrap ((n : Int) - 55) = ((n - 55 : Nat) : Int) := fun h => wrN (by omega) (by omega)
  have w3 : 97 ≤ n → IntKind.i64.wrap ((n : Int) - 87) = ((n - 87 : Nat) : Int) := fun h => wrN (by omega) (by omega)
  have hcases : n < 48 ∨ (48 ≤ n ∧ n ≤ 57) ∨ (58 ≤ n ∧ n ≤ 64) ∨ (65 ≤ n ∧ n ≤ 70) ∨ (71 ≤ n ∧ n ≤ 96) ∨ (97 ≤ n ∧ n ≤ 102) ∨ 103 ≤ n := by omega
  rcases hcases with hh | hh | hh | hh | hh | hh | hh <;> (
    first | have g1 : 48 ≤ n := by omega | have g1 : ¬ 48 ≤ n := by omega
    first | have g2 : n ≤ 57 := by omega | have g2 : ¬ n ≤ 57 := by omega
    first | have g3 : 65 ≤ n := by omega | have g3 : ¬ 65 ≤ n := by omega
    first | have g4 : n ≤ 70 := by omega | have g4 : ¬ n ≤ 70 := by omega
    first | have g5 : 97 ≤ n := by omega | have g5 : ¬ 97 ≤ n := by omega
    first | have g6 : n ≤ 102 := by omega | have g6 : ¬ n ≤ 102 := by omega
    first | have g7 : n - 48 ≤ 15 := by omega | have g7 : True := trivial
    first | have g8 : n - 55 ≤ 15 := by omega | have g8 : True := trivial
    first | have g9 : n - 87 ≤ 15 := by omega | have g9 : True := trivial
    simp -implicitDefEqProofs [f51, g1, g2, g3, g4, g5, g6, g7, g8, g9, w1, w2, w3, hcv])
section
omit [LayerC]
theorem pre_drop {l : Bs} {i : Nat} (hi : i < l.length) : [13, 10] <+: l.drop i ↔ l[i] = 13 ∧ l[i + 1]? = some 10 := by
  rw [List.drop_eq_getElem_cons hi]
  constructor
  · rintro ⟨t, ht⟩
    have h2 : 13 :: (10 :: t) = l[i] :: l.drop (i + 1) := ht
    injection h2 with h3 h4
    refine ⟨h3.symm, ?_⟩
    have := congrArg List.head? h4
    rw [List.head?_drop] at this
    exact this.symm
  · rintro ⟨h1, h2⟩
    rw [h1]
    obtain ⟨h3, h4⟩ := List.getElem?_eq_some_iff.1 h2
    exact ⟨l.drop (i + 1 + 1), by rw [List.drop_eq_getElem_cons h3, h4]; rfl⟩
end
theorem c50 (m : Nat) (H : Hp) (x : CV) (l : Bs) (hx : RB H x l) (i : Nat) (hi : i ≤ l.length) (hb : l.length ≤ 4294967280) : Ret prog cs0 m 50 [x, .v (.int .i64 (i : Nat))] H (.v (.bool (decide ([13, 10] <+: l.drop i)))) H := by
  by_cases hlt : i < l.length
  · have := w96 m H x l hx i hlt hb
    have e : decide ([13, 10] <+: l.drop i) = decide (l[i] = 13 ∧ l[i + 1]? = some 10) := by
      rw [decide_eq_decide]; exact pre_drop hlt
    rw [e]; exact this
  · obtain rfl : i = l.length := by omega
    unfold Ret
    rw [WC_drop rfl func50 rfl rfl]
    have ux := hx.unl
    have hlen := hx.len (P := prog) underlying23
    have hw : IntKind.i64.wrap ((l.length : Int) + 1) = ((l.length + 1 : Nat) : Int) := wrN (by omega) (by omega)
    have hn : ¬ (l.length : Int) + 1 < (l.length : Nat) := by omega
    simp -implicitDefEqProofs [f50, ux, hlen, hw, hn]
theorem c52 (m : Nat) (H : Hp) (x : CV) (l : Bs) (hx : RB H x l) (i : Nat) (hi : i ≤ l.length) (hb : l.length ≤ 4294967280) : Ret prog cs0 m 52 [x, .v (.int .i64 (i : Nat))] H (.v (.bool (decide ((l.drop i).dropWhile blankC = [] ∨ [13, 10] <+: (l.drop i).dropWhile blankC)))) H := by
  unfold Ret
  rw [WC_drop rfl func52 rfl rfl]
  have ux := hx.unl
  have hlen := hx.len (P := prog) underlying23
  simp -implicitDefEqProofs [f52]
  obtain ⟨I, hI⟩ : ∃ I : Nat → Fr → Hp → Prop, ∀ j fr H', I j fr H' ↔ ∃ k, j = l.length - k ∧ i ≤ k ∧ k ≤ l.length ∧ H' = H ∧ fr 0 = x ∧ fr 1 = .v (.int .i64 (k : Nat)) ∧ (l.drop i).dropWhile blankC = (l.drop k).dropWhile blankC := ⟨_, fun _ _ _ => Iff.rfl⟩
  refine W_rounds I ?_ (l.length - i) _ _ ((hI _ _ _).2 ⟨i, rfl, by omega, hi, rfl, by simp, by simp, rfl⟩)
  intro j fr H' h
  obtain ⟨k, rfl, hik, hk, rfl, a0, a1, hd⟩ := (hI _ _ _).1 h
  rw [hd]
  by_cases hlt : k < l.length
  · have had : dIndexAddr prog 23 x (.v (.int .i64 (k : Nat))) H' = some (adrC x k) := by rw [hx.addr underlying23 iT5 sT5]; simp [hlt]
    have hld : dLoad prog 5 (adrC x k) H' = some (.v (.int .u8 l[k].toNat)) := hx.load underlying5 rfl iT5 k hlt
    have hw := up64 (i := k) (n := l.length) hlt (by omega)
    have hdr : l.drop k = l[k] :: l.drop (k + 1) := List.drop_eq_getElem_cons hlt
    have c50' := fun m => (c50 m H' x l hx k hk hb).wc
    by_cases hbl : blankC l[k] = true
    · have hbl' : l[k].toNat = 32 ∨ l[k].toNat = 9 := by simpa [blankC] using hbl
      have hnx : (l.drop k).dropWhile blankC = (l.drop (k + 1)).dropWhile blankC := by rw [hdr, List.dropWhile_cons, if_pos hbl]
      rcases hbl' with h1 | h1
      · simp -implicitDefEqProofs [a0, a1, ux, hlen, hlt, had, hld, h1, hw]
        exact ⟨_, by omega, (hI _ _ _).2 ⟨k + 1, rfl, by omega, hlt, rfl, by simp [a0], by simp, by rw [hd, hnx]⟩⟩
      · simp -implicitDefEqProofs [a0, a1, ux, hlen, hlt, had, hld, h1, hw]
        exact ⟨_, by omega, (hI _ _ _).2 ⟨k + 1, rfl, by omega, hlt, rfl, by simp [a0], by simp, by rw [hd, hnx]⟩⟩
    · have hbl' : ¬ (l[k].toNat = 32 ∨ l[k].toNat = 9) := by simpa [blankC] using hbl
      have h1 : ¬ l[k].toNat = 32 := fun h => hbl' (.inl h)
      have h2 : ¬ l[k].toNat = 9 := fun h => hbl' (.inr h)
      have hnx : (l.drop k).dropWhile blankC = l.drop k := by rw [hdr, List.dropWhile_cons, if_neg hbl]
      have hne : ¬ (k = l.length) := by omega
      have hne2 : l.drop k ≠ [] := fun h => by have := congrArg List.length h; simp at this; omega
      rw [hnx]
      simp -implicitDefEqProofs [a0, a1, ux, hlen, hlt, had, hld, h1, h2, hne, c50']
      omega
  · obtain rfl : k = l.length := by omega
    simp -implicitDefEqProofs [a0, a1, ux, hlen]
end Go.Proofs.Tryz

/- Laws: a border that no text has is among the first ones. -/
namespace Go.Proofs.Tryz
open Go Go.SL
set_option linter.unusedVariables false
theorem dd_mem (u : Nat) : ∀ c ∈ Lib.decDigits u, 48 ≤ c.toNat ∧ c.toNat ≤ 57 := by
  induction u using Nat.strongRecOn with
  | ind u ih =>
  intro c hc
  rw [Lib.decDigits] at hc
  split at hc
  · rename_i h
    obtain rfl := List.mem_singleton.1 hc
    have : (UInt8.ofNat (48 + u)).toNat = 48 + u := by simp; omega
    omega
  · rename_i h
    rcases List.mem_append.1 hc with hc | hc
    · exact ih (u / 10) (by omega) c hc
    · obtain rfl := List.mem_singleton.1 hc
      have : (UInt8.ofNat (48 + u % 10)).toNat = 48 + u % 10 := by simp; omega
      omega
/-- A numeral's number. -/
def numV (l : Bs) : Nat := l.foldl (fun v c => v * 10 + (c.toNat - 48)) 0
theorem numV_snoc (l : Bs) (c : UInt8) : numV (l ++ [c]) = numV l * 10 + (c.toNat - 48) := by simp [numV, List.foldl_append]
theorem numV_dd (u : Nat) : numV (Lib.decDigits u) = u := by
  induction u using Nat.strongRecOn with
  | ind u ih =>
  rw [Lib.decDigits]
  split
  · rename_i h
    have : (UInt8.ofNat (48 + u)).toNat = 48 + u := by simp; omega
    simp only [numV, List.foldl_cons, List.foldl_nil, this]; omega
  · rename_i h
    have : (UInt8.ofNat (48 + u % 10)).toNat = 48 + u % 10 := by simp; omega
    rw [numV_snoc, ih (u / 10) (by omega), this]; omega
theorem dd_ne (u : Nat) : Lib.decDigits u ≠ [] := by
  rw [Lib.decDigits]; split <;> simp
theorem dd_len (u : Nat) : (Lib.decDigits u).length ≤ u + 1 := by
  induction u using Nat.strongRecOn with
  | ind u ih =>
  rw [Lib.decDigits]
  split
  · simp
  · have := ih (u / 10) (by omega)
    rw [List.length_append]; simp; omega
theorem dd_len6 (u : Nat) (h : u < 1000000) : (Lib.decDigits u).length ≤ 6 := by
  have key : ∀ k u : Nat, u < 10 ^ (k + 1) → (Lib.decDigits u).length ≤ k + 1 := by
    intro k
    induction k with
    | zero => intro u h; rw [Lib.decDigits, dif_pos (by omega)]; simp
    | succ k ih =>
      intro u h
      rw [Lib.decDigits]
      split
      · simp
      · have := ih (u / 10) (by rw [Nat.pow_succ] at h; omega)
        rw [List.length_append]; simp; omega
  exact key 5 u h
theorem itoa_nat (i : Nat) : Lib.itoa (i : Nat) = Lib.decDigits i := by unfold Lib.itoa; rw [if_neg (by omega)]; simp
/-- The border of a number; its line's front. -/
def bdr (i : Nat) : Bs := 98 :: Lib.decDigits i
def bdF (i : Nat) : Bs := 45 :: 45 :: bdr i
theorem bdF_inj {i j : Nat} (h : bdF i = bdF j) : i = j := by
  unfold bdF bdr at h
  have : Lib.decDigits i = Lib.decDigits j := by
    injection h with _ h; injection h with _ h; injection h
  rw [← numV_dd i, this, numV_dd]
theorem sub_len {α : Type} [DecidableEq α] : ∀ (l k : List α), l.Nodup → (∀ x ∈ l, x ∈ k) → l.length ≤ k.length := by
  intro l
  induction l with
  | nil => intro k _ _; simp
  | cons a l ih =>
    intro k hn hs
    obtain ⟨h1, h2⟩ := List.nodup_cons.1 hn
    have ha := hs a (by simp)
    have := ih (k.erase a) h2 (fun x hx => by
      have hxk := hs x (by simp [hx])
      exact (List.mem_erase_of_ne (fun e => h1 (by rw [← e]; exact hx))).2 hxk)
    rw [List.length_erase_of_mem ha] at this
    have := List.length_pos_of_mem ha
    simp; omega
theorem lines_len : ∀ (n : Nat) (r : Bs), r.length ≤ n → ((linesS r).map List.length).sum = r.length := by
  intro n
  induction n with
  | zero =>
    intro r h
    obtain rfl := List.eq_nil_of_length_eq_zero (by omega : r.length = 0)
    rw [linesS_nil]; rfl
  | succ n ih =>
    intro r h
    by_cases h0 : r = []
    · subst h0; rw [linesS_nil]; rfl
    · have hp := lineN_pos h0
      have := List.length_pos_iff.2 h0
      rw [linesS_cons h0]
      simp only [List.map_cons, List.sum_cons]
      rw [ih _ (by simp; omega)]
      simp
      omega
/-- The fronts of a text's lines. -/
def fronts (r : Bs) : List Bs := (linesS r).flatMap fun l => (List.range l.length).map fun k => l.take (k + 1)
theorem fronts_len (r : Bs) : (fronts r).length = r.length := by
  rw [← lines_len _ r (Nat.le_refl _)]
  unfold fronts
  rw [List.length_flatMap]
  congr 1
  simp
theorem beg_front {r t : Bs} (h : begL r t) (ht : t ≠ []) : t ∈ fronts r := by
  obtain ⟨l, hl, u, hu⟩ := h
  refine List.mem_flatMap.2 ⟨l, hl, List.mem_map.2 ⟨t.length - 1, ?_, ?_⟩⟩
  · have := List.length_pos_iff.2 ht
    rw [List.mem_range, ← hu, List.length_append]; omega
  · have := List.length_pos_iff.2 ht
    rw [show t.length - 1 + 1 = t.length by omega, ← hu, List.take_left']
    rfl
/-- A number whose border is in none of the texts. -/
def freeB (bs : List Bs) (i : Nat) : Prop := ∀ b ∈ bs, ¬ begL b (bdF i)
theorem free_ex (bs : List Bs) : ∃ i, i ≤ (bs.map List.length).sum ∧ freeB bs i := by
  refine Classical.byContradiction fun hno => ?_
  have hall : ∀ i, i ≤ (bs.map List.length).sum → ∃ b ∈ bs, begL b (bdF i) := fun i hi =>
    Classical.byContradiction fun h => hno ⟨i, hi, fun b hb hg => h ⟨b, hb, hg⟩⟩
  have h1 := sub_len ((List.range ((bs.map List.length).sum + 1)).map bdF) (bs.flatMap fronts) (by
    rw [List.nodup_iff_pairwise_ne, List.pairwise_map]
    exact List.Pairwise.imp (fun hne he => hne (bdF_inj he)) (List.nodup_iff_pairwise_ne.1 List.nodup_range)) (fun x hx => by
    obtain ⟨i, hi, rfl⟩ := List.mem_map.1 hx
    obtain ⟨b, hb, hg⟩ := hall i (by rw [List.mem_range] at hi; omega)
    exact List.mem_flatMap.2 ⟨b, hb, beg_front hg (by simp [bdF])⟩)
  rw [List.length_map, List.length_range, List.length_flatMap] at h1
  have : (bs.map (fun a => (fronts a).length)) = bs.map List.length := by
    apply List.map_congr_left; intro a _; exact fronts_len a
  rw [this] at h1
  omega
/-- The first one. -/
theorem free_first (bs : List Bs) : ∃ i, i ≤ (bs.map List.length).sum ∧ freeB bs i ∧ ∀ j, j < i → ¬ freeB bs j := by
  obtain ⟨i, hi, hf⟩ := free_ex bs
  have : ∀ n i, i ≤ n → freeB bs i → ∃ i0, i0 ≤ i ∧ freeB bs i0 ∧ ∀ j, j < i0 → ¬ freeB bs j := by
    intro n
    induction n with
    | zero => intro i h hf; exact ⟨i, Nat.le_refl _, hf, fun j hj => by omega⟩
    | succ n ih =>
      intro i h hf
      by_cases hex : ∃ j, j < i ∧ freeB bs j
      · obtain ⟨j, hj, hfj⟩ := hex
        obtain ⟨i0, h1, h2, h3⟩ := ih j (by omega) hfj
        exact ⟨i0, by omega, h2, h3⟩
      · exact ⟨i, Nat.le_refl _, hf, fun j hj hfj => hex ⟨j, hj, hfj⟩⟩
  obtain ⟨i0, h1, h2, h3⟩ := this i i (Nat.le_refl _) hf
  exact ⟨i0, by omega, h2, h3⟩
end Go.Proofs.Tryz

/- Walks: parts.Border. -/
namespace Go.Proofs.Tryz
open Go Go.SL
set_option linter.unusedVariables false
set_option linter.unusedSimpArgs false
attribute [local congr] WX_stop WC_stop W_stop
variable [LayerC]
@[simp] theorem muK5 : (cs0.of 12).mu = false := rfl
@[simp] theorem reK5 : (cs0.of 12).reuse = false := rfl
theorem k11 (m i : Nat) (H : Hp) (hi : i ≤ 9223372036854775807) : Ret prog cs0 m 34 [.v (.int .i64 (i : Nat))] H (str (Lib.decDigits i)) H := by
  unfold Ret
  rw [WC_prim (p := itoP) rfl]
  have h1 : (-9223372036854775808 : Int) ≤ (i : Nat) ∧ ((i : Nat) : Int) ≤ 9223372036854775807 := by omega
  simp only [itoP]
  rw [if_pos h1, itoa_nat]
  simp
set_option maxRecDepth 100000 in
theorem k5 (m : Nat) (x : CV) (ys : List CV) (bs : List Bs) (H : Hp) (hx : RS H x (ys.map fun y => [y]) 1) (hl : ys.length = bs.length) (hy : ∀ i (h1 : i < ys.length) (h2 : i < bs.length), RB H ys[i] bs[i]) (hbl : ∀ b ∈ bs, b.length ≤ 10000000) (hn : bs.length ≤ 100000) (hs : (bs.map List.length).sum ≤ 1000000000) :
    ∃ i, freeB bs i ∧ (∀ j, j < i → ¬ freeB bs j) ∧ i ≤ (bs.map List.length).sum ∧ Ret prog cs0 m 12 [x] H (str (bdr i)) H := by
  obtain ⟨i0, hi0, hf0, hff⟩ := free_first bs
  refine ⟨i0, hf0, hff, hi0, ?_⟩
  unfold Ret
  rw [WC_drop rfl func12 rfl rfl]
  have ux := hx.unl
  have hlen := hx.len (P := prog) underlying27
  rw [List.length_map] at hlen
  simp -implicitDefEqProofs [f12]
  obtain ⟨I, hI⟩ : ∃ I : Nat → Fr → Hp → Prop, ∀ j fr H', I j fr H' ↔ ∃ i, j = i0 - i ∧ i ≤ i0 ∧ H' = H ∧ fr 0 = x ∧ fr 3 = .v (.int .i64 (i : Nat)) := ⟨_, fun _ _ _ => Iff.rfl⟩
  refine W_rounds I ?_ (i0 - 0) _ _ ((hI _ _ _).2 ⟨0, rfl, by omega, rfl, by simp, by simp⟩)
  intro j fr H' h
  obtain ⟨i, rfl, hi, rfl, a0, a3⟩ := (hI _ _ _).1 h
  have c11 := fun m H => (k11 m i H (by omega)).wc
  have hdl := dd_len i
  have hadd1 : (1 : Nat) + (Lib.decDigits i).length ≤ 9223372036854775807 := by omega
  have hb1 : str [98] = str [98] := rfl
  simp -implicitDefEqProofs [a0, a3, ux, hlen, c11, hadd1]
  obtain ⟨J, hJ⟩ : ∃ J : Nat → Fr → Hp → Prop, ∀ k fr H2, J k fr H2 ↔ ∃ q : Bool, (q = true ↔ ∀ b ∈ bs.take k, ¬ begL b (bdF i)) ∧ H2 = H' ∧ fr 0 = x ∧ fr 3 = .v (.int .i64 (i : Nat)) ∧ fr 4 = str (bdr i) ∧ fr 5 = .v (.bool q) ∧ fr 13 = x ∧ fr 14 = .v (.int .i64 (ys.length : Nat)) ∧ fr 15 = .v (.int .i64 (k : Nat)) := ⟨_, fun _ _ _ => Iff.rfl⟩
  refine W_up ys.length J ?_ 0 _ _ (by omega) ((hJ _ _ _).2 ⟨true, by simp, rfl, by simp [a0, a3, bdr]⟩)
  intro k fr2 H2 hk hJk
  obtain ⟨q, hq, rfl, b0, b3, b4, b5, b13, b14, b15⟩ := (hJ _ _ _).1 hJk
  by_cases hlt : k < ys.length
  · have hkb : k < bs.length := by omega
    have hw := up64 (i := k) (n := ys.length) hlt (by omega)
    have hlt2 : k < (ys.map fun y => [y]).length := by simpa using hlt
    have had : dIndexAddr prog 27 x (.v (.int .i64 (k : Nat))) H2 = some (adrC x k) := by rw [hx.addr underlying27 iT23 sT23]; simp [hlt]
    have hld : dLoad prog 23 (adrC x k) H2 = some ys[k] := by rw [hx.load1 underlying23 rfl iT23 hlt2 (by omega)]; simp
    have hyk := hy k hlt hkb
    have uy := hyk.unl
    have hbk := hbl _ (List.getElem_mem hkb)
    have hbd6 : (bdF i).length ≤ 4294967280 := by simp [bdF, bdr]; omega
    have c12 := fun m => (w42 m ys[k] bs[k] (bdF i) H2 hyk (by omega) hbd6).wc
    obtain ⟨d, hd⟩ : ∃ d, d = decide (begL bs[k] (bdF i)) := ⟨_, rfl⟩
    rw [← hd] at c12
    have hdd : d = true ↔ begL bs[k] (bdF i) := by rw [hd]; simp
    have hdash : (2 : Nat) + (bdr i).length ≤ 9223372036854775807 := by simp [bdr]; omega
    have hts : bs.take (k + 1) = bs.take k ++ [bs[k]] := take_snoc hkb
    have hbF : [45, 45] ++ bdr i = bdF i := rfl
    have hbF2 : 45 :: 45 :: bdr i = bdF i := rfl
    cases q with
    | false =>
      simp -implicitDefEqProofs [b0, b3, b4, b5, b13, b14, b15, hlt, had, hld, uy, hw]
      refine (hJ _ _ _).2 ⟨false, ?_, rfl, by simp [b0, b3, b4, b13, b14]⟩
      rw [hts]
      refine ⟨fun h => (Bool.false_ne_true h).elim, fun hall => ?_⟩
      exact (Bool.false_ne_true (hq.2 fun b hb => hall b (List.mem_append_left _ hb))).elim
    | true =>
      simp -implicitDefEqProofs [b0, b3, b4, b5, b13, b14, b15, hlt, had, hld, uy, hw, hdash, hbF2, c12]
      refine (hJ _ _ _).2 ⟨!d, ?_, rfl, by simp [b0, b3, b4, b13, b14]⟩
      rw [hts]
      have hq' := hq.1 rfl
      constructor
      · intro hnd b hb
        rcases List.mem_append.1 hb with hb | hb
        · exact hq' b hb
        · obtain rfl := List.mem_singleton.1 hb
          intro hg
          rw [hdd.2 hg] at hnd
          cases hnd
      · intro hall
        have := hall bs[k] (List.mem_append_right _ (List.mem_singleton.2 rfl))
        cases d with
        | false => rfl
        | true => exact absurd (hdd.1 rfl) this
  · obtain rfl : k = ys.length := by omega
    have htk : bs.take ys.length = bs := List.take_of_length_le (by omega)
    rw [htk] at hq
    cases q with
    | true =>
      have hfi : freeB bs i := hq.1 rfl
      have : i = i0 := by
        rcases Nat.lt_or_ge i i0 with h | h
        · exact absurd hfi (hff i h)
        · omega
      subst this
      simp -implicitDefEqProofs [b0, b3, b4, b5, b13, b14, b15]
    | false =>
      have hne : i ≠ i0 := by
        rintro rfl
        have := hq.2 hf0
        cases this
      have hw2 := up64 (i := i) (n := i0) (by omega) (by omega)
      simp -implicitDefEqProofs [b0, b3, b4, b5, b13, b14, b15, hw2]
      exact ⟨_, by omega, (hI _ _ _).2 ⟨i + 1, rfl, by omega, rfl, by simp [b0], by simp⟩⟩
end Go.Proofs.Tryz

/- Walks: the reference's numerals and border. -/
namespace Go.Proofs.Tryz
open Go Go.SL
set_option linter.unusedVariables false
set_option linter.unusedSimpArgs false
attribute [local congr] WX_stop WC_stop W_stop
section
theorem quo_nat {P : Program} {t : TypeId} (a b : Nat) (H : Hp) (hb : b ≠ 0) (ha : a ≤ 9223372036854775807) : dBin P .quo t (.v (.int .i64 (a : Nat))) (.v (.int .i64 (b : Nat))) H = some (.v (.int .i64 ((a / b : Nat) : Int))) := by
  have h1 : (b : Int) ≠ 0 := by omega
  have h2 : ((a : Int).tdiv (b : Int)) = ((a / b : Nat) : Int) := by rw [Int.tdiv_eq_ediv_of_nonneg (by omega)]; rfl
  have h3 : a / b ≤ a := Nat.div_le_self _ _
  simp only [dBin_int, binA]
  rw [if_pos ⟨trivial, h1⟩, h2, wrN rfl (by omega)]
  rfl
end
section
theorem conv_v {P : Program} {cfg : Cfg} {ce : CallE} {m : Nat} {fr : Fr} {old : CV} {H H2 : Hp} {s d : TypeId} {a : Operand} {ks kd : IntKind} {y : CV} (hs : P.underlying s = some (.int ks)) (hd : P.underlying d = some (.int kd)) (h : opX P cfg ce m fr old H (.convert s d a) = some (y, H2)) : ∃ v, y = .v v := by
  simp only [opX, opE, stOK, if_true] at h
  obtain ⟨x, _, h⟩ := Option.bind_eq_some_iff.1 h
  simp only [dConv, dB2B, dS2B, hs, hd] at h
  split at h
  · rename_i y2 h2
    split at h2
    · cases h2; cases h; exact ⟨_, rfl⟩
    · cases h2
  · cases h
end
variable [LayerC]
theorem c36_no (m : Nat) (K : CV → Hp → Prop) (H : Hp) : ¬ WC prog cs0 m (.f 36) [.tup []] H K := by
  rw [WC_drop rfl func36 rfl rfl]
  simp -implicitDefEqProofs [f36, dBin, binA]
theorem c36 : ∀ (n m : Nat) (H : Hp), n ≤ 1000000000 → Ret prog cs0 m 36 [.v (.int .i64 (n : Nat))] H (str (Lib.decDigits n)) H := by
  intro n
  induction n using Nat.strongRecOn with
  | ind n ih =>
  intro m H hn
  unfold Ret
  rw [WC_drop rfl func36 rfl rfl]
  have hcv : ∀ (k : Nat) H, k < 10 → cvt prog false 3 5 (.v (.int .i64 ((48 + k : Nat) : Int))) H = some (.v (.int .u8 (UInt8.ofNat (48 + k)).toNat), H) := fun k H h => by
    have : (UInt8.ofNat (48 + k)).toNat = 48 + k := by simp; omega
    rw [this]
    simp only [cvt, dConv, underlying3, underlying5, wrapU8 (48 + k) (by omega)]
  by_cases h10 : n < 10
  · have hd : Lib.decDigits n = [UInt8.ofNat (48 + n)] := by rw [Lib.decDigits, dif_pos h10]
    rw [hd]
    obtain ⟨b, hb⟩ : ∃ b, b = UInt8.ofNat (48 + n) := ⟨_, rfl⟩
    have hc := fun H => hcv n H h10
    obtain ⟨k, hk⟩ : ∃ k, k = 48 + n := ⟨_, rfl⟩
    have hw : IntKind.i64.wrap (48 + (n : Int)) = (k : Int) := wrN (by omega) (by omega)
    rw [← hb]
    rw [← hb, ← hk] at hc
    simp -implicitDefEqProofs [f36, h10, hw, hc, mkB1, cvt_lit1 _ underlying23 underlying9 underlying5]
  · have hd : Lib.decDigits n = Lib.decDigits (n / 10) ++ [UInt8.ofNat (48 + n % 10)] := by conv => lhs; rw [Lib.decDigits, dif_neg h10]
    rw [hd]
    have c36' := fun m H => (ih (n / 10) (by omega) m H (by omega)).wc
    have hc := fun H => hcv (n % 10) H (by omega)
    have hq := fun H => quo_nat (P := prog) (t := 3) n 10 H (by omega) (by omega)
    have hr := fun H => rem_nat (P := prog) (t := 3) n 10 H (by omega)
    have h10c : ((10 : Nat) : Int) = 10 := rfl
    rw [h10c] at hq hr
    obtain ⟨q, hqq⟩ : ∃ q, q = n / 10 := ⟨_, rfl⟩
    obtain ⟨r, hrr⟩ : ∃ r, r = n % 10 := ⟨_, rfl⟩
    obtain ⟨b, hb⟩ : ∃ b, b = UInt8.ofNat (48 + n % 10) := ⟨_, rfl⟩
    rw [← hb] at hc ⊢
    rw [← hqq] at hq c36' ⊢
    rw [← hrr] at hr hc
    obtain ⟨k, hk⟩ : ∃ k, k = 48 + r := ⟨_, rfl⟩
    have hw : IntKind.i64.wrap (48 + (r : Int)) = (k : Int) := wrN (by omega) (by omega)
    rw [← hk] at hc
    have hdl := dd_len q
    have hal : (Lib.decDigits q).length + 1 ≤ 9223372036854775807 := by omega
    simp -implicitDefEqProofs [f36, h10]
    obtain ⟨V, hV⟩ : ∃ V : Fr → Prop, ∀ fr, V fr ↔ (fr 0 = .v (.int .i64 (n : Nat)) ∧ (fr 10 = .tup [] ∨ fr 10 = .v (.int .i64 (n : Nat))) ∧ (fr 11 = .tup [] ∨ fr 11 = .v (.int .i64 (q : Nat))) ∧ (fr 16 = .tup [] ∨ ∃ v, fr 16 = .v v)) := ⟨_, fun _ => Iff.rfl⟩
    rw [W_drawJ (fun fr _ => V fr) [(2, 6), (2, 7), (2, 8)] _ _ _ _ _ _ followsT ((hV _).2 (by simp)) (by rfl) (by
      intro k o ho
      refine keep_fr fun fr H0 y H2 hv hy fr2 hfr2 => ?_
      simp only [List.mem_toArray, List.mem_cons, List.not_mem_nil, or_false] at ho
      obtain ⟨v0, v1, v2, v3⟩ := (hV _).1 hv
      refine (hV _).2 ?_
      have f0 := hfr2 0
      have f10 := hfr2 10
      have f11 := hfr2 11
      have f16 := hfr2 16
      rcases ho with rfl | rfl | rfl | rfl | rfl | rfl | rfl | rfl | rfl | rfl | rfl <;> simp at f0 f10 f11 f16 <;> rw [f0, f10, f11, f16]
      · rw [actX_plain (by rfl)] at hy
        simp [opX, opE, stOK, evO, v0] at hy
        exact ⟨v0, .inr hy.1.symm, v2, v3⟩
      · refine ⟨v0, v1, .inr ?_, v3⟩
        rw [actX_plain (by rfl)] at hy
        rcases v1 with v1 | v1
        · simp [opX, opE, stOK, evO, v1, ofV, atomV, dBin, binA] at hy
        · have hq' := hq H0
          simp [opX, opE, stOK, evO, v1, ofV, atomV, hq'] at hy
          exact hy.1.symm
      · exact ⟨v0, v1, v2, v3⟩
      · exact ⟨v0, v1, v2, v3⟩
      · exact ⟨v0, v1, v2, v3⟩
      · exact ⟨v0, v1, v2, v3⟩
      · refine ⟨v0, v1, v2, .inr ?_⟩
        rw [actX_plain (by rfl)] at hy
        exact conv_v underlying3 underlying5 hy
      all_goals exact ⟨v0, v1, v2, v3⟩) (by
      intro k j i oj oi hm h1 h2
      simp at hm
      rcases hm with ⟨rfl, rfl⟩ | ⟨rfl, rfl⟩ | ⟨rfl, rfl⟩ <;> simp at h1 h2 <;> subst h1 h2
      all_goals refine cmt_rdJ (by rfl) (fun fr H0 y hv hy => ?_) (fun fr H0 y hv hy => ?_)
      all_goals obtain ⟨v0, v1, v2, v3⟩ := (hV _).1 hv
      rotate_left
      · exact rd_of (by rfl) _ _ _ hy
      rotate_left
      · exact rd_blds (ce := evCall prog cs0 k) (hy := hy) (ho := rfl) (g := rfl) (hm := muC36) (ht := underlying23) (he := zT5) (hv := v3)
      rotate_left
      · exact rd_of (by rfl) _ _ _ hy
      all_goals
        rw [actX_plain (by rfl)] at hy
        rcases v2 with v2 | v2
        · simp [opX, evO, evL, v2, unlit] at hy
          exact (call_ret_no (fun K => c36_no _ K H0) hy).elim
        · simp [opX, evO, evL, v2, unlit] at hy
          exact call_ret (ih q (by omega) _ _ (by omega)) hy)]
    simp -implicitDefEqProofs [hq, hr, c36', hw, hc, mkB1, cvt_lit1 _ underlying23 underlying9 underlying5, hal]
section
omit [LayerC]
theorem bdr_noCr (i : Nat) : noCr (bdr i) := by
  intro c hc
  rcases List.mem_cons.1 hc with rfl | hc
  · decide
  · have := dd_mem i c hc
    rintro rfl
    revert this
    decide
end
set_option maxRecDepth 100000 in
set_option maxHeartbeats 1000000 in
theorem c13 (m : Nat) (x : CV) (ys : List CV) (bs : List Bs) (H : Hp) (hx : RS H x (ys.map fun y => [y]) 1) (hl : ys.length = bs.length) (hy : ∀ i (h1 : i < ys.length) (h2 : i < bs.length), CB ys[i] bs[i]) (hbl : ∀ b ∈ bs, b.length ≤ 10000) (hn : bs.length ≤ 1000) (i0 : Nat) (hi0 : i0 ≤ (bs.map List.length).sum) (hf0 : freeB bs i0) (hff : ∀ j, j < i0 → ¬ freeB bs j) :
    Ret prog cs0 m 13 [x] H (str (bdr i0)) H := by
  unfold Ret
  rw [WC_drop rfl func13 rfl rfl]
  have ux := hx.unl
  have hlen := hx.len (P := prog) underlying27
  rw [List.length_map] at hlen
  have hsum : ∀ l : List Bs, (∀ b ∈ l, b.length ≤ 10000) → (l.map List.length).sum ≤ 10000 * l.length := by
    intro l
    induction l with
    | nil => intro _; simp
    | cons b l ih =>
      intro h
      have h1 := h b (by simp)
      have h2 := ih fun c hc => h c (by simp [hc])
      simp [Nat.mul_add]; omega
  have hsb := hsum bs hbl
  have had : ∀ k, k < ys.length → dIndexAddr prog 27 x (.v (.int .i64 (k : Nat))) H = some (adrC x k) := fun k hk => by rw [hx.addr underlying27 iT23 sT23]; simp [hk]
  have hld : ∀ k (hk : k < ys.length), dLoad prog 23 (adrC x k) H = some ys[k] := fun k hk => by rw [hx.load1 underlying23 rfl iT23 (by simpa using hk) (by omega)]; simp
  simp -implicitDefEqProofs [f13]
  -- the sum
  refine W_up ys.length (fun k fr H' => H' = H ∧ fr 0 = x ∧ fr 3 = .v (.int .i64 (((bs.take k).map List.length).sum : Nat)) ∧ fr 4 = .v (.int .i64 (k : Nat))) ?_ 0 _ _ (by omega) (by simp)
  rintro k fr H' hk ⟨rfl, a0, a3, a4⟩
  by_cases hlt : k < ys.length
  · have hkb : k < bs.length := by omega
    have hw := up64 (i := k) (n := ys.length) hlt (by omega)
    have hyk := hy k hlt hkb
    have uy := hyk.unl
    have hly := fun H => (hyk.rb H).len (P := prog) underlying23
    have hts : bs.take (k + 1) = bs.take k ++ [bs[k]] := take_snoc hkb
    have hle := hsum (bs.take k) fun b hb => hbl b (List.mem_of_mem_take hb)
    have hbk := hbl _ (List.getElem_mem hkb)
    obtain ⟨sm, hsm⟩ : ∃ sm, sm = ((bs.take k).map List.length).sum := ⟨_, rfl⟩
    have hsm2 : ((bs.take (k + 1)).map List.length).sum = sm + bs[k].length := by rw [hts, hsm, List.map_append, List.sum_append]; simp
    have hlk : (bs.take k).length ≤ 1000 := by rw [List.length_take]; omega
    have hlk2 : sm ≤ 10000 * 1000 := by rw [hsm]; exact Nat.le_trans hle (Nat.mul_le_mul_left _ hlk)
    have hws : IntKind.i64.wrap ((sm : Int) + (bs[k].length : Nat)) = ((sm + bs[k].length : Nat) : Int) := wrN (by omega) (by omega)
    rw [← hsm] at a3
    rw [hsm2]
    simp -implicitDefEqProofs [a0, a3, a4, ux, hlen, hlt, had, hld, uy, hly, hw, hws]
  obtain rfl : k = ys.length := by omega
  have htk : bs.take ys.length = bs := List.take_of_length_le (by omega)
  rw [htk] at a3
  obtain ⟨sz, hsz⟩ : ∃ sz, sz = (bs.map List.length).sum := ⟨_, rfl⟩
  rw [← hsz] at a3 hi0 hsb
  simp -implicitDefEqProofs [a0, a3, a4, ux, hlen]
  obtain ⟨I, hI⟩ : ∃ I : Nat → Fr → Hp → Prop, ∀ j fr H2, I j fr H2 ↔ ∃ i, j = i0 - i ∧ i ≤ i0 ∧ H2 = H' ∧ fr 0 = x ∧ fr 3 = .v (.int .i64 (sz : Nat)) ∧ fr 5 = .v (.int .i64 (i : Nat)) := ⟨_, fun _ _ _ => Iff.rfl⟩
  refine W_rounds I ?_ (i0 - 0) _ _ ((hI _ _ _).2 ⟨0, rfl, by omega, rfl, by simp [a0], by simp [a3], by simp⟩)
  intro j fr2 H2 h
  obtain ⟨i, rfl, hi, rfl, b0, b3, b5⟩ := (hI _ _ _).1 h
  have c36' := fun m H => (c36 i m H (by omega)).wc
  have hdl := dd_len i
  have hadd1 : (1 : Nat) + (Lib.decDigits i).length ≤ 9223372036854775807 := by omega
  have hile : i ≤ sz := by omega
  simp -implicitDefEqProofs [b0, b3, b5, c36', hadd1, hile]
  obtain ⟨J, hJ⟩ : ∃ J : Nat → Fr → Hp → Prop, ∀ k fr H3, J k fr H3 ↔ ∃ q : Bool, (q = true ↔ ∀ b ∈ bs.take k, ¬ begL b (bdF i)) ∧ H3 = H2 ∧ fr 0 = x ∧ fr 3 = .v (.int .i64 (sz : Nat)) ∧ fr 5 = .v (.int .i64 (i : Nat)) ∧ fr 6 = str (bdr i) ∧ fr 7 = .v (.bool q) ∧ fr 8 = .v (.int .i64 (k : Nat)) := ⟨_, fun _ _ _ => Iff.rfl⟩
  refine W_up ys.length J ?_ 0 _ _ (by omega) ((hJ _ _ _).2 ⟨true, by simp, rfl, by simp [b0, b3, b5, bdr]⟩)
  intro k fr3 H3 hk2 hJk
  obtain ⟨q, hq, rfl, d0, d3, d5, d6, d7, d8⟩ := (hJ _ _ _).1 hJk
  by_cases hlt2 : k < ys.length
  · have hkb : k < bs.length := by omega
    have hw := up64 (i := k) (n := ys.length) hlt2 (by omega)
    have hyk := hy k hlt2 hkb
    have uy := hyk.unl
    have hbk := hbl _ (List.getElem_mem hkb)
    have c37 := fun m H => (w44 m ys[k] bs[k] (bdF i) H hyk (by omega)).wc
    have hbeq : begR bs[k] (bdF i) ↔ begL bs[k] (bdF i) := (beg_law (bdr_noCr i)).symm
    obtain ⟨d, hd⟩ : ∃ d, d = decide (begR bs[k] (bdF i)) := ⟨_, rfl⟩
    rw [← hd] at c37
    have hdd : d = true ↔ begL bs[k] (bdF i) := by rw [hd, decide_eq_true_iff]; exact hbeq
    have hdash : (2 : Nat) + (bdr i).length ≤ 9223372036854775807 := by simp [bdr]; omega
    have hts : bs.take (k + 1) = bs.take k ++ [bs[k]] := take_snoc hkb
    have hbF2 : 45 :: 45 :: bdr i = bdF i := rfl
    cases q with
    | false =>
      simp -implicitDefEqProofs [d0, d3, d5, d6, d7, d8, ux, hlen, hlt2, had, hld, uy, hw]
      refine (hJ _ _ _).2 ⟨false, ?_, rfl, by simp [d0, d3, d5, d6]⟩
      rw [hts]
      refine ⟨fun h => (Bool.false_ne_true h).elim, fun hall => ?_⟩
      exact (Bool.false_ne_true (hq.2 fun b hb => hall b (List.mem_append_left _ hb))).elim
    | true =>
      simp -implicitDefEqProofs [d0, d3, d5, d6, d7, d8, ux, hlen, hlt2, had, hld, uy, hw, hdash, hbF2, c37]
      refine (hJ _ _ _).2 ⟨!d, ?_, rfl, by simp [d0, d3, d5, d6]⟩
      rw [hts]
      have hq' := hq.1 rfl
      constructor
      · intro hnd b hb
        rcases List.mem_append.1 hb with hb | hb
        · exact hq' b hb
        · obtain rfl := List.mem_singleton.1 hb
          intro hg
          rw [hdd.2 hg] at hnd
          cases hnd
      · intro hall
        have := hall bs[k] (List.mem_append_right _ (List.mem_singleton.2 rfl))
        cases d with
        | false => rfl
        | true => exact absurd (hdd.1 rfl) this
  · obtain rfl : k = ys.length := by omega
    rw [htk] at hq
    cases q with
    | true =>
      have hfi : freeB bs i := hq.1 rfl
      have : i = i0 := by
        rcases Nat.lt_or_ge i i0 with h | h
        · exact absurd hfi (hff i h)
        · omega
      subst this
      simp -implicitDefEqProofs [d0, d3, d5, d6, d7, d8, ux, hlen]
    | false =>
      have hne : i ≠ i0 := by
        rintro rfl
        have := hq.2 hf0
        cases this
      have hw2 := up64 (i := i) (n := i0) (by omega) (by omega)
      simp -implicitDefEqProofs [d0, d3, d5, d6, d7, d8, ux, hlen, hw2]
      exact ⟨_, by omega, (hI _ _ _).2 ⟨i + 1, rfl, by omega, rfl, by simp [d0], by simp [d3], by simp⟩⟩
end Go.Proofs.Tryz

/- Walks: the closure of quoted.Encode, and a byte's sign. -/
namespace Go.Proofs.Tryz
open Go Go.SL
set_option linter.unusedVariables false
set_option linter.unusedSimpArgs false
attribute [local congr] WX_stop WC_stop W_stop
variable [LayerC]
/-- Does a line end at a place? -/
def endsB (s : Bs) (i : Nat) : Bool := decide (i = s.length) || decide ([13, 10] <+: s.drop i)
/-- The sign of the byte at a place. -/
def sigQ (s : Bs) (i : Nat) (c : UInt8) : Bs := if 32 < c.toNat ∧ c.toNat < 127 ∧ c.toNat ≠ 61 then [c] else if (c.toNat = 32 ∨ c.toNat = 9) ∧ endsB s (i + 1) = false then [c] else 61 :: hex2 c
end Go.Proofs.Tryz

/- Walks: bits.Encode. -/
namespace Go.Proofs.Tryz
open Go Go.SL
set_option linter.unusedVariables false
set_option linter.unusedSimpArgs false
attribute [local congr] WX_stop WC_stop W_stop
/-- Four signs of three bytes, or fewer. -/
def valB (l : Bs) : Nat := (l.getD 0 0).toNat * 65536 + (l.getD 1 0).toNat * 256 + (l.getD 2 0).toNat
def sigB (l : Bs) (i : Nat) : UInt8 := if i ≤ l.length then sgn.getD (valB l / 2 ^ (18 - 6 * i) % 64) 0 else 61
def quad (l : Bs) : Bs := (List.range 4).map (sigB l)
def preL (line : Nat) : Bs := if line = 76 then [13, 10] else []
def nxtL (line : Nat) : Nat := (if line = 76 then 0 else line) + 4
def encF : Nat → Bs → Bs
  | _, [] => []
  | line, [a] => preL line ++ quad [a]
  | line, [a, b] => preL line ++ quad [a, b]
  | line, a :: b :: c :: r => preL line ++ quad [a, b, c] ++ encF (nxtL line) r
theorem encF_step (line : Nat) (b : Bs) (h : b ≠ []) : encF line b = preL line ++ (quad (b.take 3) ++ encF (nxtL line) (b.drop 3)) := by
  match b, h with
  | [a], _ => simp [encF]
  | [a, b], _ => simp [encF]
  | a :: b :: c :: r, _ => simp [encF]
theorem valB_take : ∀ (l : Bs), l ≠ [] → valB (l.take 3) = (l.getD 0 0).toNat * 2 ^ 16 + (l.getD 1 0).toNat * 2 ^ 8 + (l.getD 2 0).toNat := by
  intro l h
  match l, h with
  | [a], _ => rfl
  | [a, b], _ => rfl
  | a :: b :: c :: d, _ => rfl
theorem sgn_at (w : Nat) : sgn[w % 64]? = some (sgn.getD (w % 64) 0) := by
  have h : w % 64 < sgn.length := Nat.mod_lt _ (by decide)
  simp [List.getD, h]
theorem sgnE : str [65, 66, 67, 68, 69, 70, 71, 72, 73, 74, 75, 76, 77, 78, 79, 80, 81, 82, 83, 84, 85, 86, 87, 88, 89, 90, 97, 98, 99, 100, 101, 102, 103, 104, 105, 106, 107, 108, 109, 110, 111, 112, 113, 114, 115, 116, 117, 118, 119, 120, 121, 122, 48, 49, 50, 51, 52, 53, 54, 55, 56, 57, 43, 47] = str sgn := rfl
def three (l : Bs) : List CV := [u8 (l.getD 0 0), u8 (l.getD 1 0), u8 (l.getD 2 0)]
abbrev z3 : List CV := [.v (.int .u8 0), .v (.int .u8 0), .v (.int .u8 0)]
variable [LayerC]
end Go.Proofs.Tryz

/- Walks: quoted.Encode. -/
namespace Go.Proofs.Tryz
open Go Go.SL
set_option linter.unusedVariables false
set_option linter.unusedSimpArgs false
attribute [local congr] WX_stop WC_stop W_stop
def endS (r : Bs) : Bool := decide (r = []) || decide ([13, 10] <+: r)
/-- A byte's sign. -/
def sigS (c : UInt8) (r : Bs) : Bs := if 32 < c.toNat ∧ c.toNat < 127 ∧ c.toNat ≠ 61 then [c] else if (c.toNat = 32 ∨ c.toNat = 9) ∧ endS r = false then [c] else 61 :: hex2 c
theorem sigS_len (c : UInt8) (r : Bs) : (sigS c r).length ≤ 3 := by unfold sigS hex2; split <;> (try split) <;> simp
/-- Bytes as lines. -/
def qE (text : Bool) : Nat → Nat → Bs → Bs
  | 0, _, _ => []
  | _ + 1, _, [] => []
  | k + 1, line, c :: r => if text = true ∧ [13, 10] <+: c :: r then [13, 10] ++ qE text k 0 (r.drop 1) else
      (if 75 < line + (sigS c r).length then [61, 13, 10] else []) ++ sigS c r ++ qE text k ((if 75 < line + (sigS c r).length then 0 else line) + (sigS c r).length) r
theorem sigQ_eq (s : Bs) (i : Nat) (hi : i < s.length) : sigQ s i s[i] = sigS s[i] (s.drop (i + 1)) := by
  have : endsB s (i + 1) = endS (s.drop (i + 1)) := by
    unfold endsB endS
    congr 2
    simp
    omega
  unfold sigQ sigS; rw [this]
variable [LayerC]
end Go.Proofs.Tryz

/- Walks: bits.Decode. -/
namespace Go.Proofs.Tryz
open Go Go.SL
set_option linter.unusedVariables false
set_option linter.unusedSimpArgs false
attribute [local congr] WX_stop WC_stop W_stop
/-- A sign's number. -/
def sv (c : UInt8) : Option Nat := if 0 ≤ Lib.indexByte sgn c then some (Lib.indexByte sgn c).toNat else none
def tri (v : Nat) : Bs := [(v / 65536).toUInt8, (v / 256).toUInt8, v.toUInt8]
structure DS where
  v : Nat
  n : Nat
  pads : Nat
  last : Nat
  out : Bs
/-- One digit more. -/
def dPut (d pads last : Nat) (s : DS) : (Nat × Nat) ⊕ DS :=
  if (s.n + 1) % 4 = 0 then
    if 0 < pads ∧ (s.out ++ tri (s.v * 64 + d)).getD (s.out.length + 3 - pads) 0 ≠ 0 then .inl (last, 12)
    else .inr ⟨0, s.n + 1, pads, last, (s.out ++ tri (s.v * 64 + d)).take (s.out.length + 3 - pads)⟩
  else .inr ⟨s.v * 64 + d, s.n + 1, pads, last, s.out⟩
def dStep (i : Nat) (c : UInt8) (s : DS) : (Nat × Nat) ⊕ DS :=
  match sv c with
  | none => if c ≠ 61 then .inl (i, 10) else if s.n % 4 < 2 then .inl (i, 11) else dPut 0 (s.pads + 1) s.last s
  | some d => if 0 < s.pads then .inl (i, 11) else dPut d s.pads i s
def dB (L : Nat) : Nat → Bs → Nat → DS → (Nat × Nat) ⊕ Bs
  | 0, _, _, s => .inr s.out
  | _ + 1, [], _, s => if s.n % 4 = 0 then .inr s.out else .inl (L, 11)
  | k + 1, c :: r, i, s => if c = 13 ∧ r.head? = some 10 then dB L k (r.drop 1) (i + 2) s else
    match dStep i c s with
    | .inl e => .inl e
    | .inr s' => dB L k r (i + 1) s'
def decB (s : Bs) : (Nat × Nat) ⊕ Bs := if 2097152 < s.length then .inl (0, 2) else dB s.length (s.length + 1) s 0 ⟨0, 0, 0, 0, []⟩
/-- What reading answers. -/
def decV (r : (Nat × Nat) ⊕ Bs) (y : CV) : Prop :=
  match r with
  | .inl (a, c) => y = .tup [nilC, .agg [.v (.int .i64 (a : Nat)), .v (.int .i64 (c : Nat))]]
  | .inr out => ∃ z, CB z out ∧ y = .tup [z, .agg [.v (.int .i64 0), .v (.int .i64 0)]]
/-- What holds in between. -/
structure DSok (i : Nat) (s : DS) : Prop where
  n : s.n ≤ i
  v : s.v < 64 ^ (s.n % 4)
  p : s.pads ≤ 2
  pn : 0 < s.pads → s.n % 4 = 3 ∨ s.n % 4 = 0
  p3 : s.n % 4 = 3 → s.pads ≤ 1
  out : s.out.length ≤ 3 * i
  last : s.last ≤ i
theorem sv_lt {c : UInt8} {d : Nat} (h : sv c = some d) : d < 64 ∧ Lib.indexByte sgn c = (d : Int) := by
  unfold sv at h
  split at h
  · rename_i h0
    cases h
    have h1 : Lib.indexByte sgn c = (((Lib.indexByte sgn c).toNat : Nat) : Int) := by omega
    refine ⟨?_, h1⟩
    have := (Lib.indexByte_some (l := sgn) (c := c) h1).1
    have h2 := (List.getElem?_eq_some_iff.1 this).1
    exact h2
  · cases h
theorem sv_none {c : UInt8} (h : sv c = none) : ¬ 0 ≤ Lib.indexByte sgn c := by
  unfold sv at h
  split at h
  · cases h
  · assumption
theorem sv61 : sv 61 = none := by decide +kernel
theorem GB.cut_all {m : Nat} {H : Hp} {x : CV} {l : Bs} (h : GB m H x l) : cutC x 0 l.length = x := by
  rcases h with ⟨_, _, rfl⟩ | ⟨_, id, ver, _, rfl, _⟩
  · rfl
  · simp [cutC]
/-- New bytes are closed. -/
theorem frz_new {H : Hp} {m : Nat} {x : CV} {l : Bs} (h : RB H x l) (hn : ∀ id ver off len s, x = .sl id ver off len s → m ≤ id) : ∃ y, frz2 H m x = some y ∧ CB y l := by
  rcases h with rfl | ⟨rfl, rfl⟩ | ⟨id, ver, off, cs, rfl, hc, ht, ho⟩
  · exact ⟨_, rfl, .inl rfl⟩
  · exact ⟨_, rfl, .inr ⟨rfl, rfl, rfl⟩⟩
  · have hm := hn _ _ _ _ _ rfl
    have hat : atS H (.sl id ver off l.length 1) = some (u8s l, l.length) := RB.atS (.inr (.inr ⟨id, ver, off, cs, rfl, hc, ht, ho⟩))
    refine ⟨.im (u8s l) l.length 1, ?_, .inl rfl⟩
    rw [frz2_sl, frz1_sl, if_neg (by omega), hat]
    have := u8s_clB l
    simp only [this, u8s_length, Nat.mul_one, decide_true, Bool.and_self, if_true, Option.bind_some]
theorem b48_1 (b : Int) : dBuild prog 48 [(1, .v (.int .i64 b))] = some (.agg [.v (.int .i64 0), .v (.int .i64 b)]) := by
  simp [dBuild, underlying48, places, fillC]
abbrev zFc : CO := CO.cells 0 [.v (.int .i64 0), .v (.int .i64 0)] 48
theorem take_pre {A H : Hp} {o : CO} {L : Hp} (h : H.take (A.length + 1) = (A ++ o :: L).take (A.length + 1)) : ∃ L2, H = A ++ o :: L2 := by
  refine ⟨H.drop (A.length + 1), ?_⟩
  have h6 : (A ++ o :: L).take (A.length + 1) = A ++ [o] := by rw [List.take_append, List.take_of_length_le (by omega)]; simp
  rw [h6] at h
  conv => lhs; rw [← List.take_append_drop (A.length + 1) H, h]
  simp
theorem cv_u32_u8 (w : Nat) (H : Hp) : cvt prog false 73 5 (.v (.int .u32 (w : Nat))) H = some (.v (.int .u8 (w.toUInt8.toNat : Nat)), H) := by
  have : IntKind.u8.wrap (w : Int) = ((w % 256 : Nat) : Int) := by simp [IntKind.wrap, IntKind.bits, IntKind.signed]
  simp [cvt, dConv, underlying5, underlying73, this]
theorem GB.ids {m : Nat} {H : Hp} {x : CV} {l : Bs} (h : GB m H x l) {id ver off len sz : Nat} (hx : x = .sl id ver off len sz) : m ≤ id := by
  rcases h with ⟨_, _, rfl⟩ | ⟨_, id, ver, hm, rfl, _⟩
  · cases hx
  · cases hx; exact hm
theorem cut_ids {x : CV} {o h : Nat} {id ver off len sz : Nat} (hx : cutC x o h = .sl id ver off len sz) : ∃ off2, True ∧ ∃ len2, x = .sl id ver off2 len2 sz := by
  unfold cutC at hx
  split at hx
  · cases hx; exact ⟨_, trivial, _, rfl⟩
  · cases hx
  · subst hx; exact ⟨_, trivial, _, rfl⟩
variable [LayerC]
set_option maxRecDepth 100000 in
set_option maxHeartbeats 2000000 in
theorem e33 (m : Nat) (s : Bs) (H : Hp) : WC prog cs0 m (.f 23) [str s] H fun y H' => H' = H ∧ decV (decB s) y := by
  rw [WC_drop rfl func23 rfl rfl]
  obtain ⟨R, hR⟩ : ∃ R, R = decB s := ⟨_, rfl⟩
  rw [← hR]
  unfold decB at hR
  by_cases hbig : 2097152 < s.length
  · rw [if_pos hbig] at hR
    simp -implicitDefEqProofs [f23, len_str underlying9, hbig, dAlloc, aQ, b48_1, store_at iT48, cells_agg, stQ, load_aggp underlying48 rfl iT48, hR, decV]
  rw [if_neg hbig] at hR
  have hst : ∀ x, stQ H.length (.ptr H.length 0 0) x = true := fun x => by simp [stQ]
  simp -implicitDefEqProofs [f23, len_str underlying9, hbig, dAlloc, aQ]
  obtain ⟨I, hI⟩ : ∃ I : Nat → Fr → Hp → Prop, ∀ j fr H', I j fr H' ↔ ∃ i k z x L, j = s.length - i ∧ i ≤ s.length ∧ s.length - i + 1 ≤ k ∧ dB s.length k (s.drop i) i z = R ∧ DSok i z ∧ H' = H ++ zFc :: L ∧ RB H' x z.out ∧ (∀ id ver off len sz, x = .sl id ver off len sz → H.length ≤ id) ∧ (z.pads = 0 ∨ z.n % 4 ≠ 0 → GB (H.length + 1) H' x z.out) ∧ fr 0 = str s ∧ fr 3 = .ptr H.length 0 0 ∧ fr 4 = x ∧ fr 5 = .v (.int .u32 (z.v : Nat)) ∧ fr 6 = .v (.int .i64 (z.n : Nat)) ∧ fr 7 = .v (.int .i64 (z.pads : Nat)) ∧ fr 8 = .v (.int .i64 (z.last : Nat)) ∧ fr 9 = .v (.int .i64 (i : Nat)) := ⟨_, fun _ _ _ => Iff.rfl⟩
  refine W_rounds I ?_ (s.length - 0) _ _ ((hI _ _ _).2 ⟨0, s.length + 1, ⟨0, 0, 0, 0, []⟩, nilC, [], rfl, by omega, by omega, hR.symm, ⟨by simp, by simp, by simp, by simp, by simp, by simp, by simp⟩, rfl, RB.nil _, by simp, fun _ => GB.nil _ _, by simp⟩)
  intro j fr H' h
  obtain ⟨i, k, z, x, L, rfl, hi, hk, hdB, hz, rfl, hrb, hnew, hgb, a0, a3, a4, a5, a6, a7, a8, a9⟩ := (hI _ _ _).1 h
  obtain ⟨zn, zv, zp, zpn, zp3, zo, zl⟩ := hz
  have ux := hrb.unl
  obtain ⟨k, rfl⟩ : ∃ k', k = k' + 1 := ⟨k - 1, by omega⟩
  have hrem := fun H => rem_nat (P := prog) (t := 3) z.n 4 H (by omega)
  have h4 : ((4 : Nat) : Int) = 4 := rfl
  rw [h4] at hrem
  by_cases hlt : i < s.length
  case neg =>
    obtain rfl : i = s.length := by omega
    rw [List.drop_length, dB] at hdB
    by_cases hn4 : z.n % 4 = 0
    · rw [if_pos hn4] at hdB
      have hn4' : ((z.n % 4 : Nat) : Int) = 0 := by omega
      rw [hn4'] at hrem
      obtain ⟨y, hy1, hy2⟩ := frz_new (m := H.length) hrb hnew
      simp -implicitDefEqProofs [a0, a3, a4, a5, a6, a7, a8, a9, len_str underlying9, hrem, b48_0, store_at iT48, cells_agg, hst, load_aggp underlying48 rfl iT48, ux, hy1]
      rw [← hdB]
      exact ⟨y, hy2, rfl⟩
    · rw [if_neg hn4] at hdB
      obtain ⟨q, hq⟩ : ∃ q, q = z.n % 4 := ⟨_, rfl⟩
      rw [← hq] at hrem hn4
      simp -implicitDefEqProofs [a0, a3, a4, a5, a6, a7, a8, a9, len_str underlying9, hrem, hn4, b48_2, store_at iT48, cells_agg, hst, load_aggp underlying48 rfl iT48]
      rw [← hdB]
      rfl
  have hdr : s.drop i = s[i] :: s.drop (i + 1) := List.drop_eq_getElem_cons hlt
  rw [hdr, dB] at hdB
  have hw := up64 (i := i) (n := s.length) hlt (by omega)
  have hhd : (s.drop (i + 1)).head? = s[i + 1]? := by rw [List.head?_drop]
  rw [hhd] at hdB
  by_cases hpair : s[i] = 13 ∧ s[i + 1]? = some 10
  · rw [if_pos hpair] at hdB
    obtain ⟨h13, hix1⟩ := hpair
    have hlt1 : i + 1 < s.length := (List.getElem?_eq_some_iff.1 hix1).1
    have h10 : s[i + 1].toNat = 10 := by rw [List.getElem?_eq_getElem hlt1] at hix1; rw [Option.some.inj hix1]; rfl
    have h13' : s[i].toNat = 13 := by rw [h13]; rfl
    have hlt1' : (i : Int) + 1 < (s.length : Nat) := by omega
    have hw2 : IntKind.i64.wrap ((i : Int) + 1 + 1) = ((i + 2 : Nat) : Int) := wrN (by omega) (by omega)
    have ht1 : ((i : Int) + 1).toNat = i + 1 := by omega
    have hge : (0 : Int) ≤ (i : Int) + 1 := by omega
    simp -implicitDefEqProofs [a0, a3, a4, a5, a6, a7, a8, a9, len_str underlying9, hlt, index_str underlying9, h13', h10, hlt1, hlt1', hw, hw2, u8, ht1, hge]
    refine ⟨_, by omega, (hI _ _ _).2 ⟨i + 2, k, z, x, L, rfl, by omega, by omega, ?_, ⟨by omega, zv, zp, zpn, zp3, by omega, by omega⟩, rfl, hrb, hnew, hgb, by simp [a0, a3, a4, a5, a6, a7, a8]⟩⟩
    rw [List.drop_drop] at hdB
    exact hdB
  rw [if_neg hpair] at hdB
  have hB : ¬ (s[i].toNat = 13) ∨ (s[i].toNat = 13 ∧ ¬ ((i : Int) + 1 < (s.length : Nat))) ∨ (s[i].toNat = 13 ∧ ((i : Int) + 1 < (s.length : Nat)) ∧ ∃ h : i + 1 < s.length, ¬ s[i + 1].toNat = 10) := by
    by_cases h1 : s[i].toNat = 13
    · by_cases h2 : (i : Int) + 1 < (s.length : Nat)
      · have h3 : i + 1 < s.length := by omega
        refine .inr (.inr ⟨h1, h2, h3, fun h4 => hpair ⟨?_, ?_⟩⟩)
        · exact UInt8.toNat_inj.1 h1
        · rw [List.getElem?_eq_getElem h3]; exact congrArg some (UInt8.toNat_inj.1 h4)
      · exact .inr (.inl ⟨h1, h2⟩)
    · exact .inl h1
  have ht1 : ((i : Int) + 1).toNat = i + 1 := by omega
  have hge : (0 : Int) ≤ (i : Int) + 1 := by omega
  have c47 := fun m H => (e47 m s[i] H).wc
  have zv18 : z.v < 64 ^ 3 := Nat.lt_of_lt_of_le zv (Nat.pow_le_pow_right (by omega) (by omega))
  obtain ⟨va, hva⟩ : ∃ va, va = z.v * 2 ^ 6 := ⟨_, rfl⟩
  have hshl : ∀ H, dBin prog .shl 73 (.v (.int .u32 (z.v : Nat))) (.v (.int .u64 6)) H = some (.v (.int .u32 (va : Nat))) := fun H => by
    rw [hva]; exact shl_u32 z.v 6 .u64 H (by omega) (by omega)
  have hor : ∀ (d : Nat) H, d < 64 → dBin prog .or 73 (.v (.int .u32 (va : Nat))) (.v (.int .u32 (d : Nat))) H = some (.v (.int .u32 ((va + d : Nat) : Int))) := fun d H hd => by
    rw [hva]; exact or_u32 z.v d 6 H (by omega) (by omega)
  have hwn : IntKind.i64.wrap ((z.n : Int) + 1) = ((z.n + 1 : Nat) : Int) := wrN (by omega) (by omega)
  have hwp : IntKind.i64.wrap ((z.pads : Int) + 1) = ((z.pads + 1 : Nat) : Int) := wrN (by omega) (by omega)
  obtain ⟨q, hq⟩ : ∃ q, q = z.n % 4 := ⟨_, rfl⟩
  rw [← hq] at hrem
  unfold dStep at hdB
  cases hsv : sv s[i] with
  | none =>
    rw [hsv] at hdB
    have hx0 := sv_none hsv
    by_cases h61 : s[i] = 61
    case neg =>
      have h61' : ¬ s[i].toNat = 61 := fun h => h61 (UInt8.toNat_inj.1 h)
      simp only [] at hdB
      rw [if_pos h61] at hdB
      rcases hB with h1 | ⟨h1, h2⟩ | ⟨h1, h2, h3, h4⟩
      · simp -implicitDefEqProofs [a0, a3, a4, a5, a6, a7, a8, a9, len_str underlying9, hlt, index_str underlying9, u8, h1, ht1, hge, hw, c47, hx0, h61', b48_2, store_at iT48, cells_agg, hst, load_aggp underlying48 rfl iT48, dExtract]
        rw [← hdB]; rfl
      · have h1' := eq_true h1
        simp -implicitDefEqProofs [a0, a3, a4, a5, a6, a7, a8, a9, len_str underlying9, hlt, index_str underlying9, u8, h1', h2, ht1, hge, hw, c47, hx0, h61', b48_2, store_at iT48, cells_agg, hst, load_aggp underlying48 rfl iT48, dExtract]
        rw [← hdB]; rfl
      · have h1' := eq_true h1
        simp -implicitDefEqProofs [a0, a3, a4, a5, a6, a7, a8, a9, len_str underlying9, hlt, index_str underlying9, u8, h1', h2, h3, h4, ht1, hge, hw, c47, hx0, h61', b48_2, store_at iT48, cells_agg, hst, load_aggp underlying48 rfl iT48, dExtract]
        rw [← hdB]; rfl
    have h61' : s[i].toNat = 61 := by rw [h61]; rfl
    have h1 : ¬ s[i].toNat = 13 := by omega
    have h61e := eq_true h61'
    simp only [h61, ne_eq, not_true_eq_false, if_false] at hdB
    by_cases hq2 : q < 2
    · rw [if_pos (by omega)] at hdB
      simp -implicitDefEqProofs [a0, a3, a4, a5, a6, a7, a8, a9, len_str underlying9, hlt, index_str underlying9, u8, ht1, hge, hw, ux, c47, b48_2, store_at iT48, cells_agg, hst, load_aggp underlying48 rfl iT48, dExtract, h1, h61e, hx0, hrem, hq2]
      rw [← hdB]; rfl
    rw [if_neg (by omega)] at hdB
    have hwr : True := trivial
    have hpad2 : z.pads + 1 ≤ 2 := by omega
    obtain ⟨q2, hq2e⟩ : ∃ q2, q2 = (z.n + 1) % 4 := ⟨_, rfl⟩
    have hrem2 : ∀ H, dBin prog .rem 3 (.v (.int .i64 ((z.n : Int) + 1))) (.v (.int .i64 4)) H = some (.v (.int .i64 (q2 : Nat))) := fun H => by
      rw [hq2e]; exact rem_nat (z.n + 1) 4 H (by omega)
    obtain ⟨vn, hvn⟩ : ∃ vn, vn = z.v * 64 + 0 := ⟨_, rfl⟩
    have hvn24 : vn < 16777216 := by omega
    have hv2 : q2 ≠ 0 → vn < 64 ^ ((z.n + 1) % 4) := fun h0 => by
      have h5 : (z.n + 1) % 4 = z.n % 4 + 1 := by omega
      rw [h5, Nat.pow_succ]; omega
    have horD : ∀ H, dBin prog .or 73 (.v (.int .u32 (va : Nat))) (.v (.int .u32 0)) H = some (.v (.int .u32 (vn : Nat))) := fun H => by
      have := hor 0 H (by omega)
      have h6 : va + 0 = vn := by omega
      rw [h6] at this; exact this
    obtain ⟨w1, hw1⟩ : ∃ w1, w1 = vn / 2 ^ 16 := ⟨_, rfl⟩
    obtain ⟨w2, hw2⟩ : ∃ w2, w2 = vn / 2 ^ 8 := ⟨_, rfl⟩
    have h16 : ∀ H, dBin prog .shr 73 (.v (.int .u32 (vn : Nat))) (.v (.int .u64 16)) H = some (.v (.int .u32 (w1 : Nat))) := fun H => by rw [hw1]; exact shr_u32 vn 16 .u64 H (by omega)
    have h8 : ∀ H, dBin prog .shr 73 (.v (.int .u32 (vn : Nat))) (.v (.int .u64 8)) H = some (.v (.int .u32 (w2 : Nat))) := fun H => by rw [hw2]; exact shr_u32 vn 8 .u64 H (by omega)
    obtain ⟨p1, hp1⟩ : ∃ p1, p1 = (vn / 65536).toUInt8 := ⟨_, rfl⟩
    obtain ⟨p2, hp2⟩ : ∃ p2, p2 = (vn / 256).toUInt8 := ⟨_, rfl⟩
    obtain ⟨p3, hp3⟩ : ∃ p3, p3 = vn.toUInt8 := ⟨_, rfl⟩
    have hcv1 : ∀ H, cvt prog false 73 5 (.v (.int .u32 (w1 : Nat))) H = some (.v (.int .u8 p1.toNat), H) := fun H => by rw [hw1, hp1]; exact cv_u32_u8 _ H
    have hcv2 : ∀ H, cvt prog false 73 5 (.v (.int .u32 (w2 : Nat))) H = some (.v (.int .u8 p2.toNat), H) := fun H => by rw [hw2, hp2]; exact cv_u32_u8 _ H
    have hcv3 : ∀ H, cvt prog false 73 5 (.v (.int .u32 (vn : Nat))) H = some (.v (.int .u8 p3.toNat), H) := fun H => by rw [hp3]; exact cv_u32_u8 _ H
    unfold dPut at hdB
    by_cases hq0 : q2 = 0
    · rw [if_pos (by omega)] at hdB
      have hq0' := eq_true hq0
      have hg := hgb (by rw [← hq]; exact .inr (by omega))
      rw [← hvn] at hdB
      obtain ⟨x2, H2, e1, e2, e3, e4, e5⟩ := hg.add (l' := tri vn) (y := .lit [.v (.int .u8 p1.toNat), .v (.int .u8 p2.toNat), .v (.int .u8 p3.toNat)] 3 1) (tx := 23) (by simp) (by rw [hp1, hp2, hp3]; simp [dSrc, underlying23, atS, u8s, u8, tri]) (by simp [tri]; omega)
      obtain ⟨L2, rfl⟩ := take_pre e4
      obtain ⟨o3, ho3⟩ : ∃ o3, o3 = z.out ++ tri vn := ⟨_, rfl⟩
      rw [← ho3] at e3 hdB
      have hl3 : o3.length = z.out.length + 3 := by rw [ho3]; simp [tri]
      rw [← hl3] at hdB
      have hap : ∀ y, apQ H.length x y = true := fun y => Grow.ap hg (by omega) y
      have hrb2 : RB (H ++ zFc :: L2) x2 o3 := e3.rb
      have hlen2 := hrb2.len (P := prog) underlying23
      have hs2 := fun lo hh => RB.slice (P := prog) underlying23 iT5 sT5 hrb2 lo hh
      have hnew2 : ∀ id ver off len sz, x2 = .sl id ver off len sz → H.length ≤ id := fun id ver off len sz h => by have := e3.ids h; omega
      have hP : z.pads + 1 ≤ o3.length := by omega
      obtain ⟨cut, hcut⟩ : ∃ cut, cut = o3.length - (z.pads + 1) := ⟨_, rfl⟩
      rw [← hcut] at hdB
      have hcl : cut < o3.length := by omega
      have hwc : IntKind.i64.wrap ((o3.length : Int) - ((z.pads : Int) + 1)) = (cut : Int) := wrN (by omega) (by omega)
      have hp0' : (0 : Int) < (z.pads : Int) + 1 := by omega
      have hrb4 := hrb2.cut (o := cut) (h := o3.length) (by omega) (Nat.le_refl _)
      rw [List.take_length] at hrb4
      have hl4 : 0 < (o3.drop cut).length := by rw [List.length_drop]; omega
      have had := fun k n => RB.addr (P := prog) underlying23 iT5 sT5 hrb4 k n
      have hld := RB.load (P := prog) underlying5 rfl iT5 hrb4 0 hl4
      have hgd : (o3.drop cut)[0] = o3.getD cut 0 := by rw [List.getElem_drop]; simp [List.getD, hcl]
      rw [hgd] at hld
      obtain ⟨b0, hb0⟩ : ∃ b0, b0 = o3.getD cut 0 := ⟨_, rfl⟩
      rw [← hb0] at hld hdB
      have hll : 0 < o3.length - cut := by omega
      by_cases hz0 : b0 = 0
      · have hz0' : b0.toNat = 0 := by rw [hz0]; rfl
        rw [if_neg (by rintro ⟨_, h⟩; exact h hz0)] at hdB
        have hrb5 := hrb2.cut (o := 0) (h := cut) (by omega) (by omega)
        rw [List.drop_zero] at hrb5
        have hnew2c : ∀ {id ver off len sz}, cutC x2 0 cut = .sl id ver off len sz → H.length ≤ id := fun h => by obtain ⟨_, _, _, h'⟩ := cut_ids h; have := e3.ids h'; omega
        simp -implicitDefEqProofs [a0, a3, a4, a5, a6, a7, a8, a9, len_str underlying9, hlt, index_str underlying9, u8, ht1, hge, hw, ux, c47, b48_2, store_at iT48, cells_agg, hst, load_aggp underlying48 rfl iT48, dExtract, h1, hx0, h61e, hrem, hq2, hwp, hwr, hp0', hshl, horD, hwn, hrem2, hq0, hwc, had, hld, hz0', hll, hl4, hcl, Nat.le_of_lt hcl, mkB3, e1, e2, hlen2, hs2, hap, h16, h8, hcv1, hcv2, hcv3]
        exact ⟨_, by omega, (hI _ _ _).2 ⟨i + 1, k, ⟨0, z.n + 1, z.pads + 1, z.last, o3.take cut⟩, cutC x2 0 cut, L2, rfl, by omega, by omega, hdB, ⟨by simp; omega, Nat.pow_pos (by omega), hpad2, fun _ => .inr (by simp; omega), fun h => by simp at h; omega, by simp; omega, by simp; omega⟩, rfl, hrb5, fun id ver off len sz h => hnew2c h, fun h => absurd h (by simp; omega), by simp [a0, a3, a8, hrb5.unl]⟩⟩
      · have hz0' : ¬ b0.toNat = 0 := fun h => hz0 (UInt8.toNat_inj.1 h)
        rw [if_pos ⟨by omega, hz0⟩] at hdB
        simp -implicitDefEqProofs [a0, a3, a4, a5, a6, a7, a8, a9, len_str underlying9, hlt, index_str underlying9, u8, ht1, hge, hw, ux, c47, b48_2, store_at iT48, cells_agg, hst, load_aggp underlying48 rfl iT48, dExtract, h1, hx0, h61e, hrem, hq2, hwp, hwr, hp0', hshl, horD, hwn, hrem2, hq0, hwc, had, hld, hz0', hll, hl4, hcl, Nat.le_of_lt hcl, mkB3, e1, e2, hlen2, hs2, hap, h16, h8, hcv1, hcv2, hcv3]
        rw [← hdB]; rfl
    · rw [if_neg (by omega)] at hdB
      rw [← hvn] at hdB
      simp -implicitDefEqProofs [a0, a3, a4, a5, a6, a7, a8, a9, len_str underlying9, hlt, index_str underlying9, u8, ht1, hge, hw, ux, c47, b48_2, store_at iT48, cells_agg, hst, load_aggp underlying48 rfl iT48, dExtract, h1, hx0, h61e, hrem, hq2, hwp, hwr, hshl, horD, hwn, hrem2, hq0]
      exact ⟨_, by omega, (hI _ _ _).2 ⟨i + 1, k, ⟨vn, z.n + 1, z.pads + 1, z.last, z.out⟩, x, L, rfl, by omega, by omega, hdB, ⟨by simp; omega, hv2 hq0, hpad2, fun h => .inl (by simp; omega), fun _ => by simp; omega, by simp; omega, by simp; omega⟩, rfl, hrb, hnew, fun _ => hgb (.inr (by omega)), by simp [a0, a3, a4, a8]⟩⟩
  | some d =>
    rw [hsv] at hdB
    obtain ⟨hd64, hdi⟩ := sv_lt hsv
    have hx0 : 0 ≤ Lib.indexByte sgn s[i] := by omega
    have h61 : ¬ s[i] = 61 := fun h => by rw [h, sv61] at hsv; cases hsv
    have h61' : ¬ s[i].toNat = 61 := fun h => h61 (UInt8.toNat_inj.1 h)
    have hwr : IntKind.u32.wrap (Lib.indexByte sgn s[i]) = (d : Int) := by rw [hdi]; exact wrapU32 d (by omega)
    simp only [] at hdB
    by_cases hp0 : 0 < z.pads
    · rw [if_pos hp0] at hdB
      rcases hB with h1 | ⟨h1, h2⟩ | ⟨h1, h2, h3, h4⟩
      · simp -implicitDefEqProofs [a0, a3, a4, a5, a6, a7, a8, a9, len_str underlying9, hlt, index_str underlying9, u8, ht1, hge, hw, ux, c47, b48_2, store_at iT48, cells_agg, hst, load_aggp underlying48 rfl iT48, dExtract, h1, hx0, h61', hp0]
        rw [← hdB]; rfl
      · have h1' := eq_true h1
        simp -implicitDefEqProofs [a0, a3, a4, a5, a6, a7, a8, a9, len_str underlying9, hlt, index_str underlying9, u8, ht1, hge, hw, ux, c47, b48_2, store_at iT48, cells_agg, hst, load_aggp underlying48 rfl iT48, dExtract, h1', h2, hx0, h61', hp0]
        rw [← hdB]; rfl
      · have h1' := eq_true h1
        simp -implicitDefEqProofs [a0, a3, a4, a5, a6, a7, a8, a9, len_str underlying9, hlt, index_str underlying9, u8, ht1, hge, hw, ux, c47, b48_2, store_at iT48, cells_agg, hst, load_aggp underlying48 rfl iT48, dExtract, h1', h2, h3, h4, hx0, h61', hp0]
        rw [← hdB]; rfl
    rw [if_neg hp0] at hdB
    replace hp0 : z.pads = 0 := by omega
    have hdr : True := trivial
    obtain ⟨q2, hq2e⟩ : ∃ q2, q2 = (z.n + 1) % 4 := ⟨_, rfl⟩
    have hrem2 : ∀ H, dBin prog .rem 3 (.v (.int .i64 ((z.n : Int) + 1))) (.v (.int .i64 4)) H = some (.v (.int .i64 (q2 : Nat))) := fun H => by
      rw [hq2e]; exact rem_nat (z.n + 1) 4 H (by omega)
    obtain ⟨vn, hvn⟩ : ∃ vn, vn = z.v * 64 + d := ⟨_, rfl⟩
    have hvn24 : vn < 16777216 := by omega
    have hv2 : q2 ≠ 0 → vn < 64 ^ ((z.n + 1) % 4) := fun h0 => by
      have h5 : (z.n + 1) % 4 = z.n % 4 + 1 := by omega
      rw [h5, Nat.pow_succ]; omega
    have horD : ∀ H, dBin prog .or 73 (.v (.int .u32 (va : Nat))) (.v (.int .u32 (d : Nat))) H = some (.v (.int .u32 (vn : Nat))) := fun H => by
      have := hor d H (by omega)
      have h6 : va + d = vn := by omega
      rw [h6] at this; exact this
    obtain ⟨w1, hw1⟩ : ∃ w1, w1 = vn / 2 ^ 16 := ⟨_, rfl⟩
    obtain ⟨w2, hw2⟩ : ∃ w2, w2 = vn / 2 ^ 8 := ⟨_, rfl⟩
    have h16 : ∀ H, dBin prog .shr 73 (.v (.int .u32 (vn : Nat))) (.v (.int .u64 16)) H = some (.v (.int .u32 (w1 : Nat))) := fun H => by rw [hw1]; exact shr_u32 vn 16 .u64 H (by omega)
    have h8 : ∀ H, dBin prog .shr 73 (.v (.int .u32 (vn : Nat))) (.v (.int .u64 8)) H = some (.v (.int .u32 (w2 : Nat))) := fun H => by rw [hw2]; exact shr_u32 vn 8 .u64 H (by omega)
    obtain ⟨p1, hp1⟩ : ∃ p1, p1 = (vn / 65536).toUInt8 := ⟨_, rfl⟩
    obtain ⟨p2, hp2⟩ : ∃ p2, p2 = (vn / 256).toUInt8 := ⟨_, rfl⟩
    obtain ⟨p3, hp3⟩ : ∃ p3, p3 = vn.toUInt8 := ⟨_, rfl⟩
    have hcv1 : ∀ H, cvt prog false 73 5 (.v (.int .u32 (w1 : Nat))) H = some (.v (.int .u8 p1.toNat), H) := fun H => by rw [hw1, hp1]; exact cv_u32_u8 _ H
    have hcv2 : ∀ H, cvt prog false 73 5 (.v (.int .u32 (w2 : Nat))) H = some (.v (.int .u8 p2.toNat), H) := fun H => by rw [hw2, hp2]; exact cv_u32_u8 _ H
    have hcv3 : ∀ H, cvt prog false 73 5 (.v (.int .u32 (vn : Nat))) H = some (.v (.int .u8 p3.toNat), H) := fun H => by rw [hp3]; exact cv_u32_u8 _ H
    unfold dPut at hdB
    by_cases hq0 : q2 = 0
    · rw [if_pos (by omega)] at hdB
      have hq0' := eq_true hq0
      have hg := hgb (.inl hp0)
      rw [← hvn] at hdB
      obtain ⟨x2, H2, e1, e2, e3, e4, e5⟩ := hg.add (l' := tri vn) (y := .lit [.v (.int .u8 p1.toNat), .v (.int .u8 p2.toNat), .v (.int .u8 p3.toNat)] 3 1) (tx := 23) (by simp) (by rw [hp1, hp2, hp3]; simp [dSrc, underlying23, atS, u8s, u8, tri]) (by simp [tri]; omega)
      obtain ⟨L2, rfl⟩ := take_pre e4
      obtain ⟨o3, ho3⟩ : ∃ o3, o3 = z.out ++ tri vn := ⟨_, rfl⟩
      rw [← ho3] at e3 hdB
      have hl3 : o3.length = z.out.length + 3 := by rw [ho3]; simp [tri]
      rw [← hl3] at hdB
      have hap : ∀ y, apQ H.length x y = true := fun y => Grow.ap hg (by omega) y
      have hrb2 : RB (H ++ zFc :: L2) x2 o3 := e3.rb
      have hlen2 := hrb2.len (P := prog) underlying23
      have hs2 := fun lo hh => RB.slice (P := prog) underlying23 iT5 sT5 hrb2 lo hh
      have hnew2 : ∀ id ver off len sz, x2 = .sl id ver off len sz → H.length ≤ id := fun id ver off len sz h => by have := e3.ids h; omega
      have hwl : IntKind.i64.wrap ((o3.length : Nat) : Int) = ((o3.length : Nat) : Int) := wrN rfl (by omega)
      have hall := e3.cut_all
      rw [hp0, if_neg (by omega), Nat.sub_zero, List.take_length] at hdB
      rcases hB with h1 | ⟨h1, h2⟩ | ⟨h1, h2, h3, h4⟩
      · simp -implicitDefEqProofs [a0, a3, a4, a5, a6, a7, a8, a9, len_str underlying9, hlt, index_str underlying9, u8, ht1, hge, hw, ux, c47, b48_2, store_at iT48, cells_agg, hst, load_aggp underlying48 rfl iT48, dExtract, h1, hx0, h61', hwr, hp0, hshl, horD, hwn, hrem2, hq0, hwl, hall, mkB3, e1, e2, hlen2, hs2, hap, h16, h8, hcv1, hcv2, hcv3]
        exact ⟨_, by omega, (hI _ _ _).2 ⟨i + 1, k, ⟨0, z.n + 1, 0, i, o3⟩, x2, L2, rfl, by omega, by omega, hdB, ⟨by simp; omega, Nat.pow_pos (by omega), by simp, by simp, by simp, by simp; omega, by simp⟩, rfl, hrb2, hnew2, fun _ => e3, by simp [a0, a3, a7, hp0]⟩⟩
      · have h1' := eq_true h1
        simp -implicitDefEqProofs [a0, a3, a4, a5, a6, a7, a8, a9, len_str underlying9, hlt, index_str underlying9, u8, ht1, hge, hw, ux, c47, b48_2, store_at iT48, cells_agg, hst, load_aggp underlying48 rfl iT48, dExtract, h1', h2, hx0, h61', hwr, hp0, hshl, horD, hwn, hrem2, hq0, hwl, hall, mkB3, e1, e2, hlen2, hs2, hap, h16, h8, hcv1, hcv2, hcv3]
        exact ⟨_, by omega, (hI _ _ _).2 ⟨i + 1, k, ⟨0, z.n + 1, 0, i, o3⟩, x2, L2, rfl, by omega, by omega, hdB, ⟨by simp; omega, Nat.pow_pos (by omega), by simp, by simp, by simp, by simp; omega, by simp⟩, rfl, hrb2, hnew2, fun _ => e3, by simp [a0, a3, a7, hp0]⟩⟩
      · have h1' := eq_true h1
        simp -implicitDefEqProofs [a0, a3, a4, a5, a6, a7, a8, a9, len_str underlying9, hlt, index_str underlying9, u8, ht1, hge, hw, ux, c47, b48_2, store_at iT48, cells_agg, hst, load_aggp underlying48 rfl iT48, dExtract, h1', h2, h3, h4, hx0, h61', hwr, hp0, hshl, horD, hwn, hrem2, hq0, hwl, hall, mkB3, e1, e2, hlen2, hs2, hap, h16, h8, hcv1, hcv2, hcv3]
        exact ⟨_, by omega, (hI _ _ _).2 ⟨i + 1, k, ⟨0, z.n + 1, 0, i, o3⟩, x2, L2, rfl, by omega, by omega, hdB, ⟨by simp; omega, Nat.pow_pos (by omega), by simp, by simp, by simp, by simp; omega, by simp⟩, rfl, hrb2, hnew2, fun _ => e3, by simp [a0, a3, a7, hp0]⟩⟩
    · rw [if_neg (by omega)] at hdB
      rw [← hvn] at hdB
      rcases hB with h1 | ⟨h1, h2⟩ | ⟨h1, h2, h3, h4⟩
      · simp -implicitDefEqProofs [a0, a3, a4, a5, a6, a7, a8, a9, len_str underlying9, hlt, index_str underlying9, u8, ht1, hge, hw, ux, c47, b48_2, store_at iT48, cells_agg, hst, load_aggp underlying48 rfl iT48, dExtract, h1, hx0, h61', hwr, hp0, hshl, horD, hwn, hrem2, hq0]
        exact ⟨_, by omega, (hI _ _ _).2 ⟨i + 1, k, ⟨vn, z.n + 1, z.pads, i, z.out⟩, x, L, rfl, by omega, by omega, hdB, ⟨by simp; omega, hv2 hq0, zp, fun h => by simp at h; omega, fun _ => by simp; omega, by simp; omega, by simp⟩, rfl, hrb, hnew, fun _ => hgb (.inl hp0), by simp [a0, a3, a4, a7]⟩⟩
      · have h1' := eq_true h1
        simp -implicitDefEqProofs [a0, a3, a4, a5, a6, a7, a8, a9, len_str underlying9, hlt, index_str underlying9, u8, ht1, hge, hw, ux, c47, b48_2, store_at iT48, cells_agg, hst, load_aggp underlying48 rfl iT48, dExtract, h1', h2, hx0, h61', hwr, hp0, hshl, horD, hwn, hrem2, hq0]
        exact ⟨_, by omega, (hI _ _ _).2 ⟨i + 1, k, ⟨vn, z.n + 1, z.pads, i, z.out⟩, x, L, rfl, by omega, by omega, hdB, ⟨by simp; omega, hv2 hq0, zp, fun h => by simp at h; omega, fun _ => by simp; omega, by simp; omega, by simp⟩, rfl, hrb, hnew, fun _ => hgb (.inl hp0), by simp [a0, a3, a4, a7]⟩⟩
      · have h1' := eq_true h1
        simp -implicitDefEqProofs [a0, a3, a4, a5, a6, a7, a8, a9, len_str underlying9, hlt, index_str underlying9, u8, ht1, hge, hw, ux, c47, b48_2, store_at iT48, cells_agg, hst, load_aggp underlying48 rfl iT48, dExtract, h1', h2, h3, h4, hx0, h61', hwr, hp0, hshl, horD, hwn, hrem2, hq0]
        exact ⟨_, by omega, (hI _ _ _).2 ⟨i + 1, k, ⟨vn, z.n + 1, z.pads, i, z.out⟩, x, L, rfl, by omega, by omega, hdB, ⟨by simp; omega, hv2 hq0, zp, fun h => by simp at h; omega, fun _ => by simp; omega, by simp; omega, by simp⟩, rfl, hrb, hnew, fun _ => hgb (.inl hp0), by simp [a0, a3, a4, a7]⟩⟩
end Go.Proofs.Tryz

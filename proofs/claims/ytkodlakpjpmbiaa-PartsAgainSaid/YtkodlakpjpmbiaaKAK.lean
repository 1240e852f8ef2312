/- The functions that are known otherwise are as is said. -/
import Derived.Test.YtkodlakpjpmbiaaKAJ
import Derived.Test.YtkodlakpjpmbiaaShelf
import Derived.KernelRfl
import Derived.Shelf.Bytes.SlIndexWhole
import Derived.Lib.IndexLaws
import Derived.Below
import Derived.Test.YtkodlakpjpmbiaaRows
import Derived.ProofKit
import Derived.HandedShaped
import Derived.Shelf.Vars
import Derived.ChangeSlices
import Derived.Carry
import Derived.OpenShut
import Derived.Deep.Strs
import Derived.Test.YtkodlakpjpmbiaaKAI

set_option linter.all false

namespace Go.SL
/-- A number that a variable of the library holds. -/
class MaxC where
  mx : Int
instance maxB [MaxC] : BaseC := ⟨fun b o => if b = 0 ∧ o = 0 then some (.int .i64 MaxC.mx) else none⟩
theorem WR.drewN [BaseC] {g : Gh} {H : Hp} {w : World} (h : WR g H w) (n : Nat) : WR g H (w.drewN n) :=
  ⟨h.len, fun id o l a b => (h.obj id o l a b).congr (w2 := w.drewN n) rfl, h.inj, fun b o v hb => h.im b o v hb, h.dis, h.own, h.base⟩
theorem Evo.drewN (g : Gh) (H : Hp) (w : World) (n : Nat) : Evo g H w g H (w.drewN n) := ⟨rfl, rfl, rfl, Nat.le_refl _, fun _ _ _ => rfl, fun _ h => .inr h, fun _ _ _ h => h, locs_refl g, fun _ h => h⟩
end Go.SL
namespace Go.Proofs.Try
open Go Go.SL
set_option linter.unusedVariables false

theorem fx110 : Extern.findNext f93 = none := by kernel_rfl
theorem fe110 : Extern.find f93 = some Extern.BytealgIndexByte.indexByte := by kernel_rfl
theorem call110 (s : ByteArray) (c : Int) (w : World) : (callFunc 93 #[.string s, .int .u8 c]).run prog w = .ok (.value (.int .i64 (Lib.indexByte s.data.toList c.toNat.toUInt8))) w := by
  have hn : ¬ f93.name = "runtime.NumGoroutine" := by decide
  have hb : f93.body = none := rfl
  have hr := Lib.run_indexByteString (P := prog) s c w
  simp [callFunc, func93, hn, hb, fx110, fe110, hr]
theorem enter80 (vs : Array Value) (w : World) : (callFunc 64 vs).run prog w = .ok (.enter 64 vs) w := by
  have hn : ¬ f64.name = "runtime.NumGoroutine" := by decide
  have hb : ¬ f64.body = none := by intro h; cases h
  simp [callFunc, func64, hn, hb]
theorem enter100 (vs : Array Value) (w : World) : (callFunc 80 vs).run prog w = .ok (.enter 80 vs) w := by
  have hn : ¬ f80.name = "runtime.NumGoroutine" := by decide
  have hb : ¬ f80.body = none := by intro h; cases h
  simp [callFunc, func80, hn, hb]
theorem enter90 (vs : Array Value) (w : World) : (callFunc 74 vs).run prog w = .ok (.enter 74 vs) w := by
  have hn : ¬ f74.name = "runtime.NumGoroutine" := by decide
  have hb : ¬ f74.body = none := by intro h; cases h
  simp [callFunc, func74, hn, hb]
/-- Arguments, one by one. -/
theorem list2 [BaseC] {g : Gh} {x y : CV} {vs : Array Value} (h : ListR g [x, y] vs) : ∃ u v, vs = #[u, v] ∧ VR g x u ∧ VR g y v := ListR.two h
variable [MaxC]
theorem idb_ok (m : Nat) (f : FuncId) (hf : f = 64 ∨ f = 93 ∨ f = 80) (args : List CV) (H : Hp) (r : CV) (H2 : Hp) (h : idbP args H = some (r, H2)) : CallS prog m f args H r H2 := by
  unfold idbP at h
  split at h
  · rename_i s c
    cases h
    intro g w vs hw hl
    obtain ⟨u, v, rfl, hu, hv⟩ := list2 hl
    obtain ⟨rfl, _⟩ := hu.atom
    obtain ⟨rfl, _⟩ := hv.atom
    refine ⟨Keeps.refl _ _, ?_⟩
    rcases hf with rfl | rfl | rfl
    · exact .inr ⟨enter80 _ _, (strings_IndexByte s c w).mono fun e w' ⟨he, hw'⟩ => by subst he hw'; exact ⟨_, g, rfl, .cl (.v rfl), hw, Evo.refl _ _ _⟩⟩
    · exact .inl ⟨_, g, w, call110 s c w, .cl (.v rfl), hw, Evo.refl _ _ _⟩
    · exact .inr ⟨enter100 _ _, (stringslite_IndexByte s c w).mono fun e w' ⟨he, hw'⟩ => by subst he hw'; exact ⟨_, g, rfl, .cl (.v rfl), hw, Evo.refl _ _ _⟩⟩
  · cases h
/-- Bytes that cells hold. -/
theorem cells_num {g : Gh} {w : World} {b o : Nat} {cs : List CV} {ns : List Int} (hn : numsOf cs = some ns) (hh : Holds g w b o cs) (i : Nat) (hi : i < ns.length) : w.cell? ((⟨b, o, none⟩ : Addr).add i) = some (.int .u8 (ns.getD i 0)) := by
  obtain ⟨hl, hg⟩ := numsOf_get hn
  obtain ⟨u, h1, _, h3⟩ := hh i (by omega)
  rw [hg i (by omega)] at h3
  obtain ⟨rfl, _⟩ := h3.atom
  rw [Lib.add_plain']; exact h1
theorem idx_ok (m : Nat) (args : List CV) (H : Hp) (r : CV) (H2 : Hp) (h : idxP args H = some (r, H2)) : CallS prog m 74 args H r H2 := by
  unfold idxP at h
  split at h
  · rename_i x y
    obtain ⟨⟨cx, nx⟩, hx, h⟩ := Option.bind_eq_some_iff.1 h
    obtain ⟨⟨cy, ny⟩, hy, h⟩ := Option.bind_eq_some_iff.1 h
    obtain ⟨xs, hxs, h⟩ := Option.bind_eq_some_iff.1 h
    obtain ⟨ys, hys, h⟩ := Option.bind_eq_some_iff.1 h
    simp only at hx hy hxs hys h
    split at h
    · rename_i hc
      obtain ⟨h1, h2, h3, h4, h5, h6⟩ := hc
      cases h
      intro g w vs hw hl
      obtain ⟨u, v, rfl, hu, hv⟩ := list2 hl
      refine ⟨Keeps.refl _ _, .inr ⟨enter90 _ _, ?_⟩⟩
      have hmx : w.cell? ⟨0, 0, none⟩ = some (.int .i64 MaxC.mx) := (hw.im 0 0 _ (hw.base 0 0 _ (by simp [BaseC.im]))).1
      have hbig : xs.length < 4294967281 := by unfold big at h3; omega
      rcases hw.at_sl hv hy with ⟨rfl, _, hn0⟩ | ⟨a2, b2, o2, c2, rfl, hcap2, ha2, hh2, _⟩
      · omega
      have hlen2 := (numsOf_get hys).1
      rcases hw.at_sl hu hx with ⟨rfl, rfl, hn0⟩ | ⟨a1, b1, o1, c1, rfl, hcap1, ha1, hh1, hz1⟩
      · have hxs0 : xs = [] := by simp [numsOf] at hxs; exact hxs
        subst hxs0
        have hidx : Lib.index (Lib.bytesOf []) (Lib.bytesOf ys) = -1 := Lib.index_long (by simp [Lib.bytesOf]) (by
          intro e
          have := congrArg List.length e
          simp [Lib.bytesOf] at this
          rw [this] at h4; simp at h4)
        rw [hidx]
        subst h2
        refine (Any.bytes_Index_nil lays185 _ ys.length c2 w (by omega) (fun h => by omega)).mono fun e w' ⟨he, hw'⟩ => ?_
        subst he hw'
        rw [if_neg (by omega)]
        exact ⟨_, g, rfl, .cl (.v rfl), hw, Evo.refl _ _ _⟩
      · by_cases hx0 : xs.length = 0
        · have hxs0 : xs = [] := List.eq_nil_of_length_eq_zero hx0
          subst hxs0
          have hidx : Lib.index (Lib.bytesOf []) (Lib.bytesOf ys) = -1 := Lib.index_long (by simp [Lib.bytesOf]) (by
            intro e
            have := congrArg List.length e
            simp [Lib.bytesOf] at this
            rw [this] at h4; simp at h4)
          rw [hidx]
          subst h1 h2
          refine (Any.bytes_Index_longer lays185 (some a1) (some a2) 0 c1 ys.length c2 w (by omega) (by omega) (by omega)).mono fun e w' ⟨he, hw'⟩ => ?_
          subst he hw'
          exact ⟨_, g, rfl, .cl (.v rfl), hw, Evo.refl _ _ _⟩
        subst h1 h2
        obtain rfl := ha1 (by omega)
        obtain rfl := ha2 (by omega)
        refine (Any.bytes_Index_at lays185 ⟨b1, o1, none⟩ ⟨b2, o2, none⟩ xs.length c1 ys.length c2 xs ys MaxC.mx w rfl rfl h5 h6 (fun i hi => cells_num hxs (hh1 (by omega)) i hi) (fun i hi => cells_num hys (hh2 (by omega)) i hi) hcap1 hbig (by omega) hmx).mono fun e w' ⟨he, q, hw'⟩ => ?_
        subst he hw'
        exact ⟨_, g, rfl, .cl (.v rfl), hw.drewN q, Evo.drewN _ _ _ _⟩
    · cases h
  · cases h
@[reducible] def L0 : LayerC := ⟨false⟩
@[reducible] def L1 : LayerC := ⟨true⟩
omit [MaxC] in
theorem noGo : ∀ (f : FuncId) (fn : Func), prog.funcs[f]? = some fn → fn.name ≠ "runtime.NumGoroutine" := by
  have h : (prog.funcs.toList.all fun fn => fn.name != "runtime.NumGoroutine") = true := by kernel_rfl
  intro f fn hf e
  have := List.all_eq_true.1 h fn (Array.mem_toList_iff.2 (Array.mem_of_getElem? hf))
  rw [e] at this
  simp at this
end Go.Proofs.Try

/- The functions that are known otherwise are as is said (a seat without the reference's readers). -/
namespace Go.Proofs.Try
open Go Go.SL
set_option linter.unusedVariables false
variable [MaxC]
theorem prim1 : PrimOK prog (@cs0 L1) := by
  intro f p hp m args H r H2 h
  have hp : (if f = 74 then some idxP else if f = 64 ∨ f = 93 ∨ f = 80 then some idbP else if false && true then some lowP else if false && true then some tokP else none) = some p := hp
  split at hp
  · rename_i hf; cases hp; subst hf; exact idx_ok m args H r H2 h
  · split at hp
    · rename_i hf; cases hp; exact idb_ok m f hf args H r H2 h
    · simp at hp
end Go.Proofs.Try

/- From the evaluator to a row: the first world, and what a call leaves. -/
namespace Go.SL
open Go.RowKit
set_option linter.unusedVariables false
/-- A world, and no object. -/
def g0 (W : World) : Gh := ⟨[], fun b o => (W.cell? ⟨b, o, none⟩).filter (·.oneCell'), fun _ => False⟩
theorem WR.init [BaseC] {W : World} (h : ∀ b o v, BaseC.im b o = some v → W.cell? ⟨b, o, none⟩ = some v ∧ v.oneCell' = true) : WR (g0 W) [] W where
  len := rfl
  obj := fun id o l h => by simp at h
  inj := fun i j oi oj li lj h => by simp at h
  im := fun b o v hv => by
    simp only [g0, Option.filter_eq_some_iff] at hv
    exact ⟨hv.1, hv.2⟩
  dis := fun id o l h => by simp at h
  own := fun b hb => hb.elim
  base := fun b o v hv => by
    simp only [g0, Option.filter_eq_some_iff]
    exact h b o v hv
theorem Evo.below {W w2 : World} {g2 : Gh} {H2 : Hp} (h : Evo (g0 W) [] W g2 H2 w2) : Below W.heap.size W w2 :=
  ⟨h.os, h.tape, h.output, h.size, fun k hk => h.keep k hk (by
    rintro (h | ⟨id, o, l, h, _⟩)
    · exact h
    · simp at h)⟩
theorem im_g0 {W : World} {b o : Nat} {v : Value} (h : W.cell? ⟨b, o, none⟩ = some v) (h1 : v.oneCell' = true) : (g0 W).im b o = some v := by
  simp only [g0, Option.filter_eq_some_iff]; exact ⟨h, h1⟩
end Go.SL
namespace Go.Proofs.Try
open Go Go.SL Go.RowKit
set_option linter.unusedVariables false
/-- A law's walk, as a call from any world. -/
theorem law_calls {mx : Int} {f : FuncId} {fn : Func} {W : World} {xs : List CV} {vs : Array Value} (hf : prog.funcs[f]? = some fn) (hb : fn.body ≠ none) (hmx : W.cell? ⟨0, 0, none⟩ = some (.int .i64 mx)) (hl : ListR (g0 W) xs vs)
    (hr : @Ret prog (@cs0 L1) 0 f xs [] (.v (.bool true)) []) : Calls prog f vs W fun e W' => e = .returned (.bool true) ∧ Below W.heap.size W W' := by
  letI : MaxC := ⟨mx⟩
  have hw : WR (g0 W) [] W := WR.init fun b o v hv => by
    simp only [BaseC.im] at hv
    split at hv
    · rename_i hc
      obtain ⟨rfl, rfl⟩ := hc
      cases hv
      exact ⟨hmx, rfl⟩
    · cases hv
  obtain ⟨k, ⟨y1, y2⟩, hk, h1, h2⟩ := hr
  simp only at h1 h2
  subst h1
  rw [h2] at hk
  have henter : (callFunc f vs).run prog W = .ok (.enter f vs) W := by
    have := noGo f fn hf
    simp [callFunc, hf, this, hb]
  rcases ((evCall_good prim1 noGo k).1 0 f xs [] _ [] hk (g0 W) W vs hw hl).2 with ⟨v, g2, w2, h3, _⟩ | ⟨_, h3⟩
  · rw [henter] at h3; cases h3
  · refine h3.mono fun e w' ⟨v, g2, he, hv, _, hev⟩ => ?_
    obtain ⟨rfl, _⟩ := hv.atom
    exact ⟨he, hev.below⟩
/-- Bytes of a world, as an argument. -/
theorem byt_vr {W : World} {a : Option Addr} {len cap : Nat} {zs : List Int} (h : (a = none ∧ len = 0 ∧ cap = 0) ∨ ∃ x, a = some x ∧ x.spot = none ∧ len ≤ cap ∧ zs.length = cap ∧ (∀ i, i < zs.length → W.cell? (x.add i) = some (.int .u8 (zs.getD i 0))) ∧ ∀ n ∈ zs, 0 ≤ n ∧ n < 256) :
    ∃ x b, CB x b ∧ VR (g0 W) x (.slice a len cap) := by
  rcases h with ⟨rfl, rfl, rfl⟩ | ⟨x, rfl, hsp, hlc, hz, hc, hr⟩
  · exact ⟨nilC, [], .inr ⟨rfl, rfl, rfl⟩, .cl (.v rfl)⟩
  · obtain ⟨b, o, sp⟩ := x
    simp only at hsp
    subst hsp
    have hlen : ((zs.take len).map fun n => n.toNat.toUInt8).length = len := by simp; omega
    refine ⟨byt ((zs.take len).map fun n => n.toNat.toUInt8), _, .inl rfl, .cl ?_⟩
    unfold byt
    rw [hlen]
    refine .im (f := fun i => .int .u8 (zs.getD i 0)) (by simp; omega) hlc (fun _ => rfl) (fun i hi => ?_) fun i hi => ?_
    · simp at hi
      have := hc i (by omega)
      rw [Lib.add_plain'] at this
      exact im_g0 this rfl
    · simp at hi
      have hi' : i < zs.length := by omega
      have hg : zs.getD i 0 = zs[i] := by simp [List.getD, hi']
      have hrr := hr zs[i] (List.getElem_mem hi')
      have : (u8s ((zs.take len).map fun n => n.toNat.toUInt8))[i] = .v (.int .u8 (zs.getD i 0)) := by
        simp only [u8s, List.getElem_map, List.getElem_take, u8, hg]
        congr 2
        simp
        omega
      rw [this]
      exact .v rfl
end Go.Proofs.Try

/- Laws: the lines of what is written. -/
namespace Go.Proofs.Try
open Go Go.SL
set_option linter.unusedVariables false

theorem pair_app {s r : Bs} {i : Nat} (h : pairAt (s ++ crlf ++ r) i) (hi : i < s.length) : pairAt s i := by
  obtain ⟨h1, h2⟩ := h
  rw [List.append_assoc, List.getElem?_append_left hi] at h1
  refine ⟨h1, ?_⟩
  by_cases h3 : i + 1 < s.length
  · rwa [List.append_assoc, List.getElem?_append_left h3] at h2
  · have : i + 1 = s.length := by omega
    rw [List.append_assoc, List.getElem?_append_right (by omega), this] at h2
    simp [crlf] at h2
theorem cr_cat {s r : Bs} (h : ∀ i, ¬ pairAt s i) : crIdx (s ++ crlf ++ r) = s.length := by
  refine cr_first ⟨?_, ?_⟩ fun i hi hp => h i (pair_app hp hi)
  · rw [List.append_assoc, List.getElem?_append_right (Nat.le_refl _)]; simp [crlf]
  · rw [List.append_assoc, List.getElem?_append_right (by omega)]; simp [crlf]
/-- A line, its end, and what is behind it. -/
theorem lnS_cat {s : Bs} (h : ∀ i, ¬ pairAt s i) (a : Nat) (r : Bs) : lnS a (s ++ crlf ++ r) = ⟨a, s, true⟩ :: lnS (a + s.length + 2) r := by
  have hc := cr_cat (r := r) h
  have h0 : 0 ≤ crIdx (s ++ crlf ++ r) := by omega
  rw [lnS_whole h0]
  have hn : lineN (s ++ crlf ++ r) = s.length + 2 := by unfold lineN; rw [if_neg (by omega), hc]; simp
  rw [hn, hc]
  have h1 : (s ++ crlf ++ r).take (s.length : Int).toNat = s := by simp
  have h2 : (s ++ crlf ++ r).drop (s.length + 2) = r := by
    have : (s ++ crlf).length = s.length + 2 := by simp [crlf]
    rw [← this, List.drop_left]
  rw [h1, h2, Nat.add_assoc]
theorem noCr_pair {s : Bs} (h : noCr s) : ∀ i, ¬ pairAt s i := by
  intro i hp
  have := List.mem_of_getElem? hp.1
  exact h 13 this rfl
/-- The lines' texts don't hang on where they begin. -/
theorem lnS_s (a b : Nat) (t : Bs) : (lnS a t).map Ln.s = (lnS b t).map Ln.s := by
  have key : ∀ n (t : Bs), t.length ≤ n → ∀ a b, (lnS a t).map Ln.s = (lnS b t).map Ln.s := by
    intro n
    induction n with
    | zero =>
      intro t ht a b
      obtain rfl := List.eq_nil_of_length_eq_zero (by omega : t.length = 0)
      rw [lnS_nil, lnS_nil]
    | succ n ih =>
      intro t ht a b
      by_cases h : t = []
      · subst h; rw [lnS_nil, lnS_nil]
      · by_cases hc : crIdx t < 0
        · rw [lnS_last h hc, lnS_last h hc]; rfl
        · have hp := lineN_pos h
          have := List.length_pos_iff.2 h
          rw [lnS_whole (a := a) (by omega), lnS_whole (a := b) (by omega), List.map_cons, List.map_cons, ih _ (by simp; omega) _ (b + lineN t)]
  exact key _ t (Nat.le_refl _) a b
/-- A text with an end put behind it: its lines, the last one whole. -/
theorem lnS_text (t r : Bs) : ∀ p, ∃ L : List Ln, lnS p (t ++ crlf ++ r) = L ++ lnS (p + t.length + 2) r ∧ ∀ x ∈ L, x.s = [] ∨ ∃ y ∈ lnS p t, x.s = y.s := by
  have key : ∀ n (t : Bs), t.length ≤ n → ∀ p, ∃ L : List Ln, lnS p (t ++ crlf ++ r) = L ++ lnS (p + t.length + 2) r ∧ ∀ x ∈ L, x.s = [] ∨ ∃ y ∈ lnS p t, x.s = y.s := by
    intro n
    induction n with
    | zero =>
      intro t ht p
      obtain rfl := List.eq_nil_of_length_eq_zero (by omega : t.length = 0)
      exact ⟨[⟨p, [], true⟩], by rw [lnS_cat (by intro i h; simp [pairAt] at h)]; rfl, fun x hx => .inl (by simp at hx; rw [hx])⟩
    | succ n ih =>
      intro t ht p
      by_cases h : t = []
      · subst h; exact ⟨[⟨p, [], true⟩], by rw [lnS_cat (by intro i h; simp [pairAt] at h)]; rfl, fun x hx => .inl (by simp at hx; rw [hx])⟩
      · by_cases hc : crIdx t < 0
        · refine ⟨[⟨p, t, true⟩], by rw [lnS_cat (no_pair hc)]; rfl, fun x hx => .inr ⟨⟨p, t, false⟩, ?_, ?_⟩⟩
          · rw [lnS_last h hc]; simp
          · simp at hx; rw [hx]
        · have hc' : 0 ≤ crIdx t := by omega
          have hp := lineN_pos h
          have hle := lineN_le t
          have hroom := crIdx_room t hc'
          have hnn : lineN t = (crIdx t).toNat + 2 := by unfold lineN; rw [if_neg hc]
          obtain ⟨k, hk⟩ : ∃ k, k = (crIdx t).toNat := ⟨_, rfl⟩
          have e : t ++ crlf ++ r = t.take k ++ crlf ++ (t.drop (lineN t) ++ crlf ++ r) := by
            have h1 := line_whole hc'
            rw [← hk] at h1
            rw [← h1]
            have h2 : t.take (lineN t) ++ (t.drop (lineN t) ++ (crlf ++ r)) = t ++ (crlf ++ r) := by rw [← List.append_assoc, List.take_append_drop]
            rw [List.append_assoc, ← h2, List.append_assoc (t.drop (lineN t))]
          have hnp : ∀ i, ¬ pairAt (t.take k) i := by
            intro i hp2
            have hi : i < k := by
              have h1 := hp2.1
              rcases Nat.lt_or_ge i (t.take k).length with h3 | h3
              · simp at h3; omega
              · rw [List.getElem?_eq_none (by omega)] at h1; cases h1
            rcases Lib.index_spec t [13, 10] with ⟨h1, _⟩ | ⟨j, h1, _, _, h4⟩
            · unfold crIdx at hc; omega
            · have hj : k = j := by rw [hk]; unfold crIdx; omega
              have h5 := h4 i (by omega)
              have h6 : Lib.occAt t [13, 10] i = true := (occ_pair t i).2 ⟨by
                  have := hp2.1
                  rw [List.getElem?_take_of_lt hi] at this
                  exact this, by
                  have := hp2.2
                  rw [List.getElem?_take] at this
                  split at this
                  · exact this
                  · cases this⟩
              rw [h6] at h5; cases h5
          have hlk : (t.take k).length = k := by simp; omega
          obtain ⟨L, h1, h2⟩ := ih (t.drop (lineN t)) (by simp; omega) (p + lineN t)
          refine ⟨⟨p, t.take k, true⟩ :: L, ?_, ?_⟩
          · rw [e, lnS_cat hnp, hlk]
            have : p + k + 2 = p + lineN t := by omega
            rw [this, h1]
            have : p + lineN t + (t.drop (lineN t)).length + 2 = p + t.length + 2 := by simp; omega
            rw [this]; rfl
          · intro x hx
            rw [lnS_whole hc']
            rcases List.mem_cons.1 hx with rfl | hx
            · exact .inr ⟨_, List.mem_cons_self, by rw [hk]⟩
            · rcases h2 x hx with h3 | ⟨y, hy, h3⟩
              · exact .inl h3
              · exact .inr ⟨y, List.mem_cons_of_mem _ hy, h3⟩
  exact key _ t (Nat.le_refl _)

theorem noCr_app {a b : Bs} (ha : noCr a) (hb : noCr b) : noCr (a ++ b) := by
  intro c hc
  rcases List.mem_append.1 hc with h | h
  · exact ha c h
  · exact hb c h
theorem name_cr {s : Bs} (h : isName s) : noCr s := by
  intro c hc e
  subst e
  have := h.2.2 13 hc
  unfold nameC at this
  revert this; decide
theorem val_cr {s : Bs} (h : isVal s) : noCr s := by
  intro c hc e
  subst e
  have := h.1 13 hc
  unfold valC at this
  revert this; decide
theorem lineF_cr {f : Fld} (h : isName f.n ∧ isVal f.v) : noCr (lineF f) := by
  unfold lineF
  refine noCr_app (noCr_app (name_cr h.1) (by intro c hc; simp at hc; subst hc; decide)) ?_
  split
  · intro c hc; simp at hc
  · intro c hc
    rcases List.mem_cons.1 hc with rfl | hc
    · decide
    · exact val_cr h.2 c hc
/-- Lines that are written are read as lines. -/
theorem emit_lines (os : List Bs) (r : Bs) (h : ∀ s ∈ os, noCr s) : ∀ a, ∃ L : List Ln, lnS a (emit os ++ r) = L ++ lnS (a + (emit os).length) r ∧ L.map Ln.s = os ∧ (∀ x ∈ L, x.w = true) := by
  induction os with
  | nil => intro a; exact ⟨[], by simp [emit], rfl, by simp⟩
  | cons s os ih =>
    intro a
    obtain ⟨L, h1, h2, h3⟩ := ih (fun t ht => h t (by simp [ht])) (a + s.length + 2)
    refine ⟨⟨a, s, true⟩ :: L, ?_, by rw [List.map_cons, h2], ?_⟩
    · have e : emit (s :: os) ++ r = s ++ crlf ++ (emit os ++ r) := by simp [emit]
      rw [e, lnS_cat (noCr_pair (h s (by simp))), h1]
      have : a + s.length + 2 + (emit os).length = a + (emit (s :: os)).length := by simp [emit, crlf]; omega
      rw [this]; rfl
    · intro x hx
      rcases List.mem_cons.1 hx with rfl | hx
      · rfl
      · exact h3 x hx
theorem fold_tail {s : Bs} {f : Nat} {o : List Bs} (h : FoldR s f o) : f = 1 → s.head?.map blankC = some true → ∀ x ∈ o, x.head?.map blankC = some true := by
  induction h with
  | stop => intro _ hs x hx; simp at hx; subst hx; exact hs
  | @step s f k out h hp ho ih =>
    intro hf hs x hx
    subst hf
    rcases List.mem_cons.1 hx with rfl | hx
    · obtain ⟨h1, _⟩ := hp
      cases s with
      | nil => simp at hs
      | cons a s =>
        cases k with
        | zero => omega
        | succ k => simpa using hs
    · refine ih rfl ?_ x hx
      rw [List.head?_drop, hp.2.2.1]
      rfl
/-- A folded line: the first one holds the beginning, all others begin with a blank. -/
theorem fold_head {s : Bs} {f : Nat} {o : List Bs} (h : FoldR s f o) (hf : f ≤ s.length + 2) : ∃ (a : Bs) (os : List Bs), o = a :: os ∧ (∀ x ∈ os, x.head?.map blankC = some true) ∧ a ++ os.flatten = s ∧ (os = [] ∨ f ≤ a.length) := by
  cases h with
  | stop h => exact ⟨s, [], rfl, by simp, by simp, .inl rfl⟩
  | @step _ _ k out h hp ho =>
    refine ⟨s.take k, out, rfl, fold_tail ho rfl ?_, ?_, .inr ?_⟩
    · rw [List.head?_drop, hp.2.2.1]; rfl
    · rw [ho.flat, List.take_append_drop]
    · have := hp.1; have := hp.2.1; simp; omega
theorem blank_all (n : Nat) (L : List Ln) (xs : List Ln) (l : List Fld) (a : Nat) (nm : Bs) : ∀ (v : Bs), (∀ x ∈ L, x.w = true ∧ ¬ 998 < x.s.length ∧ x.s.head?.map blankC = some true) → hdrG n (L ++ xs) l (some ⟨a, nm, v⟩) = hdrG n xs l (some ⟨a, nm, v ++ (L.map Ln.s).flatten⟩) := by
  induction L with
  | nil => intro v _; simp
  | cons x L ih =>
    intro v h
    obtain ⟨h1, h2, h3⟩ := h x (by simp)
    rw [List.cons_append, hdrG_b1 h1 h2 h3, ih _ (fun y hy => h y (by simp [hy]))]
    simp
theorem headT_app {n r : Bs} (h : ∀ c ∈ n, c ≠ 58) : headT (n ++ 58 :: r) 58 = n := by
  unfold headT
  rw [List.takeWhile_append_of_pos (fun c hc => by simpa using h c hc)]
  simp
theorem trim_sp {v : Bs} (h : trim v = v) : trim (if v = [] then [] else 32 :: v) = v := by
  split
  · rename_i e; subst e; rfl
  · have : trim (32 :: v) = trim v := by
      unfold trim
      have : trimL (32 :: v) = trimL v := by unfold trimL; rw [List.dropWhile_cons]; rfl
      rw [this]
    rw [this, h]
/-- A field's lines. -/
theorem fld_lines {f : Fld} (hf : isName f.n ∧ isVal f.v) {o : List Bs} (ho : FoldR (lineF f) (f.n.length + 3) o) (h9 : ∀ s ∈ o, s.length ≤ 998) {n : Nat} {L : List Ln} (hL : L.map Ln.s = o) (hw : ∀ x ∈ L, x.w = true) (xs : List Ln) (l l1 : List Fld) (q : Option Opn) (hs : shutG l q = some l1) :
    ∃ a, hdrG n (L ++ xs) l q = hdrG n xs l1 (some ⟨a, f.n, if f.v = [] then [] else 32 :: f.v⟩) := by
  have hlen : (lineF f).length = f.n.length + 1 + (if f.v = [] then [] else 32 :: f.v).length := by simp [lineF]; omega
  obtain ⟨a, os, rfl, h1, h2, h3⟩ := fold_head ho (by
    rw [hlen]; split <;> simp <;> omega)
  cases L with
  | nil => simp at hL
  | cons x L =>
    simp only [List.map_cons, List.cons.injEq] at hL
    obtain ⟨hx, hL⟩ := hL
    have hxw := hw x (by simp)
    have hx9 : ¬ 998 < x.s.length := by have := h9 a (by simp); rw [hx]; omega
    obtain ⟨c0, nt, hn0⟩ : ∃ c0 nt, f.n = c0 :: nt := by
      cases e : f.n with
      | nil => have := hf.1.1; rw [e] at this; simp at this
      | cons c t => exact ⟨c, t, rfl⟩
    obtain ⟨r, hr⟩ : ∃ r, a = f.n ++ 58 :: r := by
      have e : lineF f = f.n ++ 58 :: (if f.v = [] then [] else 32 :: f.v) := by simp [lineF]
      rw [e] at h2
      rcases List.append_eq_append_iff.1 h2 with ⟨u, h4, h5⟩ | ⟨u, h4, h5⟩
      · cases u with
        | nil =>
          exfalso
          rw [List.append_nil] at h4
          rcases h3 with h3 | h3
          · subst h3; simp at h5
          · rw [← h4] at h3; omega
        | cons d u =>
          exfalso
          rcases h3 with h3 | h3
          · subst h3; simp at h5
          · rw [h4] at h3; simp at h3; omega
      · cases u with
        | nil =>
          exfalso
          rw [List.append_nil] at h4
          rcases h3 with h3 | h3
          · subst h3; simp at h5
          · rw [h4] at h3; omega
        | cons d u =>
          simp at h5
          exact ⟨u, by rw [h4, h5.1]⟩
    have hno : ∀ c ∈ f.n, c ≠ 58 := fun c hc e => (hf.1.2.2 c hc).2.2 (by rw [e]; rfl)
    have hht : headT x.s 58 = f.n := by rw [hx, hr]; exact headT_app hno
    have hnb : ¬ (x.s.head?.map blankC) = some true := by
      rw [hx, hr, hn0]
      simp only [List.cons_append, List.head?_cons, Option.map_some, Option.some.injEq, Bool.not_eq_true]
      have := hf.1.2.2 c0 (by rw [hn0]; simp)
      unfold nameC at this
      unfold blankC
      simp; omega
    have hne : x.s ≠ [] := by rw [hx, hr, hn0]; simp
    refine ⟨x.a, ?_⟩
    rw [List.cons_append, hdrG_open hxw hx9 hnb hs hne (by rw [hht, hx, hr]; simp; exact hf.1), hht]
    rw [blank_all n L xs l1 x.a f.n _ (fun y hy => ⟨hw y (by simp [hy]), by have := h9 y.s (by rw [List.mem_cons, ← hL]; exact .inr (List.mem_map_of_mem hy)); omega, h1 y.s (by rw [← hL]; exact List.mem_map_of_mem hy)⟩)]
    have e : x.s.drop (f.n.length + 1) ++ (L.map Ln.s).flatten = if f.v = [] then [] else 32 :: f.v := by
      have e : lineF f = f.n ++ 58 :: (if f.v = [] then [] else 32 :: f.v) := by simp [lineF]
      rw [e, hr] at h2
      rw [hx, hr, hL]
      simp at h2
      simp [h2]
    rw [e]
/-- A header that is written is read. -/
theorem folds_back {l : List Fld} {os : List Bs} (ho : FoldsR l os) {n : Nat} : (∀ f ∈ l, isName f.n ∧ isVal f.v) → l.length ≤ 128 → (∀ s ∈ os, s.length ≤ 998) → ∀ (L : List Ln), L.map Ln.s = os → (∀ x ∈ L, x.w = true) → ∀ xs : List Ln,
    ∃ (l0 : List Fld) (q : Option Opn), shutG l0 q = some l ∧ hdrG n (L ++ xs) [] none = hdrG n xs l0 q := by
  induction ho with
  | nil =>
    intro _ _ _ L hL _ xs
    obtain rfl : L = [] := by simpa using hL
    exact ⟨[], none, rfl, rfl⟩
  | @snoc l f o os h hf ih =>
    intro hb hl h9 L hL hw xs
    obtain ⟨L1, L2, rfl, h1, h2⟩ := List.map_eq_append_iff.1 hL
    obtain ⟨l0, q, hs, he⟩ := ih (fun g hg => hb g (by simp [hg])) (by simp at hl; omega) (fun s hs => h9 s (by simp [hs])) L1 h1 (fun x hx => hw x (by simp [hx])) (L2 ++ xs)
    obtain ⟨a, ha⟩ := fld_lines (hb f (by simp)) hf (fun s hs => h9 s (by simp [hs])) (n := n) h2 (fun x hx => hw x (by simp [hx])) xs l0 l q hs
    refine ⟨l, _, ?_, by rw [List.append_assoc, he, ha]⟩
    have hv := (hb f (by simp)).2
    unfold shutG
    simp only [trim_sp hv.2.2]
    rw [if_pos ⟨hv, by simp at hl; omega⟩]
theorem FoldsR.cr {l : List Fld} {os : List Bs} (h : FoldsR l os) : (∀ f ∈ l, isName f.n ∧ isVal f.v) → ∀ s ∈ os, noCr s := by
  induction h with
  | nil => intro _ s hs; cases hs
  | @snoc l f o os h hf ih =>
    intro hb s hs
    rcases List.mem_append.1 hs with h1 | h1
    · exact ih (fun g hg => hb g (by simp [hg])) s h1
    · intro c hc
      exact lineF_cr (hb f (by simp)) c (by rw [← hf.flat]; exact List.mem_flatten.2 ⟨s, h1, hc⟩)
theorem hdr_back {l : List Fld} {hd : Bs} (h : hdO l = some hd) (n : Nat) (body : Bs) : hdrG n (lnS 0 (hd ++ body)) [] none = .ok l hd.length := by
  unfold hdO at h
  split at h
  · rename_i hex
    have hw := hex.choose_spec
    cases h
    obtain ⟨b, hb⟩ : ∃ b, b = hex.choose := ⟨_, rfl⟩
    rw [← hb] at hw ⊢
    cases hw with
    | ok h hbb os ho h9 =>
      obtain ⟨L, h1, h2, h3⟩ := emit_lines os (crlf ++ body) (ho.cr hbb) 0
      rw [List.append_assoc, h1]
      have h4 : lnS (0 + (emit os).length) (crlf ++ body) = ⟨0 + (emit os).length, [], true⟩ :: lnS (0 + (emit os).length + 2) body := by
        have := lnS_cat (s := []) (by intro i hp; simp [pairAt] at hp) (0 + (emit os).length) body
        simpa using this
      rw [h4]
      obtain ⟨l0, q, hs, he⟩ := folds_back ho (n := n) hbb h h9 L h2 h3 (⟨0 + (emit os).length, [], true⟩ :: lnS (0 + (emit os).length + 2) body)
      rw [he, hdrG_end rfl rfl hs]
      simp [crlf]
  · cases h
end Go.Proofs.Try

/- Laws: a tree that is written is read as it was. -/
namespace Go.Proofs.Try
open Go Go.SL
set_option linter.unusedVariables false

theorem edge_no {s b : Bs} (h : ¬ dash2 ++ b <+: s) : edgeC s b = 0 := by unfold edgeC edgeG; rw [if_neg h]
theorem edge_nil (b : Bs) : edgeC [] b = 0 := edge_no (by rintro ⟨r, hr⟩; simp [dash2] at hr)
theorem beh_self (a b : Bs) : behind (a ++ b) a = b := by unfold behind; rw [if_pos (List.prefix_append a b), List.drop_left]
theorem edge_one (b : Bs) : edgeC (dash2 ++ b) b = 1 := by
  unfold edgeC edgeG
  rw [if_pos (List.prefix_refl _)]
  have h1 : behind (dash2 ++ b) (dash2 ++ b) = [] := by have := beh_self (dash2 ++ b) []; simpa using this
  rw [h1]
  rfl
theorem edge_two (b : Bs) : edgeC (dash2 ++ b ++ dash2) b = 2 := by
  unfold edgeC edgeG
  rw [if_pos (List.prefix_append _ _), beh_self]
  rfl
/-- A knot's content. -/
def knotT (b : Bs) : List Bs → Bs
  | [] => dash2 ++ b ++ dash2 ++ crlf
  | t :: ts => dash2 ++ b ++ crlf ++ t ++ crlf ++ knotT b ts
theorem cut_skip {l b : Bs} (xs : List Ln) (fr : Option Nat) (out : List Bs) : ∀ L : List Ln, (∀ x ∈ L, edgeC x.s b = 0) → cutG l b (L ++ xs) fr out = cutG l b xs fr out := by
  intro L
  induction L with
  | nil => intro _; rfl
  | cons x L ih =>
    intro h
    rw [List.cons_append, cutG, if_pos (h x (by simp)), ih fun y hy => h y (by simp [hy])]
theorem outN_at {l : Bs} {x y : Ln} (h : x.a = y.a) (fr : Option Nat) (out : List Bs) : outN l x fr out = outN l y fr out := by unfold outN; rw [h]
theorem cut_back {b : Bs} (hb : noCr b) : ∀ (ts : List Bs) (pre : Bs) (fr : Option Nat) (out : List Bs), (∀ t ∈ ts, ¬ begR t (dash2 ++ b)) →
    cutG (pre ++ knotT b ts) b (lnS pre.length (knotT b ts)) fr out = some (outN (pre ++ knotT b ts) ⟨pre.length, [], true⟩ fr out ++ ts) := by
  intro ts
  induction ts with
  | nil =>
    intro pre fr out _
    have h1 : lnS pre.length (knotT b []) = ⟨pre.length, dash2 ++ b ++ dash2, true⟩ :: lnS (pre.length + (dash2 ++ b ++ dash2).length + 2) [] := by
      have := lnS_cat (noCr_pair (noCr_app (dash_cr hb) dash_cr0)) pre.length []
      simpa [knotT] using this
    rw [h1, cutG, edge_two]
    simp only [List.append_nil]
    rw [if_neg (by decide), if_pos trivial]
    exact congrArg some (outN_at rfl fr out)
  | cons t ts ih =>
    intro pre fr out ht
    obtain ⟨K, hK⟩ : ∃ K, K = knotT b (t :: ts) := ⟨_, rfl⟩
    have e1 : K = (dash2 ++ b) ++ crlf ++ (t ++ crlf ++ knotT b ts) := by rw [hK, knotT]; simp
    have h1 : lnS pre.length K = ⟨pre.length, dash2 ++ b, true⟩ :: lnS (pre.length + (dash2 ++ b).length + 2) (t ++ crlf ++ knotT b ts) := by
      rw [e1, lnS_cat (noCr_pair (dash_cr hb))]
    obtain ⟨L, h2, h3⟩ := lnS_text t (knotT b ts) (pre.length + (dash2 ++ b).length + 2)
    have hno := ht t (by simp)
    have h4 : ∀ x ∈ L, edgeC x.s b = 0 := by
      intro x hx
      rcases h3 x hx with h | ⟨y, hy, h⟩
      · rw [h]; exact edge_nil b
      · rw [h]
        refine edge_no fun hp => hno ?_
        have hm : y.s ∈ (lnS 0 t).map Ln.s := by rw [lnS_s 0 (pre.length + (dash2 ++ b).length + 2) t]; exact List.mem_map_of_mem hy
        obtain ⟨z, hz, hz2⟩ := List.mem_map.1 hm
        exact ⟨z, hz, by rw [hz2]; exact hp⟩
    rw [← hK, h1, h2, cutG, edge_one, if_neg (by decide), if_neg (by decide), cut_skip _ _ _ L h4]
    have hn : nextN ⟨pre.length, dash2 ++ b, true⟩ = pre.length + (dash2 ++ b).length + 2 := rfl
    rw [hn]
    obtain ⟨f, hf⟩ : ∃ f, f = pre.length + (dash2 ++ b).length + 2 := ⟨_, rfl⟩
    obtain ⟨pre2, hpre2⟩ : ∃ pre2, pre2 = pre ++ (dash2 ++ b) ++ crlf ++ t ++ crlf := ⟨_, rfl⟩
    have e2 : pre ++ K = pre2 ++ knotT b ts := by rw [e1, hpre2]; simp
    have e3 : pre2.length = f + t.length + 2 := by rw [hpre2, hf]; simp [crlf]; omega
    rw [← hf, ← e3, e2, ih pre2 _ _ fun u hu => ht u (by simp [hu])]
    have e4 : outN (pre2 ++ knotT b ts) ⟨pre2.length, [], true⟩ (some f) (outN (pre2 ++ knotT b ts) ⟨pre.length, dash2 ++ b, true⟩ fr out) = outN (pre2 ++ knotT b ts) ⟨pre.length, [], true⟩ fr out ++ [t] := by
      rw [outN_at (x := ⟨pre.length, dash2 ++ b, true⟩) (y := ⟨pre.length, [], true⟩) rfl]
      conv => lhs; rw [outN]
      simp only []
      have hm : max (pre2.length - 2) f = f + t.length := by omega
      rw [hm]
      have h5 : pre2 ++ knotT b ts = (pre ++ (dash2 ++ b) ++ crlf ++ t) ++ (crlf ++ knotT b ts) := by rw [hpre2]; simp
      have h6 : (pre ++ (dash2 ++ b) ++ crlf ++ t).length = f + t.length := by rw [hf]; simp [crlf]; omega
      have h7 : (pre ++ (dash2 ++ b) ++ crlf).length = f := by rw [hf]; simp [crlf]; omega
      rw [h5, ← h6, List.take_left, ← h7, List.drop_left]
    rw [e4]
    simp
/-- A knot's parts, one by one, are written. -/
theorem wrRl_knot {b : Bs} : ∀ (ps : List Prt) (hd t : Bs), wrRl ps b hd = some t → ∃ ts : List Bs, t = hd ++ knotT b ts ∧ ts.length = ps.length ∧ (∀ u ∈ ts, ¬ begR u (dash2 ++ b)) ∧ ∀ i (h1 : i < ps.length) (h2 : i < ts.length), wrRt ps[i] = some ts[i] := by
  intro ps
  induction ps with
  | nil =>
    intro hd t h
    rw [wrRl] at h
    cases h
    exact ⟨[], by simp [knotT], rfl, by simp, fun i h1 => by simp at h1⟩
  | cons p ps ih =>
    intro hd t h
    rw [wrRl] at h
    split at h
    · cases h
    · rename_i u hu
      split at h
      · cases h
      · rename_i hnb
        obtain ⟨ts, h1, h2, h3, h4⟩ := ih _ _ h
        refine ⟨u :: ts, by rw [h1, knotT]; simp, by simp [h2], fun v hv => ?_, fun i h5 h6 => ?_⟩
        · rcases List.mem_cons.1 hv with rfl | hv
          · exact hnb
          · exact h3 v hv
        · cases i with
          | zero => exact hu
          | succ i => exact h4 i (by simpa using h5) (by simpa using h6)
theorem rdL_all {f : Bs → Nat → (Int ⊕ Prt) × Nat} : ∀ (ps : List Prt) (ts : List Bs) (c : Nat) (acc : List Prt), ts.length = ps.length → (∀ i (h1 : i < ps.length) (h2 : i < ts.length) c', c' + cntN ps[i] ≤ c + cntN.cntNL ps → f ts[i] c' = (.inr ps[i], c' + cntN ps[i])) →
    rdL f ts c acc = (.inr (acc ++ ps), c + cntN.cntNL ps) := by
  intro ps
  induction ps with
  | nil =>
    intro ts c acc hl _
    obtain rfl := List.eq_nil_of_length_eq_zero hl
    rw [rdL]; simp [cntN.cntNL]
  | cons p ps ih =>
    intro ts c acc hl h
    cases ts with
    | nil => simp at hl
    | cons t ts =>
      have h0 := h 0 (by simp) (by simp) c (by simp [cntN.cntNL])
      simp only [List.getElem_cons_zero] at h0
      rw [rdL, h0]
      simp only []
      rw [ih ts _ _ (by simpa using hl) fun i h1 h2 c' hc => ?_]
      · simp [cntN.cntNL]; omega
      · have := h (i + 1) (by simpa using h1) (by simpa using h2) c' (by simp [cntN.cntNL]; omega)
        simpa using this
theorem cntN_pos (p : Prt) : 0 < cntN p := by cases p; rw [cntN]; omega
theorem dep_pos (p : Prt) : 0 < dep p := by cases p; rw [dep]; exact depL_ge _ _
/-- What is written is read. -/
theorem tree_back (k : Nat) : ∀ (p : Prt) (t : Bs) (c : Nat), wrRt p = some t → dep p ≤ k + 1 → c + cntN p ≤ 64 → rdP k t c = (.inr p, c + cntN p) := by
  induction k with
  | zero =>
    intro p t c h hd hc
    obtain ⟨fs, b, ps⟩ := p
    have hps : ps = [] := by
      cases ps with
      | nil => rfl
      | cons q ps =>
        rw [dep] at hd
        have := depL_mem (p := q) (ps := q :: ps) (by simp) 1
        have := dep_pos q
        omega
    subst hps
    rw [wrRt] at h
    rw [cntN] at hc ⊢
    simp only [cntN.cntNL] at hc ⊢
    split at h
    · cases h
    · rename_i hd' hh
      split at h
      · cases h
      · rename_i hk
        split at h
        · rename_i hm
          simp at h
          subst h
          rw [rdP, if_neg (by omega), hdr_back hh]
          simp only []
          rw [if_neg hk, if_pos hm, List.drop_left]
        · simp at h
  | succ k ih =>
    intro p t c h hd hc
    obtain ⟨fs, b, ps⟩ := p
    rw [wrRt] at h
    rw [cntN] at hc ⊢
    split at h
    · cases h
    · rename_i hd' hh
      split at h
      · cases h
      · rename_i hk
        split at h
        · rename_i hm
          split at h
          · rename_i h0
            obtain rfl := List.eq_nil_of_length_eq_zero h0
            simp at h
            subst h
            simp only [cntN.cntNL] at hc ⊢
            rw [rdP, if_neg (by omega), hdr_back hh]
            simp only []
            rw [if_neg hk, if_pos hm, List.drop_left]
          · cases h
        · rename_i hm
          split at h
          · cases h
          · rename_i hor
            obtain ⟨hbo, hor⟩ := not_or.1 hor
            obtain ⟨hp0, hb0⟩ := not_or.1 hor
            obtain rfl : b = [] := List.eq_nil_of_length_eq_zero (by omega)
            obtain ⟨ts, rfl, h1, h2, h3⟩ := wrRl_knot ps hd' t h
            have hcb := cut_back (b := bord (kindO fs).1.ps) (bord_cr _) ts [] none [] h2
            simp only [List.nil_append, List.length_nil] at hcb
            have hout : outN (knotT (bord (kindO fs).1.ps) ts) ⟨0, [], true⟩ none [] = [] := rfl
            rw [hout, List.nil_append] at hcb
            rw [rdP, if_neg (by omega), hdr_back hh]
            simp only []
            rw [if_neg hk, if_neg hm, if_neg hbo, List.drop_left, hcb]
            simp only []
            rw [if_neg (by omega)]
            rw [rdL_all ps ts (c + 1) [] h1 fun i h4 h5 c' hc' => ?_]
            · simp [finR]; omega
            · refine ih ps[i] ts[i] c' (h3 i h4 h5) ?_ (by omega)
              have := depL_mem (p := ps[i]) (ps := ps) (List.getElem_mem h4) 1
              rw [dep] at hd
              omega
theorem write_parse {p : Prt} {t : Bs} (h : wrR p = some t) : psP t = .inr p := by
  unfold wrR at h
  split at h
  · cases h
  · rename_i hc
    obtain ⟨h1, h2⟩ := not_or.1 hc
    unfold capO at h
    obtain ⟨u, hu, h⟩ := Option.bind_eq_some_iff.1 h
    split at h
    · cases h
    · rename_i hl
      cases h
      unfold psP
      rw [if_neg hl, tree_back 7 p t 0 hu (by omega) (by omega)]
end Go.Proofs.Try

/- Walks: what is written is read as it was; what is read, if it can be written, is read as the same. -/
namespace Go.Proofs.Try
open Go Go.SL
set_option linter.unusedVariables false
set_option linter.unusedSimpArgs false
attribute [local congr] WX_stop WC_stop W_stop
variable [LayerC]
@[simp] theorem muB3 : (cs0.of 3).mu = false := rfl
@[simp] theorem reB3 : (cs0.of 3).reuse = false := rfl
@[simp] theorem muB4 : (cs0.of 4).mu = false := rfl
@[simp] theorem reB4 : (cs0.of 4).reuse = false := rfl
set_option maxRecDepth 100000 in
theorem wBack (m : Nat) (p : Prt) (cs : List CV) (H : Hp) (hp : PV p cs) : Ret prog cs0 m 3 [.agg cs] H (.v (.bool true)) H := by
  have hp0 := hp
  obtain ⟨f, x, q, ch, rfl, hf, hb, hcl, hch1, hrs, hq, hch⟩ := hp.inv
  have of := hf.one
  have ob := hb.one
  have oq := hq.one
  unfold Ret
  rw [WC_drop rfl func3 rfl rfl]
  have c5 := fun H2 => (w5 H.length H2).wc
  obtain ⟨g, hg, h10⟩ := w10 12 (by omega) p H.length [f, x, q] (H ++ [CO.cells 0 [f, x, q] 26]) hp0
  have c10 : ∀ K, WC prog cs0 H.length (.f 6) [.agg [f, x, q], .v (.int .i64 12)] (H ++ [CO.cells 0 [f, x, q] 26]) K ↔ K (.v (.bool g)) (H ++ [CO.cells 0 [f, x, q] 26]) := h10.wc
  cases g with
  | true =>
    simp -implicitDefEqProofs [f3, cells_agg, of, ob, oq, load_aggp underlying26 rfl iT26, c10, c5]
  | false =>
  have hng : ¬ grT 12 p := fun h => by have := hg.2 h; cases this
  obtain ⟨hlin, hdep⟩ := not_great 12 p hng
  have h11 := w11 H.length p 80 [f, x, q] (H ++ [CO.cells 0 [f, x, q] 26]) hlin.lim (by omega) hp0
  have c11 := h11.wc
  by_cases hfew : cntW p ≤ 80
  case neg =>
    simp -implicitDefEqProofs [f3, cells_agg, of, ob, oq, load_aggp underlying26 rfl iT26, c10, c11, c5, hfew]
  simp -implicitDefEqProofs [f3, cells_agg, of, ob, oq, load_aggp underlying26 rfl iT26, c10, c11, c5, hfew]
  refine WC_mono (w12 p hlin _ [f, x, q] _ hp0) ?_
  rintro y1 H2 ⟨e2, hy1⟩
  rw [e2]
  clear e2 H2
  rw [wr_law] at hy1
  have hln : ∀ H, dLenS prog 23 nilC H = some (.v (.int .i64 0)) := fun H => dLenS_nil underlying23 0 0 H
  cases ho : wrR p with
  | none =>
    rw [ho] at hy1
    obtain rfl : y1 = .tup [nilC, .v (.int .i64 81)] := hy1
    simp -implicitDefEqProofs [dExtract, c5, hln]
  | some t =>
    rw [ho] at hy1
    obtain ⟨htl, z, hz, rfl⟩ := hy1
    have uz := hz.unl
    simp -implicitDefEqProofs [dExtract, uz]
    refine WC_mono (w7 _ z t _ (hz.rb _)) ?_
    rintro y2 H2 ⟨e2, hy2⟩
    rw [e2]
    clear e2 H2
    rw [write_parse ho] at hy2
    obtain ⟨cs2, hp2, rfl⟩ := hy2
    have c9 : ∀ H2 K, WC prog cs0 H.length (.f 11) [.agg [f, x, q], .agg cs2] H2 K ↔ K (.v (.bool true)) H2 := by
      intro H2
      obtain ⟨r, hr, h9⟩ := w9 p hlin.lim p H.length [f, x, q] cs2 H2 hp0 hp2
      rw [hr.2 rfl] at h9; exact h9.wc
    obtain ⟨u1, u2, u3, ch2, rfl, g1, g2, -, -, -, g3, -⟩ := hp2.inv
    have o1 := g1.one
    have o2 := g2.one
    have o3 := g3.one
    have hst : ∀ k x off, stQ H.length (.ptr (H.length + k) 0 off) x = true := fun k x off => by simp [stQ]
    simp -implicitDefEqProofs [aQ, dAlloc, dExtract, store_at iT26, cells_agg, o1, o2, o3, hst, c5, load_aggp underlying26 rfl iT26, c9]
theorem lim_nil : Lim (.mk [] [] []) := .mk (by simp) (by simp) (by simp) (by simp) (by simp)
theorem pv_nil : PV (.mk [] [] []) [nilC, nilC, nilC] := PV.of (fs := []) (.inr ⟨rfl, rfl, rfl⟩) (.inr ⟨rfl, rfl, rfl⟩) PVs.nil (.inr ⟨rfl, rfl, rfl⟩)
set_option maxRecDepth 100000 in
theorem wAgain (m : Nat) (x : CV) (b : Bs) (H : Hp) (hx : CB x b) : Ret prog cs0 m 4 [x] H (.v (.bool true)) H := by
  unfold Ret
  rw [WC_drop rfl func4 rfl rfl]
  have ux := hx.unl
  have hlen := fun H => (hx.rb H).len (P := prog) underlying23
  have c5 := fun H2 => (w5 H.length H2).wc
  by_cases hbig : 8000 < b.length
  · simp -implicitDefEqProofs [f4, ux, hlen, hbig, c5]
  have hst : ∀ k x off, stQ H.length (.ptr (H.length + k) 0 off) x = true := fun k x off => by simp [stQ]
  have hst0 : ∀ x off, stQ H.length (.ptr H.length 0 off) x = true := fun x off => by simp [stQ]
  simp -implicitDefEqProofs [f4, ux, hlen, hbig]
  refine WC_mono (w7 _ _ b _ (hx.rb _)) ?_
  rintro y1 H2 ⟨e2, hy1⟩
  rw [e2]
  clear e2 H2
  cases hps : psP b with
  | inl e =>
    rw [hps] at hy1
    obtain ⟨he, rfl⟩ := hy1
    have c9 : ∀ H2 K, WC prog cs0 H.length (.f 11) [.agg [nilC, nilC, nilC], .agg [nilC, nilC, nilC]] H2 K ↔ K (.v (.bool true)) H2 := by
      intro H2
      obtain ⟨r, hr, h9⟩ := w9 _ lim_nil _ H.length _ _ H2 pv_nil pv_nil
      rw [hr.2 rfl] at h9; exact h9.wc
    simp -implicitDefEqProofs [aQ, dAlloc, dExtract, store_at iT26, cells_agg, hst, hst0, load_aggp underlying26 rfl iT26, c5, c9, he, b26_0]
  | inr p =>
    rw [hps] at hy1
    obtain ⟨cs1, hp1, rfl⟩ := hy1
    have hp0 := hp1
    have hlin := ps_lin (by omega) hps
    obtain ⟨v1, v2, v3, ch, rfl, g1, g2, -, -, -, g3, -⟩ := hp1.inv
    have o1 := g1.one
    have o2 := g2.one
    have o3 := g3.one
    simp -implicitDefEqProofs [aQ, dAlloc, dExtract, store_at iT26, cells_agg, o1, o2, o3, hst, hst0, load_aggp underlying26 rfl iT26]
    refine WC_mono (w12 p hlin _ [v1, v2, v3] _ hp0) ?_
    rintro y1 H2 ⟨e2, hy1⟩
    rw [e2]
    clear e2 H2
    rw [wr_law] at hy1
    cases ho : wrR p with
    | none =>
      rw [ho] at hy1
      obtain rfl : y1 = .tup [nilC, .v (.int .i64 81)] := hy1
      simp -implicitDefEqProofs [dExtract, c5]
    | some t =>
      rw [ho] at hy1
      obtain ⟨htl, z, hz, rfl⟩ := hy1
      have uz := hz.unl
      simp -implicitDefEqProofs [dExtract, uz]
      refine WC_mono (w7 _ z t _ (hz.rb _)) ?_
      rintro y2 H2 ⟨e2, hy2⟩
      rw [e2]
      clear e2 H2
      rw [write_parse ho] at hy2
      obtain ⟨cs2, hp2, rfl⟩ := hy2
      have c9 : ∀ H2 K, WC prog cs0 H.length (.f 11) [.agg [v1, v2, v3], .agg cs2] H2 K ↔ K (.v (.bool true)) H2 := by
        intro H2
        obtain ⟨r, hr, h9⟩ := w9 p hlin.lim p H.length [v1, v2, v3] cs2 H2 hp0 hp2
        rw [hr.2 rfl] at h9; exact h9.wc
      obtain ⟨u1, u2, u3, ch2, rfl, g1', g2', -, -, -, g3', -⟩ := hp2.inv
      have o1' := g1'.one
      have o2' := g2'.one
      have o3' := g3'.one
      simp -implicitDefEqProofs [aQ, dAlloc, dExtract, store_at iT26, cells_agg, o1, o2, o3, o1', o2', o3', hst, hst0, c5, load_aggp underlying26 rfl iT26, c9]
end Go.Proofs.Try

/- The law PartsAgain: for every input the call returns true, and the argument reads behind it as it did. -/
namespace Go.Proofs.Ytkodlakpjpmbiaa
open Go.ChangeShapes Go.WideShapes Go.ChangeAt Go.RowKit
set_option linter.unusedVariables false

theorem Try.own : ownKnob Try.prog.godebug = none := by kernel_rfl
theorem Try.laidOut : laidOutB Try.prog = true := by kernel_rfl
theorem max_cell {W : World} (h : W.ShapedOpen Try.prog) : ∃ m, W.cell? ⟨0, 0, none⟩ = some (.int .i64 m) :=
  cell_of_shapedOpen_int (t := 3) (zero := #[.int .i64 0]) h (of_decide_eq_true (by kernel_rfl)) (by kernel_rfl) rfl (by kernel_rfl) (by kernel_rfl) Try.underlying3
set_option maxRecDepth 100000 in
theorem again_lifted (os : Os) (started : os.Started) (H : Type) (enc : TypeId × Value → H) :
    ReturnsInHanded {} Try.checked os 4 .any (Rows.partsAgainSpec.pre6 enc Try.prog Try.f4 Rows.partsAgainRow.domain false) (Rows.partsAgainSpec.post enc Try.prog Try.f4 false true false false) := by
  refine returnsInHanded_of_change_shaped (C := Try.checked) Try.own started (by kernel_rfl) Try.func4
    (ChangeSpec.witness6 (enc := enc) (C := Try.checked) false ⟨#[], #[.slice none 0 0], []⟩ 8 (by kernel_rfl) (by kernel_rfl) (by kernel_rfl) (by kernel_rfl)) ?_
  intro W base args ds gs before hval0 hW hcnd _ hsh _
  have hval : ∀ (j : Nat) t v, Try.f4.params[j]? = some t → args[j]? = some v → Value.okWide Try.prog W .any base t v := hval0
  have hW' := hW
  obtain ⟨p, q, hA0, hV, rfl, hfz, hnd⟩ := hW
  have hA : DataW.TrodAll enc Try.prog W 0 (fun _ => true) true Try.f4.params.toList args.toList ds p := hA0
  rw [Try.params4] at hA hval
  obtain ⟨v0, vs0, d0, ds0, p0, q0, hargs, rfl, rfl, h0, r0⟩ := trodAll_cons hA
  obtain ⟨rfl, rfl, rfl⟩ := trodAll_nil r0
  obtain rfl : args = #[v0] := by cases args; simp_all
  obtain ⟨rfl, rfl⟩ := trodVars_none hV
  have hok := hval 0 23 v0 rfl rfl
  obtain ⟨a0, len0, cap0, rfl⟩ := okWide_slice Try.underlying23 hok
  have k0 := h0
  have lt0 : ∀ x ∈ p0, x.block < W.heap.size := by obtain ⟨m, hm⟩ := k0; exact DataW.trod_lt m _ _ _ hm
  obtain ⟨zs, hz⟩ : ∃ zs : List Int, (a0 = none ∧ len0 = 0 ∧ cap0 = 0) ∨ ∃ x, a0 = some x ∧ x.spot = none ∧ len0 ≤ cap0 ∧ zs.length = cap0 ∧ (∀ i, i < zs.length → W.cell? (x.add i) = some (.int .u8 (zs.getD i 0))) ∧ ∀ n ∈ zs, 0 ≤ n ∧ n < 256 := by
    obtain ⟨fuel, hf⟩ := h0
    rcases open_ints Try.underlying23 Try.underlying5 (by kernel_rfl) hf with ⟨hcs, _⟩ | ⟨x, l, c, zs, hcs, _, hl, hm, hz, _, hcell, hwz⟩
    · simp [Value.cells] at hcs
      obtain ⟨rfl, rfl, rfl⟩ := hcs
      exact ⟨[], .inl ⟨rfl, rfl, rfl⟩⟩
    · simp [Value.cells] at hcs
      obtain ⟨rfl, rfl, rfl⟩ := hcs
      refine ⟨zs, .inr ⟨_, rfl, ?_, hl, by simpa using hz, hcell, fun n hn => ?_⟩⟩
      · have : W.has Try.prog .any base x 5 cap0 := by
          simp only [Value.okWide, Try.underlying23, Cell.okWide, Cell.ok] at hok
          exact hok.2.2
        exact this.2.1
      · have := hwz n hn
        simp [Lit.wf, IntKind.min, IntKind.max, IntKind.signed, IntKind.bits] at this
        omega
  obtain ⟨x, b, hx, hvr⟩ := Go.Proofs.Try.byt_vr hz
  obtain ⟨mx, hmx⟩ := max_cell hsh
  refine (Go.Proofs.Try.law_calls (mx := mx) (xs := [x]) Try.func4 (by intro h; cases h) hmx ⟨rfl, fun i hi hi' => by
    have : i = 0 := by simp at hi; exact hi
    subst this; exact hvr⟩ (@Go.Proofs.Try.wAgain Go.Proofs.Try.L1 0 x b [] hx)).mono fun e W' ⟨he, bel⟩ => ?_
  subst he
  exact ⟨_, rfl, _, _, _, [], _, [], hW', trodAll_mk1 (shut_bool Try.underlying4 _), (trodAll_cons_mk (Below.trod Try.laidOut (by kernel_rfl) (of_decide_eq_true (by kernel_rfl)) k0 bel lt0) trodAll_mk0), rfl, bel.frame _, fun h => by cases h⟩
theorem partsAgain_holds : Rows.PartsAgainSaid :=
  OpenClaim.holds_of_wide 4 Try.f4 rfl rfl rfl rfl rfl rfl rfl ⟨rfl, rfl, rfl, rfl, rfl⟩ rfl rfl rfl rfl rfl (by kernel_rfl) Try.func4 (by kernel_rfl)
    (of_decide_eq_true (by kernel_rfl)) (by unfold Func.isWrapper; first | (rw [if_pos (by decide +kernel)]; kernel_rfl) | (rw [if_neg (by decide +kernel)]; exact ⟨rfl, rfl⟩))
    (fun os started H enc _ => again_lifted os started H enc)
end Go.Proofs.Ytkodlakpjpmbiaa

/- From the evaluator to a row: trees among the arguments. -/
namespace Go.SL
open Go.ChangeShapes Go.RowKit
set_option linter.unusedVariables false
section
variable {H : Type} {enc : TypeId × Value → H} {P : Program} {W : World} {base : Nat} {spare : Nat → Bool} {held : Bool}
/-- Cells that can be read stand at addresses without a spot. -/
theorem cell_addr {a : Addr} {u : Value} (h : W.cell? a = some u) : a = ⟨a.block, a.off, none⟩ := by
  obtain ⟨b, o, sp⟩ := a
  cases sp with
  | none => rfl
  | some s => simp [World.cell?] at h; split at h <;> simp at h
/-- A slice that is read, whose elements are. -/
theorem rd_sl {κ : Type} {R : κ → List CV → Prop} {t e : TypeId} {sz fuel : Nat} {cs : List Value} {x : DataW H × List MemPlace} (ht : P.underlying t = some (.slice e)) (hsz : P.cellsOf e = sz) (hpos : 0 < sz)
    (hR : ∀ n, n < fuel → ∀ (cs : List Value) y, DataW.trod enc P W base spare held n e cs = some y → ∃ k c, R k c ∧ c.length = sz ∧ cs.length = sz ∧ ∀ i (h1 : i < c.length) (h2 : i < cs.length), VC (g0 W).im c[i] cs[i] ∧ cs[i].oneCell' = true)
    (h : DataW.trod enc P W base spare held fuel t cs = some x) :
    ∃ (y : CV) (v : Value) (ks : List κ) (ch : List (List CV)), cs = [v] ∧ Cls y ch.flatten ch.length sz ∧ Chunks ch sz ∧ VC (g0 W).im y v ∧ v.oneCell' = true ∧ ks.length = ch.length ∧ (∀ i (h1 : i < ks.length) (h2 : i < ch.length), R ks[i] ch[i]) := by
  rcases DataW.trod_slice ht h with ⟨rfl, _⟩ | ⟨a, len, cap, elems, rest, n, rfl, rfl, rfl, hb, hl, hm, hlen, hel, hsp, hns⟩
  · exact ⟨nilC, _, [], [], rfl, .inr ⟨rfl, rfl, rfl⟩, (fun c hc => by cases hc), .v rfl, rfl, rfl, (fun i h1 => by simp at h1)⟩
  · have each : ∀ i : Fin len, ∃ q : κ × List CV × List Value, R q.1 q.2.1 ∧ q.2.1.length = sz ∧ W.cells? base (a.add (i.1 * sz)) sz = some q.2.2 ∧ q.2.2.length = sz ∧ ∀ j (h1 : j < q.2.1.length) (h2 : j < q.2.2.length), VC (g0 W).im q.2.1[j] q.2.2[j] ∧ q.2.2[j].oneCell' = true := by
      intro i
      have h1 := hel i.1 i.2
      have h2 : i.1 < elems.length := by omega
      rw [List.getElem?_eq_getElem h2, hsz] at h1
      obtain ⟨us, hus, hy⟩ := Option.bind_eq_some_iff.1 h1
      obtain ⟨k, c, h3, h4, h5, h6⟩ := hR n (by omega) us _ hy
      exact ⟨(k, c, us), h3, h4, hus, h5, h6⟩
    let f := fun i => Classical.choose (each i)
    have hf := fun i => Classical.choose_spec (each i)
    have hfe : ∀ i, Classical.choose (each i) = f i := fun i => rfl
    simp only [hfe] at hf
    clear_value f
    have hch : Chunks (List.ofFn fun i => (f i).2.1) sz := by
      intro c hc
      obtain ⟨i, rfl⟩ := (List.mem_ofFn).1 hc
      exact (hf i).2.1
    have hfl := hch.len
    rw [List.length_ofFn] at hfl
    have cell : ∀ (i : Fin len) (r : Nat) (hr : r < sz), W.cell? ((a.add (i.1 * sz)).add r) = (f i).2.2[r]? := fun i r hr => (World.cells?_some (hf i).2.2.1).2.2 r hr
    have hadr : 0 < len → a = ⟨a.block, a.off, none⟩ := by
      intro hp
      have h1 := cell ⟨0, hp⟩ 0 hpos
      rw [List.getElem?_eq_getElem (by rw [(hf ⟨0, hp⟩).2.2.2.1]; exact hpos)] at h1
      have h2 : (a.add (0 * sz)).add 0 = a := by simp [Addr.add]
      rw [h2] at h1
      exact cell_addr h1
    have at' : ∀ j, j < len * sz → ∃ (hi : j / sz < len) (hr : j % sz < sz) (h1 : j % sz < (f ⟨j / sz, hi⟩).2.1.length) (h2 : j % sz < (f ⟨j / sz, hi⟩).2.2.length), W.cell? ⟨a.block, a.off + j, none⟩ = some ((f ⟨j / sz, hi⟩).2.2[j % sz]) ∧
        (List.ofFn fun i => (f i).2.1).flatten[j]? = some ((f ⟨j / sz, hi⟩).2.1[j % sz]) := by
      intro j hj
      have hi : j / sz < len := (Nat.div_lt_iff_lt_mul hpos).2 hj
      have hr := Nat.mod_lt j hpos
      refine ⟨hi, hr, by rw [(hf _).2.1]; exact hr, by rw [(hf _).2.2.2.1]; exact hr, ?_, ?_⟩
      · have h1 := cell ⟨j / sz, hi⟩ _ hr
        rw [List.getElem?_eq_getElem (by rw [(hf _).2.2.2.1]; exact hr)] at h1
        rw [← h1]
        have e := hadr (Nat.lt_of_le_of_lt (Nat.zero_le _) hi)
        have h3 : j / sz * sz + j % sz = j := Nat.div_add_mod' j sz
        rw [e]
        simp only [Addr.add_lit]
        rw [Nat.add_assoc, h3]
      · have h3 : j / sz * sz + j % sz = j := Nat.div_add_mod' j sz
        have h4 := hch.get (i := j / sz) (k := j % sz) (by rw [List.length_ofFn]; exact hi) hr
        rw [h3] at h4
        rw [h4, List.getElem_ofFn, List.getElem?_eq_getElem]
    refine ⟨.im (List.ofFn fun i => (f i).2.1).flatten len sz, _, List.ofFn fun i => (f i).1, List.ofFn fun i => (f i).2.1, rfl, .inl (by rw [List.length_ofFn]), hch, .im (f := fun j => (W.cell? ⟨a.block, a.off + j, none⟩).getD undef) hfl hl hadr (fun j hj => ?_) (fun j hj => ?_), rfl, by rw [List.length_ofFn, List.length_ofFn], fun i h1 h2 => ?_⟩
    · rw [hfl] at hj
      obtain ⟨hi, hr, h1, h2, h3, h4⟩ := at' j hj
      rw [h3]
      exact im_g0 h3 ((hf ⟨j / sz, hi⟩).2.2.2.2 (j % sz) h1 h2).2
    · have hj' := hj
      rw [hfl] at hj'
      obtain ⟨hi, hr, h1, h2, h3, h4⟩ := at' j hj'
      have h5 : (List.ofFn fun i => (f i).2.1).flatten[j] = (f ⟨j / sz, hi⟩).2.1[j % sz] := by
        rw [List.getElem?_eq_getElem hj] at h4
        exact Option.some.inj h4
      rw [h3, h5]
      exact ((hf ⟨j / sz, hi⟩).2.2.2.2 (j % sz) h1 h2).1
    · rw [List.getElem_ofFn, List.getElem_ofFn]
      exact (hf _).1
/-- A text that is read. -/
theorem rd_str {t : TypeId} {fuel : Nat} {cs : List Value} {x : DataW H × List MemPlace} (ht : P.underlying t = some .string) (h : DataW.trod enc P W base spare held fuel t cs = some x) :
    ∃ (s : Bs) (v : Value), cs = [v] ∧ VC (g0 W).im (str s) v ∧ v.oneCell' = true := by
  obtain ⟨s, rfl, _, _⟩ := DataW.trod_string ht h
  exact ⟨s.data.toList, _, rfl, .v rfl, rfl⟩
/-- A byte that is read. -/
theorem rd_u8 {t : TypeId} {fuel : Nat} {cs : List Value} {x : DataW H × List MemPlace} (ht : P.underlying t = some (.int .u8)) (h : DataW.trod enc P W base spare held fuel t cs = some x) :
    ∃ (s : UInt8) (v : Value), cs = [v] ∧ VC (g0 W).im (u8 s) v ∧ v.oneCell' = true := by
  obtain ⟨n, rfl, _, hw⟩ := DataW.trod_int ht h
  have : 0 ≤ n ∧ n < 256 := by
    simp [Lit.wf, IntKind.min, IntKind.max, IntKind.signed, IntKind.bits] at hw
    omega
  refine ⟨n.toNat.toUInt8, _, rfl, ?_, rfl⟩
  have : u8 n.toNat.toUInt8 = .v (.int .u8 n) := by
    simp only [u8]
    congr 2
    simp
    omega
  rw [this]
  exact .v rfl
/-- Bytes that are read. -/
theorem rd_bytes {t e : TypeId} {fuel : Nat} {cs : List Value} {x : DataW H × List MemPlace} (ht : P.underlying t = some (.slice e)) (he : P.underlying e = some (.int .u8)) (hc : P.cellsOf e = 1) (h : DataW.trod enc P W base spare held fuel t cs = some x) :
    ∃ (y : CV) (b : Bs) (v : Value), cs = [v] ∧ CB y b ∧ VC (g0 W).im y v ∧ v.oneCell' = true := by
  obtain ⟨y, v, ks, ch, rfl, hy, hch, hv, h1, hl, hR⟩ := rd_sl (R := fun (k : UInt8) c => c = [u8 k]) ht hc (by omega) (fun n hn cs y h => by
    obtain ⟨s, v, rfl, hv, h1⟩ := rd_u8 he h
    refine ⟨s, [u8 s], rfl, rfl, rfl, fun i h1' h2 => ?_⟩
    have : i = 0 := by simp at h2; exact h2
    subst this
    exact ⟨hv, h1⟩) h
  have hfl : ch.flatten = u8s ks := by
    have : ch = ks.map fun k => [u8 k] := by
      refine List.ext_getElem (by simp [hl]) fun i h1 h2 => ?_
      rw [List.getElem_map]
      exact hR i (by omega) h1
    rw [this]
    clear this hR hl h hv hy hch
    induction ks with
    | nil => rfl
    | cons k ks ih => rw [List.map_cons, List.flatten_cons, ih]; rfl
  refine ⟨y, ks, v, rfl, ?_, hv, h1⟩
  rw [hfl, ← hl] at hy
  rcases hy with rfl | ⟨h1, _, rfl⟩
  · exact .inl rfl
  · refine .inr ⟨h1, by rw [List.eq_nil_of_length_eq_zero h1]; rfl, rfl⟩
end
end Go.SL

/- A tree of parts that is read. -/
namespace Go.Proofs.Try
open Go Go.SL Go.RowKit Go.ChangeShapes Go.Deep
set_option linter.unusedVariables false
section
variable {H : Type} {enc : TypeId × Value → H} {W : World} {base : Nat} {spare : Nat → Bool} {held : Bool}
theorem len2 {α : Type} {l : List α} (h : l.length = 2) : ∃ a b, l = [a, b] := by
  match l, h with
  | [a, b], _ => exact ⟨a, b, rfl⟩
theorem len3 {α : Type} {l : List α} (h : l.length = 3) : ∃ a b c, l = [a, b, c] := by
  match l, h with
  | [a, b, c], _ => exact ⟨a, b, c, rfl⟩
/-- A field that is read. -/
theorem rd_fld {fuel : Nat} {cs : List Value} {x : DataW H × List MemPlace} (h : DataW.trod enc prog W base spare held fuel 41 cs = some x) :
    ∃ (k : Fld) (c : List CV), c = k.c ∧ c.length = 2 ∧ cs.length = 2 ∧ ∀ i (h1 : i < c.length) (h2 : i < cs.length), VC (g0 W).im c[i] cs[i] ∧ cs[i].oneCell' = true := by
  have hcl : prog.cellsOf 41 = 2 := by kernel_rfl
  have hc9 : prog.cellsOf 9 = 1 := by kernel_rfl
  obtain ⟨y0, y1, n, rfl, hl, h0, h1⟩ := trod_struct2 underlying41 h
  rw [hcl] at hl
  obtain ⟨a, b, rfl⟩ := len2 hl
  clear hl
  · simp only [hc9] at h0 h1
    obtain ⟨s0, v0, e0, hv0, o0⟩ := rd_str underlying9 h0
    obtain ⟨s1, v1, e1, hv1, o1⟩ := rd_str underlying9 h1
    simp at e0 e1
    subst e0 e1
    refine ⟨⟨s0, s1⟩, [str s0, str s1], rfl, rfl, rfl, fun i h1 h2 => ?_⟩
    match i, h1 with
    | 0, _ => exact ⟨hv0, o0⟩
    | 1, _ => exact ⟨hv1, o1⟩
/-- A part that is read. -/
theorem rd_part (fuel : Nat) : ∀ {cs : List Value} {x : DataW H × List MemPlace} (h : DataW.trod enc prog W base spare held fuel 26 cs = some x),
    ∃ (k : Prt) (c : List CV), PV k c ∧ c.length = 3 ∧ cs.length = 3 ∧ ∀ i (h1 : i < c.length) (h2 : i < cs.length), VC (g0 W).im c[i] cs[i] ∧ cs[i].oneCell' = true := by
  have hcl : prog.cellsOf 26 = 3 := by kernel_rfl
  have hc25 : prog.cellsOf 22 = 1 := by kernel_rfl
  have hc22 : prog.cellsOf 23 = 1 := by kernel_rfl
  have hc26 : prog.cellsOf 24 = 1 := by kernel_rfl
  have hc67 : prog.cellsOf 41 = 2 := by kernel_rfl
  have hc5 : prog.cellsOf 5 = 1 := by kernel_rfl
  induction fuel using Nat.strongRecOn with
  | _ fuel ih =>
  intro cs x h
  obtain ⟨ys, n, rfl, rfl, hl, hlen, hf⟩ := DataW.trod_struct underlying26 h
  rw [hcl] at hl
  obtain ⟨y0, y1, y2, rfl⟩ := len3 hlen
  obtain ⟨a, b, c, rfl⟩ := len3 hl
  have h0 : DataW.trod enc prog W base spare held n 22 (([a, b, c].drop 0).take (prog.cellsOf 22)) = some y0 := hf 0 _ rfl
  have h1 : DataW.trod enc prog W base spare held n 23 (([a, b, c].drop 1).take (prog.cellsOf 23)) = some y1 := hf 1 _ rfl
  have h2 : DataW.trod enc prog W base spare held n 24 (([a, b, c].drop 2).take (prog.cellsOf 24)) = some y2 := hf 2 _ rfl
  clear hf hl hlen h
  · simp only [hc25, hc22, hc26] at h0 h1 h2
    obtain ⟨f, v0, fs, ch0, e0, f0, c0, hv0, o0, l0, r0⟩ := rd_sl (R := fun (k : Fld) c => c = k.c) underlying22 hc67 (by omega) (fun n hn cs y h => rd_fld h) h0
    obtain ⟨y, bs, v1, e1, f1, hv1, o1⟩ := rd_bytes underlying23 underlying5 hc5 h1
    obtain ⟨q, v2, ps, ch2, e2, f2, c2, hv2, o2, l2, r2⟩ := rd_sl (R := PV) underlying24 hcl (by omega) (fun m hm cs y h => ih m (by omega) h) h2
    simp at e0 e1 e2
    subst e0 e1 e2
    have hch0 : ch0 = fs.map Fld.c := by
      refine List.ext_getElem (by rw [List.length_map, l0]) fun i h1 h2 => ?_
      rw [List.getElem_map]
      exact r0 i (by omega) h1
    rw [← l0, hch0] at f0
    refine ⟨.mk fs bs ps, [f, y, q], .mk f0 f1 l2.symm c2 (by rw [l2]; exact f2) r2, rfl, rfl, fun i h1 h2 => ?_⟩
    match i, h1 with
    | 0, _ => exact ⟨hv0, o0⟩
    | 1, _ => exact ⟨hv1, o1⟩
    | 2, _ => exact ⟨hv2, o2⟩
end
end Go.Proofs.Try

/- The law PartsBack: for every input the call returns true, and the argument reads behind it as it did. -/
namespace Go.Proofs.Ytkodlakpjpmbiaa
open Go.ChangeShapes Go.WideShapes Go.ChangeAt Go.RowKit
set_option linter.unusedVariables false
set_option maxRecDepth 100000 in
theorem back_lifted (os : Os) (started : os.Started) (H : Type) (enc : TypeId × Value → H) :
    ReturnsInHanded {} Try.checked os 3 .any (Rows.partsBackSpec.pre6 enc Try.prog Try.f3 Rows.partsBackRow.domain false) (Rows.partsBackSpec.post enc Try.prog Try.f3 false true false false) := by
  refine returnsInHanded_of_change_shaped (C := Try.checked) Try.own started (by kernel_rfl) Try.func3
    (ChangeSpec.witness6 (enc := enc) (C := Try.checked) false ⟨#[], #[.agg #[.slice none 0 0, .slice none 0 0, .slice none 0 0]], []⟩ 8 (by kernel_rfl) (by kernel_rfl) (by kernel_rfl) (by kernel_rfl)) ?_
  intro W base args ds gs before hval0 hW hcnd _ hsh _
  have hval : ∀ (j : Nat) t v, Try.f3.params[j]? = some t → args[j]? = some v → Value.okWide Try.prog W .any base t v := hval0
  have hW' := hW
  obtain ⟨p, q, hA0, hV, rfl, hfz, hnd⟩ := hW
  have hA : DataW.TrodAll enc Try.prog W 0 (fun _ => true) true Try.f3.params.toList args.toList ds p := hA0
  rw [Try.params3] at hA hval
  obtain ⟨v0, vs0, d0, ds0, p0, q0, hargs, rfl, rfl, h0, r0⟩ := trodAll_cons hA
  obtain ⟨rfl, rfl, rfl⟩ := trodAll_nil r0
  obtain rfl : args = #[v0] := by cases args; simp_all
  obtain ⟨rfl, rfl⟩ := trodVars_none hV
  have hok := hval 0 26 v0 rfl rfl
  obtain ⟨cs0, rfl, hsz⟩ := okWide_struct Try.underlying26 hok
  have k0 := h0
  have lt0 : ∀ x ∈ p0, x.block < W.heap.size := by obtain ⟨m, hm⟩ := k0; exact DataW.trod_lt m _ _ _ hm
  obtain ⟨fuel, hf⟩ := h0
  obtain ⟨k, c, hk, hc3, hl3, hcs⟩ := Go.Proofs.Try.rd_part fuel hf
  simp only [Value.cells] at hl3 hcs
  obtain ⟨mx, hmx⟩ := max_cell hsh
  refine (Go.Proofs.Try.law_calls (mx := mx) (xs := [.agg c]) Try.func3 (by intro h; cases h) hmx ⟨rfl, fun i hi hi' => by
    have : i = 0 := by simp at hi; exact hi
    subst this; exact .agg (by rw [hc3]; simpa using hl3.symm) fun j h1 h2 => .cl (by simpa using (hcs j h1 (by simpa using h2)).1)⟩ (@Go.Proofs.Try.wBack Go.Proofs.Try.L1 0 k c [] hk)).mono fun e W' ⟨he, bel⟩ => ?_
  subst he
  exact ⟨_, rfl, _, _, _, [], _, [], hW', trodAll_mk1 (shut_bool Try.underlying4 _), (trodAll_cons_mk (Below.trod Try.laidOut (by kernel_rfl) (of_decide_eq_true (by kernel_rfl)) k0 bel lt0) trodAll_mk0), rfl, bel.frame _, fun h => by cases h⟩
theorem partsBack_holds : Rows.PartsBackSaid :=
  OpenClaim.holds_of_wide 3 Try.f3 rfl rfl rfl rfl rfl rfl rfl ⟨rfl, rfl, rfl, rfl, rfl⟩ rfl rfl rfl rfl rfl (by kernel_rfl) Try.func3 (by kernel_rfl)
    (of_decide_eq_true (by kernel_rfl)) (by unfold Func.isWrapper; first | (rw [if_pos (by decide +kernel)]; kernel_rfl) | (rw [if_neg (by decide +kernel)]; exact ⟨rfl, rfl⟩))
    (fun os started H enc _ => back_lifted os started H enc)
end Go.Proofs.Ytkodlakpjpmbiaa

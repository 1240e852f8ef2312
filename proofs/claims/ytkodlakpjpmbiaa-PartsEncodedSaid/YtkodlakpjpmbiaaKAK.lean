/- The functions that are known otherwise are as is said. -/
import Derived.Test.YtkodlakpjpmbiaaKAJ
import Derived.Test.YtkodlakpjpmbiaaShelf
import Derived.KernelRfl
import Derived.Shelf.Bytes.SlIndexWhole
import Derived.Lib.IndexLaws
import Derived.Test.YtkodlakpjpmbiaaKAG
import Derived.Test.YtkodlakpjpmbiaaKAF
import Derived.Test.YtkodlakpjpmbiaaKAH
import Derived.Below

set_option linter.all false

namespace Go.SL
/-- A number that a variable of the library holds. -/
class MaxC where
  mx : Int
  /-- A table behind it, or none. -/
  tab : List Int := []
instance maxB [MaxC] : BaseC where
  im := fun b o => if b = 0 ∧ o = 0 then some (.int .i64 MaxC.mx) else if b = 1 then (MaxC.tab[o]?).map (.int .u64) else none
  blk := fun b => if b = 1 ∧ MaxC.tab ≠ [] then some (MaxC.tab.map (.int .u64)).toArray else none
  blk_im := by
    intro b c h
    split at h
    · rename_i hb
      obtain ⟨rfl, hn⟩ := hb
      cases ht : MaxC.tab with
      | nil => exact absurd ht hn
      | cons x l => exact ⟨0, .int .u64 x, by simp [ht]⟩
    · cases h
theorem WR.drewN [BaseC] {g : Gh} {H : Hp} {w : World} (h : WR g H w) (n : Nat) : WR g H (w.drewN n) :=
  ⟨h.len, fun id o l a b => (h.obj id o l a b).congr (w2 := w.drewN n) rfl, h.inj, fun b o v hb => h.im b o v hb, h.dis, h.own, h.base, h.org, h.blk⟩
theorem Evo.drewN (g : Gh) (H : Hp) (w : World) (n : Nat) : Evo g H w g H (w.drewN n) := ⟨rfl, rfl, rfl, Nat.le_refl _, fun _ _ _ => rfl, fun _ h => .inr h, fun _ _ _ h => h, locs_refl g, fun _ h => h⟩
end Go.SL
namespace Go.Proofs.Try
open Go Go.SL
set_option linter.unusedVariables false

theorem fx110 : Extern.findNext f93 = none := by kernel_rfl
theorem fe110 : Extern.find f93 = some Extern.BytealgIndexByte.indexByte := by kernel_rfl
theorem call110 (s : ByteArray) (c : Int) (w : World) : (callFunc 93 #[.string s, .int .u8 c]).run prog w = .ok (.value (.int .i64 (Lib.indexByte s.data.toList c.toNat.toUInt8))) w := by
  have hn : ¬ f93.name = "runtime.NumGoroutine" := by decide
  have hb : f93.body = none := rfl
  have hr := Lib.run_indexByteString (P := prog) s c w
  simp [callFunc, func93, hn, hb, fx110, fe110, hr]
theorem enter80 (vs : Array Value) (w : World) : (callFunc 64 vs).run prog w = .ok (.enter 64 vs) w := by
  have hn : ¬ f64.name = "runtime.NumGoroutine" := by decide
  have hb : ¬ f64.body = none := by intro h; cases h
  simp [callFunc, func64, hn, hb]
theorem enter100 (vs : Array Value) (w : World) : (callFunc 80 vs).run prog w = .ok (.enter 80 vs) w := by
  have hn : ¬ f80.name = "runtime.NumGoroutine" := by decide
  have hb : ¬ f80.body = none := by intro h; cases h
  simp [callFunc, func80, hn, hb]
theorem enter90 (vs : Array Value) (w : World) : (callFunc 74 vs).run prog w = .ok (.enter 74 vs) w := by
  have hn : ¬ f74.name = "runtime.NumGoroutine" := by decide
  have hb : ¬ f74.body = none := by intro h; cases h
  simp [callFunc, func74, hn, hb]
/-- Arguments, one by one. -/
theorem list2 [BaseC] {g : Gh} {x y : CV} {vs : Array Value} (h : ListR g [x, y] vs) : ∃ u v, vs = #[u, v] ∧ VR g x u ∧ VR g y v := ListR.two h
variable [MaxC]
theorem idb_ok (m : Nat) (f : FuncId) (hf : f = 64 ∨ f = 93 ∨ f = 80) (args : List CV) (H : Hp) (r : CV) (H2 : Hp) (h : idbP args H = some (r, H2)) : CallS prog m f args H r H2 := by
  unfold idbP at h
  split at h
  · rename_i s c
    cases h
    intro g w vs hw hl
    obtain ⟨u, v, rfl, hu, hv⟩ := list2 hl
    obtain ⟨rfl, _⟩ := hu.atom
    obtain ⟨rfl, _⟩ := hv.atom
    refine ⟨Keeps.refl _ _, ?_⟩
    rcases hf with rfl | rfl | rfl
    · exact .inr ⟨enter80 _ _, (strings_IndexByte s c w).mono fun e w' ⟨he, hw'⟩ => by subst he hw'; exact ⟨_, g, rfl, .cl (.v rfl), hw, Evo.refl _ _ _⟩⟩
    · exact .inl ⟨_, g, w, call110 s c w, .cl (.v rfl), hw, Evo.refl _ _ _⟩
    · exact .inr ⟨enter100 _ _, (stringslite_IndexByte s c w).mono fun e w' ⟨he, hw'⟩ => by subst he hw'; exact ⟨_, g, rfl, .cl (.v rfl), hw, Evo.refl _ _ _⟩⟩
  · cases h
/-- Bytes that cells hold. -/
theorem cells_num {g : Gh} {w : World} {b o : Nat} {cs : List CV} {ns : List Int} (hn : numsOf cs = some ns) (hh : Holds g w b o cs) (i : Nat) (hi : i < ns.length) : w.cell? ((⟨b, o, none⟩ : Addr).add i) = some (.int .u8 (ns.getD i 0)) := by
  obtain ⟨hl, hg⟩ := numsOf_get hn
  obtain ⟨u, h1, _, h3⟩ := hh i (by omega)
  rw [hg i (by omega)] at h3
  obtain ⟨rfl, _⟩ := h3.atom
  rw [Lib.add_plain']; exact h1
theorem idx_ok (m : Nat) (args : List CV) (H : Hp) (r : CV) (H2 : Hp) (h : idxP args H = some (r, H2)) : CallS prog m 74 args H r H2 := by
  unfold idxP at h
  split at h
  · rename_i x y
    obtain ⟨⟨cx, nx⟩, hx, h⟩ := Option.bind_eq_some_iff.1 h
    obtain ⟨⟨cy, ny⟩, hy, h⟩ := Option.bind_eq_some_iff.1 h
    obtain ⟨xs, hxs, h⟩ := Option.bind_eq_some_iff.1 h
    obtain ⟨ys, hys, h⟩ := Option.bind_eq_some_iff.1 h
    simp only at hx hy hxs hys h
    split at h
    · rename_i hc
      obtain ⟨h1, h2, h3, h4, h5, h6⟩ := hc
      cases h
      intro g w vs hw hl
      obtain ⟨u, v, rfl, hu, hv⟩ := list2 hl
      refine ⟨Keeps.refl _ _, .inr ⟨enter90 _ _, ?_⟩⟩
      have hmx : w.cell? ⟨0, 0, none⟩ = some (.int .i64 MaxC.mx) := (hw.im 0 0 _ (hw.base 0 0 _ (by simp [BaseC.im]))).1
      have hbig : xs.length < 4294967281 := by unfold big at h3; omega
      rcases hw.at_sl hv hy with ⟨rfl, _, hn0⟩ | ⟨a2, b2, o2, c2, rfl, hcap2, ha2, hh2, _⟩
      · omega
      have hlen2 := (numsOf_get hys).1
      rcases hw.at_sl hu hx with ⟨rfl, rfl, hn0⟩ | ⟨a1, b1, o1, c1, rfl, hcap1, ha1, hh1, hz1⟩
      · have hxs0 : xs = [] := by simp [numsOf] at hxs; exact hxs
        subst hxs0
        have hidx : Lib.index (Lib.bytesOf []) (Lib.bytesOf ys) = -1 := Lib.index_long (by simp [Lib.bytesOf]) (by
          intro e
          have := congrArg List.length e
          simp [Lib.bytesOf] at this
          rw [this] at h4; simp at h4)
        rw [hidx]
        subst h2
        refine (Any.bytes_Index_nil lays185 _ ys.length c2 w (by omega) (fun h => by omega)).mono fun e w' ⟨he, hw'⟩ => ?_
        subst he hw'
        rw [if_neg (by omega)]
        exact ⟨_, g, rfl, .cl (.v rfl), hw, Evo.refl _ _ _⟩
      · by_cases hx0 : xs.length = 0
        · have hxs0 : xs = [] := List.eq_nil_of_length_eq_zero hx0
          subst hxs0
          have hidx : Lib.index (Lib.bytesOf []) (Lib.bytesOf ys) = -1 := Lib.index_long (by simp [Lib.bytesOf]) (by
            intro e
            have := congrArg List.length e
            simp [Lib.bytesOf] at this
            rw [this] at h4; simp at h4)
          rw [hidx]
          subst h1 h2
          refine (Any.bytes_Index_longer lays185 (some a1) (some a2) 0 c1 ys.length c2 w (by omega) (by omega) (by omega)).mono fun e w' ⟨he, hw'⟩ => ?_
          subst he hw'
          exact ⟨_, g, rfl, .cl (.v rfl), hw, Evo.refl _ _ _⟩
        subst h1 h2
        obtain rfl := ha1 (by omega)
        obtain rfl := ha2 (by omega)
        refine (Any.bytes_Index_at lays185 ⟨b1, o1, none⟩ ⟨b2, o2, none⟩ xs.length c1 ys.length c2 xs ys MaxC.mx w rfl rfl h5 h6 (fun i hi => cells_num hxs (hh1 (by omega)) i hi) (fun i hi => cells_num hys (hh2 (by omega)) i hi) hcap1 hbig (by omega) hmx).mono fun e w' ⟨he, q, hw'⟩ => ?_
        subst he hw'
        exact ⟨_, g, rfl, .cl (.v rfl), hw.drewN q, Evo.drewN _ _ _ _⟩
    · cases h
  · cases h
@[reducible] def L0 : LayerC := ⟨false⟩
@[reducible] def L1 : LayerC := ⟨true⟩
omit [MaxC] in
theorem noGo : ∀ (f : FuncId) (fn : Func), prog.funcs[f]? = some fn → fn.name ≠ "runtime.NumGoroutine" := by
  have h : (prog.funcs.toList.all fun fn => fn.name != "runtime.NumGoroutine") = true := by kernel_rfl
  intro f fn hf e
  have := List.all_eq_true.1 h fn (Array.mem_toList_iff.2 (Array.mem_of_getElem? hf))
  rw [e] at this
  simp at this
end Go.Proofs.Try

/- Walks: the small functions of bits and quoted. -/
namespace Go.Proofs.Try
open Go Go.SL
set_option linter.unusedVariables false
set_option linter.unusedSimpArgs false
attribute [local congr] WX_stop WC_stop W_stop
variable [LayerC]
@[simp] theorem muE5 : (cs0.of 5).mu = false := rfl
@[simp] theorem reE5 : (cs0.of 5).reuse = false := rfl
@[simp] theorem muE12 : (cs0.of 12).mu = false := rfl
@[simp] theorem reE12 : (cs0.of 12).reuse = false := rfl
@[simp] theorem muE13 : (cs0.of 13).mu = false := rfl
@[simp] theorem reE13 : (cs0.of 13).reuse = false := rfl
@[simp] theorem muE14 : (cs0.of 14).mu = false := rfl
@[simp] theorem reE14 : (cs0.of 14).reuse = false := rfl
@[simp] theorem muE23 : (cs0.of 23).mu = false := rfl
@[simp] theorem reE23 : (cs0.of 23).reuse = false := rfl
@[simp] theorem muE24 : (cs0.of 24).mu = false := rfl
@[simp] theorem reE24 : (cs0.of 24).reuse = false := rfl
@[simp] theorem muE25 : (cs0.of 25).mu = false := rfl
@[simp] theorem reE25 : (cs0.of 25).reuse = false := rfl
@[simp] theorem muE26 : (cs0.of 26).mu = false := rfl
@[simp] theorem reE26 : (cs0.of 26).reuse = false := rfl
@[simp] theorem muE27 : (cs0.of 27).mu = false := rfl
@[simp] theorem reE27 : (cs0.of 27).reuse = false := rfl
@[simp] theorem muE28 : (cs0.of 28).mu = false := rfl
@[simp] theorem reE28 : (cs0.of 28).reuse = false := rfl
@[simp] theorem muE29 : (cs0.of 29).mu = false := rfl
@[simp] theorem reE29 : (cs0.of 29).reuse = false := rfl
@[simp] theorem muE32 : (cs0.of 32).mu = true := rfl
@[simp] theorem reE32 : (cs0.of 32).reuse = false := rfl
@[simp] theorem muE33 : (cs0.of 33).mu = false := rfl
@[simp] theorem reE33 : (cs0.of 33).reuse = false := rfl
@[simp] theorem muE34 : (cs0.of 34).mu = false := rfl
@[simp] theorem reE34 : (cs0.of 34).reuse = false := rfl
@[simp] theorem muE43 : (cs0.of 43).mu = false := rfl
@[simp] theorem reE43 : (cs0.of 43).reuse = false := rfl
@[simp] theorem muE45 : (cs0.of 45).mu = false := rfl
@[simp] theorem reE45 : (cs0.of 45).reuse = false := rfl
@[simp] theorem muE47 : (cs0.of 47).mu = false := rfl
@[simp] theorem reE47 : (cs0.of 47).reuse = false := rfl
@[simp] theorem muE48 : (cs0.of 48).mu = false := rfl
@[simp] theorem reE48 : (cs0.of 48).reuse = false := rfl
@[simp] theorem muE49 : (cs0.of 49).mu = false := rfl
@[simp] theorem reE49 : (cs0.of 49).reuse = false := rfl
section
omit [LayerC]
theorem wrap8 {n : Int} (h : 0 ≤ n) (h2 : n < 256) : IntKind.u8.wrap n = n := by simp [IntKind.wrap, IntKind.bits, IntKind.signed]; omega
end
/-- A digit's number. -/
def dgt (c : UInt8) : Nat := if 48 ≤ c.toNat ∧ c.toNat ≤ 57 then c.toNat - 48 else if 65 ≤ c.toNat ∧ c.toNat ≤ 70 then c.toNat - 55 else if 97 ≤ c.toNat ∧ c.toNat ≤ 102 then c.toNat - 87 else 16
theorem e48 (m : Nat) (c : UInt8) (H : Hp) : Ret prog cs0 m 48 [.v (.int .u8 c.toNat)] H (.v (.int .u8 (dgt c : Nat))) H := by
  unfold Ret
  rw [WC_drop rfl func48 rfl rfl]
  have hb := c.toNat_lt
  obtain ⟨n, hn⟩ : ∃ n, n = c.toNat := ⟨_, rfl⟩
  unfold dgt
  rw [← hn] at hb ⊢
  have w1 : 48 ≤ n → IntKind.u8.wrap ((n : Int) - 48) = ((n - 48 : Nat) : Int) := fun h => by rw [wrap8 (by omega) (by omega)]; omega
  have w2 : 65 ≤ n → IntKind.u8.wrap (IntKind.u8.wrap ((n : Int) - 65) + 10) = ((n - 55 : Nat) : Int) := fun h => by rw [wrap8 (n := (n : Int) - 65) (by omega) (by omega)]; simp [IntKind.wrap, IntKind.bits, IntKind.signed]; omega
  have w3 : 97 ≤ n → IntKind.u8.wrap (IntKind.u8.wrap ((n : Int) - 97) + 10) = ((n - 87 : Nat) : Int) := fun h => by rw [wrap8 (n := (n : Int) - 97) (by omega) (by omega)]; simp [IntKind.wrap, IntKind.bits, IntKind.signed]; omega
  have hcases : n < 48 ∨ (48 ≤ n ∧ n ≤ 57) ∨ (58 ≤ n ∧ n ≤ 64) ∨ (65 ≤ n ∧ n ≤ 70) ∨ (71 ≤ n ∧ n ≤ 96) ∨ (97 ≤ n ∧ n ≤ 102) ∨ 103 ≤ n := by omega
  rcases hcases with hh | hh | hh | hh | hh | hh | hh <;> (
    first | have g1 : 48 ≤ n := by omega | have g1 : ¬ 48 ≤ n := by omega
    first | have g2 : n ≤ 57 := by omega | have g2 : ¬ n ≤ 57 := by omega
    first | have g3 : 65 ≤ n := by omega | have g3 : ¬ 65 ≤ n := by omega
    first | have g4 : n ≤ 70 := by omega | have g4 : ¬ n ≤ 70 := by omega
    first | have g5 : 97 ≤ n := by omega | have g5 : ¬ 97 ≤ n := by omega
    first | have g6 : n ≤ 102 := by omega | have g6 : ¬ n ≤ 102 := by omega
    simp -implicitDefEqProofs [f48, g1, g2, g3, g4, g5, g6, w1, w2, w3])
theorem e28 (m : Nat) (s : Bs) (i : Nat) (H : Hp) (hi : i ≤ s.length) : Ret prog cs0 m 28 [str s, .v (.int .i64 (i : Nat))] H (.v (.bool (decide ([13, 10] <+: s.drop i)))) H := by
  unfold Ret
  rw [WC_drop rfl func28 rfl rfl]
  have c44 := fun m H => (w82 m (s.drop i) [13, 10] H).wc
  have hs : str [13, 10] = .v (.string ⟨#[13, 10]⟩) := rfl
  simp -implicitDefEqProofs [f28, slice_str underlying9, hi, ← hs, c44]
end Go.Proofs.Try

/- Walks: strings.Builder. -/
namespace Go.Proofs.Try
open Go Go.SL
set_option linter.unusedVariables false
set_option linter.unusedSimpArgs false
attribute [local congr] WX_stop WC_stop W_stop
/-- A builder's cells. -/
def bdC (a x : CV) : CO := .cells 0 [a, x] 61
abbrev nilP : CV := .v (.pointer none)
@[simp] theorem co61 : prog.cellsOf 61 = 2 := by simp [Program.cellsOf, iT61]
theorem uns_bd {A L : Hp} {a x : CV} : unsOK prog 61 (.ptr A.length 0 0) (A ++ CO.cells 0 [a, x] 61 :: L) = true := by
  unfold unsOK
  simp [iT61]
section
theorem co5 : prog.cellsOf 5 = 1 := by simp [Program.cellsOf, iT5]
theorem cells_ptrE (id ver off : Nat) : cvCells (.ptr id ver off) = some [.ptr id ver off] := (rfl)
theorem eqp0 (H : Hp) : dBin prog .eql 59 nilP nilP H = some (.v (.bool true)) := by simp [dBin, nilR, underlying59]
theorem eqp1 (A L : Hp) (a x : CV) : dBin prog .eql 59 (.ptr A.length 0 0) nilP (A ++ CO.cells 0 [a, x] 61 :: L) = some (.v (.bool false)) := by simp [dBin, nilR, underlying59, atP]
theorem nep1 (A L : Hp) (a x : CV) : dBin prog .neq 59 (.ptr A.length 0 0) (.ptr A.length 0 0) (A ++ CO.cells 0 [a, x] 61 :: L) = some (.v (.bool false)) := by simp [dBin, nilR, underlying59, atP, iT61]
theorem cvp (A L : Hp) (a x : CV) : dConv prog 59 120 (.ptr A.length 0 0) (A ++ CO.cells 0 [a, x] 61 :: L) = some (.ptr A.length 0 0) := by
  have := uns_bd (A := A) (L := L) (a := a) (x := x)
  simp only [dConv, underlying59, underlying120, this, if_true]
theorem cvq (A L : Hp) (a x : CV) : dConv prog 120 59 (.ptr A.length 0 0) (A ++ CO.cells 0 [a, x] 61 :: L) = some (.ptr A.length 0 0) := by
  have := uns_bd (A := A) (L := L) (a := a) (x := x)
  simp only [dConv, underlying59, underlying120, this, if_true]
end
theorem _root_.Go.SL.Grow.cvc {m : Nat} {H : Hp} {x : CV} {cs : List CV} {n sz : Nat} {e : TypeId} (h : Grow m H x cs n sz e) : cvCells x = some [x] := by
  rcases h with ⟨_, _, rfl⟩ | ⟨_, _, _, _, rfl, _⟩ <;> rfl
variable [LayerC]
theorem e61 (m : Nat) (x : CV) (H : Hp) : Ret prog cs0 m 61 [x] H x H := by
  unfold Ret
  rw [WC_prim (p := espP) rfl]
  simp [espP]
theorem e43 (m : Nat) (A L : Hp) (a x : CV) (hm : m ≤ A.length) (ha : a = nilP ∨ a = .ptr A.length 0 0) :
    WC prog cs0 m (.f 43) [.ptr A.length 0 0] (A ++ bdC a x :: L) fun y H' => y = .tup [] ∧ H' = A ++ bdC (.ptr A.length 0 0) x :: L := by
  rw [WC_raw rfl func43 rfl rfl]
  unfold bdC
  have c61 := fun m x H => (e61 m x H).wc
  have hst : ∀ x, stQ m (.ptr A.length 0 0) x = true := fun x => by simp [stQ, hm]
  rcases ha with rfl | rfl
  · simp -implicitDefEqProofs [f43, c61, faddr_ptr, underlying61, iT59, iT23, atP, load_one underlying59 rfl iT59, eqp0, cvt, cvp, cvq, store_at iT59, hst, cells_ptrE]
  · simp -implicitDefEqProofs [f43, c61, faddr_ptr, underlying61, iT59, iT23, atP, load_one underlying59 rfl iT59, eqp1, nep1]
omit [LayerC] in
theorem bd_swap {A L : Hp} {c c' : CO} {x : CV} {l : Bs} (hg : GB (A.length + 1) (A ++ c :: L) x l) : GB (A.length + 1) (A ++ c' :: L) x l := Grow.of_obj hg fun i v c hi hk => by
  obtain ⟨t, rfl⟩ : ∃ t, i = A.length + (t + 1) := ⟨i - A.length - 1, by omega⟩
  rw [get_own, get_own]; rfl
/-- A builder that holds these bytes. -/
def Bd (A : Hp) (H : Hp) (l : Bs) : Prop := ∃ a x L, H = A ++ bdC a x :: L ∧ (a = nilP ∨ a = .ptr A.length 0 0) ∧ GB (A.length + 1) H x l ∧ (l = [] → x = nilC)
theorem e24 (m : Nat) (A H : Hp) (l s : Bs) (hm : m ≤ A.length) (hb : Bd A H l) (hl : l.length + s.length ≤ 140737488355328) : WC prog cs0 m (.f 24) [.ptr A.length 0 0, str s] H fun y H' => y = .tup [.v (.int .i64 (s.length : Nat)), .v .nilIface] ∧ Bd A H' (l ++ s) := by
  obtain ⟨a, x, L, rfl, ha, hg, hnl⟩ := hb
  rw [WC_raw rfl func24 rfl rfl]
  simp -implicitDefEqProofs [f24]
  refine WC_mono (e43 m A L a x hm ha) ?_
  rintro y H2 ⟨rfl, rfl⟩
  have hg2 : ∀ a', GB (A.length + 1) (A ++ bdC a' x :: L) x l := fun a' => Grow.of_obj hg fun i v c hi hk => by
    obtain ⟨t, rfl⟩ : ∃ t, i = A.length + (t + 1) := ⟨i - A.length - 1, by omega⟩
    rw [get_own, get_own]; rfl
  obtain ⟨x2, H2, e1, e2, e3, e4, e5⟩ := (hg2 (.ptr A.length 0 0)).addS (l' := s) (by simp) hl
  have hap : apQ m x (str s) = true := by
    have hc : clB (str s) = true := rfl
    unfold apQ; split
    · rw [hc, Bool.or_true]
    · rfl
  obtain ⟨L2, rfl⟩ : ∃ L2, H2 = A ++ bdC (.ptr A.length 0 0) x :: L2 := by
    refine ⟨H2.drop (A.length + 1), ?_⟩
    have h6 : (A ++ bdC (.ptr A.length 0 0) x :: L).take (A.length + 1) = A ++ [bdC (.ptr A.length 0 0) x] := by
      rw [List.take_append, List.take_of_length_le (by omega)]; simp
    rw [h6] at e4
    conv => lhs; rw [← List.take_append_drop (A.length + 1) H2, e4]
    simp
  have hst : ∀ x, stQ m (.ptr A.length 0 1) x = true := fun x => by simp [stQ, hm]
  have hcv : cvCells x2 = some [x2] := Grow.cvc e3
  unfold bdC at e1 e3
  simp -implicitDefEqProofs [bdC, faddr_ptr, underlying61, iT59, iT23, atP, load_one underlying23 rfl iT23, hap, e1, store_at iT23, hst, hcv, len_str underlying9, e2]
  refine ⟨_, _, _, rfl, .inr rfl, bd_swap e3, fun h0 => ?_⟩
  obtain ⟨h1, h2⟩ := List.append_eq_nil_iff.1 h0
  subst h2
  rw [hnl h1] at e1
  simp [dAppend, underlying23, iT5, zT5, src_str underlying9] at e1
  exact e1.1.symm
theorem e25 (m : Nat) (A H : Hp) (l : Bs) (c : UInt8) (hm : m ≤ A.length) (hb : Bd A H l) (hl : l.length + 1 ≤ 140737488355328) : WC prog cs0 m (.f 25) [.ptr A.length 0 0, u8 c] H fun y H' => y = .v .nilIface ∧ Bd A H' (l ++ [c]) := by
  obtain ⟨a, x, L, rfl, ha, hg, hnl⟩ := hb
  rw [WC_raw rfl func25 rfl rfl]
  simp -implicitDefEqProofs [f25]
  refine WC_mono (e43 m A L a x hm ha) ?_
  rintro y H2 ⟨rfl, rfl⟩
  have hg2 : GB (A.length + 1) (A ++ bdC (.ptr A.length 0 0) x :: L) x l := bd_swap hg
  obtain ⟨x2, H2, e1, e2, e3, e4, e5⟩ := hg2.add (l' := [c]) (y := .lit (u8s [c]) 1 1) (tx := 23) (by simp) (by simp [dSrc, underlying23, atS]) (by simpa using hl)
  have hap : apQ m x (.lit (u8s [c]) 1 1) = true := Grow.ap hg2 (by omega) _
  obtain ⟨L2, rfl⟩ : ∃ L2, H2 = A ++ bdC (.ptr A.length 0 0) x :: L2 := by
    refine ⟨H2.drop (A.length + 1), ?_⟩
    have h6 : (A ++ bdC (.ptr A.length 0 0) x :: L).take (A.length + 1) = A ++ [bdC (.ptr A.length 0 0) x] := by
      rw [List.take_append, List.take_of_length_le (by omega)]; simp
    rw [h6] at e4
    conv => lhs; rw [← List.take_append_drop (A.length + 1) H2, e4]
    simp
  have hst : ∀ x, stQ m (.ptr A.length 0 1) x = true := fun x => by simp [stQ, hm]
  have hcv : cvCells x2 = some [x2] := Grow.cvc e3
  unfold bdC at e1 e3
  simp -implicitDefEqProofs [bdC, faddr_ptr, underlying61, iT59, iT23, atP, load_one underlying23 rfl iT23, hap, mkB1, e1, store_at iT23, hst, hcv, len_str underlying9, e2]
  exact ⟨_, _, _, rfl, .inr rfl, bd_swap e3, fun h0 => by simp at h0⟩
theorem e26 (m : Nat) (A H : Hp) (l : Bs) (hb : Bd A H l) (hl : l.length ≤ 140737488355328) : WC prog cs0 m (.f 26) [.ptr A.length 0 0] H fun y H' => y = str l ∧ ∃ o L, H' = A ++ o :: L := by
  obtain ⟨a, x, L, rfl, ha, hg, hnl⟩ := hb
  rw [WC_drop rfl func26 rfl rfl]
  simp -implicitDefEqProofs [f26]
  rw [W_draw _ _ _ _ _ _ followsT (by rfl)]
  rcases hg with ⟨hc, hn, rfl⟩ | ⟨hll, id, ver, hm, rfl, hc⟩
  · obtain rfl : l = [] := List.eq_nil_of_length_eq_zero hc
    simp -implicitDefEqProofs [bdC, faddr_ptr, underlying61, iT59, iT23, atP, load_one underlying23 rfl iT23, dUnsD, dLenS_nil underlying23, dUnsS]
    exact ⟨rfl, _, _, List.take_of_length_le (by simp)⟩
  · have hl0 : l ≠ [] := fun h => by have := hnl h; cases this
    have hlp := List.length_pos_iff.2 hl0
    unfold bdC at hc
    have hca : cellsAt (A ++ CO.cells 0 [a, .sl id ver 0 l.length 1] 61 :: L) id ver = some (u8s l) := by unfold cellsAt; rw [hc]; simp
    have hU : dUnsS prog 97 (.ptr id ver 0) (.v (.int .i64 (l.length : Nat))) (A ++ CO.cells 0 [a, .sl id ver 0 l.length 1] 61 :: L) = some (str l, (A ++ CO.cells 0 [a, .sl id ver 0 l.length 1] 61 :: L).set id (.gone (ver + 1))) := by
      have hk : (0 : Int) < (l.length : Nat) ∧ ((l.length : Nat) : Int) ≤ 9223372036854775807 := by omega
      have ht : (u8s l).take l.length = u8s l := List.take_of_length_le (by simp)
      simp only [dUnsS, hc, underlying97, co5, true_and, hk.1, hk.2, Int.toNat_natCast, List.drop_zero, ht, numsOf_u8s, Option.bind_some]
      rw [if_pos (by simp), if_pos (range_u8 l)]
      congr 3
      simp only [str, List.map_map]
      congr 2
      have hid : ∀ l : Bs, l.map ((fun n : Int => n.toNat.toUInt8) ∘ fun b => (b.toNat : Int)) = l := fun l => by
        induction l with
        | nil => rfl
        | cons b l ih => rw [List.map_cons, ih]; simp
      rw [hid]
    obtain ⟨t, rfl⟩ : ∃ t, id = A.length + (t + 1) := ⟨id - A.length - 1, by omega⟩
    simp -implicitDefEqProofs [bdC, faddr_ptr, underlying61, iT59, iT23, atP, load_one underlying23 rfl iT23, dUnsD, hlp, dLenS_sl underlying23, hca, hU]
    exact ⟨_, _, List.take_of_length_le (by simp)⟩
end Go.Proofs.Try

/- abi.NoEscape gives back what it is given. -/
namespace Go.Proofs.Try
open Go Go.SL
set_option linter.unusedVariables false
theorem fx61 : Extern.findNext f61 = none := by kernel_rfl
theorem fe61 : Extern.find f61 = some Extern.AbiNoEscape.same := by kernel_rfl
theorem call61 (v : Value) (w : World) : (callFunc 61 #[v]).run prog w = .ok (.value v) w := by
  have hn : ¬ f61.name = "runtime.NumGoroutine" := by decide
  have hb : f61.body = none := rfl
  have hr := Lib.run_noEscape (P := prog) (w := w) v
  simp [callFunc, func61, hn, hb, fx61, fe61, hr]
theorem esp_ok [BaseC] (m : Nat) (args : List CV) (H : Hp) (r : CV) (H2 : Hp) (h : espP args H = some (r, H2)) : CallS prog m 61 args H r H2 := by
  unfold espP at h
  split at h
  · rename_i x
    cases h
    intro g w vs hw hl
    obtain ⟨u, rfl, hu⟩ := hl.one
    exact ⟨Keeps.refl _ _, .inl ⟨_, g, w, call61 u w, hu, hw, Evo.refl _ _ _⟩⟩
  · cases h
end Go.Proofs.Try

/- The functions that are known otherwise are as is said (a seat without the reference's readers). -/
namespace Go.Proofs.Try
open Go Go.SL
set_option linter.unusedVariables false
variable [MaxC]
theorem prim1 : PrimOK prog (@cs0 L1) := by
  intro f p hp m args H r H2 h
  have hp : (if f = 74 then some idxP else if f = 64 ∨ f = 93 ∨ f = 80 then some idbP else if false && true then some lowP else if false && true then some tokP else if f = 61 then some espP else none) = some p := hp
  split at hp
  · rename_i hf; cases hp; subst hf; exact idx_ok m args H r H2 h
  · split at hp
    · rename_i hf; cases hp; exact idb_ok m f hf args H r H2 h
    · simp only [Bool.false_and, Bool.false_eq_true, if_false] at hp
      split at hp
      · rename_i hf; cases hp; subst hf; exact esp_ok m args H r H2 h
      · cases hp
end Go.Proofs.Try

/- From the evaluator to a row: the first world, and what a call leaves. -/
namespace Go.SL
open Go.RowKit
set_option linter.unusedVariables false
/-- A world, and no object. -/
def g0 (W : World) : Gh := ⟨[], fun b o => (W.cell? ⟨b, o, none⟩).filter (·.oneCell'), fun _ => False⟩
theorem WR.init [BaseC] {W : World} (h : ∀ b o v, BaseC.im b o = some v → W.cell? ⟨b, o, none⟩ = some v ∧ v.oneCell' = true) (hk : ∀ b c, BaseC.blk b = some c → ∃ e fr, W.heap[b]? = some (.cells c e fr)) : WR (g0 W) [] W where
  len := rfl
  obj := fun id o l h => by simp at h
  inj := fun i j oi oj li lj h => by simp at h
  im := fun b o v hv => by
    simp only [g0, Option.filter_eq_some_iff] at hv
    exact ⟨hv.1, hv.2⟩
  dis := fun id o l h => by simp at h
  own := fun b hb => hb.elim
  base := fun b o v hv => by
    simp only [g0, Option.filter_eq_some_iff]
    exact h b o v hv
  org := fun id cs e l h => by simp at h
  blk := hk
theorem Evo.below {W w2 : World} {g2 : Gh} {H2 : Hp} (h : Evo (g0 W) [] W g2 H2 w2) : Below W.heap.size W w2 :=
  ⟨h.os, h.tape, h.output, h.size, fun k hk => h.keep k hk (by
    rintro (h | ⟨id, o, l, h, _⟩)
    · exact h
    · simp at h)⟩
theorem im_g0 {W : World} {b o : Nat} {v : Value} (h : W.cell? ⟨b, o, none⟩ = some v) (h1 : v.oneCell' = true) : (g0 W).im b o = some v := by
  simp only [g0, Option.filter_eq_some_iff]; exact ⟨h, h1⟩
end Go.SL
namespace Go.Proofs.Try
open Go Go.SL Go.RowKit
set_option linter.unusedVariables false
/-- A law's walk, as a call from any world; a table stands behind it. -/
theorem law_callsT {mx : Int} {tb : List Int} {f : FuncId} {fn : Func} {W : World} {xs : List CV} {vs : Array Value} (hprim : ∀ mx : Int, @PrimOK (@maxB ⟨mx, tb⟩) prog (@cs0 L1)) (hf : prog.funcs[f]? = some fn) (hb : fn.body ≠ none) (hmx : W.cell? ⟨0, 0, none⟩ = some (.int .i64 mx))
    (htb : tb ≠ [] → ∃ e fr, W.heap[1]? = some (.cells (tb.map (Value.int .u64)).toArray e fr)) (hl : ListR (g0 W) xs vs)
    (hr : @Ret prog (@cs0 L1) 0 f xs [] (.v (.bool true)) []) : Calls prog f vs W fun e W' => e = .returned (.bool true) ∧ Below W.heap.size W W' := by
  letI : MaxC := ⟨mx, tb⟩
  have hw : WR (g0 W) [] W := WR.init (fun b o v hv => by
    simp only [BaseC.im] at hv
    split at hv
    · rename_i hc
      obtain ⟨rfl, rfl⟩ := hc
      cases hv
      exact ⟨hmx, rfl⟩
    · split at hv
      · rename_i hc
        subst hc
        obtain ⟨z, hz, rfl⟩ := Option.map_eq_some_iff.1 hv
        have hne : tb ≠ [] := by rintro rfl; cases hz
        obtain ⟨e, fr, hh⟩ := htb hne
        have hz' : tb[o]? = some z := hz
        exact ⟨by simp [World.cell?, hh, hz'], rfl⟩
      · cases hv) fun b c hc => by
    simp only [BaseC.blk] at hc
    split at hc
    · rename_i hq
      obtain ⟨rfl, hne⟩ := hq
      cases hc
      exact htb hne
    · cases hc
  obtain ⟨k, ⟨y1, y2⟩, hk, h1, h2⟩ := hr
  simp only at h1 h2
  subst h1
  rw [h2] at hk
  have henter : (callFunc f vs).run prog W = .ok (.enter f vs) W := by
    have := noGo f fn hf
    simp [callFunc, hf, this, hb]
  rcases ((evCall_good (hprim mx) noGo k).1 0 f xs [] _ [] hk (g0 W) W vs hw hl).2 with ⟨v, g2, w2, h3, _⟩ | ⟨_, h3⟩
  · rw [henter] at h3; cases h3
  · refine h3.mono fun e w' ⟨v, g2, he, hv, _, hev⟩ => ?_
    obtain ⟨rfl, _⟩ := hv.atom
    exact ⟨he, hev.below⟩
/-- A law's walk, as a call from any world. -/
theorem law_calls {mx : Int} {f : FuncId} {fn : Func} {W : World} {xs : List CV} {vs : Array Value} (hf : prog.funcs[f]? = some fn) (hb : fn.body ≠ none) (hmx : W.cell? ⟨0, 0, none⟩ = some (.int .i64 mx)) (hl : ListR (g0 W) xs vs)
    (hr : @Ret prog (@cs0 L1) 0 f xs [] (.v (.bool true)) []) : Calls prog f vs W fun e W' => e = .returned (.bool true) ∧ Below W.heap.size W W' :=
  law_callsT (tb := []) (fun mx => @prim1 ⟨mx, []⟩) hf hb hmx (fun h => absurd rfl h) hl hr
/-- Bytes of a world, as an argument. -/
theorem byt_vr {W : World} {a : Option Addr} {len cap : Nat} {zs : List Int} (h : (a = none ∧ len = 0 ∧ cap = 0) ∨ ∃ x, a = some x ∧ x.spot = none ∧ len ≤ cap ∧ zs.length = cap ∧ (∀ i, i < zs.length → W.cell? (x.add i) = some (.int .u8 (zs.getD i 0))) ∧ ∀ n ∈ zs, 0 ≤ n ∧ n < 256) :
    ∃ x b, CB x b ∧ VR (g0 W) x (.slice a len cap) := by
  rcases h with ⟨rfl, rfl, rfl⟩ | ⟨x, rfl, hsp, hlc, hz, hc, hr⟩
  · exact ⟨nilC, [], .inr ⟨rfl, rfl, rfl⟩, .cl (.v rfl)⟩
  · obtain ⟨b, o, sp⟩ := x
    simp only at hsp
    subst hsp
    have hlen : ((zs.take len).map fun n => n.toNat.toUInt8).length = len := by simp; omega
    refine ⟨byt ((zs.take len).map fun n => n.toNat.toUInt8), _, .inl rfl, .cl ?_⟩
    unfold byt
    rw [hlen]
    refine .im (f := fun i => .int .u8 (zs.getD i 0)) (by simp; omega) hlc (fun _ => rfl) (fun i hi => ?_) fun i hi => ?_
    · simp at hi
      have := hc i (by omega)
      rw [Lib.add_plain'] at this
      exact im_g0 this rfl
    · simp at hi
      have hi' : i < zs.length := by omega
      have hg : zs.getD i 0 = zs[i] := by simp [List.getD, hi']
      have hrr := hr zs[i] (List.getElem_mem hi')
      have : (u8s ((zs.take len).map fun n => n.toNat.toUInt8))[i] = .v (.int .u8 (zs.getD i 0)) := by
        simp only [u8s, List.getElem_map, List.getElem_take, u8, hg]
        congr 2
        simp
        omega
      rw [this]
      exact .v rfl
end Go.Proofs.Try

/- Walks: more small functions of bits and quoted. -/
namespace Go.Proofs.Try
open Go Go.SL
set_option linter.unusedVariables false
set_option linter.unusedSimpArgs false
attribute [local congr] WX_stop WC_stop W_stop
theorem while_len {p : UInt8 → Bool} : ∀ (l : Bs) (n : Nat), (∀ c ∈ l.take n, p c = true) → (n = l.length ∨ ∃ h : n < l.length, p l[n] = false) → (l.takeWhile p).length = n := by
  intro l
  induction l with
  | nil =>
    intro n _ h
    rcases h with rfl | ⟨h, _⟩
    · rfl
    · simp at h
  | cons a l ih =>
    intro n h1 h2
    cases n with
    | zero =>
      rcases h2 with h | ⟨_, h⟩
      · simp at h
      · simp at h; simp [h]
    | succ n =>
      have h3 : p a = true := h1 a (by simp)
      rw [List.takeWhile_cons, h3]
      simp only [if_true, List.length_cons]
      rw [ih n (fun c hc => h1 c (by simp [hc])) (by
        rcases h2 with h | ⟨h, h'⟩
        · left; simpa using h
        · right; exact ⟨by simpa using h, by simpa using h'⟩)]
variable [LayerC]
theorem e23 (m n : Nat) (H : Hp) (hn : n ≤ 1048576) : Ret prog cs0 m 23 [.v (.int .i64 (n : Nat)), .v (.int .i64 76)] H (.v (.int .i64 0)) H := by
  unfold Ret
  rw [WC_drop rfl func23 rfl rfl]
  have h1 : ¬ (n : Int) < 0 := by omega
  have h2 : ¬ (1048576 : Int) < (n : Nat) := by omega
  have h3 : binA .rem (.int .i64 76) (.int .i64 4) = some (.int .i64 0) := by simp [binA]
  simp -implicitDefEqProofs [f23, h1, h2, h3]
/-- The signs. -/
def sgn : Bs := [65, 66, 67, 68, 69, 70, 71, 72, 73, 74, 75, 76, 77, 78, 79, 80, 81, 82, 83, 84, 85, 86, 87, 88, 89, 90, 97, 98, 99, 100, 101, 102, 103, 104, 105, 106, 107, 108, 109, 110, 111, 112, 113, 114, 115, 116, 117, 118, 119, 120, 121, 122, 48, 49, 50, 51, 52, 53, 54, 55, 56, 57, 43, 47]
theorem e47 (m : Nat) (c : UInt8) (H : Hp) : Ret prog cs0 m 47 [.v (.int .u8 c.toNat)] H (.tup [.v (.int .u32 (IntKind.u32.wrap (Lib.indexByte sgn c))), .v (.bool (decide (0 ≤ Lib.indexByte sgn c)))]) H := by
  unfold Ret
  rw [WC_drop rfl func47 rfl rfl]
  have c64 := fun m H => (w80 m sgn c H).wc
  have hs : str [65, 66, 67, 68, 69, 70, 71, 72, 73, 74, 75, 76, 77, 78, 79, 80, 81, 82, 83, 84, 85, 86, 87, 88, 89, 90, 97, 98, 99, 100, 101, 102, 103, 104, 105, 106, 107, 108, 109, 110, 111, 112, 113, 114, 115, 116, 117, 118, 119, 120, 121, 122, 48, 49, 50, 51, 52, 53, 54, 55, 56, 57, 43, 47] = str sgn := rfl
  have hc : ∀ n H, cvt prog false 3 67 (.v (.int .i64 n)) H = some (.v (.int .u32 (IntKind.u32.wrap n)), H) := fun n H => by simp [cvt, dConv, underlying3, underlying67]
  simp -implicitDefEqProofs [f47, hs, c64, hc]
theorem e49 (m : Nat) (s : Bs) (i : Nat) (H : Hp) (hi : i ≤ s.length) (hs : s.length ≤ 4294967280) : Ret prog cs0 m 49 [str s, .v (.int .i64 (i : Nat))] H (.v (.int .i64 (((s.drop i).takeWhile blankC).length : Nat))) H := by
  unfold Ret
  rw [WC_drop rfl func49 rfl rfl]
  simp -implicitDefEqProofs [f49]
  refine W_up (s.length - i) (fun n fr H' => H' = H ∧ fr 0 = str s ∧ fr 1 = .v (.int .i64 (i : Nat)) ∧ fr 5 = .v (.int .i64 (n : Nat)) ∧ ∀ c ∈ (s.drop i).take n, blankC c = true) ?_ 0 _ _ (by omega) (by simp)
  rintro n fr H' hn ⟨rfl, a0, a1, a5, hk⟩
  have hdl : (s.drop i).length = s.length - i := by simp
  have hw0 : IntKind.i64.wrap ((i : Int) + (n : Nat)) = ((i + n : Nat) : Int) := by simp [IntKind.wrap, IntKind.bits, IntKind.signed]; omega
  by_cases hlt : i + n < s.length
  · have hw := up64 (n := s.length) (i := n) (by omega) (by omega)
    have hnn : ((i : Int) + (n : Nat)).toNat = i + n := by omega
    have hcast : (i : Int) + (n : Nat) < (s.length : Nat) := by omega
    have hge : (0 : Int) ≤ (i : Int) + (n : Nat) := by omega
    by_cases hb : blankC s[i + n] = true
    · have hy : ∀ c ∈ (s.drop i).take (n + 1), blankC c = true := by
        intro c hc
        rw [List.take_add_one] at hc
        rcases List.mem_append.1 hc with h | h
        · exact hk c h
        · rw [List.getElem?_drop, List.getElem?_eq_getElem hlt] at h
          simp at h; rw [h]; exact hb
      simp -implicitDefEqProofs [a0, a1, a5, hlt, hw, hw0, index_str underlying9, len_str underlying9, hnn, hcast, hge]
      have h39 : s[i + n].toNat = 32 ∨ s[i + n].toNat = 9 := by simpa [blankC] using hb
      split
      · exact ⟨by omega, hy⟩
      · split
        · exact ⟨by omega, hy⟩
        · omega
    · simp -implicitDefEqProofs [a0, a1, a5, hlt, hw, hw0, index_str underlying9, len_str underlying9, hnn, hcast, hge]
      have h39 : ¬ s[i + n].toNat = 32 ∧ ¬ s[i + n].toNat = 9 := by simpa [blankC] using hb
      rw [if_neg h39.1, if_neg h39.2]
      exact (while_len (p := blankC) (s.drop i) n hk (.inr ⟨by omega, by rw [List.getElem_drop]; simpa using hb⟩)).symm
  · have hcast : ¬ (i : Int) + (n : Nat) < (s.length : Nat) := by omega
    have he := while_len (p := blankC) (s.drop i) n hk (.inl (by omega))
    simp -implicitDefEqProofs [a0, a1, a5, hlt, hw0, len_str underlying9, hcast, he]
end Go.Proofs.Try

/- Walks: small letters; two digits. -/
namespace Go.Proofs.Try
open Go Go.SL
set_option linter.unusedVariables false
set_option linter.unusedSimpArgs false
variable [LayerC]
theorem e32 (m : Nat) (s : Bs) (H : Hp) (hs : s.length ≤ 4294967280) : Ret prog cs0 m 32 [str s] H (str (low s)) H := by
  unfold Ret
  rw [WC_drop rfl func32 rfl rfl]
  simp [f32, cvt_s2b underlying9 underlying23 underlying5, dLenS_sl underlying23]
  refine W_up s.length (fun i fr H' => ∃ L, L = low (s.take i) ++ s.drop i ∧ H' = H ++ [.cells 0 (u8s L) 5] ∧ fr 3 = .sl H.length 0 0 s.length 1 ∧ fr 8 = .sl H.length 0 0 s.length 1 ∧ fr 9 = .v (.int .i64 s.length) ∧ fr 10 = .v (.int .i64 i)) ?_ 0 _ _ (by omega) ⟨s, rfl, by simp⟩
  rintro i fr H' hi ⟨L, hL, rfl, a3, a8, a9, a10⟩
  have hl : L.length = s.length := by subst hL; simp; omega
  by_cases hlt : i < s.length
  · have hL2 : ∀ h : i < L.length, L[i] = s[i] := by subst hL; intro h; simp [List.getElem_append_right, low, Nat.min_eq_left hi]
    have hL3 : ∀ b, L.take i ++ b :: L.drop (i + 1) = low (s.take i) ++ b :: s.drop (i + 1) := by intro b; subst hL; simp [low, List.drop_append, Nat.min_eq_left hi, List.drop_drop]
    have hs' : low (s.take (i + 1)) ++ s.drop (i + 1) = low (s.take i) ++ lowB s[i] :: s.drop (i + 1) := by rw [take_snoc hlt, low_snoc, List.append_assoc]; rfl
    have hw := up64 hlt (by omega)
    have hs2 : L = low (s.take i) ++ s[i] :: s.drop (i + 1) := by rw [hL, List.drop_eq_getElem_cons hlt]
    have hsame : ¬ (65 ≤ s[i].toNat ∧ s[i].toNat ≤ 90) → L = low (s.take (i + 1)) ++ s.drop (i + 1) := fun h => by rw [hs', hs2, lowB_lo h]
    by_cases hc : 65 ≤ s[i].toNat ∧ s[i].toNat ≤ 90
    · simp [a3, a8, a9, a10, hlt, addr_sl underlying23 iT5, load_one underlying5 rfl iT5, hL2, store_at iT5, hl, hw, Nat.add_one_le_iff, -u8s_append, hc.1, hc.2, lowB_wrap hc]
      rw [hs', ← hL3]
      simp [u8s_cons]
    · have hc' : 65 ≤ s[i].toNat → ¬ s[i].toNat ≤ 90 := fun a b => hc ⟨a, b⟩
      simp [a3, a8, a9, a10, hlt, addr_sl underlying23 iT5, load_one underlying5 rfl iT5, hL2, store_at iT5, hl, hw, Nat.add_one_le_iff, -u8s_append]
      split
      · rw [if_neg (hc' (by assumption))]; exact hsame hc
      · exact hsame hc
  · obtain rfl : i = s.length := by omega
    have e : L = low s := by simpa using hL
    subst e
    have e2 : (low s).take s.length = low s := List.take_of_length_le (by simp)
    simp [a3, a8, a9, a10, cvt_sl' (L := low s) _ underlying23 underlying9 underlying5, e2]


attribute [local congr] WX_stop WC_stop W_stop
/-- Two digits of a byte. -/
def hexS : Bs := [48, 49, 50, 51, 52, 53, 54, 55, 56, 57, 65, 66, 67, 68, 69, 70]
def hex2 (c : UInt8) : Bs := [hexS.getD (c.toNat / 16) 0, hexS.getD (c.toNat % 16) 0]
theorem and15 : ∀ n : Fin 256, binA .and (.int .u8 (n.val : Int)) (.int .u8 15) = some (.int .u8 ((n.val % 16 : Nat) : Int)) := by
  intro n
  simp only [binA, if_true]
  congr 2
  revert n
  decide +kernel
theorem hex_at : ∀ p : Fin 16, (hexS.take (p.val + 1)).drop p.val = [hexS.getD p.val 0] := by decide +kernel
theorem e45 (m : Nat) (c : UInt8) (H : Hp) : Ret prog cs0 m 45 [.v (.int .u8 c.toNat)] H (str (hex2 c)) H := by
  unfold Ret
  rw [WC_drop rfl func45 rfl rfl]
  have hc := c.toNat_lt
  simp -implicitDefEqProofs [f45]
  rw [W_draw _ _ _ _ _ _ followsT (by rfl)]
  have h1 : binA .shr (.int .u8 (c.toNat : Nat)) (.int .u64 4) = some (.int .u8 ((c.toNat / 16 : Nat) : Int)) := by
    simp only [binA]
    rw [if_pos (by decide)]
    congr 2
    simp [IntKind.bits]
    rw [Int.fdiv_eq_ediv_of_nonneg _ (by omega)]
  have h2 := and15 ⟨c.toNat, hc⟩
  simp only at h2
  have hd : ∀ H, dBin prog .shr 5 (.v (.int .u8 (c.toNat : Nat))) (.v (.int .u64 4)) H = some (.v (.int .u8 ((c.toNat / 16 : Nat) : Int))) := fun H => by simp only [dBin, h1, Option.map_some]
  have hw1 : IntKind.u8.wrap (((c.toNat / 16 : Nat) : Int) + 1) = ((c.toNat / 16 + 1 : Nat) : Int) := by rw [wrap8 (by omega) (by omega)]; rfl
  have hw2 : IntKind.u8.wrap (((c.toNat % 16 : Nat) : Int) + 1) = ((c.toNat % 16 + 1 : Nat) : Int) := by rw [wrap8 (by omega) (by omega)]; rfl
  unfold hex2
  obtain ⟨p, hp⟩ : ∃ p, p = c.toNat / 16 := ⟨_, rfl⟩
  obtain ⟨q, hq⟩ : ∃ q, q = c.toNat % 16 := ⟨_, rfl⟩
  have hp15 : p ≤ 15 := by omega
  have hq15 : q ≤ 15 := by omega
  rw [← hp] at hd hw1 ⊢
  rw [← hq] at h2 hw2 ⊢
  clear h1
  have hs : str [48, 49, 50, 51, 52, 53, 54, 55, 56, 57, 65, 66, 67, 68, 69, 70] = str hexS := rfl
  have hl : hexS.length = 16 := rfl
  have hb1 : p + 1 ≤ 16 := by omega
  have hb2 : q + 1 ≤ 16 := by omega
  have h03 : (p : Int) ≤ (p : Int) + 1 ∧ (p : Int) + 1 ≤ 16 := by omega
  have h04 : (q : Int) ≤ (q : Int) + 1 ∧ (q : Int) + 1 ≤ 16 := by omega
  have h05 : (p : Int) ≤ (p : Int) + 1 := by omega
  have h06 : (q : Int) ≤ (q : Int) + 1 := by omega
  have s1 := hex_at ⟨p, by omega⟩
  have s2 := hex_at ⟨q, by omega⟩
  simp only at s1 s2
  have h01 : (0 : Int) ≤ (p : Nat) ∧ (p : Int) ≤ ((p + 1 : Nat) : Int) ∧ ((p + 1 : Nat) : Int) ≤ 16 := by omega
  have h02 : (0 : Int) ≤ (q : Nat) ∧ (q : Int) ≤ ((q + 1 : Nat) : Int) ∧ ((q + 1 : Nat) : Int) ≤ 16 := by omega
  simp -implicitDefEqProofs [hd, h2, hw1, hw2, hs, slice_str underlying9, hl, hb1, hb2, h03.1, h03.2, h04.1, h04.2, s1, s2]
end Go.Proofs.Try

/- Walks: the closure of quoted.Encode, and a byte's sign. -/
namespace Go.Proofs.Try
open Go Go.SL
set_option linter.unusedVariables false
set_option linter.unusedSimpArgs false
attribute [local congr] WX_stop WC_stop W_stop
variable [LayerC]
/-- Does a line end at a place? -/
def endsB (s : Bs) (i : Nat) : Bool := decide (i = s.length) || decide ([13, 10] <+: s.drop i)
theorem e27 (m : Nat) (A L : Hp) (s : Bs) (i : Nat) (hi : i ≤ s.length) : Ret prog cs0 m 27 [.v (.int .i64 (i : Nat)), .ptr A.length 0 0] (A ++ CO.cells 0 [str s] 9 :: L) (.v (.bool (endsB s i))) (A ++ CO.cells 0 [str s] 9 :: L) := by
  unfold Ret
  rw [WC_drop rfl func27 rfl rfl]
  have c28 := fun m H => (e28 m s i H hi).wc
  unfold endsB
  by_cases he : i = s.length
  · simp -implicitDefEqProofs [f27, load_one underlying9 rfl iT9, len_str underlying9, he]
    exact List.take_of_length_le (by simp)
  · have he' : ¬ (i : Int) = (s.length : Nat) := by omega
    simp -implicitDefEqProofs [f27, load_one underlying9 rfl iT9, len_str underlying9, he, he', c28]
    exact List.take_of_length_le (by simp)
/-- The sign of the byte at a place. -/
def sigQ (s : Bs) (i : Nat) (c : UInt8) : Bs := if 32 < c.toNat ∧ c.toNat < 127 ∧ c.toNat ≠ 61 then [c] else if (c.toNat = 32 ∨ c.toNat = 9) ∧ endsB s (i + 1) = false then [c] else 61 :: hex2 c
theorem e29 (m : Nat) (A L : Hp) (s : Bs) (i : Nat) (hi : i < s.length) (hs : s.length ≤ 4294967280) : Ret prog cs0 m 29 [str s, .v (.int .i64 (i : Nat)), .fn (.func 27) [] [.ptr A.length 0 0]] (A ++ CO.cells 0 [str s] 9 :: L) (str (sigQ s i s[i])) (A ++ CO.cells 0 [str s] 9 :: L) := by
  unfold Ret
  rw [WC_drop rfl func29 rfl rfl]
  have hw := up64 hi (by omega)
  have c27 := fun m => (e27 m A L s (i + 1) (by omega)).wc
  have c45 := fun m H => (e45 m s[i] H).wc
  have hsl : (s.take (i + 1)).drop i = [s[i]] := by
    rw [List.take_add_one, List.drop_append, List.drop_eq_nil_of_le (by simp; omega)]
    simp [List.getElem?_eq_getElem hi, Nat.min_eq_left (Nat.le_of_lt hi)]
  have hb := s[i].toNat_lt
  obtain ⟨c, hc⟩ : ∃ c, c = s[i] := ⟨_, rfl⟩
  rw [← hc] at hsl c45 hb ⊢
  have c45b : ∀ (k : Int), (c.toNat : Int) = k → ∀ (m : Nat) (H : Hp) K, WC prog cs0 m (.f 45) [.v (.int .u8 k)] H K ↔ K (str (hex2 c)) H := fun k hk m H K => by subst hk; exact c45 m H K
  unfold sigQ
  have hix : s[i]? = some c := by rw [List.getElem?_eq_getElem hi, hc]
  have h1 : i + 1 ≤ s.length := hi
  have hx2 : (hex2 c).length = 2 := rfl
  have h05 : (i : Int) ≤ (i : Int) + 1 := by omega
  have h06 : (i : Int) + 1 ≤ (s.length : Nat) := by omega
  simp only [Int.natCast_add, Int.natCast_one] at c27
  obtain ⟨b, hbb⟩ : ∃ b, b = endsB s (i + 1) := ⟨_, rfl⟩
  rw [← hbb] at c27 ⊢
  have hcases : c.toNat < 9 ∨ c.toNat = 9 ∨ (10 ≤ c.toNat ∧ c.toNat ≤ 31) ∨ c.toNat = 32 ∨ (33 ≤ c.toNat ∧ c.toNat ≤ 60) ∨ c.toNat = 61 ∨ (62 ≤ c.toNat ∧ c.toNat ≤ 126) ∨ 127 ≤ c.toNat := by omega
  rcases hcases with hh | hh | hh | hh | hh | hh | hh | hh <;> (
    first | have g1 : 32 < c.toNat := by omega | have g1 : ¬ 32 < c.toNat := by omega
    first | have g2 : c.toNat < 127 := by omega | have g2 : ¬ c.toNat < 127 := by omega
    first | have g3 : c.toNat = 61 := by omega | have g3 : ¬ c.toNat = 61 := by omega
    first | have g4 : c.toNat = 32 := by omega | have g4 : ¬ c.toNat = 32 := by omega
    first | have g5 : c.toNat = 9 := by omega | have g5 : ¬ c.toNat = 9 := by omega
    first | have c49 := c45b 9 (by omega) | have c49 := c45b 32 (by omega) | have c49 := c45b 61 (by omega) | have c49 := c45
    cases b <;> simp -implicitDefEqProofs [f29, index_str underlying9, hix, u8, g1, g2, g3, g4, g5, slice_str underlying9, hw, h1, hsl, c27, c45, c49, hx2, h05, h06]
    all_goals (try exact List.take_of_length_le (by simp)))
end Go.Proofs.Try

/- Walks: bits.Encode. -/
namespace Go.Proofs.Try
open Go Go.SL
set_option linter.unusedVariables false
set_option linter.unusedSimpArgs false
attribute [local congr] WX_stop WC_stop W_stop
/-- Four signs of three bytes, or fewer. -/
def valB (l : Bs) : Nat := (l.getD 0 0).toNat * 65536 + (l.getD 1 0).toNat * 256 + (l.getD 2 0).toNat
def sigB (l : Bs) (i : Nat) : UInt8 := if i ≤ l.length then sgn.getD (valB l / 2 ^ (18 - 6 * i) % 64) 0 else 61
def quad (l : Bs) : Bs := (List.range 4).map (sigB l)
def preL (line : Nat) : Bs := if line = 76 then [13, 10] else []
def nxtL (line : Nat) : Nat := (if line = 76 then 0 else line) + 4
def encF : Nat → Bs → Bs
  | _, [] => []
  | line, [a] => preL line ++ quad [a]
  | line, [a, b] => preL line ++ quad [a, b]
  | line, a :: b :: c :: r => preL line ++ quad [a, b, c] ++ encF (nxtL line) r
theorem encF_step (line : Nat) (b : Bs) (h : b ≠ []) : encF line b = preL line ++ (quad (b.take 3) ++ encF (nxtL line) (b.drop 3)) := by
  match b, h with
  | [a], _ => simp [encF]
  | [a, b], _ => simp [encF]
  | a :: b :: c :: r, _ => simp [encF]
theorem Bd.app {A H : Hp} {l : Bs} (h : Bd A H l) (L : Hp) : Bd A (H ++ L) l := by
  obtain ⟨a, x, L0, rfl, ha, hg, hn⟩ := h
  exact ⟨a, x, L0 ++ L, by simp, ha, hg.app L, hn⟩
theorem Bd.pre {A H : Hp} {l : Bs} (h : Bd A H l) : ∃ L, H = A ++ L := by
  obtain ⟨a, x, L0, rfl, _⟩ := h; exact ⟨_, rfl⟩
theorem Bd.new (A : Hp) : Bd A (A ++ [CO.cells 0 [nilP, nilC] 61]) [] := ⟨nilP, nilC, [], rfl, .inl rfl, GB.nil _ _, fun _ => rfl⟩
theorem valB_take : ∀ (l : Bs), l ≠ [] → valB (l.take 3) = (l.getD 0 0).toNat * 2 ^ 16 + (l.getD 1 0).toNat * 2 ^ 8 + (l.getD 2 0).toNat := by
  intro l h
  match l, h with
  | [a], _ => rfl
  | [a, b], _ => rfl
  | a :: b :: c :: d, _ => rfl
theorem sgn_at (w : Nat) : sgn[w % 64]? = some (sgn.getD (w % 64) 0) := by
  have h : w % 64 < sgn.length := Nat.mod_lt _ (by decide)
  simp [List.getD, h]
theorem sgnE : str [65, 66, 67, 68, 69, 70, 71, 72, 73, 74, 75, 76, 77, 78, 79, 80, 81, 82, 83, 84, 85, 86, 87, 88, 89, 90, 97, 98, 99, 100, 101, 102, 103, 104, 105, 106, 107, 108, 109, 110, 111, 112, 113, 114, 115, 116, 117, 118, 119, 120, 121, 122, 48, 49, 50, 51, 52, 53, 54, 55, 56, 57, 43, 47] = str sgn := rfl
def three (l : Bs) : List CV := [u8 (l.getD 0 0), u8 (l.getD 1 0), u8 (l.getD 2 0)]
abbrev z3 : List CV := [.v (.int .u8 0), .v (.int .u8 0), .v (.int .u8 0)]
theorem slice66 (A : Hp) (cs : List CV) (h : cs.length = 3) : dSlice prog 66 (.ptr A.length 0 0) none none (A ++ [CO.cells 0 cs 66]) = some (.sl A.length 0 0 3 1) := by
  simp [dSlice, underlying66, atP, h]
theorem copy66 (A : Hp) (x : CV) (l : Bs) (hl : l ≠ []) (hx : RB (A ++ [CO.cells 0 z3 66]) x l) : dCopy prog 23 (.sl A.length 0 0 3 1) x (A ++ [CO.cells 0 z3 66]) = some (.v (.int .i64 (min l.length 3 : Nat)), A ++ [CO.cells 0 (three l) 66]) := by
  have h0 : (u8s l).length = l.length := by simp
  have hne : ¬ l.length = 0 := fun h => hl (List.eq_nil_of_length_eq_zero h)
  simp only [dCopy, underlying23, iT5, get_own0, List.getElem?_cons_zero, hx.atS, Option.bind_some, numsOf_u8s]
  rw [if_pos (by simp), if_neg (by omega)]
  congr 2
  rw [putH_eq (ver := 0) (cs := z3) (e := 66) (by simp), set_own0, List.set_cons_zero]
  congr 3
  match l, hl with
  | [a], _ => simp [three, u8s, u8]
  | [a, b], _ => simp [three, u8s, u8]
  | a :: b :: c :: r, _ =>
    have : min (a :: b :: c :: r).length 3 = 3 := by simp
    rw [this]
    simp [three, u8s, u8]
variable [LayerC]
set_option maxRecDepth 100000 in
theorem e12 (m : Nat) (x : CV) (b : Bs) (H : Hp) (hx : RB H x b) (hb : b.length ≤ 2000) : Ret prog cs0 m 12 [x, .v (.int .i64 76)] H (.tup [str (encF 0 b), .v (.int .i64 0)]) H := by
  unfold Ret
  rw [WC_drop rfl func12 rfl rfl]
  have c23 := fun m H => (e23 m b.length H (by omega)).wc
  have ux := hx.unl
  have hlen := fun L => (hx.app L).len (P := prog) underlying23
  have hlen0 := hx.len (P := prog) underlying23
  simp -implicitDefEqProofs [f12, ux, hlen, hlen0, c23, dAlloc, aQ]
  obtain ⟨I, hI⟩ : ∃ I : Nat → Fr → Hp → Prop, ∀ j fr H', I j fr H' ↔ ∃ x' rest out line, rest.length = j ∧ RB H x' rest ∧ Bd H H' out ∧ out ++ encF line rest = encF 0 b ∧ line ≤ 76 ∧ line % 4 = 0 ∧ out.length + 6 * rest.length ≤ 6 * b.length ∧ fr 0 = x' ∧ fr 1 = .v (.int .i64 76) ∧ fr 7 = .ptr H.length 0 0 ∧ fr 8 = .v (.int .i64 (line : Nat)) := ⟨_, fun _ _ _ => Iff.rfl⟩
  refine W_rounds I ?_ b.length _ _ ((hI _ _ _).2 ⟨x, b, [], 0, rfl, hx, Bd.new H, rfl, by omega, rfl, by simp, by simp⟩)
  intro j fr H' h
  obtain ⟨x', rest, out, line, rfl, hx', hbd, hout, hl76, hl4, hsz, a0, a1, a7, a8⟩ := (hI _ _ _).1 h
  have ux' := hx'.unl
  have hxH : RB H' x' rest := by obtain ⟨L, rfl⟩ := hbd.pre; exact hx'.app L
  have hlen' := hxH.len (P := prog) underlying23
  by_cases hr : rest = []
  · subst hr
    simp -implicitDefEqProofs [a0, a1, a7, a8, ux', hlen']
    refine WC_mono (e26 _ _ _ _ hbd (by simp at hsz; omega)) ?_
    rintro y H2 ⟨rfl, o, L2, rfl⟩
    simp -implicitDefEqProofs
    rw [← hout]; simp [encF]
  have hrl := List.length_pos_iff.2 hr
  simp -implicitDefEqProofs [a0, a1, a7, a8, ux', hlen', hrl]
  have key : ∃ out' line', (if line = 76 then out' = out ++ [13, 10] ∧ line' = 0 else out' = out ∧ line' = line) ∧ line' ≤ 72 ∧ line' % 4 = 0 ∧ out'.length ≤ out.length + 2 ∧ out' ++ (quad (rest.take 3) ++ encF (line' + 4) (rest.drop 3)) = encF 0 b := by
    rw [encF_step line rest hr] at hout
    by_cases h76 : line = 76
    · exact ⟨_, _, by rw [if_pos h76]; exact ⟨rfl, rfl⟩, by omega, rfl, by simp, by rw [← hout]; simp [preL, nxtL, h76]⟩
    · exact ⟨_, _, by rw [if_neg h76]; exact ⟨rfl, rfl⟩, by omega, hl4, by simp, by rw [← hout]; simp [preL, nxtL, h76]⟩
  obtain ⟨out', line', hol, hl72, hl4', hsz', hout'⟩ := key
  have hcut : ∀ n : Nat, n ≤ rest.length → RB H (cutC x' n rest.length) (rest.drop n) := fun n hn => by
    have := hx'.cut (o := n) (h := rest.length) hn (Nat.le_refl _)
    rwa [List.take_length] at this
  obtain ⟨n, hn⟩ : ∃ n, n = min rest.length 3 := ⟨_, rfl⟩
  have hn1 : n ≤ rest.length := by omega
  have hcutn := hcut n hn1
  obtain ⟨p, hp⟩ : ∃ p, p = rest.getD 0 0 := ⟨_, rfl⟩
  obtain ⟨q, hq⟩ : ∃ q, q = rest.getD 1 0 := ⟨_, rfl⟩
  obtain ⟨r, hr3⟩ : ∃ r, r = rest.getD 2 0 := ⟨_, rfl⟩
  have hpb := p.toNat_lt
  have hqb := q.toNat_lt
  have hrb := r.toNat_lt
  have hcv : ∀ (c : UInt8) H, cvt prog false 5 67 (.v (.int .u8 c.toNat)) H = some (.v (.int .u32 c.toNat), H) := fun c H => by
    have hc := c.toNat_lt
    simp [cvt, dConv, underlying5, underlying67, u8, wrapU32 c.toNat (by omega)]
  obtain ⟨v1, hv1⟩ : ∃ v1, v1 = p.toNat * 2 ^ 16 := ⟨_, rfl⟩
  obtain ⟨v2, hv2⟩ : ∃ v2, v2 = q.toNat * 2 ^ 8 := ⟨_, rfl⟩
  obtain ⟨v3, hv3⟩ : ∃ v3, v3 = v1 + v2 := ⟨_, rfl⟩
  obtain ⟨v, hv⟩ : ∃ v, v = v3 + r.toNat := ⟨_, rfl⟩
  have d1 : ∀ H, dBin prog .shl 67 (.v (.int .u32 p.toNat)) (.v (.int .u64 16)) H = some (.v (.int .u32 (v1 : Nat))) := fun H => by
    rw [hv1]; exact shl_u32 p.toNat 16 .u64 H (by omega) (by omega)
  have d2 : ∀ H, dBin prog .shl 67 (.v (.int .u32 q.toNat)) (.v (.int .u64 8)) H = some (.v (.int .u32 (v2 : Nat))) := fun H => by
    rw [hv2]; exact shl_u32 q.toNat 8 .u64 H (by omega) (by omega)
  have d3 : ∀ H, dBin prog .or 67 (.v (.int .u32 (v1 : Nat))) (.v (.int .u32 (v2 : Nat))) H = some (.v (.int .u32 (v3 : Nat))) := fun H => by
    rw [hv3, hv1]; exact or_u32 p.toNat v2 16 H (by omega) (by omega)
  have d4 : ∀ H, dBin prog .or 67 (.v (.int .u32 (v3 : Nat))) (.v (.int .u32 r.toNat)) H = some (.v (.int .u32 (v : Nat))) := fun H => by
    have : v3 = (p.toNat * 2 ^ 8 + q.toNat) * 2 ^ 8 := by omega
    rw [hv, this]; exact or_u32 _ r.toNat 8 H (by omega) (by omega)
  have hvv : v = valB (rest.take 3) := by rw [hv, hv3, hv1, hv2, hp, hq, hr3, valB_take rest hr]
  have hthree : three rest = [u8 p, u8 q, u8 r] := by rw [hp, hq, hr3]; rfl
  have hlv : v < 4294967296 := by omega
  have sh : ∀ (k : Nat) H, k ≤ 32 → dBin prog .shr 67 (.v (.int .u32 (v : Nat))) (.v (.int .i64 (k : Nat))) H = some (.v (.int .u32 ((v / 2 ^ k : Nat) : Int))) := fun k H hk => shr_u32 v k .i64 H hk
  have an : ∀ (w : Nat) H, w < 4294967296 → dBin prog .and 67 (.v (.int .u32 (w : Nat))) (.v (.int .u32 63)) H = some (.v (.int .u32 ((w % 64 : Nat) : Int))) := fun w H hw => and_u32 w 6 H hw (by omega)
  have w18 : IntKind.i64.wrap 18 = 18 := by decide
  have w12 : IntKind.i64.wrap 12 = 12 := by decide
  have w6 : IntKind.i64.wrap 6 = 6 := by decide
  have w0 : IntKind.i64.wrap 0 = 0 := by decide
  have hquad : quad (rest.take 3) = (List.range 4).map (sigB (rest.take 3)) := rfl
  have hlt3 : (rest.take 3).length = n := by rw [hn]; simp; omega
  have ucut : unlit (cutC x' n rest.length) = cutC x' n rest.length := hcutn.unl
  have hd3 : rest.drop 3 = rest.drop n := by
    rw [hn]
    by_cases h3 : rest.length ≤ 3
    · rw [Nat.min_eq_left h3, List.drop_eq_nil_of_le h3, List.drop_eq_nil_of_le (Nat.le_refl _)]
    · rw [Nat.min_eq_right (by omega)]
  have hln' : rest.length - n < rest.length := by omega
  have hln : (rest.drop n).length < rest.length := by rw [List.length_drop]; omega
  split
  case' isTrue h76 =>
    rw [if_pos h76] at hol
    obtain ⟨rfl, rfl⟩ := hol
    refine WC_mono (e24 _ _ _ _ [13, 10] (by simp) hbd (by simp; omega)) ?_
    rintro y H2 ⟨rfl, hbd2⟩
  case' isFalse h76 =>
    rw [if_neg h76] at hol
    obtain ⟨rfl, rfl⟩ := hol
    obtain ⟨H2, hH2⟩ : ∃ H2, H2 = H' := ⟨_, rfl⟩
    have hbd2 := hbd
    rw [← hH2] at hbd2 ⊢
  all_goals
    have hx2 : RB H2 x' rest := by obtain ⟨L, rfl⟩ := hbd2.pre; exact hx'.app L
    have hs2 := fun L lo hh => RB.slice (P := prog) underlying23 iT5 sT5 (hx2.app L) lo hh
    have hcp := copy66 H2 x' rest hr (hx2.app _)
    rw [← hn, hthree] at hcp
    simp -implicitDefEqProofs [dAlloc, aQ, a0, a1, a7, a8, ux', slice66, hcp, hs2, dIndexAddr, underlying66, load_one underlying5 rfl iT5, atP, hn1, hcv, d1, d2, d3, d4]
  case isTrue =>
    refine W_up 4 (fun i fr H' => Bd H H' (out ++ [13, 10] ++ (List.range i).map (sigB (rest.take 3))) ∧ fr 0 = cutC x' n rest.length ∧ fr 1 = .v (.int .i64 76) ∧ fr 7 = .ptr H.length 0 0 ∧ fr 8 = .v (.int .i64 0) ∧ fr 10 = .v (.int .i64 (n : Nat)) ∧ fr 11 = .v (.int .u32 (v : Nat)) ∧ fr 50 = .v (.int .i64 (i : Nat))) ?_ 0 _ _ (by omega) ⟨by simpa using hbd2.app _, by simp [ucut, a1, a7]⟩
    rintro i fr2 H3 hi ⟨hbd3, b0, b1, b7, b8, b10, b11, b50⟩
    have hw := up64 (i := i) (n := 5) (by omega) (by omega)
    by_cases hi4 : i < 4
    · have hs1 : sigB (rest.take 3) i = if i ≤ n then sgn.getD (v / 2 ^ (18 - 6 * i) % 64) 0 else 61 := by unfold sigB; rw [hlt3, hvv]
      have hsn : (List.range (i + 1)).map (sigB (rest.take 3)) = (List.range i).map (sigB (rest.take 3)) ++ [sigB (rest.take 3) i] := by simp [List.range_succ]
      rw [hsn, hs1]
      by_cases hin : i ≤ n
      · rw [if_pos hin]
        obtain ⟨z, y, kz, ky, ks⟩ : ∃ z y : Nat, (∀ H, dBin prog .shr 67 (.v (.int .u32 (v : Nat))) (.v (.int .i64 ((18 - 6 * i : Nat) : Int))) H = some (.v (.int .u32 (z : Nat)))) ∧ (∀ H, dBin prog .and 67 (.v (.int .u32 (z : Nat))) (.v (.int .u32 63)) H = some (.v (.int .u32 (y : Nat)))) ∧ sgn[y]? = some (sgn.getD (v / 2 ^ (18 - 6 * i) % 64) 0) :=
          ⟨v / 2 ^ (18 - 6 * i), v / 2 ^ (18 - 6 * i) % 64, fun H => sh _ H (by omega), fun H => an _ H (Nat.lt_of_le_of_lt (Nat.div_le_self _ _) hlv), sgn_at _⟩
        obtain ⟨s, hs⟩ : ∃ s, s = sgn.getD (v / 2 ^ (18 - 6 * i) % 64) 0 := ⟨_, rfl⟩
        rw [← hs] at ks ⊢
        obtain ⟨k, hk⟩ : ∃ k : Nat, k = 18 - 6 * i := ⟨_, rfl⟩
        rw [← hk] at kz
        have wm : IntKind.i64.wrap (6 * (i : Int)) = ((6 * i : Nat) : Int) := wrN (by omega) (by omega)
        have wk : IntKind.i64.wrap (18 - 6 * (i : Int)) = (k : Int) := wrN (by omega) (by omega)
        simp -implicitDefEqProofs [b0, b1, b7, b8, b10, b11, b50, hi4, hin, wm, wk, kz, ky, sgnE, index_str underlying9, ks]
        refine WC_mono (e25 _ _ _ _ s (by simp) hbd3 (by simp; omega)) ?_
        rintro y2 H4 ⟨rfl, hbd4⟩
        simp -implicitDefEqProofs [b0, b1, b7, b8, b10, b11, b50, hi4, hw]
        simpa using hbd4
      · rw [if_neg hin]
        simp -implicitDefEqProofs [b0, b1, b7, b8, b10, b11, b50, hi4, hin]
        refine WC_mono (e25 _ _ _ _ 61 (by simp) hbd3 (by simp; omega)) ?_
        rintro y2 H4 ⟨rfl, hbd4⟩
        simp -implicitDefEqProofs [b0, b1, b7, b8, b10, b11, b50, hi4, hw]
        simpa using hbd4
    · obtain rfl : i = 4 := by omega
      simp -implicitDefEqProofs [b0, b1, b7, b8, b10, b11, b50]
      refine ⟨_, hln', (hI _ _ _).2 ⟨_, _, _, (0 + 4), by simp, hcutn, hbd3, by rw [← hout', hquad, hd3]; simp, by omega, by omega, by simp; omega, by simp [b0], by simp [b1], by simp [b7], by simp [show IntKind.i64.wrap 4 = 4 from by decide]⟩⟩
  case isFalse =>
    refine W_up 4 (fun i fr H' => Bd H H' (out' ++ (List.range i).map (sigB (rest.take 3))) ∧ fr 0 = cutC x' n rest.length ∧ fr 1 = .v (.int .i64 76) ∧ fr 7 = .ptr H.length 0 0 ∧ fr 8 = .v (.int .i64 (line' : Nat)) ∧ fr 10 = .v (.int .i64 (n : Nat)) ∧ fr 11 = .v (.int .u32 (v : Nat)) ∧ fr 50 = .v (.int .i64 (i : Nat))) ?_ 0 _ _ (by omega) ⟨by simpa using hbd2.app _, by simp [ucut, a1, a7, a8]⟩
    rintro i fr2 H3 hi ⟨hbd3, b0, b1, b7, b8, b10, b11, b50⟩
    have hw := up64 (i := i) (n := 5) (by omega) (by omega)
    by_cases hi4 : i < 4
    · have hs1 : sigB (rest.take 3) i = if i ≤ n then sgn.getD (v / 2 ^ (18 - 6 * i) % 64) 0 else 61 := by unfold sigB; rw [hlt3, hvv]
      have hsn : (List.range (i + 1)).map (sigB (rest.take 3)) = (List.range i).map (sigB (rest.take 3)) ++ [sigB (rest.take 3) i] := by simp [List.range_succ]
      rw [hsn, hs1]
      by_cases hin : i ≤ n
      · rw [if_pos hin]
        obtain ⟨z, y, kz, ky, ks⟩ : ∃ z y : Nat, (∀ H, dBin prog .shr 67 (.v (.int .u32 (v : Nat))) (.v (.int .i64 ((18 - 6 * i : Nat) : Int))) H = some (.v (.int .u32 (z : Nat)))) ∧ (∀ H, dBin prog .and 67 (.v (.int .u32 (z : Nat))) (.v (.int .u32 63)) H = some (.v (.int .u32 (y : Nat)))) ∧ sgn[y]? = some (sgn.getD (v / 2 ^ (18 - 6 * i) % 64) 0) :=
          ⟨v / 2 ^ (18 - 6 * i), v / 2 ^ (18 - 6 * i) % 64, fun H => sh _ H (by omega), fun H => an _ H (Nat.lt_of_le_of_lt (Nat.div_le_self _ _) hlv), sgn_at _⟩
        obtain ⟨s, hs⟩ : ∃ s, s = sgn.getD (v / 2 ^ (18 - 6 * i) % 64) 0 := ⟨_, rfl⟩
        rw [← hs] at ks ⊢
        obtain ⟨k, hk⟩ : ∃ k : Nat, k = 18 - 6 * i := ⟨_, rfl⟩
        rw [← hk] at kz
        have wm : IntKind.i64.wrap (6 * (i : Int)) = ((6 * i : Nat) : Int) := wrN (by omega) (by omega)
        have wk : IntKind.i64.wrap (18 - 6 * (i : Int)) = (k : Int) := wrN (by omega) (by omega)
        simp -implicitDefEqProofs [b0, b1, b7, b8, b10, b11, b50, hi4, hin, wm, wk, kz, ky, sgnE, index_str underlying9, ks]
        refine WC_mono (e25 _ _ _ _ s (by simp) hbd3 (by simp; omega)) ?_
        rintro y2 H4 ⟨rfl, hbd4⟩
        simp -implicitDefEqProofs [b0, b1, b7, b8, b10, b11, b50, hi4, hw]
        simpa using hbd4
      · rw [if_neg hin]
        simp -implicitDefEqProofs [b0, b1, b7, b8, b10, b11, b50, hi4, hin]
        refine WC_mono (e25 _ _ _ _ 61 (by simp) hbd3 (by simp; omega)) ?_
        rintro y2 H4 ⟨rfl, hbd4⟩
        simp -implicitDefEqProofs [b0, b1, b7, b8, b10, b11, b50, hi4, hw]
        simpa using hbd4
    · obtain rfl : i = 4 := by omega
      simp -implicitDefEqProofs [b0, b1, b7, b8, b10, b11, b50]
      refine ⟨_, hln', (hI _ _ _).2 ⟨_, _, _, (line' + 4), by simp, hcutn, hbd3, by rw [← hout', hquad, hd3]; simp, by omega, by omega, by simp; omega, by simp [b0], by simp [b1], by simp [b7], by simp [wrN (x := (line' : Int) + 4) (n := line' + 4) (by omega) (by omega)]⟩⟩
end Go.Proofs.Try

/- Walks: quoted.Encode. -/
namespace Go.Proofs.Try
open Go Go.SL
set_option linter.unusedVariables false
set_option linter.unusedSimpArgs false
attribute [local congr] WX_stop WC_stop W_stop
def endS (r : Bs) : Bool := decide (r = []) || decide ([13, 10] <+: r)
/-- A byte's sign. -/
def sigS (c : UInt8) (r : Bs) : Bs := if 32 < c.toNat ∧ c.toNat < 127 ∧ c.toNat ≠ 61 then [c] else if (c.toNat = 32 ∨ c.toNat = 9) ∧ endS r = false then [c] else 61 :: hex2 c
theorem sigS_len (c : UInt8) (r : Bs) : (sigS c r).length ≤ 3 := by unfold sigS hex2; split <;> (try split) <;> simp
/-- Bytes as lines. -/
def qE (text : Bool) : Nat → Nat → Bs → Bs
  | 0, _, _ => []
  | _ + 1, _, [] => []
  | k + 1, line, c :: r => if text = true ∧ [13, 10] <+: c :: r then [13, 10] ++ qE text k 0 (r.drop 1) else
      (if 75 < line + (sigS c r).length then [61, 13, 10] else []) ++ sigS c r ++ qE text k ((if 75 < line + (sigS c r).length then 0 else line) + (sigS c r).length) r
theorem sigQ_eq (s : Bs) (i : Nat) (hi : i < s.length) : sigQ s i s[i] = sigS s[i] (s.drop (i + 1)) := by
  have : endsB s (i + 1) = endS (s.drop (i + 1)) := by
    unfold endsB endS
    congr 2
    simp
    omega
  unfold sigQ sigS; rw [this]
variable [LayerC]
set_option maxRecDepth 100000 in
theorem e13 (m : Nat) (x : CV) (s : Bs) (text : Bool) (H : Hp) (hx : RB H x s) (hb : s.length ≤ 2000) : Ret prog cs0 m 13 [x, .v (.bool text)] H (.tup [str (qE text s.length 0 s), .v (.int .i64 0)]) H := by
  unfold Ret
  rw [WC_drop rfl func13 rfl rfl]
  have ux := hx.unl
  have hlen0 := hx.len (P := prog) underlying23
  have hbig : ¬ (1048576 : Int) < (s.length : Nat) := by omega
  have hcs := hx.str (P := prog) false underlying23 underlying9 underlying5
  simp -implicitDefEqProofs [f13, ux, hlen0, hbig, dAlloc, aQ, hcs, store_at iT9, stQ]
  obtain ⟨A, hA⟩ : ∃ A, A = H ++ [CO.cells 0 [str s] 9] := ⟨_, rfl⟩
  have hAl : A.length = H.length + 1 := by rw [hA]; simp
  obtain ⟨I, hI⟩ : ∃ I : Nat → Fr → Hp → Prop, ∀ j fr H', I j fr H' ↔ ∃ i k out line, j = s.length - i ∧ i ≤ s.length ∧ s.length - i ≤ k ∧ Bd A H' out ∧ out ++ qE text k line (s.drop i) = qE text s.length 0 s ∧ line ≤ 75 ∧ out.length ≤ 6 * i ∧ fr 0 = x ∧ fr 1 = .v (.bool text) ∧ fr 6 = .ptr H.length 0 0 ∧ fr 7 = .ptr A.length 0 0 ∧ fr 8 = .v (.int .i64 (line : Nat)) ∧ fr 9 = .fn (.func 27) [] [.ptr H.length 0 0] ∧ fr 10 = .v (.int .i64 (i : Nat)) := ⟨_, fun _ _ _ => Iff.rfl⟩
  have hbd0 : Bd A (H ++ [CO.cells 0 [str s] 9, CO.cells 0 [nilP, nilC] 61]) [] := by
    have := Bd.new A
    rw [hA] at this ⊢
    simpa using this
  refine W_rounds I ?_ (s.length - 0) _ _ ((hI _ _ _).2 ⟨0, s.length, [], 0, rfl, by omega, by omega, hbd0, rfl, by omega, by simp, by simp [hAl]⟩)
  intro j fr H' h
  obtain ⟨i, k, out, line, rfl, hi, hk, hbd, hout, hl75, hsz, a0, a1, a6, a7, a8, a9, a10⟩ := (hI _ _ _).1 h
  obtain ⟨L0, hL0⟩ := hbd.pre
  have hH' : H' = H ++ CO.cells 0 [str s] 9 :: L0 := by rw [hL0, hA]; simp
  have hld : dLoad prog 9 (.ptr H.length 0 0) H' = some (str s) := by rw [hH']; simp [load_one underlying9 rfl iT9]
  by_cases hlt : i < s.length
  case neg =>
    obtain rfl : i = s.length := by omega
    simp -implicitDefEqProofs [a0, a1, a6, a7, a8, a9, a10, hld, len_str underlying9]
    refine WC_mono (e26 _ _ _ _ hbd (by omega)) ?_
    rintro y H2 ⟨rfl, o, L2, rfl⟩
    simp -implicitDefEqProofs [hA]
    rw [← hout]
    cases k <;> simp [qE]
  obtain ⟨k, rfl⟩ : ∃ k', k = k' + 1 := ⟨k - 1, by omega⟩
  have hdr : s.drop i = s[i] :: s.drop (i + 1) := List.drop_eq_getElem_cons hlt
  rw [hdr, qE, ← hdr] at hout
  have c28 := fun m H => (e28 m s i H hi).wc
  have hw := up64 (i := i) (n := s.length) hlt (by omega)
  by_cases hp : text = true ∧ [13, 10] <+: s.drop i
  · rw [if_pos hp] at hout
    obtain ⟨rfl, hp⟩ := hp
    simp -implicitDefEqProofs [a0, a1, a6, a7, a8, a9, a10, hld, len_str underlying9, hlt, c28, hp]
    obtain ⟨t2, ht2⟩ := hp
    have hlt2 : i + 2 ≤ s.length := by
      have := congrArg List.length ht2
      simp at this; omega
    have hw2 : IntKind.i64.wrap ((i : Int) + 1 + 1) = ((i + 2 : Nat) : Int) := wrN (by omega) (by omega)
    refine WC_mono (e24 _ _ _ _ [13, 10] (by omega) hbd (by simp; omega)) ?_
    rintro y H2 ⟨rfl, hbd2⟩
    simp -implicitDefEqProofs [a0, a1, a6, a7, a8, a9, a10, hw, hw2]
    refine ⟨_, by omega, (hI _ _ _).2 ⟨i + 2, k, _, 0, rfl, hlt2, by omega, hbd2, ?_, by omega, by simp; omega, by simp [a0, a1, a6, a7, a9]⟩⟩
    rw [← hout]
    simp
  rw [if_neg hp] at hout
  have c29 : ∀ (m : Nat) K, WC prog cs0 m (.f 29) [str s, .v (.int .i64 (i : Nat)), .fn (.func 27) [] [.ptr H.length 0 0]] H' K ↔ K (str (sigS s[i] (s.drop (i + 1)))) H' := fun m K => by
    rw [hH', ← sigQ_eq s i hlt]; exact (e29 m H L0 s i hlt (by omega)).wc K
  obtain ⟨g, hg⟩ : ∃ g, g = sigS s[i] (s.drop (i + 1)) := ⟨_, rfl⟩
  have hg3 : g.length ≤ 3 := by rw [hg]; exact sigS_len _ _
  rw [← hg] at c29 hout
  have hwl : IntKind.i64.wrap ((line : Int) + (g.length : Nat)) = ((line + g.length : Nat) : Int) := wrN (by omega) (by omega)
  have hwg : IntKind.i64.wrap ((g.length : Nat) : Int) = (g.length : Nat) := wrN (by omega) (by omega)
  have hstart : ∀ (K : Prop), (text = true → ¬ [13, 10] <+: s.drop i) := fun _ h1 h2 => hp ⟨h1, h2⟩
  by_cases h75 : 75 < line + g.length
  · rw [if_pos h75, if_pos h75] at hout
    have h75' : (75 : Int) < (line : Int) + (g.length : Nat) := by omega
    cases text
    case' true => have hp' := hstart True rfl
    all_goals
      first | simp -implicitDefEqProofs [a0, a1, a6, a7, a8, a9, a10, hld, len_str underlying9, hlt, c28, hp', c29, hwl, h75'] | simp -implicitDefEqProofs [a0, a1, a6, a7, a8, a9, a10, hld, len_str underlying9, hlt, c28, c29, hwl, h75']
      refine WC_mono (e24 _ _ _ _ [61, 13, 10] (by omega) hbd (by simp; omega)) ?_
      rintro y H2 ⟨rfl, hbd2⟩
      simp -implicitDefEqProofs [a0, a1, a6, a7, a8, a9, a10]
      refine WC_mono (e24 _ _ _ _ g (by omega) hbd2 (by simp; omega)) ?_
      rintro y H3 ⟨rfl, hbd3⟩
      simp -implicitDefEqProofs [a0, a1, a6, a7, a8, a9, a10, len_str underlying9, hwg, hw]
      refine ⟨_, by omega, (hI _ _ _).2 ⟨i + 1, k, _, 0 + g.length, rfl, by omega, by omega, hbd3, ?_, by omega, by simp; omega, by simp [a0, a1, a6, a7, a9]⟩⟩
      rw [← hout]; simp
  · rw [if_neg h75, if_neg h75] at hout
    have h75' : ¬ (75 : Int) < (line : Int) + (g.length : Nat) := by omega
    cases text
    case' true => have hp' := hstart True rfl
    all_goals
      first | simp -implicitDefEqProofs [a0, a1, a6, a7, a8, a9, a10, hld, len_str underlying9, hlt, c28, hp', c29, hwl, h75'] | simp -implicitDefEqProofs [a0, a1, a6, a7, a8, a9, a10, hld, len_str underlying9, hlt, c28, c29, hwl, h75']
      refine WC_mono (e24 _ _ _ _ g (by omega) hbd (by omega)) ?_
      rintro y H3 ⟨rfl, hbd3⟩
      simp -implicitDefEqProofs [a0, a1, a6, a7, a8, a9, a10, len_str underlying9, hwl, hw]
      refine ⟨_, by omega, (hI _ _ _).2 ⟨i + 1, k, _, line + g.length, rfl, by omega, by omega, hbd3, ?_, by omega, by simp; omega, by simp [a0, a1, a6, a7, a9]⟩⟩
      rw [← hout]; simp
end Go.Proofs.Try

/- Walks: bits.Decode. -/
namespace Go.Proofs.Try
open Go Go.SL
set_option linter.unusedVariables false
set_option linter.unusedSimpArgs false
attribute [local congr] WX_stop WC_stop W_stop
/-- A sign's number. -/
def sv (c : UInt8) : Option Nat := if 0 ≤ Lib.indexByte sgn c then some (Lib.indexByte sgn c).toNat else none
def tri (v : Nat) : Bs := [(v / 65536).toUInt8, (v / 256).toUInt8, v.toUInt8]
structure DS where
  v : Nat
  n : Nat
  pads : Nat
  last : Nat
  out : Bs
/-- One digit more. -/
def dPut (d pads last : Nat) (s : DS) : (Nat × Nat) ⊕ DS :=
  if (s.n + 1) % 4 = 0 then
    if 0 < pads ∧ (s.out ++ tri (s.v * 64 + d)).getD (s.out.length + 3 - pads) 0 ≠ 0 then .inl (last, 12)
    else .inr ⟨0, s.n + 1, pads, last, (s.out ++ tri (s.v * 64 + d)).take (s.out.length + 3 - pads)⟩
  else .inr ⟨s.v * 64 + d, s.n + 1, pads, last, s.out⟩
def dStep (i : Nat) (c : UInt8) (s : DS) : (Nat × Nat) ⊕ DS :=
  match sv c with
  | none => if c ≠ 61 then .inl (i, 10) else if s.n % 4 < 2 then .inl (i, 11) else dPut 0 (s.pads + 1) s.last s
  | some d => if 0 < s.pads then .inl (i, 11) else dPut d s.pads i s
def dB (L : Nat) : Nat → Bs → Nat → DS → (Nat × Nat) ⊕ Bs
  | 0, _, _, s => .inr s.out
  | _ + 1, [], _, s => if s.n % 4 = 0 then .inr s.out else .inl (L, 11)
  | k + 1, c :: r, i, s => if c = 13 ∧ r.head? = some 10 then dB L k (r.drop 1) (i + 2) s else
    match dStep i c s with
    | .inl e => .inl e
    | .inr s' => dB L k r (i + 1) s'
def decB (s : Bs) : (Nat × Nat) ⊕ Bs := if 2097152 < s.length then .inl (0, 2) else dB s.length (s.length + 1) s 0 ⟨0, 0, 0, 0, []⟩
/-- What reading answers. -/
def decV (r : (Nat × Nat) ⊕ Bs) (y : CV) : Prop :=
  match r with
  | .inl (a, c) => y = .tup [nilC, .agg [.v (.int .i64 (a : Nat)), .v (.int .i64 (c : Nat))]]
  | .inr out => ∃ z, CB z out ∧ y = .tup [z, .agg [.v (.int .i64 0), .v (.int .i64 0)]]
/-- What holds in between. -/
structure DSok (i : Nat) (s : DS) : Prop where
  n : s.n ≤ i
  v : s.v < 64 ^ (s.n % 4)
  p : s.pads ≤ 2
  pn : 0 < s.pads → s.n % 4 = 3 ∨ s.n % 4 = 0
  p3 : s.n % 4 = 3 → s.pads ≤ 1
  out : s.out.length ≤ 3 * i
  last : s.last ≤ i
theorem sv_lt {c : UInt8} {d : Nat} (h : sv c = some d) : d < 64 ∧ Lib.indexByte sgn c = (d : Int) := by
  unfold sv at h
  split at h
  · rename_i h0
    cases h
    have h1 : Lib.indexByte sgn c = (((Lib.indexByte sgn c).toNat : Nat) : Int) := by omega
    refine ⟨?_, h1⟩
    have := (Lib.indexByte_some (l := sgn) (c := c) h1).1
    have h2 := (List.getElem?_eq_some_iff.1 this).1
    exact h2
  · cases h
theorem sv_none {c : UInt8} (h : sv c = none) : ¬ 0 ≤ Lib.indexByte sgn c := by
  unfold sv at h
  split at h
  · cases h
  · assumption
theorem sv61 : sv 61 = none := by decide +kernel
theorem GB.cut_all {m : Nat} {H : Hp} {x : CV} {l : Bs} (h : GB m H x l) : cutC x 0 l.length = x := by
  rcases h with ⟨_, _, rfl⟩ | ⟨_, id, ver, _, rfl, _⟩
  · rfl
  · simp [cutC]
/-- New bytes are closed. -/
theorem frz_new {H : Hp} {m : Nat} {x : CV} {l : Bs} (h : RB H x l) (hn : ∀ id ver off len s, x = .sl id ver off len s → m ≤ id) : ∃ y, frz2 H m x = some y ∧ CB y l := by
  rcases h with rfl | ⟨rfl, rfl⟩ | ⟨id, ver, off, cs, rfl, hc, ht, ho⟩
  · exact ⟨_, rfl, .inl rfl⟩
  · exact ⟨_, rfl, .inr ⟨rfl, rfl, rfl⟩⟩
  · have hm := hn _ _ _ _ _ rfl
    have hat : atS H (.sl id ver off l.length 1) = some (u8s l, l.length) := RB.atS (.inr (.inr ⟨id, ver, off, cs, rfl, hc, ht, ho⟩))
    refine ⟨.im (u8s l) l.length 1, ?_, .inl rfl⟩
    rw [frz2_sl, frz1_sl, if_neg (by omega), hat]
    have := u8s_clB l
    simp only [this, u8s_length, Nat.mul_one, decide_true, Bool.and_self, if_true, Option.bind_some]
theorem b78_1 (b : Int) : dBuild prog 78 [(1, .v (.int .i64 b))] = some (.agg [.v (.int .i64 0), .v (.int .i64 b)]) := by
  simp [dBuild, underlying78, places, fillC]
abbrev zFc : CO := CO.cells 0 [.v (.int .i64 0), .v (.int .i64 0)] 78
theorem take_pre {A H : Hp} {o : CO} {L : Hp} (h : H.take (A.length + 1) = (A ++ o :: L).take (A.length + 1)) : ∃ L2, H = A ++ o :: L2 := by
  refine ⟨H.drop (A.length + 1), ?_⟩
  have h6 : (A ++ o :: L).take (A.length + 1) = A ++ [o] := by rw [List.take_append, List.take_of_length_le (by omega)]; simp
  rw [h6] at h
  conv => lhs; rw [← List.take_append_drop (A.length + 1) H, h]
  simp
theorem cv_u32_u8 (w : Nat) (H : Hp) : cvt prog false 67 5 (.v (.int .u32 (w : Nat))) H = some (.v (.int .u8 (w.toUInt8.toNat : Nat)), H) := by
  have : IntKind.u8.wrap (w : Int) = ((w % 256 : Nat) : Int) := by simp [IntKind.wrap, IntKind.bits, IntKind.signed]
  simp [cvt, dConv, underlying5, underlying67, this]
theorem GB.ids {m : Nat} {H : Hp} {x : CV} {l : Bs} (h : GB m H x l) {id ver off len sz : Nat} (hx : x = .sl id ver off len sz) : m ≤ id := by
  rcases h with ⟨_, _, rfl⟩ | ⟨_, id, ver, hm, rfl, _⟩
  · cases hx
  · cases hx; exact hm
theorem cut_ids {x : CV} {o h : Nat} {id ver off len sz : Nat} (hx : cutC x o h = .sl id ver off len sz) : ∃ off2, True ∧ ∃ len2, x = .sl id ver off2 len2 sz := by
  unfold cutC at hx
  split at hx
  · cases hx; exact ⟨_, trivial, _, rfl⟩
  · cases hx
  · subst hx; exact ⟨_, trivial, _, rfl⟩
variable [LayerC]
set_option maxRecDepth 100000 in
set_option maxHeartbeats 2000000 in
theorem e33 (m : Nat) (s : Bs) (H : Hp) : WC prog cs0 m (.f 33) [str s] H fun y H' => H' = H ∧ decV (decB s) y := by
  rw [WC_drop rfl func33 rfl rfl]
  obtain ⟨R, hR⟩ : ∃ R, R = decB s := ⟨_, rfl⟩
  rw [← hR]
  unfold decB at hR
  by_cases hbig : 2097152 < s.length
  · rw [if_pos hbig] at hR
    simp -implicitDefEqProofs [f33, len_str underlying9, hbig, dAlloc, aQ, b78_1, store_at iT78, cells_agg, stQ, load_aggp underlying78 rfl iT78, hR, decV]
  rw [if_neg hbig] at hR
  have hst : ∀ x, stQ H.length (.ptr H.length 0 0) x = true := fun x => by simp [stQ]
  simp -implicitDefEqProofs [f33, len_str underlying9, hbig, dAlloc, aQ]
  obtain ⟨I, hI⟩ : ∃ I : Nat → Fr → Hp → Prop, ∀ j fr H', I j fr H' ↔ ∃ i k z x L, j = s.length - i ∧ i ≤ s.length ∧ s.length - i + 1 ≤ k ∧ dB s.length k (s.drop i) i z = R ∧ DSok i z ∧ H' = H ++ zFc :: L ∧ RB H' x z.out ∧ (∀ id ver off len sz, x = .sl id ver off len sz → H.length ≤ id) ∧ (z.pads = 0 ∨ z.n % 4 ≠ 0 → GB (H.length + 1) H' x z.out) ∧ fr 0 = str s ∧ fr 3 = .ptr H.length 0 0 ∧ fr 4 = x ∧ fr 5 = .v (.int .u32 (z.v : Nat)) ∧ fr 6 = .v (.int .i64 (z.n : Nat)) ∧ fr 7 = .v (.int .i64 (z.pads : Nat)) ∧ fr 8 = .v (.int .i64 (z.last : Nat)) ∧ fr 9 = .v (.int .i64 (i : Nat)) := ⟨_, fun _ _ _ => Iff.rfl⟩
  refine W_rounds I ?_ (s.length - 0) _ _ ((hI _ _ _).2 ⟨0, s.length + 1, ⟨0, 0, 0, 0, []⟩, nilC, [], rfl, by omega, by omega, hR.symm, ⟨by simp, by simp, by simp, by simp, by simp, by simp, by simp⟩, rfl, RB.nil _, by simp, fun _ => GB.nil _ _, by simp⟩)
  intro j fr H' h
  obtain ⟨i, k, z, x, L, rfl, hi, hk, hdB, hz, rfl, hrb, hnew, hgb, a0, a3, a4, a5, a6, a7, a8, a9⟩ := (hI _ _ _).1 h
  obtain ⟨zn, zv, zp, zpn, zp3, zo, zl⟩ := hz
  have ux := hrb.unl
  obtain ⟨k, rfl⟩ : ∃ k', k = k' + 1 := ⟨k - 1, by omega⟩
  have hrem := fun H => rem_nat (P := prog) (t := 3) z.n 4 H (by omega)
  have h4 : ((4 : Nat) : Int) = 4 := rfl
  rw [h4] at hrem
  by_cases hlt : i < s.length
  case neg =>
    obtain rfl : i = s.length := by omega
    rw [List.drop_length, dB] at hdB
    by_cases hn4 : z.n % 4 = 0
    · rw [if_pos hn4] at hdB
      have hn4' : ((z.n % 4 : Nat) : Int) = 0 := by omega
      rw [hn4'] at hrem
      obtain ⟨y, hy1, hy2⟩ := frz_new (m := H.length) hrb hnew
      simp -implicitDefEqProofs [a0, a3, a4, a5, a6, a7, a8, a9, len_str underlying9, hrem, b78_0, store_at iT78, cells_agg, hst, load_aggp underlying78 rfl iT78, ux, hy1]
      rw [← hdB]
      exact ⟨y, hy2, rfl⟩
    · rw [if_neg hn4] at hdB
      obtain ⟨q, hq⟩ : ∃ q, q = z.n % 4 := ⟨_, rfl⟩
      rw [← hq] at hrem hn4
      simp -implicitDefEqProofs [a0, a3, a4, a5, a6, a7, a8, a9, len_str underlying9, hrem, hn4, b78_2, store_at iT78, cells_agg, hst, load_aggp underlying78 rfl iT78]
      rw [← hdB]
      rfl
  have hdr : s.drop i = s[i] :: s.drop (i + 1) := List.drop_eq_getElem_cons hlt
  rw [hdr, dB] at hdB
  have hw := up64 (i := i) (n := s.length) hlt (by omega)
  have hhd : (s.drop (i + 1)).head? = s[i + 1]? := by rw [List.head?_drop]
  rw [hhd] at hdB
  by_cases hpair : s[i] = 13 ∧ s[i + 1]? = some 10
  · rw [if_pos hpair] at hdB
    obtain ⟨h13, hix1⟩ := hpair
    have hlt1 : i + 1 < s.length := (List.getElem?_eq_some_iff.1 hix1).1
    have h10 : s[i + 1].toNat = 10 := by rw [List.getElem?_eq_getElem hlt1] at hix1; rw [Option.some.inj hix1]; rfl
    have h13' : s[i].toNat = 13 := by rw [h13]; rfl
    have hlt1' : (i : Int) + 1 < (s.length : Nat) := by omega
    have hw2 : IntKind.i64.wrap ((i : Int) + 1 + 1) = ((i + 2 : Nat) : Int) := wrN (by omega) (by omega)
    have ht1 : ((i : Int) + 1).toNat = i + 1 := by omega
    have hge : (0 : Int) ≤ (i : Int) + 1 := by omega
    simp -implicitDefEqProofs [a0, a3, a4, a5, a6, a7, a8, a9, len_str underlying9, hlt, index_str underlying9, h13', h10, hlt1, hlt1', hw, hw2, u8, ht1, hge]
    refine ⟨_, by omega, (hI _ _ _).2 ⟨i + 2, k, z, x, L, rfl, by omega, by omega, ?_, ⟨by omega, zv, zp, zpn, zp3, by omega, by omega⟩, rfl, hrb, hnew, hgb, by simp [a0, a3, a4, a5, a6, a7, a8]⟩⟩
    rw [List.drop_drop] at hdB
    exact hdB
  rw [if_neg hpair] at hdB
  have hB : ¬ (s[i].toNat = 13) ∨ (s[i].toNat = 13 ∧ ¬ ((i : Int) + 1 < (s.length : Nat))) ∨ (s[i].toNat = 13 ∧ ((i : Int) + 1 < (s.length : Nat)) ∧ ∃ h : i + 1 < s.length, ¬ s[i + 1].toNat = 10) := by
    by_cases h1 : s[i].toNat = 13
    · by_cases h2 : (i : Int) + 1 < (s.length : Nat)
      · have h3 : i + 1 < s.length := by omega
        refine .inr (.inr ⟨h1, h2, h3, fun h4 => hpair ⟨?_, ?_⟩⟩)
        · exact UInt8.toNat_inj.1 h1
        · rw [List.getElem?_eq_getElem h3]; exact congrArg some (UInt8.toNat_inj.1 h4)
      · exact .inr (.inl ⟨h1, h2⟩)
    · exact .inl h1
  have ht1 : ((i : Int) + 1).toNat = i + 1 := by omega
  have hge : (0 : Int) ≤ (i : Int) + 1 := by omega
  have c47 := fun m H => (e47 m s[i] H).wc
  have zv18 : z.v < 64 ^ 3 := Nat.lt_of_lt_of_le zv (Nat.pow_le_pow_right (by omega) (by omega))
  obtain ⟨va, hva⟩ : ∃ va, va = z.v * 2 ^ 6 := ⟨_, rfl⟩
  have hshl : ∀ H, dBin prog .shl 67 (.v (.int .u32 (z.v : Nat))) (.v (.int .u64 6)) H = some (.v (.int .u32 (va : Nat))) := fun H => by
    rw [hva]; exact shl_u32 z.v 6 .u64 H (by omega) (by omega)
  have hor : ∀ (d : Nat) H, d < 64 → dBin prog .or 67 (.v (.int .u32 (va : Nat))) (.v (.int .u32 (d : Nat))) H = some (.v (.int .u32 ((va + d : Nat) : Int))) := fun d H hd => by
    rw [hva]; exact or_u32 z.v d 6 H (by omega) (by omega)
  have hwn : IntKind.i64.wrap ((z.n : Int) + 1) = ((z.n + 1 : Nat) : Int) := wrN (by omega) (by omega)
  have hwp : IntKind.i64.wrap ((z.pads : Int) + 1) = ((z.pads + 1 : Nat) : Int) := wrN (by omega) (by omega)
  obtain ⟨q, hq⟩ : ∃ q, q = z.n % 4 := ⟨_, rfl⟩
  rw [← hq] at hrem
  unfold dStep at hdB
  cases hsv : sv s[i] with
  | none =>
    rw [hsv] at hdB
    have hx0 := sv_none hsv
    by_cases h61 : s[i] = 61
    case neg =>
      have h61' : ¬ s[i].toNat = 61 := fun h => h61 (UInt8.toNat_inj.1 h)
      simp only [] at hdB
      rw [if_pos h61] at hdB
      rcases hB with h1 | ⟨h1, h2⟩ | ⟨h1, h2, h3, h4⟩
      · simp -implicitDefEqProofs [a0, a3, a4, a5, a6, a7, a8, a9, len_str underlying9, hlt, index_str underlying9, u8, h1, ht1, hge, hw, c47, hx0, h61', b78_2, store_at iT78, cells_agg, hst, load_aggp underlying78 rfl iT78, dExtract]
        rw [← hdB]; rfl
      · have h1' := eq_true h1
        simp -implicitDefEqProofs [a0, a3, a4, a5, a6, a7, a8, a9, len_str underlying9, hlt, index_str underlying9, u8, h1', h2, ht1, hge, hw, c47, hx0, h61', b78_2, store_at iT78, cells_agg, hst, load_aggp underlying78 rfl iT78, dExtract]
        rw [← hdB]; rfl
      · have h1' := eq_true h1
        simp -implicitDefEqProofs [a0, a3, a4, a5, a6, a7, a8, a9, len_str underlying9, hlt, index_str underlying9, u8, h1', h2, h3, h4, ht1, hge, hw, c47, hx0, h61', b78_2, store_at iT78, cells_agg, hst, load_aggp underlying78 rfl iT78, dExtract]
        rw [← hdB]; rfl
    have h61' : s[i].toNat = 61 := by rw [h61]; rfl
    have h1 : ¬ s[i].toNat = 13 := by omega
    have h61e := eq_true h61'
    simp only [h61, ne_eq, not_true_eq_false, if_false] at hdB
    by_cases hq2 : q < 2
    · rw [if_pos (by omega)] at hdB
      simp -implicitDefEqProofs [a0, a3, a4, a5, a6, a7, a8, a9, len_str underlying9, hlt, index_str underlying9, u8, ht1, hge, hw, ux, c47, b78_2, store_at iT78, cells_agg, hst, load_aggp underlying78 rfl iT78, dExtract, h1, h61e, hx0, hrem, hq2]
      rw [← hdB]; rfl
    rw [if_neg (by omega)] at hdB
    have hwr : True := trivial
    have hpad2 : z.pads + 1 ≤ 2 := by omega
    obtain ⟨q2, hq2e⟩ : ∃ q2, q2 = (z.n + 1) % 4 := ⟨_, rfl⟩
    have hrem2 : ∀ H, dBin prog .rem 3 (.v (.int .i64 ((z.n : Int) + 1))) (.v (.int .i64 4)) H = some (.v (.int .i64 (q2 : Nat))) := fun H => by
      rw [hq2e]; exact rem_nat (z.n + 1) 4 H (by omega)
    obtain ⟨vn, hvn⟩ : ∃ vn, vn = z.v * 64 + 0 := ⟨_, rfl⟩
    have hvn24 : vn < 16777216 := by omega
    have hv2 : q2 ≠ 0 → vn < 64 ^ ((z.n + 1) % 4) := fun h0 => by
      have h5 : (z.n + 1) % 4 = z.n % 4 + 1 := by omega
      rw [h5, Nat.pow_succ]; omega
    have horD : ∀ H, dBin prog .or 67 (.v (.int .u32 (va : Nat))) (.v (.int .u32 0)) H = some (.v (.int .u32 (vn : Nat))) := fun H => by
      have := hor 0 H (by omega)
      have h6 : va + 0 = vn := by omega
      rw [h6] at this; exact this
    obtain ⟨w1, hw1⟩ : ∃ w1, w1 = vn / 2 ^ 16 := ⟨_, rfl⟩
    obtain ⟨w2, hw2⟩ : ∃ w2, w2 = vn / 2 ^ 8 := ⟨_, rfl⟩
    have h16 : ∀ H, dBin prog .shr 67 (.v (.int .u32 (vn : Nat))) (.v (.int .u64 16)) H = some (.v (.int .u32 (w1 : Nat))) := fun H => by rw [hw1]; exact shr_u32 vn 16 .u64 H (by omega)
    have h8 : ∀ H, dBin prog .shr 67 (.v (.int .u32 (vn : Nat))) (.v (.int .u64 8)) H = some (.v (.int .u32 (w2 : Nat))) := fun H => by rw [hw2]; exact shr_u32 vn 8 .u64 H (by omega)
    obtain ⟨p1, hp1⟩ : ∃ p1, p1 = (vn / 65536).toUInt8 := ⟨_, rfl⟩
    obtain ⟨p2, hp2⟩ : ∃ p2, p2 = (vn / 256).toUInt8 := ⟨_, rfl⟩
    obtain ⟨p3, hp3⟩ : ∃ p3, p3 = vn.toUInt8 := ⟨_, rfl⟩
    have hcv1 : ∀ H, cvt prog false 67 5 (.v (.int .u32 (w1 : Nat))) H = some (.v (.int .u8 p1.toNat), H) := fun H => by rw [hw1, hp1]; exact cv_u32_u8 _ H
    have hcv2 : ∀ H, cvt prog false 67 5 (.v (.int .u32 (w2 : Nat))) H = some (.v (.int .u8 p2.toNat), H) := fun H => by rw [hw2, hp2]; exact cv_u32_u8 _ H
    have hcv3 : ∀ H, cvt prog false 67 5 (.v (.int .u32 (vn : Nat))) H = some (.v (.int .u8 p3.toNat), H) := fun H => by rw [hp3]; exact cv_u32_u8 _ H
    unfold dPut at hdB
    by_cases hq0 : q2 = 0
    · rw [if_pos (by omega)] at hdB
      have hq0' := eq_true hq0
      have hg := hgb (by rw [← hq]; exact .inr (by omega))
      rw [← hvn] at hdB
      obtain ⟨x2, H2, e1, e2, e3, e4, e5⟩ := hg.add (l' := tri vn) (y := .lit [.v (.int .u8 p1.toNat), .v (.int .u8 p2.toNat), .v (.int .u8 p3.toNat)] 3 1) (tx := 23) (by simp) (by rw [hp1, hp2, hp3]; simp [dSrc, underlying23, atS, u8s, u8, tri]) (by simp [tri]; omega)
      obtain ⟨L2, rfl⟩ := take_pre e4
      obtain ⟨o3, ho3⟩ : ∃ o3, o3 = z.out ++ tri vn := ⟨_, rfl⟩
      rw [← ho3] at e3 hdB
      have hl3 : o3.length = z.out.length + 3 := by rw [ho3]; simp [tri]
      rw [← hl3] at hdB
      have hap : ∀ y, apQ H.length x y = true := fun y => Grow.ap hg (by omega) y
      have hrb2 : RB (H ++ zFc :: L2) x2 o3 := e3.rb
      have hlen2 := hrb2.len (P := prog) underlying23
      have hs2 := fun lo hh => RB.slice (P := prog) underlying23 iT5 sT5 hrb2 lo hh
      have hnew2 : ∀ id ver off len sz, x2 = .sl id ver off len sz → H.length ≤ id := fun id ver off len sz h => by have := e3.ids h; omega
      have hP : z.pads + 1 ≤ o3.length := by omega
      obtain ⟨cut, hcut⟩ : ∃ cut, cut = o3.length - (z.pads + 1) := ⟨_, rfl⟩
      rw [← hcut] at hdB
      have hcl : cut < o3.length := by omega
      have hwc : IntKind.i64.wrap ((o3.length : Int) - ((z.pads : Int) + 1)) = (cut : Int) := wrN (by omega) (by omega)
      have hp0' : (0 : Int) < (z.pads : Int) + 1 := by omega
      have hrb4 := hrb2.cut (o := cut) (h := o3.length) (by omega) (Nat.le_refl _)
      rw [List.take_length] at hrb4
      have hl4 : 0 < (o3.drop cut).length := by rw [List.length_drop]; omega
      have had := fun k n => RB.addr (P := prog) underlying23 iT5 sT5 hrb4 k n
      have hld := RB.load (P := prog) underlying5 rfl iT5 hrb4 0 hl4
      have hgd : (o3.drop cut)[0] = o3.getD cut 0 := by rw [List.getElem_drop]; simp [List.getD, hcl]
      rw [hgd] at hld
      obtain ⟨b0, hb0⟩ : ∃ b0, b0 = o3.getD cut 0 := ⟨_, rfl⟩
      rw [← hb0] at hld hdB
      have hll : 0 < o3.length - cut := by omega
      by_cases hz0 : b0 = 0
      · have hz0' : b0.toNat = 0 := by rw [hz0]; rfl
        rw [if_neg (by rintro ⟨_, h⟩; exact h hz0)] at hdB
        have hrb5 := hrb2.cut (o := 0) (h := cut) (by omega) (by omega)
        rw [List.drop_zero] at hrb5
        have hnew2c : ∀ {id ver off len sz}, cutC x2 0 cut = .sl id ver off len sz → H.length ≤ id := fun h => by obtain ⟨_, _, _, h'⟩ := cut_ids h; have := e3.ids h'; omega
        simp -implicitDefEqProofs [a0, a3, a4, a5, a6, a7, a8, a9, len_str underlying9, hlt, index_str underlying9, u8, ht1, hge, hw, ux, c47, b78_2, store_at iT78, cells_agg, hst, load_aggp underlying78 rfl iT78, dExtract, h1, hx0, h61e, hrem, hq2, hwp, hwr, hp0', hshl, horD, hwn, hrem2, hq0, hwc, had, hld, hz0', hll, hl4, hcl, Nat.le_of_lt hcl, mkB3, e1, e2, hlen2, hs2, hap, h16, h8, hcv1, hcv2, hcv3]
        exact ⟨_, by omega, (hI _ _ _).2 ⟨i + 1, k, ⟨0, z.n + 1, z.pads + 1, z.last, o3.take cut⟩, cutC x2 0 cut, L2, rfl, by omega, by omega, hdB, ⟨by simp; omega, Nat.pow_pos (by omega), hpad2, fun _ => .inr (by simp; omega), fun h => by simp at h; omega, by simp; omega, by simp; omega⟩, rfl, hrb5, fun id ver off len sz h => hnew2c h, fun h => absurd h (by simp; omega), by simp [a0, a3, a8, hrb5.unl]⟩⟩
      · have hz0' : ¬ b0.toNat = 0 := fun h => hz0 (UInt8.toNat_inj.1 h)
        rw [if_pos ⟨by omega, hz0⟩] at hdB
        simp -implicitDefEqProofs [a0, a3, a4, a5, a6, a7, a8, a9, len_str underlying9, hlt, index_str underlying9, u8, ht1, hge, hw, ux, c47, b78_2, store_at iT78, cells_agg, hst, load_aggp underlying78 rfl iT78, dExtract, h1, hx0, h61e, hrem, hq2, hwp, hwr, hp0', hshl, horD, hwn, hrem2, hq0, hwc, had, hld, hz0', hll, hl4, hcl, Nat.le_of_lt hcl, mkB3, e1, e2, hlen2, hs2, hap, h16, h8, hcv1, hcv2, hcv3]
        rw [← hdB]; rfl
    · rw [if_neg (by omega)] at hdB
      rw [← hvn] at hdB
      simp -implicitDefEqProofs [a0, a3, a4, a5, a6, a7, a8, a9, len_str underlying9, hlt, index_str underlying9, u8, ht1, hge, hw, ux, c47, b78_2, store_at iT78, cells_agg, hst, load_aggp underlying78 rfl iT78, dExtract, h1, hx0, h61e, hrem, hq2, hwp, hwr, hshl, horD, hwn, hrem2, hq0]
      exact ⟨_, by omega, (hI _ _ _).2 ⟨i + 1, k, ⟨vn, z.n + 1, z.pads + 1, z.last, z.out⟩, x, L, rfl, by omega, by omega, hdB, ⟨by simp; omega, hv2 hq0, hpad2, fun h => .inl (by simp; omega), fun _ => by simp; omega, by simp; omega, by simp; omega⟩, rfl, hrb, hnew, fun _ => hgb (.inr (by omega)), by simp [a0, a3, a4, a8]⟩⟩
  | some d =>
    rw [hsv] at hdB
    obtain ⟨hd64, hdi⟩ := sv_lt hsv
    have hx0 : 0 ≤ Lib.indexByte sgn s[i] := by omega
    have h61 : ¬ s[i] = 61 := fun h => by rw [h, sv61] at hsv; cases hsv
    have h61' : ¬ s[i].toNat = 61 := fun h => h61 (UInt8.toNat_inj.1 h)
    have hwr : IntKind.u32.wrap (Lib.indexByte sgn s[i]) = (d : Int) := by rw [hdi]; exact wrapU32 d (by omega)
    simp only [] at hdB
    by_cases hp0 : 0 < z.pads
    · rw [if_pos hp0] at hdB
      rcases hB with h1 | ⟨h1, h2⟩ | ⟨h1, h2, h3, h4⟩
      · simp -implicitDefEqProofs [a0, a3, a4, a5, a6, a7, a8, a9, len_str underlying9, hlt, index_str underlying9, u8, ht1, hge, hw, ux, c47, b78_2, store_at iT78, cells_agg, hst, load_aggp underlying78 rfl iT78, dExtract, h1, hx0, h61', hp0]
        rw [← hdB]; rfl
      · have h1' := eq_true h1
        simp -implicitDefEqProofs [a0, a3, a4, a5, a6, a7, a8, a9, len_str underlying9, hlt, index_str underlying9, u8, ht1, hge, hw, ux, c47, b78_2, store_at iT78, cells_agg, hst, load_aggp underlying78 rfl iT78, dExtract, h1', h2, hx0, h61', hp0]
        rw [← hdB]; rfl
      · have h1' := eq_true h1
        simp -implicitDefEqProofs [a0, a3, a4, a5, a6, a7, a8, a9, len_str underlying9, hlt, index_str underlying9, u8, ht1, hge, hw, ux, c47, b78_2, store_at iT78, cells_agg, hst, load_aggp underlying78 rfl iT78, dExtract, h1', h2, h3, h4, hx0, h61', hp0]
        rw [← hdB]; rfl
    rw [if_neg hp0] at hdB
    replace hp0 : z.pads = 0 := by omega
    have hdr : True := trivial
    obtain ⟨q2, hq2e⟩ : ∃ q2, q2 = (z.n + 1) % 4 := ⟨_, rfl⟩
    have hrem2 : ∀ H, dBin prog .rem 3 (.v (.int .i64 ((z.n : Int) + 1))) (.v (.int .i64 4)) H = some (.v (.int .i64 (q2 : Nat))) := fun H => by
      rw [hq2e]; exact rem_nat (z.n + 1) 4 H (by omega)
    obtain ⟨vn, hvn⟩ : ∃ vn, vn = z.v * 64 + d := ⟨_, rfl⟩
    have hvn24 : vn < 16777216 := by omega
    have hv2 : q2 ≠ 0 → vn < 64 ^ ((z.n + 1) % 4) := fun h0 => by
      have h5 : (z.n + 1) % 4 = z.n % 4 + 1 := by omega
      rw [h5, Nat.pow_succ]; omega
    have horD : ∀ H, dBin prog .or 67 (.v (.int .u32 (va : Nat))) (.v (.int .u32 (d : Nat))) H = some (.v (.int .u32 (vn : Nat))) := fun H => by
      have := hor d H (by omega)
      have h6 : va + d = vn := by omega
      rw [h6] at this; exact this
    obtain ⟨w1, hw1⟩ : ∃ w1, w1 = vn / 2 ^ 16 := ⟨_, rfl⟩
    obtain ⟨w2, hw2⟩ : ∃ w2, w2 = vn / 2 ^ 8 := ⟨_, rfl⟩
    have h16 : ∀ H, dBin prog .shr 67 (.v (.int .u32 (vn : Nat))) (.v (.int .u64 16)) H = some (.v (.int .u32 (w1 : Nat))) := fun H => by rw [hw1]; exact shr_u32 vn 16 .u64 H (by omega)
    have h8 : ∀ H, dBin prog .shr 67 (.v (.int .u32 (vn : Nat))) (.v (.int .u64 8)) H = some (.v (.int .u32 (w2 : Nat))) := fun H => by rw [hw2]; exact shr_u32 vn 8 .u64 H (by omega)
    obtain ⟨p1, hp1⟩ : ∃ p1, p1 = (vn / 65536).toUInt8 := ⟨_, rfl⟩
    obtain ⟨p2, hp2⟩ : ∃ p2, p2 = (vn / 256).toUInt8 := ⟨_, rfl⟩
    obtain ⟨p3, hp3⟩ : ∃ p3, p3 = vn.toUInt8 := ⟨_, rfl⟩
    have hcv1 : ∀ H, cvt prog false 67 5 (.v (.int .u32 (w1 : Nat))) H = some (.v (.int .u8 p1.toNat), H) := fun H => by rw [hw1, hp1]; exact cv_u32_u8 _ H
    have hcv2 : ∀ H, cvt prog false 67 5 (.v (.int .u32 (w2 : Nat))) H = some (.v (.int .u8 p2.toNat), H) := fun H => by rw [hw2, hp2]; exact cv_u32_u8 _ H
    have hcv3 : ∀ H, cvt prog false 67 5 (.v (.int .u32 (vn : Nat))) H = some (.v (.int .u8 p3.toNat), H) := fun H => by rw [hp3]; exact cv_u32_u8 _ H
    unfold dPut at hdB
    by_cases hq0 : q2 = 0
    · rw [if_pos (by omega)] at hdB
      have hq0' := eq_true hq0
      have hg := hgb (.inl hp0)
      rw [← hvn] at hdB
      obtain ⟨x2, H2, e1, e2, e3, e4, e5⟩ := hg.add (l' := tri vn) (y := .lit [.v (.int .u8 p1.toNat), .v (.int .u8 p2.toNat), .v (.int .u8 p3.toNat)] 3 1) (tx := 23) (by simp) (by rw [hp1, hp2, hp3]; simp [dSrc, underlying23, atS, u8s, u8, tri]) (by simp [tri]; omega)
      obtain ⟨L2, rfl⟩ := take_pre e4
      obtain ⟨o3, ho3⟩ : ∃ o3, o3 = z.out ++ tri vn := ⟨_, rfl⟩
      rw [← ho3] at e3 hdB
      have hl3 : o3.length = z.out.length + 3 := by rw [ho3]; simp [tri]
      rw [← hl3] at hdB
      have hap : ∀ y, apQ H.length x y = true := fun y => Grow.ap hg (by omega) y
      have hrb2 : RB (H ++ zFc :: L2) x2 o3 := e3.rb
      have hlen2 := hrb2.len (P := prog) underlying23
      have hs2 := fun lo hh => RB.slice (P := prog) underlying23 iT5 sT5 hrb2 lo hh
      have hnew2 : ∀ id ver off len sz, x2 = .sl id ver off len sz → H.length ≤ id := fun id ver off len sz h => by have := e3.ids h; omega
      have hwl : IntKind.i64.wrap ((o3.length : Nat) : Int) = ((o3.length : Nat) : Int) := wrN rfl (by omega)
      have hall := e3.cut_all
      rw [hp0, if_neg (by omega), Nat.sub_zero, List.take_length] at hdB
      rcases hB with h1 | ⟨h1, h2⟩ | ⟨h1, h2, h3, h4⟩
      · simp -implicitDefEqProofs [a0, a3, a4, a5, a6, a7, a8, a9, len_str underlying9, hlt, index_str underlying9, u8, ht1, hge, hw, ux, c47, b78_2, store_at iT78, cells_agg, hst, load_aggp underlying78 rfl iT78, dExtract, h1, hx0, h61', hwr, hp0, hshl, horD, hwn, hrem2, hq0, hwl, hall, mkB3, e1, e2, hlen2, hs2, hap, h16, h8, hcv1, hcv2, hcv3]
        exact ⟨_, by omega, (hI _ _ _).2 ⟨i + 1, k, ⟨0, z.n + 1, 0, i, o3⟩, x2, L2, rfl, by omega, by omega, hdB, ⟨by simp; omega, Nat.pow_pos (by omega), by simp, by simp, by simp, by simp; omega, by simp⟩, rfl, hrb2, hnew2, fun _ => e3, by simp [a0, a3, a7, hp0]⟩⟩
      · have h1' := eq_true h1
        simp -implicitDefEqProofs [a0, a3, a4, a5, a6, a7, a8, a9, len_str underlying9, hlt, index_str underlying9, u8, ht1, hge, hw, ux, c47, b78_2, store_at iT78, cells_agg, hst, load_aggp underlying78 rfl iT78, dExtract, h1', h2, hx0, h61', hwr, hp0, hshl, horD, hwn, hrem2, hq0, hwl, hall, mkB3, e1, e2, hlen2, hs2, hap, h16, h8, hcv1, hcv2, hcv3]
        exact ⟨_, by omega, (hI _ _ _).2 ⟨i + 1, k, ⟨0, z.n + 1, 0, i, o3⟩, x2, L2, rfl, by omega, by omega, hdB, ⟨by simp; omega, Nat.pow_pos (by omega), by simp, by simp, by simp, by simp; omega, by simp⟩, rfl, hrb2, hnew2, fun _ => e3, by simp [a0, a3, a7, hp0]⟩⟩
      · have h1' := eq_true h1
        simp -implicitDefEqProofs [a0, a3, a4, a5, a6, a7, a8, a9, len_str underlying9, hlt, index_str underlying9, u8, ht1, hge, hw, ux, c47, b78_2, store_at iT78, cells_agg, hst, load_aggp underlying78 rfl iT78, dExtract, h1', h2, h3, h4, hx0, h61', hwr, hp0, hshl, horD, hwn, hrem2, hq0, hwl, hall, mkB3, e1, e2, hlen2, hs2, hap, h16, h8, hcv1, hcv2, hcv3]
        exact ⟨_, by omega, (hI _ _ _).2 ⟨i + 1, k, ⟨0, z.n + 1, 0, i, o3⟩, x2, L2, rfl, by omega, by omega, hdB, ⟨by simp; omega, Nat.pow_pos (by omega), by simp, by simp, by simp, by simp; omega, by simp⟩, rfl, hrb2, hnew2, fun _ => e3, by simp [a0, a3, a7, hp0]⟩⟩
    · rw [if_neg (by omega)] at hdB
      rw [← hvn] at hdB
      rcases hB with h1 | ⟨h1, h2⟩ | ⟨h1, h2, h3, h4⟩
      · simp -implicitDefEqProofs [a0, a3, a4, a5, a6, a7, a8, a9, len_str underlying9, hlt, index_str underlying9, u8, ht1, hge, hw, ux, c47, b78_2, store_at iT78, cells_agg, hst, load_aggp underlying78 rfl iT78, dExtract, h1, hx0, h61', hwr, hp0, hshl, horD, hwn, hrem2, hq0]
        exact ⟨_, by omega, (hI _ _ _).2 ⟨i + 1, k, ⟨vn, z.n + 1, z.pads, i, z.out⟩, x, L, rfl, by omega, by omega, hdB, ⟨by simp; omega, hv2 hq0, zp, fun h => by simp at h; omega, fun _ => by simp; omega, by simp; omega, by simp⟩, rfl, hrb, hnew, fun _ => hgb (.inl hp0), by simp [a0, a3, a4, a7]⟩⟩
      · have h1' := eq_true h1
        simp -implicitDefEqProofs [a0, a3, a4, a5, a6, a7, a8, a9, len_str underlying9, hlt, index_str underlying9, u8, ht1, hge, hw, ux, c47, b78_2, store_at iT78, cells_agg, hst, load_aggp underlying78 rfl iT78, dExtract, h1', h2, hx0, h61', hwr, hp0, hshl, horD, hwn, hrem2, hq0]
        exact ⟨_, by omega, (hI _ _ _).2 ⟨i + 1, k, ⟨vn, z.n + 1, z.pads, i, z.out⟩, x, L, rfl, by omega, by omega, hdB, ⟨by simp; omega, hv2 hq0, zp, fun h => by simp at h; omega, fun _ => by simp; omega, by simp; omega, by simp⟩, rfl, hrb, hnew, fun _ => hgb (.inl hp0), by simp [a0, a3, a4, a7]⟩⟩
      · have h1' := eq_true h1
        simp -implicitDefEqProofs [a0, a3, a4, a5, a6, a7, a8, a9, len_str underlying9, hlt, index_str underlying9, u8, ht1, hge, hw, ux, c47, b78_2, store_at iT78, cells_agg, hst, load_aggp underlying78 rfl iT78, dExtract, h1', h2, h3, h4, hx0, h61', hwr, hp0, hshl, horD, hwn, hrem2, hq0]
        exact ⟨_, by omega, (hI _ _ _).2 ⟨i + 1, k, ⟨vn, z.n + 1, z.pads, i, z.out⟩, x, L, rfl, by omega, by omega, hdB, ⟨by simp; omega, hv2 hq0, zp, fun h => by simp at h; omega, fun _ => by simp; omega, by simp; omega, by simp⟩, rfl, hrb, hnew, fun _ => hgb (.inl hp0), by simp [a0, a3, a4, a7]⟩⟩
end Go.Proofs.Try

/- Walks: quoted.Decode. -/
namespace Go.Proofs.Try
open Go Go.SL
set_option linter.unusedVariables false
set_option linter.unusedSimpArgs false
attribute [local congr] WX_stop WC_stop W_stop
/-- Lines are read. -/
def qD : Nat → Bs → Nat → Bs → (Nat × Nat) ⊕ Bs
  | 0, _, _, out => .inr out
  | _ + 1, [], _, out => .inr out
  | k + 1, c :: r, i, out =>
    if [13, 10] <+: c :: r then qD k (r.drop 1) (i + 2) (out ++ [13, 10])
    else if c = 61 then
      if [13, 10] <+: r then qD k (r.drop 2) (i + 3) out
      else if 2 ≤ r.length ∧ dgt (r.getD 0 0) ≤ 15 ∧ dgt (r.getD 1 0) ≤ 15 then qD k (r.drop 2) (i + 3) (out ++ [(dgt (r.getD 0 0) * 16 + dgt (r.getD 1 0)).toUInt8])
      else .inl (i, 3)
    else if blankC c = true then
      if (c :: r).dropWhile blankC ≠ [] ∧ ¬ [13, 10] <+: (c :: r).dropWhile blankC then qD k ((c :: r).dropWhile blankC) (i + ((c :: r).takeWhile blankC).length) (out ++ (c :: r).takeWhile blankC)
      else qD k ((c :: r).dropWhile blankC) (i + ((c :: r).takeWhile blankC).length) out
    else if c.toNat < 32 ∨ 126 < c.toNat then .inl (i, 10)
    else qD k r (i + 1) (out ++ [c])
def qdec (s : Bs) : (Nat × Nat) ⊕ Bs := if 4194304 < s.length then .inl (0, 2) else qD (s.length + 1) s 0 []
theorem dgt_lt (c : UInt8) : dgt c ≤ 16 := by unfold dgt; split <;> (try split) <;> (try split) <;> omega
theorem dropW_eq (p : UInt8 → Bool) : ∀ l : Bs, l.dropWhile p = l.drop (l.takeWhile p).length := by
  intro l
  induction l with
  | nil => rfl
  | cons a l ih => by_cases h : p a = true <;> simp [h, ih]
theorem takeW_eq (p : UInt8 → Bool) : ∀ l : Bs, l.takeWhile p = l.take (l.takeWhile p).length := by
  intro l
  induction l with
  | nil => rfl
  | cons a l ih => by_cases h : p a = true <;> simp [h]; exact ih
theorem takeW_len (p : UInt8 → Bool) (l : Bs) : (l.takeWhile p).length ≤ l.length := (List.takeWhile_sublist p).length_le
variable [LayerC]
set_option maxRecDepth 100000 in
set_option maxHeartbeats 2000000 in
theorem e34 (m : Nat) (s : Bs) (H : Hp) : WC prog cs0 m (.f 34) [str s] H fun y H' => H' = H ∧ decV (qdec s) y := by
  rw [WC_drop rfl func34 rfl rfl]
  obtain ⟨R, hR⟩ : ∃ R, R = qdec s := ⟨_, rfl⟩
  rw [← hR]
  unfold qdec at hR
  by_cases hbig : 4194304 < s.length
  · rw [if_pos hbig] at hR
    simp -implicitDefEqProofs [f34, len_str underlying9, hbig, dAlloc, aQ, b78_1, store_at iT78, cells_agg, stQ, load_aggp underlying78 rfl iT78, hR, decV]
  rw [if_neg hbig] at hR
  have hst : ∀ x, stQ H.length (.ptr H.length 0 0) x = true := fun x => by simp [stQ]
  simp -implicitDefEqProofs [f34, len_str underlying9, hbig, dAlloc, aQ]
  obtain ⟨I, hI⟩ : ∃ I : Nat → Fr → Hp → Prop, ∀ j fr H', I j fr H' ↔ ∃ i k x out L, j = s.length - i ∧ i ≤ s.length ∧ s.length - i + 1 ≤ k ∧ qD k (s.drop i) i out = R ∧ out.length ≤ 3 * i ∧ H' = H ++ zFc :: L ∧ GB (H.length + 1) H' x out ∧ fr 0 = str s ∧ fr 3 = .ptr H.length 0 0 ∧ fr 4 = x ∧ fr 5 = .v (.int .i64 (i : Nat)) := ⟨_, fun _ _ _ => Iff.rfl⟩
  refine W_rounds I ?_ (s.length - 0) _ _ ((hI _ _ _).2 ⟨0, s.length + 1, nilC, [], [], rfl, by omega, by omega, hR.symm, by simp, rfl, GB.nil _ _, by simp⟩)
  intro j fr H' h
  obtain ⟨i, k, x, out, L, rfl, hi, hk, hdB, hz, rfl, hg, a0, a3, a4, a5⟩ := (hI _ _ _).1 h
  have hrb : RB (H ++ zFc :: L) x out := hg.rb
  have ux := hrb.unl
  have hap : ∀ y, apQ H.length x y = true := fun y => Grow.ap hg (by omega) y
  obtain ⟨k, rfl⟩ : ∃ k', k = k' + 1 := ⟨k - 1, by omega⟩
  by_cases hlt : i < s.length
  case neg =>
    obtain rfl : i = s.length := by omega
    rw [List.drop_length, qD] at hdB
    obtain ⟨y, hy1, hy2⟩ := frz_new (m := H.length) hrb (fun id ver off len sz h => by have := hg.ids h; omega)
    simp -implicitDefEqProofs [a0, a3, a4, a5, len_str underlying9, b78_0, store_at iT78, cells_agg, hst, load_aggp underlying78 rfl iT78, ux, hy1]
    rw [← hdB]
    exact ⟨y, hy2, rfl⟩
  have hdr : s.drop i = s[i] :: s.drop (i + 1) := List.drop_eq_getElem_cons hlt
  rw [hdr, qD] at hdB
  have hw := up64 (i := i) (n := s.length) hlt (by omega)
  have ht1 : ((i : Int) + 1).toNat = i + 1 := by omega
  have hge : (0 : Int) ≤ (i : Int) + 1 := by omega
  have ht2 : ((i : Int) + 2).toNat = i + 2 := by omega
  have hge2 : (0 : Int) ≤ (i : Int) + 2 := by omega
  have hw2 : IntKind.i64.wrap ((i : Int) + 2) = ((i + 2 : Nat) : Int) := wrN (by omega) (by omega)
  have hw3 : IntKind.i64.wrap ((i : Int) + 3) = ((i + 3 : Nat) : Int) := wrN (by omega) (by omega)
  have c28 := fun m H => (e28 m s i H hi).wc
  have c28b := fun m H => (e28 m s (i + 1) H hlt).wc
  have h28c : ((i + 1 : Nat) : Int) = (i : Int) + 1 := by omega
  rw [h28c] at c28b
  -- what is appended
  have step : ∀ (l' : Bs) (y : CV) (tx : TypeId), dSrc prog (H ++ zFc :: L) tx 1 y = some (u8s l', l'.length) → l'.length ≤ 2 * s.length + 2 → ∃ x2 L2, dAppend prog 23 tx x y (H ++ zFc :: L) = some (x2, H ++ zFc :: L2) ∧ unlit x2 = x2 ∧ GB (H.length + 1) (H ++ zFc :: L2) x2 (out ++ l') := by
    intro l' y tx hs hl
    obtain ⟨x2, H2, e1, e2, e3, e4, e5⟩ := hg.add (l' := l') (y := y) (tx := tx) (by simp) hs (by omega)
    obtain ⟨L2, rfl⟩ := take_pre e4
    exact ⟨x2, L2, e1, e2, e3⟩
  have next : ∀ (i' : Nat) (x2 : CV) (out2 : Bs) (L2 : Hp) fr2, qD k (s.drop i') i' out2 = R → i < i' → i' ≤ s.length → out2.length ≤ 3 * i' → GB (H.length + 1) (H ++ zFc :: L2) x2 out2 → fr2 0 = str s → fr2 3 = .ptr H.length 0 0 → fr2 4 = x2 → fr2 5 = .v (.int .i64 (i' : Nat)) → ∃ j', j' < s.length - i ∧ I j' fr2 (H ++ zFc :: L2) :=
    fun i' x2 out2 L2 fr2 h1 h2 h3 h4 h5 b0 b3 b4 b5 => ⟨_, by omega, (hI _ _ _).2 ⟨i', k, x2, out2, L2, rfl, h3, by omega, h1, h4, rfl, h5, b0, b3, b4, b5⟩⟩
  by_cases hp : [13, 10] <+: s[i] :: s.drop (i + 1)
  · rw [if_pos hp] at hdB
    rw [← hdr] at hp
    obtain ⟨x2, L2, e1, e2, e3⟩ := step [13, 10] (.lit [.v (.int .u8 13), .v (.int .u8 10)] 2 1) 23 (by simp [dSrc, underlying23, atS, u8s, u8]) (by simp)
    have hlt2 : i + 2 ≤ s.length := by
      obtain ⟨t2, ht2⟩ := hp
      have := congrArg List.length ht2
      simp at this; omega
    simp -implicitDefEqProofs [a0, a3, a4, a5, len_str underlying9, hlt, index_str underlying9, u8, c28, hp, ux, hap, mkB2, e1, e2, hw2]
    refine next (i + 2) x2 _ L2 _ ?_ (by omega) hlt2 (by simp; omega) e3 (by simp [a0]) (by simp [a3]) (by simp [e2]) (by simp)
    rw [← hdB]; simp
  rw [if_neg hp] at hdB
  rw [← hdr] at hp
  by_cases h61 : s[i] = 61
  · have h61e := eq_true (show s[i].toNat = 61 by rw [h61]; rfl)
    rw [if_pos h61] at hdB
    by_cases hp2 : [13, 10] <+: s.drop (i + 1)
    · rw [if_pos hp2] at hdB
      have hlt3 : i + 3 ≤ s.length := by
        obtain ⟨t2, ht2⟩ := hp2
        have := congrArg List.length ht2
        simp at this; omega
      simp -implicitDefEqProofs [a0, a3, a4, a5, len_str underlying9, hlt, index_str underlying9, u8, c28, hp, ux, hap, h61e, c28b, hw, hp2, hw3]
      refine next (i + 3) x _ L _ ?_ (by omega) hlt3 (by omega) hg (by simp [a0]) (by simp [a3]) (by simp [a4]) (by simp)
      rw [← hdB]; simp
    rw [if_neg hp2] at hdB
    have h28b : ¬ blankC s[i] = true := by rw [h61]; decide
    by_cases hl2 : i + 2 < s.length
    case neg =>
      rw [if_neg (by rw [List.length_drop]; rintro ⟨h, _⟩; omega)] at hdB
      have hl2' : (s.length : Int) ≤ (i : Int) + 2 := by omega
      simp -implicitDefEqProofs [a0, a3, a4, a5, len_str underlying9, hlt, index_str underlying9, u8, c28, hp, ux, hap, h61e, c28b, hw, hp2, hw2, hl2', b78_2, store_at iT78, cells_agg, hst, load_aggp underlying78 rfl iT78]
      rw [← hdB]; rfl
    have hl2' : ¬ (s.length : Int) ≤ (i : Int) + 2 := by omega
    have hl1 : i + 1 < s.length := by omega
    have g0 : (s.drop (i + 1)).getD 0 0 = s[i + 1] := by simp [List.getD, hl1]
    have g1 : (s.drop (i + 1)).getD 1 0 = s[i + 2] := by
      have : i + 1 + 1 = i + 2 := rfl
      simp [List.getD, this, hl2]
    rw [g0, g1] at hdB
    have c48a := fun m H => (e48 m s[i + 1] H).wc
    have c48b := fun m H => (e48 m s[i + 2] H).wc
    obtain ⟨d1, hd1⟩ : ∃ d1, d1 = dgt s[i + 1] := ⟨_, rfl⟩
    obtain ⟨d2, hd2⟩ : ∃ d2, d2 = dgt s[i + 2] := ⟨_, rfl⟩
    rw [← hd1] at c48a
    rw [← hd2] at c48b
    rw [← hd1, ← hd2] at hdB
    by_cases hda : d1 ≤ 15
    case neg =>
      rw [if_neg (by rintro ⟨_, h, _⟩; exact hda h)] at hdB
      have hda' : 15 < d1 := by omega
      simp -implicitDefEqProofs [a0, a3, a4, a5, len_str underlying9, hlt, index_str underlying9, u8, c28, hp, ux, hap, h61e, c28b, hw, hp2, hw2, hl2', hl1, hl2, ht1, hge, ht2, hge2, c48a, c48b, hda', b78_2, store_at iT78, cells_agg, hst, load_aggp underlying78 rfl iT78]
      rw [← hdB]; rfl
    have hda' : ¬ 15 < d1 := by omega
    by_cases hdb : d2 ≤ 15
    case neg =>
      rw [if_neg (by rintro ⟨_, _, h⟩; exact hdb h)] at hdB
      have hdb' : 15 < d2 := by omega
      simp -implicitDefEqProofs [a0, a3, a4, a5, len_str underlying9, hlt, index_str underlying9, u8, c28, hp, ux, hap, h61e, c28b, hw, hp2, hw2, hl2', hl1, hl2, ht1, hge, ht2, hge2, c48a, c48b, hda', hdb', b78_2, store_at iT78, cells_agg, hst, load_aggp underlying78 rfl iT78]
      rw [← hdB]; rfl
    have hdb' : ¬ 15 < d2 := by omega
    rw [if_pos ⟨by rw [List.length_drop]; omega, hda, hdb⟩] at hdB
    simp -implicitDefEqProofs [a0, a3, a4, a5, len_str underlying9, hlt, index_str underlying9, u8, c28, hp, ux, hap, h61e, c28b, hw, hp2, hw2, hl2', hl1, hl2, ht1, hge, ht2, hge2, c48a, c48b, hda', hdb']
    rw [W_draw _ _ _ _ _ _ followsT (by rfl)]
    obtain ⟨v1, hv1⟩ : ∃ v1, v1 = d1 * 2 ^ 4 := ⟨_, rfl⟩
    have hsh : ∀ H, dBin prog .shl 5 (.v (.int .u8 (d1 : Nat))) (.v (.int .u64 4)) H = some (.v (.int .u8 (v1 : Nat))) := fun H => by
      rw [hv1]; exact shl_u8 d1 4 .u64 H (by omega) (by omega)
    obtain ⟨p, hpp⟩ : ∃ p, p = (d1 * 16 + d2).toUInt8 := ⟨_, rfl⟩
    have hpn : p.toNat = d1 * 16 + d2 := by rw [hpp]; simp; omega
    have hor : ∀ H, dBin prog .or 5 (.v (.int .u8 (v1 : Nat))) (.v (.int .u8 (d2 : Nat))) H = some (.v (.int .u8 (p.toNat : Nat))) := fun H => by
      rw [hpn, hv1]; exact or_u8 d1 d2 4 H (by omega) (by omega)
    rw [← hpp] at hdB
    obtain ⟨x2, L2, e1, e2, e3⟩ := step [p] (.lit (u8s [p]) 1 1) 23 (by simp [dSrc, underlying23, atS]) (by simp)
    simp -implicitDefEqProofs [a0, a3, a4, a5, len_str underlying9, hlt, index_str underlying9, u8, ux, hap, hw, hw2, hl1, hl2, ht1, hge, ht2, hge2, c48a, c48b, hsh, hor, mkB1, e1, e2, hw3]
    refine next (i + 3) x2 _ L2 _ ?_ (by omega) hl2 (by simp; omega) e3 (by simp [a0]) (by simp [a3]) (by simp [e2]) (by simp)
    rw [← hdB]; simp
  rw [if_neg h61] at hdB
  have h61n : ¬ s[i].toNat = 61 := fun h => h61 (UInt8.toNat_inj.1 h)
  by_cases hbl : blankC s[i] = true
  · rw [if_pos hbl] at hdB
    obtain ⟨n, hn⟩ : ∃ n, n = ((s.drop i).takeWhile blankC).length := ⟨_, rfl⟩
    have hnl : n ≤ s.length - i := by rw [hn]; have := takeW_len blankC (s.drop i); simpa using this
    have hn0 : 0 < n := by rw [hn, hdr, List.takeWhile_cons, if_pos hbl]; exact Nat.succ_pos _
    have hdw : (s.drop i).dropWhile blankC = s.drop (i + n) := by rw [dropW_eq, ← hn, List.drop_drop]
    have htw : (s.drop i).takeWhile blankC = (s.take (i + n)).drop i := by rw [takeW_eq, ← hn, List.drop_take]; simp
    rw [← hdr, hdw, ← hn, htw] at hdB
    have c49 := fun m H => (e49 m s i H hi (by omega)).wc
    rw [← hn] at c49
    have hwn : IntKind.i64.wrap ((i : Int) + (n : Nat)) = ((i + n : Nat) : Int) := wrN (by omega) (by omega)
    have c28c := fun m H => (e28 m s (i + n) H (by omega)).wc
    have hcc : ((i + n : Nat) : Int) = (i : Int) + (n : Nat) := by omega
    rw [hcc] at c28c
    have hbl' : s[i].toNat = 32 ∨ s[i].toNat = 9 := by simpa [blankC] using hbl
    have hblc : (s[i].toNat = 32) = True ∨ ¬ s[i].toNat = 32 ∧ (s[i].toNat = 9) = True := by
      rcases hbl' with h | h
      · exact .inl (eq_true h)
      · exact .inr ⟨by omega, eq_true h⟩
    by_cases hmore : i + n < s.length
    · have hmore' : (i : Int) + (n : Nat) < (s.length : Nat) := by omega
      by_cases hp3 : [13, 10] <+: s.drop (i + n)
      · rw [if_neg (by rintro ⟨_, h⟩; exact h hp3)] at hdB
        rcases hblc with hb | ⟨hb1, hb⟩
        · simp -implicitDefEqProofs [a0, a3, a4, a5, len_str underlying9, hlt, index_str underlying9, u8, c28, hp, ux, hap, h61n, hb, c49, hwn, hmore', c28c, hp3]
          exact next (i + n) x _ L _ hdB (by omega) (by omega) (by omega) hg (by simp [a0]) (by simp [a3]) (by simp [a4]) (by simp)
        · simp -implicitDefEqProofs [a0, a3, a4, a5, len_str underlying9, hlt, index_str underlying9, u8, c28, hp, ux, hap, h61n, hb1, hb, c49, hwn, hmore', c28c, hp3]
          exact next (i + n) x _ L _ hdB (by omega) (by omega) (by omega) hg (by simp [a0]) (by simp [a3]) (by simp [a4]) (by simp)
      · have hne : s.drop (i + n) ≠ [] := fun h => by have := congrArg List.length h; simp at this; omega
        rw [if_pos ⟨hne, hp3⟩] at hdB
        obtain ⟨x2, L2, e1, e2, e3⟩ := step ((s.take (i + n)).drop i) (str ((s.take (i + n)).drop i)) 9 (src_str underlying9 _ _) (by simp; omega)
        have hsl : ∀ H, dSlice prog 9 (str s) (some (.v (.int .i64 (i : Nat)))) (some (.v (.int .i64 ((i : Int) + (n : Nat))))) H = some (str ((s.take (i + n)).drop i)) := fun H => by
          rw [slice_str underlying9]
          have k1 : ((i : Int) + (n : Nat)).toNat = i + n := by omega
          simp [k1]; omega
        rcases hblc with hb | ⟨hb1, hb⟩
        · simp -implicitDefEqProofs [a0, a3, a4, a5, len_str underlying9, hlt, index_str underlying9, u8, c28, hp, ux, hap, h61n, hb, c49, hwn, hmore', c28c, hp3, hsl, e1, e2]
          exact next (i + n) x2 _ L2 _ hdB (by omega) (by omega) (by simp; omega) e3 (by simp [a0]) (by simp [a3]) (by simp [e2]) (by simp)
        · simp -implicitDefEqProofs [a0, a3, a4, a5, len_str underlying9, hlt, index_str underlying9, u8, c28, hp, ux, hap, h61n, hb1, hb, c49, hwn, hmore', c28c, hp3, hsl, e1, e2]
          exact next (i + n) x2 _ L2 _ hdB (by omega) (by omega) (by simp; omega) e3 (by simp [a0]) (by simp [a3]) (by simp [e2]) (by simp)
    · have hmore' : ¬ (i : Int) + (n : Nat) < (s.length : Nat) := by omega
      rw [if_neg (by rintro ⟨h, _⟩; exact h (List.drop_eq_nil_of_le (by omega)))] at hdB
      rcases hblc with hb | ⟨hb1, hb⟩
      · simp -implicitDefEqProofs [a0, a3, a4, a5, len_str underlying9, hlt, index_str underlying9, u8, c28, hp, ux, hap, h61n, hb, c49, hwn, hmore']
        exact next (i + n) x _ L _ hdB (by omega) (by omega) (by omega) hg (by simp [a0]) (by simp [a3]) (by simp [a4]) (by simp)
      · simp -implicitDefEqProofs [a0, a3, a4, a5, len_str underlying9, hlt, index_str underlying9, u8, c28, hp, ux, hap, h61n, hb1, hb, c49, hwn, hmore']
        exact next (i + n) x _ L _ hdB (by omega) (by omega) (by omega) hg (by simp [a0]) (by simp [a3]) (by simp [a4]) (by simp)
  rw [if_neg hbl] at hdB
  have hbl' : ¬ (s[i].toNat = 32 ∨ s[i].toNat = 9) := by simpa [blankC] using hbl
  have hb1 : ¬ s[i].toNat = 32 := fun h => hbl' (.inl h)
  have hb2 : ¬ s[i].toNat = 9 := fun h => hbl' (.inr h)
  by_cases h32 : s[i].toNat < 32
  · rw [if_pos (.inl h32)] at hdB
    simp -implicitDefEqProofs [a0, a3, a4, a5, len_str underlying9, hlt, index_str underlying9, u8, c28, hp, ux, hap, h61n, hb1, hb2, h32, b78_2, store_at iT78, cells_agg, hst, load_aggp underlying78 rfl iT78]
    rw [← hdB]; rfl
  by_cases h126 : 126 < s[i].toNat
  · rw [if_pos (.inr h126)] at hdB
    simp -implicitDefEqProofs [a0, a3, a4, a5, len_str underlying9, hlt, index_str underlying9, u8, c28, hp, ux, hap, h61n, hb1, hb2, h32, h126, b78_2, store_at iT78, cells_agg, hst, load_aggp underlying78 rfl iT78]
    rw [← hdB]; rfl
  rw [if_neg (by omega)] at hdB
  obtain ⟨x2, L2, e1, e2, e3⟩ := step [s[i]] (.lit (u8s [s[i]]) 1 1) 23 (by simp [dSrc, underlying23, atS]) (by simp)
  simp -implicitDefEqProofs [a0, a3, a4, a5, len_str underlying9, hlt, index_str underlying9, u8, c28, hp, ux, hap, h61n, hb1, hb2, h32, h126, mkB1, e1, e2, hw]
  exact next (i + 1) x2 _ L2 _ hdB (by omega) hlt (by simp; omega) e3 (by simp [a0]) (by simp [a3]) (by simp [e2]) (by simp)
end Go.Proofs.Try

/- Bytes that are read: closed ones, an object's, or none. -/
import Derived.Test.YtkodlakpjpmbiaaKAE
import Derived.Laws.Bits64b

set_option linter.all false

namespace Go.SL
set_option linter.unusedVariables false

/-- The nil slice. -/
abbrev nilC : CV := .v (.slice none 0 0)

/-- A value reads as these bytes. -/
def RB (H : Hp) (x : CV) (l : Bs) : Prop :=
  x = byt l ∨ (l = [] ∧ x = nilC) ∨ ∃ id ver off cs, x = .sl id ver off l.length 1 ∧ cellsAt H id ver = some cs ∧ (cs.drop off).take l.length = u8s l ∧ off + l.length ≤ cs.length

theorem RB.byt (H : Hp) (l : Bs) : RB H (byt l) l := .inl rfl
theorem RB.nil (H : Hp) : RB H nilC [] := .inr (.inl ⟨rfl, rfl⟩)
theorem RB.own {H : Hp} {id ver off len : Nat} {cs : List CV} {l : Bs} (hc : cellsAt H id ver = some cs) (ht : (cs.drop off).take len = u8s l) (hl : len = l.length) (ho : off + l.length ≤ cs.length) : RB H (.sl id ver off len 1) l := by
  subst hl; exact .inr (.inr ⟨id, ver, off, cs, rfl, hc, ht, ho⟩)

theorem RB.unl {H : Hp} {x : CV} {l : Bs} (h : RB H x l) : unlit x = x := by rcases h with rfl | ⟨_, rfl⟩ | ⟨_, _, _, _, rfl, _⟩ <;> rfl
@[simp] theorem evL_nil (fr : Fr) : evL fr [] = some [] := (rfl)
@[simp] theorem evL_cons (fr : Fr) (o : Operand) (os : List Operand) : evL fr (o :: os) = (evO fr o).bind fun x => (evL fr os).map (x :: ·) := (rfl)
@[simp] theorem evP_nil (fr : Fr) : evP fr [] = some [] := (rfl)
@[simp] theorem evP_cons (fr : Fr) (p : Nat × Operand) (ps : List (Nat × Operand)) : evP fr (p :: ps) = (evO fr p.2).bind fun x => (evP fr ps).map ((p.1, x) :: ·) := (rfl)
attribute [simp ↓] WX_some gR_some gR_none gR2_v gR2_t condQ_v gQ2_v gQ2_t gQ_some gQ_none
@[simp ↓] theorem callQ_f (x : Cx) (H : Hp) (K : CV → Hp → Prop) (xs : List CV) (f : FuncId) (a b : Array Value) : callQ x H K xs (.v (.func (.func f) a b)) ↔ WC x.P x.cs x.m (.f f) (xs.map unlit) H K := (Iff.rfl)
@[simp ↓] theorem callQ_fn (x : Cx) (H : Hp) (K : CV → Hp → Prop) (xs : List CV) (f : FuncId) (a b : List CV) : callQ x H K xs (.fn (.func f) a b) ↔ WC x.P x.cs x.m (.f f) (a ++ xs.map unlit ++ b) H K := (Iff.rfl)
@[simp ↓] theorem callQ_y (x : Cx) (H : Hp) (K : CV → Hp → Prop) (xs : List CV) (id ver : Nat) : callQ x H K xs (.yl id ver) ↔ WC x.P x.cs x.m (.y id ver) (xs.map unlit) H K := (Iff.rfl)

variable {P : Program} {t e : TypeId} {H : Hp} {x : CV} {l : Bs}

theorem cellsAt_app {H : Hp} {id ver : Nat} {cs : List CV} (L : Hp) (h : cellsAt H id ver = some cs) : cellsAt (H ++ L) id ver = some cs := by
  have hid : id < H.length := by
    unfold cellsAt at h
    by_cases hd : id < H.length
    · exact hd
    · rw [List.getElem?_eq_none (by omega)] at h; cases h
  rw [at_old hid]; exact h

theorem RB.app (L : Hp) (h : RB H x l) : RB (H ++ L) x l := by
  rcases h with rfl | ⟨rfl, rfl⟩ | ⟨id, ver, off, cs, rfl, hc, ht, hl⟩
  · exact .inl rfl
  · exact .inr (.inl ⟨rfl, rfl⟩)
  · exact .inr (.inr ⟨id, ver, off, cs, rfl, cellsAt_app L hc, ht, hl⟩)

theorem RB.len (h : P.underlying t = some (.slice e)) (hx : RB H x l) : dLenS P t x H = some (.v (.int .i64 l.length)) := by
  rcases hx with rfl | ⟨rfl, rfl⟩ | ⟨id, ver, off, cs, rfl, hc, _, _⟩
  · exact len_byt h l H
  · exact dLenS_nil h 0 0 H
  · rw [dLenS_sl h, hc]; rfl

theorem RB.atS (hx : RB H x l) : SL.atS H x = some (u8s l, l.length) := by
  rcases hx with rfl | ⟨rfl, rfl⟩ | ⟨id, ver, off, cs, rfl, hc, ht, hl⟩
  · simp [SL.atS, SL.byt]
  · rfl
  · simp [SL.atS, hc, hl, ht]

theorem RB.str {s d : TypeId} (mu : Bool) (h1 : P.underlying s = some (.slice e)) (h2 : P.underlying d = some .string) (h3 : P.underlying e = some (.int .u8)) (hx : RB H x l) : cvt P mu s d x H = some (str l, H) := by
  simp only [cvt, dConv, h1, h2, h3, isU8, if_true, hx.atS, Option.bind_some, numsOf_u8s, u8s_length, strOf, SL.str]

theorem RB.src {tx : TypeId} (h : P.underlying tx = some (.slice e)) (hx : RB H x l) : dSrc P H tx 1 x = some (u8s l, l.length) := by
  simp only [dSrc, h, hx.atS, Option.bind_some, u8s_length, Nat.mul_one, if_true]

/-- A part of it. -/
def cutC (x : CV) (o h : Nat) : CV :=
  match x with
  | .sl id ver off len sz => .sl id ver (off + o * sz) (h - o) sz
  | .im cs len sz => .im ((cs.drop (o * sz)).take ((h - o) * sz)) (h - o) sz
  | x => x

theorem RB.cut {o h : Nat} (ho : o ≤ h) (hh : h ≤ l.length) (hx : RB H x l) : RB H (cutC x o h) ((l.take h).drop o) := by
  have hlen : ((l.take h).drop o).length = h - o := by simp; omega
  rcases hx with rfl | ⟨rfl, rfl⟩ | ⟨id, ver, off, cs, rfl, hc, ht, hl⟩
  · left
    simp only [cutC, SL.byt, Nat.mul_one, u8s_drop, u8s_take, List.drop_take]
    rw [List.drop_take] at hlen
    rw [hlen]
  · exact .inr (.inl ⟨by simp, rfl⟩)
  · refine .inr (.inr ⟨id, ver, off + o, cs, by simp only [cutC, hlen, Nat.mul_one], hc, ?_, by rw [hlen]; omega⟩)
    rw [hlen, List.drop_take, ← u8s_take, ← u8s_drop, ← ht, List.drop_take, List.take_take, List.drop_drop, Nat.min_eq_left (by omega)]

theorem RB.slice {i : TypeInfo} (h : P.underlying t = some (.slice e)) (hi : P.info? e = some i) (hz : i.size = 1) (hx : RB H x l) (lo hh : Option CV) :
    dSlice P t x lo hh H = (dBound hh l.length).bind fun h => (dBound lo 0).bind fun o => if 0 ≤ o ∧ o ≤ h ∧ h ≤ l.length then some (cutC x o.toNat h.toNat) else none := by
  rcases hx with rfl | ⟨rfl, rfl⟩ | ⟨id, ver, off, cs, rfl, hc, ht, hl⟩
  · simp only [dSlice, h, hi, Option.bind_some, SL.byt, hz, and_true, Nat.mul_one, cutC]
    congr 1
    funext a
    congr 1
    funext b
    split
    · congr 2
      · congr 1; omega
      · omega
    · rfl
  · simp only [dSlice, h, hi, Option.bind_some, cutC, List.length_nil]
    congr 1
    funext a
    congr 1
    funext b
    split
    · rw [if_pos (by simp; omega)]
    · rw [if_neg (by simp; omega)]
  · have hs : (SL.atS H (.sl id ver off l.length 1)).isSome = true := by simp [SL.atS, hc, hl]
    simp only [dSlice, h, hi, Option.bind_some, hz, Nat.mul_one, cutC, hs, and_true]
    congr 1
    funext a
    congr 1
    funext b
    split
    · congr 2
      omega
    · rfl

/-- The place of an element. -/
def adrC (x : CV) (i : Nat) : CV :=
  match x with
  | .sl id ver off len sz => .ptr id ver (off + i * sz)
  | .im cs len sz => .ip (cs.drop (i * sz))
  | x => x
theorem RB.addr {i : TypeInfo} (h : P.underlying t = some (.slice e)) (hi : P.info? e = some i) (hz : i.size = 1) (hx : RB H x l) (k : IntKind) (n : Int) : dIndexAddr P t x (.v (.int k n)) H = if 0 ≤ n ∧ n < l.length then some (adrC x n.toNat) else none := by
  rcases hx with rfl | ⟨rfl, rfl⟩ | ⟨id, ver, off, cs, rfl, hc, ht, hl⟩
  · simp only [dIndexAddr, h, hi, Option.bind_some, SL.byt, hz, and_true, adrC]
  · simp only [dIndexAddr, h, hi, Option.bind_some]
    rw [if_neg (by simp)]
  · simp only [dIndexAddr, h, hi, Option.bind_some, hz, hc, Option.isSome_some, and_true, adrC]
theorem RB.load {d : TypeDesc} {i : TypeInfo} (h : P.underlying t = some d) (ha : aggB d = false) (hi : P.info? t = some i) (hx : RB H x l) (n : Nat) (hn : n < l.length) : dLoad P t (adrC x n) H = some (u8 l[n]) := by
  rcases hx with rfl | ⟨rfl, rfl⟩ | ⟨id, ver, off, cs, rfl, hc, ht, hl⟩
  · rw [show adrC (SL.byt l) n = .ip ((u8s l).drop (n * 1)) from rfl, load_ip h ha hi, Nat.mul_one, List.head?_drop, u8s_get_lt hn]
  · simp at hn
  · rw [show adrC (.sl id ver off l.length 1) n = .ptr id ver (off + n * 1) from rfl, load_one h ha hi, hc, Nat.mul_one, Option.bind_some]
    have h1 : (u8s l)[n]? = cs[off + n]? := by rw [← ht, List.getElem?_take_of_lt hn, List.getElem?_drop]
    rw [← h1, u8s_get_lt hn]
end Go.SL

/- Slices that are read, as a list of elements. -/
namespace Go.SL
set_option linter.unusedVariables false

/-- Elements of sz cells each. -/
def Chunks (ch : List (List CV)) (sz : Nat) : Prop := ∀ c ∈ ch, c.length = sz

theorem Chunks.len {ch : List (List CV)} {sz : Nat} (h : Chunks ch sz) : ch.flatten.length = ch.length * sz := by
  induction ch with
  | nil => simp
  | cons c ch ih =>
    rw [List.flatten_cons, List.length_append, ih fun c hc => h c (by simp [hc]), h c (by simp), List.length_cons, Nat.succ_mul, Nat.add_comm]
theorem Chunks.drop {ch : List (List CV)} {sz : Nat} (h : Chunks ch sz) (i : Nat) : Chunks (ch.drop i) sz := fun c hc => h c (List.mem_of_mem_drop hc)
theorem Chunks.take {ch : List (List CV)} {sz : Nat} (h : Chunks ch sz) (i : Nat) : Chunks (ch.take i) sz := fun c hc => h c (List.mem_of_mem_take hc)
theorem Chunks.flat_drop {sz : Nat} : ∀ {ch : List (List CV)} (h : Chunks ch sz) (i : Nat), ch.flatten.drop (i * sz) = (ch.drop i).flatten
  | ch, h, 0 => by simp
  | [], h, i + 1 => by simp
  | c :: ch, h, i + 1 => by
    have hc : c.length = sz := h c (by simp)
    rw [List.flatten_cons, List.drop_succ_cons, ← Chunks.flat_drop (fun c hc => h c (by simp [hc])) i, Nat.succ_mul, Nat.add_comm, ← List.drop_drop, ← hc, List.drop_left]
theorem Chunks.flat_take {sz : Nat} : ∀ {ch : List (List CV)} (h : Chunks ch sz) (i : Nat), ch.flatten.take (i * sz) = (ch.take i).flatten
  | ch, h, 0 => by simp
  | [], h, i + 1 => by simp
  | c :: ch, h, i + 1 => by
    have hc : c.length = sz := h c (by simp)
    rw [List.flatten_cons, List.take_succ_cons, List.flatten_cons, ← Chunks.flat_take (fun c hc => h c (by simp [hc])) i, Nat.succ_mul, Nat.add_comm, ← hc, List.take_length_add_append]
theorem Chunks.at {ch : List (List CV)} {sz : Nat} (h : Chunks ch sz) {i : Nat} (hi : i < ch.length) : (ch.flatten.drop (i * sz)).take sz = ch[i] := by
  rw [h.flat_drop, List.drop_eq_getElem_cons hi, List.flatten_cons, ← h _ (List.getElem_mem hi), List.take_left]
theorem Chunks.get {ch : List (List CV)} {sz : Nat} (h : Chunks ch sz) {i k : Nat} (hi : i < ch.length) (hk : k < sz) : ch.flatten[i * sz + k]? = ch[i][k]? := by
  rw [← h.at hi, List.getElem?_take_of_lt hk, List.getElem?_drop]

/-- A slice reads as these elements. -/
structure RS (H : Hp) (x : CV) (ch : List (List CV)) (sz : Nat) : Prop where
  ok : Chunks ch sz
  is : x = .im ch.flatten ch.length sz ∨ (ch = [] ∧ x = nilC) ∨ ∃ id ver off cc, x = .sl id ver off ch.length sz ∧ cellsAt H id ver = some cc ∧ (cc.drop off).take (ch.length * sz) = ch.flatten ∧ off + ch.length * sz ≤ cc.length

variable {P : Program} {t e : TypeId} {H : Hp} {x : CV} {ch : List (List CV)} {sz : Nat}

theorem RS.nil (H : Hp) (sz : Nat) : RS H nilC [] sz := ⟨fun _ h => by simp at h, .inr (.inl ⟨rfl, rfl⟩)⟩
theorem RS.im (H : Hp) (ok : Chunks ch sz) : RS H (.im ch.flatten ch.length sz) ch sz := ⟨ok, .inl rfl⟩
theorem RS.own {id ver off len : Nat} {cc : List CV} (ok : Chunks ch sz) (hc : cellsAt H id ver = some cc) (hl : len = ch.length) (ht : (cc.drop off).take (ch.length * sz) = ch.flatten) (ho : off + ch.length * sz ≤ cc.length) : RS H (.sl id ver off len sz) ch sz := by
  subst hl; exact ⟨ok, .inr (.inr ⟨id, ver, off, cc, rfl, hc, ht, ho⟩)⟩
theorem RS.own0 {id ver len : Nat} (ok : Chunks ch sz) (hc : cellsAt H id ver = some ch.flatten) (hl : len = ch.length) : RS H (.sl id ver 0 len sz) ch sz :=
  .own ok hc hl (by rw [List.drop_zero, ← ok.len, List.take_length]) (by rw [ok.len]; omega)
theorem RS.unl (h : RS H x ch sz) : unlit x = x := by rcases h.is with rfl | ⟨_, rfl⟩ | ⟨_, _, _, _, rfl, _⟩ <;> rfl
theorem RS.app (L : Hp) (h : RS H x ch sz) : RS (H ++ L) x ch sz := by
  refine ⟨h.ok, ?_⟩
  rcases h.is with h | h | ⟨id, ver, off, cs, rfl, hc, ht, hl⟩
  · exact .inl h
  · exact .inr (.inl h)
  · exact .inr (.inr ⟨id, ver, off, cs, rfl, cellsAt_app L hc, ht, hl⟩)
theorem RS.len (h : P.underlying t = some (.slice e)) (hx : RS H x ch sz) : dLenS P t x H = some (.v (.int .i64 ch.length)) := by
  rcases hx.is with rfl | ⟨rfl, rfl⟩ | ⟨id, ver, off, cs, rfl, hc, _, _⟩
  · exact dLenS_im h _ _ _ H
  · exact dLenS_nil h 0 0 H
  · rw [dLenS_sl h, hc]; rfl
theorem RS.atS (hx : RS H x ch sz) : SL.atS H x = some (ch.flatten, ch.length) := by
  rcases hx.is with rfl | ⟨rfl, rfl⟩ | ⟨id, ver, off, cs, rfl, hc, ht, hl⟩
  · simp [SL.atS, hx.ok.len]
  · rfl
  · simp [SL.atS, hc, hl, ht]
theorem RS.src {tx : TypeId} (h : P.underlying tx = some (.slice e)) (hx : RS H x ch sz) : dSrc P H tx sz x = some (ch.flatten, ch.length) := by
  simp only [dSrc, h, hx.atS, Option.bind_some, hx.ok.len, if_true]
theorem RS.cut {o h : Nat} (ho : o ≤ h) (hh : h ≤ ch.length) (hx : RS H x ch sz) : RS H (cutC x o h) ((ch.take h).drop o) sz := by
  have hlen : ((ch.take h).drop o).length = h - o := by simp; omega
  have hok : Chunks ((ch.take h).drop o) sz := (hx.ok.take h).drop o
  have e1 : (ch.flatten.drop (o * sz)).take ((h - o) * sz) = ((ch.take h).drop o).flatten := by
    rw [hx.ok.flat_drop, (hx.ok.drop o).flat_take, List.drop_take]
  refine ⟨hok, ?_⟩
  rcases hx.is with rfl | ⟨rfl, rfl⟩ | ⟨id, ver, off, cs, rfl, hc, ht, hl⟩
  · left; simp only [cutC, e1, hlen]
  · exact .inr (.inl ⟨by simp, rfl⟩)
  · have hm : (h - o) * sz + o * sz ≤ ch.length * sz := by rw [← Nat.add_mul]; exact Nat.mul_le_mul_right _ (by omega)
    refine .inr (.inr ⟨id, ver, off + o * sz, cs, by simp only [cutC, hlen], hc, ?_, by rw [hlen]; omega⟩)
    rw [hlen, ← e1, ← ht, List.drop_take, List.take_take, List.drop_drop, Nat.min_eq_left (by omega)]
theorem RS.slice {i : TypeInfo} (h : P.underlying t = some (.slice e)) (hi : P.info? e = some i) (hz : i.size = sz) (hx : RS H x ch sz) (lo hh : Option CV) :
    dSlice P t x lo hh H = (dBound hh ch.length).bind fun h => (dBound lo 0).bind fun o => if 0 ≤ o ∧ o ≤ h ∧ h ≤ ch.length then some (cutC x o.toNat h.toNat) else none := by
  rcases hx.is with rfl | ⟨rfl, rfl⟩ | ⟨id, ver, off, cs, rfl, hc, ht, hl⟩
  · simp only [dSlice, h, hi, Option.bind_some, hz, and_true, cutC]
    congr 1
    funext a
    congr 1
    funext b
    split
    · have : (a - b).toNat = a.toNat - b.toNat := by omega
      rw [this]
    · rfl
  · simp only [dSlice, h, hi, Option.bind_some, cutC, List.length_nil]
    congr 1
    funext a
    congr 1
    funext b
    split
    · rw [if_pos (by simp; omega)]
    · rw [if_neg (by simp; omega)]
  · have hs : (SL.atS H (.sl id ver off ch.length sz)).isSome = true := by simp [SL.atS, hc, hl]
    simp only [dSlice, h, hi, Option.bind_some, hz, cutC, hs, and_true]
    congr 1
    funext a
    congr 1
    funext b
    split
    · have : (a - b).toNat = a.toNat - b.toNat := by omega
      rw [this]
    · rfl
theorem RS.addr {i : TypeInfo} (h : P.underlying t = some (.slice e)) (hi : P.info? e = some i) (hz : i.size = sz) (hx : RS H x ch sz) (k : IntKind) (n : Int) : dIndexAddr P t x (.v (.int k n)) H = if 0 ≤ n ∧ n < ch.length then some (adrC x n.toNat) else none := by
  rcases hx.is with rfl | ⟨rfl, rfl⟩ | ⟨id, ver, off, cs, rfl, hc, ht, hl⟩
  · simp only [dIndexAddr, h, hi, Option.bind_some, hz, and_true, adrC]
  · simp only [dIndexAddr, h, hi, Option.bind_some]
    rw [if_neg (by simp)]
  · simp only [dIndexAddr, h, hi, Option.bind_some, hz, hc, Option.isSome_some, and_true, adrC]

/-- The place of a part of an element. -/
def partC (x : CV) (k : Nat) : CV :=
  match x with
  | .ptr id ver off => .ptr id ver (off + k)
  | .ip cs => .ip (cs.drop k)
  | x => x
theorem RS.rest (hx : RS H x ch sz) {n : Nat} (hn : n < ch.length) : ∃ rest, atP H (adrC x n) = some rest ∧ rest.take sz = ch[n] ∧ sz ≤ rest.length := by
  have hsz : ch[n].length = sz := hx.ok _ (List.getElem_mem hn)
  have hm : n * sz + sz ≤ ch.length * sz := by rw [← Nat.succ_mul]; exact Nat.mul_le_mul_right _ hn
  rcases hx.is with rfl | ⟨rfl, rfl⟩ | ⟨id, ver, off, cs, rfl, hc, ht, hl⟩
  · refine ⟨_, rfl, hx.ok.at hn, ?_⟩
    rw [List.length_drop, hx.ok.len]; omega
  · simp at hn
  · refine ⟨cs.drop (off + n * sz), ?_, ?_, by rw [List.length_drop]; omega⟩
    · simp only [adrC, atP, hc, Option.bind_some]
      rw [if_pos (by omega)]
    · rw [← hx.ok.at hn, ← ht, List.drop_take, List.take_take, List.drop_drop, Nat.min_eq_left (by omega)]
theorem RS.fieldAddr {fs : Array Field} {fd : Field} {f : Nat} {i : TypeInfo} (h : P.underlying t = some (.struct fs)) (hf : fs[f]? = some fd) (hi : P.info? fd.type = some i) (hz : ¬ i.size = 0) (hx : RS H x ch sz) {n : Nat} (hn : n < ch.length) (ho : fd.offset ≤ sz) :
    dFieldAddr P t (adrC x n) f H = some (partC (adrC x n) fd.offset) := by
  obtain ⟨rest, h1, h2, h3⟩ := hx.rest hn
  simp only [dFieldAddr, h, hf, hi, Option.bind_some, h1, if_neg hz]
  rcases hx.is with rfl | ⟨rfl, rfl⟩ | ⟨id, ver, off, cs, rfl, hc, ht, hl⟩
  · simp only [adrC, atP, Option.some.injEq] at h1
    simp only [adrC, partC, h1]
    rw [if_pos (by omega)]
  · simp at hn
  · rfl
theorem RS.loadPart {d : TypeDesc} {i : TypeInfo} (h : P.underlying t = some d) (ha : aggB d = false) (hi : P.info? t = some i) (hx : RS H x ch sz) {n k : Nat} (hn : n < ch.length) (hk : k < sz) : dLoad P t (partC (adrC x n) k) H = ch[n][k]? := by
  rcases hx.is with rfl | ⟨rfl, rfl⟩ | ⟨id, ver, off, cs, rfl, hc, ht, hl⟩
  · simp only [adrC, partC]
    rw [load_ip h ha hi, List.head?_drop, List.getElem?_drop, hx.ok.get hn hk]
  · simp at hn
  · simp only [adrC, partC]
    have hm : n * sz + sz ≤ ch.length * sz := by rw [← Nat.succ_mul]; exact Nat.mul_le_mul_right _ hn
    rw [load_one h ha hi, hc, Option.bind_some, ← hx.ok.get hn hk, ← ht, List.getElem?_take_of_lt (by omega), List.getElem?_drop, Nat.add_assoc]
theorem RS.load1 {d : TypeDesc} {i : TypeInfo} (h : P.underlying t = some d) (ha : aggB d = false) (hi : P.info? t = some i) (hx : RS H x ch sz) {n : Nat} (hn : n < ch.length) (hk : 0 < sz) : dLoad P t (adrC x n) H = ch[n][0]? := by
  have := hx.loadPart h ha hi hn hk
  rw [← this]
  rcases hx.is with rfl | ⟨rfl, rfl⟩ | ⟨id, ver, off, cs, rfl, hc, ht, hl⟩
  · simp only [adrC, partC, List.drop_zero]
  · simp at hn
  · simp only [adrC, partC, Nat.add_zero]
theorem RS.loadAgg {d : TypeDesc} {i : TypeInfo} (h : P.underlying t = some d) (ha : aggB d = true) (hi : P.info? t = some i) (hz : i.size = sz) (hx : RS H x ch sz) {n : Nat} (hn : n < ch.length) : dLoad P t (adrC x n) H = some (.agg ch[n]) := by
  obtain ⟨rest, h1, h2, h3⟩ := hx.rest hn
  simp only [dLoad, h, hi, Option.bind_some, h1, ha, if_true, hz, h3, h2]

end Go.SL

/- Loops that count, and calls with more than one outcome. -/
namespace Go.SL
set_option linter.unusedVariables false

/-- What is behind a call, or a loop, is looked at when its turn comes. -/
@[congr] theorem WC_congr {P : Program} {cs : Cfgs} {m m' : Nat} {f : Tg} {args args' : List CV} {H H' : Hp} (K : CV → Hp → Prop) (hm : m = m') (h : args = args') (h2 : H = H') : WC P cs m f args H K = WC P cs m' f args' H' K := by rw [hm, h, h2]
@[congr] theorem W_congr (x : Cx) (c : Code) {fr fr' : Fr} {H H' : Hp} (Q : Ex → Fr → Hp → Prop) (h : fr = fr') (h2 : H = H') : W x c fr H Q = W x c fr' H' Q := by rw [h, h2]

@[congr] theorem callQ_congr (x : Cx) (H : Hp) (K : CV → Hp → Prop) {xs xs' : List CV} {f f' : CV} (h : xs = xs') (h2 : f = f') : callQ x H K xs f = callQ x H K xs' f' := by rw [h, h2]
@[congr] theorem aQ_congr (P : Program) (t : TypeId) {old old' : CV} (H : Hp) (K : CV → Hp → Prop) {re re' : Bool} (h : old = old') (h2 : re = re') : aQ P t old H K re = aQ P t old' H K re' := by rw [h, h2]

/-- A loop that counts up to n. -/
theorem W_up {x : Cx} {c : Code} {Q : Ex → Fr → Hp → Prop} (n : Nat) (I : Nat → Fr → Hp → Prop)
    (h : ∀ i fr H, i ≤ n → I i fr H → W x c fr H fun e fr H => match e with | .norm => i < n ∧ I (i + 1) fr H | e => Q e fr H) (i : Nat) (fr : Fr) (H : Hp) (hi : i ≤ n) (h0 : I i fr H) : W x (.loop c) fr H Q := by
  refine W_rounds (fun j fr H => ∃ i, i ≤ n ∧ j = n - i ∧ I i fr H) ?_ (n - i) _ _ ⟨i, hi, rfl, h0⟩
  rintro j fr H ⟨i, hi, rfl, h0⟩
  refine W_mono (h i fr H hi h0) ?_
  rintro e fr' H' hq
  cases e with
  | norm => exact ⟨n - (i + 1), by have := hq.1; omega, i + 1, hq.1, rfl, hq.2⟩
  | _ => exact hq

theorem WC_mono {P : Program} {cs : Cfgs} {m : Nat} {f : Tg} {args : List CV} {H : Hp} {K K' : CV → Hp → Prop} (h : WC P cs m f args H K) (hk : ∀ y H', K y H' → K' y H') : WC P cs m f args H K' :=
  let ⟨k, r, h1, h2⟩ := h
  ⟨k, r, h1, hk _ _ h2⟩

theorem WC_prim {P : Program} {cs : Cfgs} {m : Nat} {f : FuncId} {args : List CV} {H : Hp} {K : CV → Hp → Prop} {p : List CV → Hp → Option (CV × Hp)} (hp : cs.prim f = some p) : WC P cs m (.f f) args H K ↔ WX (p args H) fun r => K r.1 r.2 := by
  have key : ∀ k, evCall P cs (k + 1) m (.f f) args H = p args H := fun k => by simp only [evCall, hp]
  constructor
  · rintro ⟨k, r, h1, h2⟩
    cases k with
    | zero => cases h1
    | succ k => rw [key] at h1; exact ⟨r, h1, h2⟩
  · rintro ⟨r, h1, h2⟩
    exact ⟨1, r, by rw [key]; exact h1, h2⟩

/-- A function's outcome, told by a predicate. -/
abbrev Out (P : Program) (cs : Cfgs) (m : Nat) (f : FuncId) (args : List CV) (H : Hp) (K : CV → Hp → Prop) : Prop := WC P cs m (.f f) args H K
end Go.SL

/- Small laws on lists of bytes. -/
namespace Go.SL
set_option linter.unusedVariables false

theorem take_all {α : Type} {p : α → Prop} {s : List α} {i : Nat} (h : ∀ c ∈ s.take i, p c) (hi : i < s.length) (hc : p s[i]) : ∀ c ∈ s.take (i + 1), p c := by
  intro c hm
  rw [List.take_add_one, List.getElem?_eq_getElem hi] at hm
  rcases List.mem_append.1 hm with hm | hm
  · exact h c hm
  · simp at hm; subst hm; exact hc
theorem up64 {i n : Nat} (h : i < n) (hn : n ≤ 9223372036854775807) : IntKind.i64.wrap ((i : Int) + 1) = ((i + 1 : Nat) : Int) := wrap64 (by omega)
theorem take_snoc {α : Type} {s : List α} {i : Nat} (hi : i < s.length) : s.take (i + 1) = s.take i ++ [s[i]] := by
  rw [List.take_add_one, List.getElem?_eq_getElem hi]; rfl

theorem upJ {i n : Nat} (h : i < n) (hn : n ≤ 9223372036854775807) : ∃ j, j = i + 1 ∧ IntKind.i64.wrap ((i : Int) + 1) = (j : Int) := ⟨i + 1, rfl, up64 h hn⟩
theorem wrN {x : Int} {n : Nat} (h : x = n) (hn : n ≤ 9223372036854775807) : IntKind.i64.wrap x = (n : Int) := by subst h; exact wrap64 (by omega)
@[simp] theorem dUn_not (b : Bool) : dUn .not (.v (.bool b)) = some (.v (.bool (!b))) := (rfl)
/-- Numbers that are counts. -/
@[simp] theorem nz_eq (a k : Nat) : ((a : Int) = (no_index (OfNat.ofNat k) : Int)) ↔ a = OfNat.ofNat k := by
  show ((a : Int) = ((k : Nat) : Int)) ↔ a = k
  omega
@[simp] theorem nn_eq (a b : Nat) : ((a : Int) = (b : Int)) ↔ a = b := Int.ofNat_inj
@[simp] theorem nz_lt (a k : Nat) : ((a : Int) < (no_index (OfNat.ofNat k) : Int)) ↔ a < OfNat.ofNat k := by
  show ((a : Int) < ((k : Nat) : Int)) ↔ a < k
  omega
@[simp] theorem nz_le (a k : Nat) : ((a : Int) ≤ (no_index (OfNat.ofNat k) : Int)) ↔ a ≤ OfNat.ofNat k := by
  show ((a : Int) ≤ ((k : Nat) : Int)) ↔ a ≤ k
  omega
@[simp] theorem nz_gt (a k : Nat) : ((no_index (OfNat.ofNat k) : Int) < (a : Int)) ↔ OfNat.ofNat k < a := by
  show (((k : Nat) : Int) < (a : Int)) ↔ k < a
  omega
@[simp] theorem nz_ge (a k : Nat) : ((no_index (OfNat.ofNat k) : Int) ≤ (a : Int)) ↔ OfNat.ofNat k ≤ a := by
  show (((k : Nat) : Int) ≤ (a : Int)) ↔ k ≤ a
  omega
theorem u8_eq (c : UInt8) (k : UInt8) : c.toNat = k.toNat ↔ c = k := UInt8.toNat_inj

/-- Small letters. -/
def lowB (c : UInt8) : UInt8 := if 65 ≤ c.toNat ∧ c.toNat ≤ 90 then c + 32 else c
theorem lowB_hi {c : UInt8} (h : 65 ≤ c.toNat ∧ c.toNat ≤ 90) : CV.v (.int .u8 (IntKind.u8.wrap ((c.toNat : Int) + 32))) = u8 (lowB c) := by
  have : lowB c = c + 32 := by unfold lowB; rw [if_pos h]
  rw [this]
  simp only [u8, CV.v.injEq, Value.int.injEq, true_and]
  rw [wrap8 (by omega), UInt8.toNat_add]
  simp; omega
theorem lowB_wrap {c : UInt8} (h : 65 ≤ c.toNat ∧ c.toNat ≤ 90) : IntKind.u8.wrap ((c.toNat : Int) + 32) = ((lowB c).toNat : Int) := by
  have := lowB_hi h
  simp only [u8, CV.v.injEq, Value.int.injEq, true_and] at this
  exact this
theorem lowB_lo {c : UInt8} (h : ¬ (65 ≤ c.toNat ∧ c.toNat ≤ 90)) : lowB c = c := by unfold lowB; rw [if_neg h]
def low (s : Bs) : Bs := s.map lowB
theorem low_snoc (s : Bs) (c : UInt8) : low (s ++ [c]) = low s ++ [lowB c] := by simp [low]
@[simp] theorem low_length (s : Bs) : (low s).length = s.length := by simp [low]

/-- Blanks and tabs. -/
def blankC (c : UInt8) : Bool := c.toNat = 32 || c.toNat = 9
def trimL (s : Bs) : Bs := s.dropWhile blankC
def trim (s : Bs) : Bs := (trimL (trimL s).reverse).reverse

theorem trimL_nil : trimL [] = [] := rfl
theorem trimL_blank {c : UInt8} (s : Bs) (h : blankC c = true) : trimL (c :: s) = trimL s := by simp [trimL, h]
theorem trimL_stop {c : UInt8} (s : Bs) (h : blankC c = false) : trimL (c :: s) = c :: s := by simp [trimL, h]
def trimR (s : Bs) : Bs := (trimL s.reverse).reverse
theorem trimR_nil : trimR [] = [] := rfl
theorem trimR_blank {c : UInt8} (s : Bs) (h : blankC c = true) : trimR (s ++ [c]) = trimR s := by simp [trimR, trimL, h]
theorem trimR_stop {c : UInt8} (s : Bs) (h : blankC c = false) : trimR (s ++ [c]) = s ++ [c] := by simp [trimR, trimL, h]
theorem trim_eq (s : Bs) : trim s = trimR (trimL s) := rfl
theorem blankC_iff (c : UInt8) : blankC c = true ↔ c.toNat = 32 ∨ c.toNat = 9 := by simp [blankC]

/-- A name. -/
def nameC (c : UInt8) : Prop := 33 ≤ c.toNat ∧ c.toNat ≤ 126 ∧ c.toNat ≠ 58
instance (c : UInt8) : Decidable (nameC c) := by unfold nameC; infer_instance
def isName (s : Bs) : Prop := 1 ≤ s.length ∧ s.length ≤ 64 ∧ ∀ c ∈ s, nameC c
instance (s : Bs) : Decidable (isName s) := by unfold isName; infer_instance
/-- A value. -/
def valC (c : UInt8) : Prop := c.toNat = 9 ∨ 32 ≤ c.toNat ∧ c.toNat ≤ 126
instance (c : UInt8) : Decidable (valC c) := by unfold valC; infer_instance
def isVal (s : Bs) : Prop := (∀ c ∈ s, valC c) ∧ s.length ≤ 4096 ∧ trim s = s
instance (s : Bs) : Decidable (isVal s) := by unfold isVal; infer_instance
/-- A token. -/
def others : Bs := [40, 41, 60, 62, 64, 44, 59, 58, 92, 34, 47, 91, 93, 63, 61]
theorem othersE : str [40, 41, 60, 62, 64, 44, 59, 58, 92, 34, 47, 91, 93, 63, 61] = str others := rfl
def tokC (c : UInt8) : Prop := 33 ≤ c.toNat ∧ c.toNat ≤ 126 ∧ c ∉ others
instance (c : UInt8) : Decidable (tokC c) := by unfold tokC; infer_instance
def isTok (s : Bs) : Prop := (∀ c ∈ s, tokC c) ∧ 0 < s.length ∧ s.length ≤ 64
instance (s : Bs) : Decidable (isTok s) := by unfold isTok; infer_instance

/-- Sizes that all texts here have. -/
abbrev big : Nat := 4294967280
end Go.SL

/- Slices that grow: nothing yet, or the last object. -/
namespace Go.SL
set_option linter.unusedVariables false

/-- A slice of n elements that grows behind H. -/
def Acc (H H' : Hp) (x : CV) (cs : List CV) (n sz : Nat) (e : TypeId) : Prop :=
  (n = 0 ∧ cs = [] ∧ x = nilC ∧ H' = H) ∨ (cs.length = n * sz ∧ ∃ ver, x = .sl H.length ver 0 n sz ∧ H' = H ++ [.cells ver cs e])

variable {P : Program} {t tx e : TypeId} {H H' : Hp} {x y : CV} {cs cs' : List CV} {n n' sz : Nat}

theorem Acc.nil (H : Hp) (sz : Nat) (e : TypeId) : Acc H H nilC [] 0 sz e := .inl ⟨rfl, rfl, rfl, rfl⟩
theorem Acc.len (h : Acc H H' x cs n sz e) : cs.length = n * sz := by
  rcases h with ⟨rfl, rfl, _, _⟩ | ⟨h, _⟩
  · simp
  · exact h
theorem Acc.append {zs : List CV} {i : TypeInfo} (ht : P.underlying t = some (.slice e)) (hi : P.info? e = some i) (hz : zeroL P e = some zs) (hzl : zs.length = i.size) (hs : i.size = sz) (h0 : 0 < sz) (h : Acc H H' x cs n sz e)
    (hsrc : dSrc P H' tx sz y = some (cs', n')) (hl : cs'.length = n' * sz) (hbig : (n + n') * i.bytes ≤ 140737488355328) (hbig2 : n + n' ≤ 9223372036854775807) : ∃ x2 H2, dAppend P t tx x y H' = some (x2, H2) ∧ Acc H H2 x2 (cs ++ cs') (n + n') sz e := by
  subst hs
  rcases h with ⟨rfl, rfl, rfl, rfl⟩ | ⟨hcl, ver, rfl, rfl⟩
  · by_cases hn : n' = 0
    · subst hn
      have : cs' = [] := List.eq_nil_of_length_eq_zero (by simpa using hl)
      subst this
      exact ⟨_, _, by simp only [dAppend, ht, hi, hz, hsrc, Option.bind_some, hzl, h0, and_self, if_true], .inl ⟨rfl, rfl, rfl, rfl⟩⟩
    · refine ⟨_, _, by simp only [dAppend, ht, hi, hz, hsrc, Option.bind_some, hzl, h0, and_self, if_true, hn, if_false]; rw [if_pos ⟨by simpa using hbig, by simpa using hbig2⟩], .inr ⟨by simpa using hl, 0, by simp, by simp⟩⟩
  · by_cases hn : n' = 0
    · subst hn
      have : cs' = [] := List.eq_nil_of_length_eq_zero (by simpa using hl)
      subst this
      refine ⟨_, _, by simp only [dAppend, ht, hi, hz, hsrc, Option.bind_some, hzl, h0, and_self, if_true, get_own0, List.getElem?_cons_zero, Nat.zero_add, true_and]; rw [if_pos (by omega)], .inr ⟨by simpa using hcl, ver, by simp, by simp⟩⟩
    · refine ⟨_, _, by simp only [dAppend, ht, hi, hz, hsrc, Option.bind_some, hzl, h0, and_self, if_true, get_own0, List.getElem?_cons_zero, Nat.zero_add, true_and, hn, if_false]; rw [if_pos (by omega), if_pos ⟨hbig, hbig2⟩], .inr ⟨by simp [hcl, hl, Nat.add_mul], ver + 1, rfl, ?_⟩⟩
      rw [set_own0, List.drop_zero, ← hcl, List.take_length]; rfl
theorem Acc.ap (h : Acc H H' x cs n sz e) {m : Nat} (hm : m ≤ H.length) (y : CV) : apQ m x y = true := by
  rcases h with ⟨rfl, rfl, rfl, rfl⟩ | ⟨hcl, ver, rfl, rfl⟩
  · rfl
  · simp [apQ, hm]
theorem Acc.unl (h : Acc H H' x cs n sz e) : unlit x = x := by
  rcases h with ⟨rfl, rfl, rfl, rfl⟩ | ⟨hcl, ver, rfl, rfl⟩ <;> rfl
theorem Acc.take (h : Acc H H' x cs n sz e) : H'.take H.length = H := by
  rcases h with ⟨rfl, rfl, rfl, rfl⟩ | ⟨hcl, ver, rfl, rfl⟩
  · simp
  · simp
theorem Acc.take' (h : Acc H H' x cs n sz e) {m : Nat} (hm : m ≤ H.length) : H'.take m = H.take m := by
  rcases h with ⟨rfl, rfl, rfl, rfl⟩ | ⟨hcl, ver, rfl, rfl⟩
  · rfl
  · rw [List.take_append_of_le_length hm]
/-- A closed slice, or none. -/
def Cls (y : CV) (cs : List CV) (n sz : Nat) : Prop := y = .im cs n sz ∨ (n = 0 ∧ cs = [] ∧ y = nilC)
theorem Acc.frz (h : Acc H H' x cs n sz e) {m : Nat} (hm : m ≤ H.length) (hc : cs.all clB = true) : ∃ y, frz1 H' m x = some y ∧ Cls y cs n sz := by
  rcases h with ⟨rfl, rfl, rfl, rfl⟩ | ⟨hcl, ver, rfl, rfl⟩
  · exact ⟨nilC, rfl, .inr ⟨rfl, rfl, rfl⟩⟩
  · refine ⟨.im cs n sz, ?_, .inl rfl⟩
    have hat : atS (H ++ [.cells ver cs e]) (.sl H.length ver 0 n sz) = some (cs, n) := by
      simp only [atS, at_own0, at_zero, if_true, Option.bind_some, Nat.zero_add, hcl, Nat.le_refl, List.drop_zero]
      rw [← hcl, List.take_length]
    rw [frz1_sl, if_neg (by omega), hat]
    simp [hcl]; exact fun x hx => List.all_eq_true.1 hc x hx
theorem frz_clo {H : Hp} {m : Nat} {y : CV} (h : Cls y cs n sz) : frz1 H m y = some y := by
  rcases h with rfl | ⟨_, _, rfl⟩ <;> rfl

/-- Bytes that grow. -/
abbrev AccB (H H' : Hp) (x : CV) (l : Bs) (e : TypeId) : Prop := Acc H H' x (u8s l) l.length 1 e
theorem Acc.rb {l : Bs} (h : AccB H H' x l e) : RB H' x l := by
  rcases h with ⟨h1, h2, rfl, rfl⟩ | ⟨hcl, ver, rfl, rfl⟩
  · exact .inr (.inl ⟨List.eq_nil_of_length_eq_zero h1, rfl⟩)
  · exact RB.own (cs := u8s l) (by simp) (by simp) rfl (by simp)
/-- Closed bytes. -/
abbrev CB (y : CV) (l : Bs) : Prop := Cls y (u8s l) l.length 1
theorem Cls.rb {y : CV} {l : Bs} (h : CB y l) (H : Hp) : RB H y l := by
  rcases h with rfl | ⟨h1, _, rfl⟩
  · exact .inl rfl
  · exact .inr (.inl ⟨List.eq_nil_of_length_eq_zero h1, rfl⟩)
theorem src_str (h : P.underlying tx = some .string) (l : Bs) (H : Hp) : dSrc P H tx 1 (str l) = some (u8s l, l.length) := by
  simp only [dSrc, h, str, if_true, bytesC_eq]; rfl
theorem mkB1 {z : CV} {i : TypeInfo} (ht : P.underlying t = some (.slice e)) (he : P.underlying e = some (.int .u8)) (hi : P.info? e = some i) (hz : zeroL P e = some [z]) (hs : i.size = 1) (n : Int) (H : Hp) :
    dBuildSlice P t 1 [(0, .v (.int .u8 n))] H false = some (.lit [.v (.int .u8 n)] 1 1, H) := by
  simp [dBuildSlice, ht, he, hi, hz, hs, fillC, zerosC, isU8, clB]
theorem mkB2 {z : CV} {i : TypeInfo} (ht : P.underlying t = some (.slice e)) (he : P.underlying e = some (.int .u8)) (hi : P.info? e = some i) (hz : zeroL P e = some [z]) (hs : i.size = 1) (n n2 : Int) (H : Hp) :
    dBuildSlice P t 2 [(0, .v (.int .u8 n)), (1, .v (.int .u8 n2))] H false = some (.lit [.v (.int .u8 n), .v (.int .u8 n2)] 2 1, H) := by
  simp [dBuildSlice, ht, he, hi, hz, hs, fillC, zerosC, isU8, clB, show List.range 2 = [0, 1] from rfl]
theorem mkB3 {z : CV} {i : TypeInfo} (ht : P.underlying t = some (.slice e)) (he : P.underlying e = some (.int .u8)) (hi : P.info? e = some i) (hz : zeroL P e = some [z]) (hs : i.size = 1) (n n2 n3 : Int) (H : Hp) :
    dBuildSlice P t 3 [(0, .v (.int .u8 n)), (1, .v (.int .u8 n2)), (2, .v (.int .u8 n3))] H false = some (.lit [.v (.int .u8 n), .v (.int .u8 n2), .v (.int .u8 n3)] 3 1, H) := by
  simp [dBuildSlice, ht, he, hi, hz, hs, fillC, zerosC, isU8, clB, show List.range 3 = [0, 1, 2] from rfl]
theorem cvt_lit {s d : TypeId} (mu : Bool) (h1 : P.underlying s = some (.slice e)) (h2 : P.underlying d = some .string) (h3 : P.underlying e = some (.int .u8)) (l : Bs) (H : Hp) :
    cvt P mu s d (.lit (u8s l) l.length 1) H = some (str l, H) := by
  have : atS H (.lit (u8s l) l.length 1) = some (u8s l, l.length) := by simp [atS]
  simp only [cvt, dConv, h1, h2, h3, isU8, if_true, this, Option.bind_some, numsOf_u8s, u8s_length, if_true, strOf, str]
theorem cvt_lit1 {s d : TypeId} (mu : Bool) (h1 : P.underlying s = some (.slice e)) (h2 : P.underlying d = some .string) (h3 : P.underlying e = some (.int .u8)) (c : UInt8) (H : Hp) :
    cvt P mu s d (.lit (u8s [c]) 1 1) H = some (str [c], H) := cvt_lit mu h1 h2 h3 [c] H
theorem mkB0 {z : CV} {i : TypeInfo} (ht : P.underlying t = some (.slice e)) (hi : P.info? e = some i) (hz : zeroL P e = some [z]) (hs : i.size = 1) (H : Hp) :
    dBuildSlice P t 0 [] H true = some (.sl H.length 0 0 0 1, H ++ [.cells 0 [] e]) := by
  simp [dBuildSlice, ht, hi, hz, hs, fillC, zerosC]
theorem nil_nil (h : P.underlying t = some (.slice e)) (H : Hp) : nilR P t nilC nilC H = some true := by simp [nilR, h]
theorem RB.nilR (h : P.underlying t = some (.slice e)) {l : Bs} (hx : RB H x l) (hn : x ≠ nilC) : SL.nilR P t x nilC H = some false := by
  rcases hx with rfl | ⟨_, rfl⟩ | ⟨id, ver, off, cs, rfl, hc, _⟩
  · simp [SL.nilR, h, SL.byt]
  · exact absurd rfl hn
  · simp [SL.nilR, h, hc]
theorem RB.eqnil (h : P.underlying t = some (.slice e)) {l : Bs} (hx : RB H x l) (hn : x ≠ nilC) : dBin P .eql t x nilC H = some (.v (.bool false)) := by
  have := hx.nilR h hn
  rcases hx with rfl | ⟨_, rfl⟩ | ⟨id, ver, off, cs, rfl, hc, _⟩
  · simp [dBin, SL.byt] at this ⊢; simp [this]
  · exact absurd rfl hn
  · simp [dBin, this]
theorem eqnil_nil (h : P.underlying t = some (.slice e)) (H : Hp) : dBin P .eql t nilC nilC H = some (.v (.bool true)) := by simp [dBin, nil_nil h]
theorem src_lit (h : P.underlying tx = some (.slice e)) (hl : cs.length = n * sz) (H : Hp) : dSrc P H tx sz (.lit cs n sz) = some (cs, n) := by
  simp only [dSrc, h, atS, hl, if_true, Option.bind_some]
theorem src_clo (h : P.underlying tx = some (.slice e)) (hy : Cls y cs n sz) (hl : cs.length = n * sz) (H : Hp) : dSrc P H tx sz y = some (cs, n) := by
  rcases hy with rfl | ⟨rfl, rfl, rfl⟩
  · simp only [dSrc, h, atS, hl, if_true, Option.bind_some]
  · simp [dSrc, h, atS]
theorem AccB.append' {i : TypeInfo} {z : CV} {l l' : Bs} (ht : P.underlying t = some (.slice e)) (hi : P.info? e = some i) (hz : zeroL P e = some [z]) (hs : i.size = 1) (hby : i.bytes = 1) (h : AccB H H' x l e)
    (hsrc : dSrc P H' tx 1 y = some (u8s l', l'.length)) (hbig : l.length + l'.length ≤ 140737488355328) : ∃ x2 H2, dAppend P t tx x y H' = some (x2, H2) ∧ AccB H H2 x2 (l ++ l') e := by
  have := Acc.append (P := P) ht hi hz (by simp [hs]) hs (by omega) h hsrc (by simp) (by rw [hby]; omega) (by omega)
  simpa [AccB] using this
theorem cellsAt_lt {H : Hp} {id ver : Nat} {cs : List CV} (h : cellsAt H id ver = some cs) : id < H.length := by
  unfold cellsAt at h
  by_cases hd : id < H.length
  · exact hd
  · rw [List.getElem?_eq_none (by omega)] at h; cases h
/-- What is read stays, where it is old. -/
theorem RB.frz {l : Bs} (h : RB H x l) {m : Nat} (hm : H.length ≤ m) (H2 : Hp) : frz1 H2 m x = some x := by
  rcases h with rfl | ⟨_, rfl⟩ | ⟨id, ver, off, cs, rfl, hc, _⟩
  · rfl
  · rfl
  · rw [frz1_sl, if_pos (by have := cellsAt_lt hc; omega)]
theorem RB.frz2 {l : Bs} (h : RB H x l) {m : Nat} (hm : H.length ≤ m) (H2 : Hp) : SL.frz2 H2 m x = some x := by
  rw [← h.frz hm H2]
  rcases h with rfl | ⟨_, rfl⟩ | ⟨id, ver, off, cs, rfl, hc, _⟩ <;> rfl
theorem RB.frzV {l : Bs} (h : RB H x l) {m : Nat} (hm : H.length ≤ m) (H2 : Hp) : SL.frz H2 m x = some x := by
  rw [← h.frz hm H2]
  rcases h with rfl | ⟨_, rfl⟩ | ⟨id, ver, off, cs, rfl, hc, _⟩ <;> rfl
theorem Acc.frzV (h : Acc H H' x cs n sz e) {m : Nat} (hm : m ≤ H.length) (hc : cs.all clB = true) : ∃ y, SL.frz H' m x = some y ∧ Cls y cs n sz := by
  obtain ⟨y, h1, h2⟩ := h.frz hm hc
  refine ⟨y, ?_, h2⟩
  rw [← h1]
  rcases h with ⟨rfl, rfl, rfl, rfl⟩ | ⟨hcl, ver, rfl, rfl⟩ <;> rfl
theorem Acc.frz2 (h : Acc H H' x cs n sz e) {m : Nat} (hm : m ≤ H.length) (hc : cs.all clB = true) : ∃ y, SL.frz2 H' m x = some y ∧ Cls y cs n sz := by
  obtain ⟨y, h1, h2⟩ := h.frz hm hc
  refine ⟨y, ?_, h2⟩
  rw [← h1]
  rcases h with ⟨rfl, rfl, rfl, rfl⟩ | ⟨hcl, ver, rfl, rfl⟩ <;> rfl
end Go.SL

/- Slices that grow among other objects; boxes of structs. -/
namespace Go.SL
set_option linter.unusedVariables false

variable {P : Program} {t tx e : TypeId} {H H' : Hp} {x y : CV} {cs cs' : List CV} {n n' sz m : Nat}

/-- A slice of n elements that grows, an object from m on. -/
def Grow (m : Nat) (H : Hp) (x : CV) (cs : List CV) (n sz : Nat) (e : TypeId) : Prop :=
  (n = 0 ∧ cs = [] ∧ x = nilC) ∨ (cs.length = n * sz ∧ ∃ id ver, m ≤ id ∧ x = .sl id ver 0 n sz ∧ H[id]? = some (.cells ver cs e))

theorem Grow.nil (m : Nat) (H : Hp) (sz : Nat) (e : TypeId) : Grow m H nilC [] 0 sz e := .inl ⟨rfl, rfl, rfl⟩
theorem Grow.len (h : Grow m H x cs n sz e) : cs.length = n * sz := by
  rcases h with ⟨rfl, rfl, _⟩ | ⟨h, _⟩
  · simp
  · exact h
theorem Grow.unl (h : Grow m H x cs n sz e) : unlit x = x := by
  rcases h with ⟨_, _, rfl⟩ | ⟨_, _, _, _, rfl, _⟩ <;> rfl
theorem Grow.ap (h : Grow m H x cs n sz e) {k : Nat} (hk : k ≤ m) (y : CV) : apQ k x y = true := by
  rcases h with ⟨_, _, rfl⟩ | ⟨_, id, _, hm, rfl, _⟩
  · rfl
  · simp [apQ]; omega
theorem Grow.is (h : Grow m H x cs n sz e) : atS H x = some (cs, n) := by
  rcases h with ⟨rfl, rfl, rfl⟩ | ⟨hl, id, ver, _, rfl, hc⟩
  · rfl
  · have : cellsAt H id ver = some cs := by simp [cellsAt, hc]
    simp only [atS, this, Option.bind_some, Nat.zero_add, hl, Nat.le_refl, if_true, List.drop_zero]
    rw [← hl, List.take_length]
theorem Grow.app (L : Hp) (h : Grow m H x cs n sz e) : Grow m (H ++ L) x cs n sz e := by
  rcases h with h | ⟨hl, id, ver, hm, rfl, hc⟩
  · exact .inl h
  · exact .inr ⟨hl, id, ver, hm, rfl, by rw [List.getElem?_append_left (List.getElem?_eq_some_iff.1 hc).1]; exact hc⟩
theorem Grow.of_set {id : Nat} {o o' : CO} (h : Grow m H x cs n sz e) (h0 : H[id]? = some o) (hne : ∀ ver off len s, x = .sl id ver off len s → False) : Grow m (H.set id o') x cs n sz e := by
  rcases h with h | ⟨hl, i, ver, hm, rfl, hc⟩
  · exact .inl h
  · refine .inr ⟨hl, i, ver, hm, rfl, ?_⟩
    rw [List.getElem?_set_ne (fun e => hne ver 0 n sz (by rw [e]))]; exact hc
theorem Grow.append {zs : List CV} {i : TypeInfo} (ht : P.underlying t = some (.slice e)) (hi : P.info? e = some i) (hz : zeroL P e = some zs) (hzl : zs.length = i.size) (hs : i.size = sz) (h0 : 0 < sz) (hm : m ≤ H.length) (h : Grow m H x cs n sz e)
    (hsrc : dSrc P H tx sz y = some (cs', n')) (hl : cs'.length = n' * sz) (hbig : (n + n') * i.bytes ≤ 140737488355328) (hbig2 : n + n' ≤ 9223372036854775807) :
    ∃ x2 H2, dAppend P t tx x y H = some (x2, H2) ∧ Grow m H2 x2 (cs ++ cs') (n + n') sz e ∧ H2.take m = H.take m ∧ H.length ≤ H2.length ∧ (∀ i, (∀ ver off len s, x ≠ .sl i ver off len s) → i < H.length → H2[i]? = H[i]?) := by
  subst hs
  rcases h with ⟨rfl, rfl, rfl⟩ | ⟨hcl, id, ver, hmi, rfl, hc⟩
  · by_cases hn : n' = 0
    · subst hn
      have : cs' = [] := List.eq_nil_of_length_eq_zero (by simpa using hl)
      subst this
      exact ⟨_, _, by simp only [dAppend, ht, hi, hz, hsrc, Option.bind_some, hzl, h0, and_self, if_true], .inl ⟨rfl, rfl, rfl⟩, rfl, Nat.le_refl _, fun _ _ _ => rfl⟩
    · refine ⟨_, _, by simp only [dAppend, ht, hi, hz, hsrc, Option.bind_some, hzl, h0, and_self, if_true, hn, if_false]; rw [if_pos ⟨by simpa using hbig, by simpa using hbig2⟩], .inr ⟨by simpa using hl, H.length, 0, hm, by simp, by simp⟩, ?_, by simp, fun i _ hi => ?_⟩
      · rw [List.take_append_of_le_length hm]
      · rw [List.getElem?_append_left hi]
  · have hid := (List.getElem?_eq_some_iff.1 hc).1
    by_cases hn : n' = 0
    · subst hn
      have : cs' = [] := List.eq_nil_of_length_eq_zero (by simpa using hl)
      subst this
      refine ⟨_, _, by simp only [dAppend, ht, hi, hz, hsrc, Option.bind_some, hzl, h0, and_self, if_true, hc, Nat.zero_add, true_and]; rw [if_pos (by omega)], .inr ⟨by simpa using hcl, id, ver, hmi, by simp, by simpa using hc⟩, rfl, Nat.le_refl _, fun _ _ _ => rfl⟩
    · refine ⟨_, _, by simp only [dAppend, ht, hi, hz, hsrc, Option.bind_some, hzl, h0, and_self, if_true, hc, Nat.zero_add, true_and, hn, if_false]; rw [if_pos (by omega), if_pos ⟨hbig, hbig2⟩], .inr ⟨by simp [hcl, hl, Nat.add_mul], id, ver + 1, hmi, rfl, ?_⟩, ?_, by simp, fun i hi hlt => ?_⟩
      · rw [List.getElem?_set_self hid, List.drop_zero, ← hcl, List.take_length]
      · rw [List.take_set_of_le hmi]
      · rw [List.getElem?_set_ne]
        rintro rfl
        exact hi _ _ _ _ rfl
theorem Grow.frz (h : Grow m H x cs n sz e) {k : Nat} (hk : k ≤ m) (hc : cs.all clB = true) : ∃ y, frz1 H k x = some y ∧ Cls y cs n sz := by
  have hat := h.is
  have hcl := h.len
  rcases h with ⟨rfl, rfl, rfl⟩ | ⟨_, id, ver, hm, rfl, _⟩
  · exact ⟨nilC, rfl, .inr ⟨rfl, rfl, rfl⟩⟩
  · refine ⟨.im cs n sz, ?_, .inl rfl⟩
    rw [frz1_sl, if_neg (by omega), hat]
    simp [hcl]; exact fun x hx => List.all_eq_true.1 hc x hx
theorem Grow.frzV (h : Grow m H x cs n sz e) {k : Nat} (hk : k ≤ m) (hc : cs.all clB = true) : ∃ y, SL.frz H k x = some y ∧ SL.frz2 H k x = some y ∧ frz1 H k x = some y ∧ Cls y cs n sz := by
  obtain ⟨y, h1, h2⟩ := h.frz hk hc
  refine ⟨y, ?_, ?_, h1, h2⟩ <;> rw [← h1] <;> rcases h with ⟨_, _, rfl⟩ | ⟨_, _, _, _, rfl, _⟩ <;> rfl
theorem Grow.rs {ch : List (List CV)} (h : Grow m H x ch.flatten ch.length sz e) (ok : Chunks ch sz) : RS H x ch sz := by
  rcases h with ⟨h1, _, rfl⟩ | ⟨hl, id, ver, hm, rfl, hc⟩
  · obtain rfl := List.eq_nil_of_length_eq_zero h1; exact RS.nil _ _
  · exact .own0 ok (by simp [cellsAt, hc]) rfl
theorem Grow.rb {l : Bs} (h : Grow m H x (u8s l) l.length 1 e) : RB H x l := by
  rcases h with ⟨h1, h2, rfl⟩ | ⟨hcl, id, ver, hm, rfl, hc⟩
  · exact .inr (.inl ⟨List.eq_nil_of_length_eq_zero h1, rfl⟩)
  · exact RB.own (cs := u8s l) (by simp [cellsAt, hc]) (by simp) rfl (by simp)
theorem Cls.rs {ch : List (List CV)} (h : Cls y ch.flatten ch.length sz) (ok : Chunks ch sz) (H : Hp) : RS H y ch sz := by
  rcases h with rfl | ⟨h1, _, rfl⟩
  · exact .im H ok
  · obtain rfl := List.eq_nil_of_length_eq_zero h1; exact RS.nil _ _
theorem Cls.unl (h : Cls y cs n sz) : unlit y = y := by rcases h with rfl | ⟨_, _, rfl⟩ <;> rfl
theorem Cls.clB (h : Cls y cs n sz) : SL.clB y = true := by rcases h with rfl | ⟨_, _, rfl⟩ <;> rfl
theorem Cls.one (h : Cls y cs n sz) : oneB y = true := by rcases h with rfl | ⟨_, _, rfl⟩ <;> rfl
theorem Cls.top (h : Cls y cs n sz) (m : Nat) : topLe m y = true := by rcases h with rfl | ⟨_, _, rfl⟩ <;> rfl
theorem Cls.frz (h : Cls y cs n sz) (H : Hp) (m : Nat) : SL.frz H m y = some y ∧ SL.frz2 H m y = some y ∧ frz1 H m y = some y := by rcases h with rfl | ⟨_, _, rfl⟩ <;> exact ⟨rfl, rfl, rfl⟩
theorem RS.one {ch : List (List CV)} (h : RS H x ch sz) : oneB x = true := by rcases h.is with rfl | ⟨_, rfl⟩ | ⟨_, _, _, _, rfl, _⟩ <;> rfl
theorem RB.one {l : Bs} (h : RB H x l) : oneB x = true := by rcases h with rfl | ⟨_, rfl⟩ | ⟨_, _, _, _, rfl, _⟩ <;> rfl
theorem RS.cells {ch : List (List CV)} (h : RS H x ch sz) : cvCells x = some [x] := by rcases h.is with rfl | ⟨_, rfl⟩ | ⟨_, _, _, _, rfl, _⟩ <;> rfl
theorem RB.cells {l : Bs} (h : RB H x l) : cvCells x = some [x] := by rcases h with rfl | ⟨_, rfl⟩ | ⟨_, _, _, _, rfl, _⟩ <;> rfl
theorem cells_agg {cs : List CV} (h : cs.all oneB = true) : cvCells (.agg cs) = some cs := by simp only [cvCells, h, if_true]
@[simp] theorem oneB_str (l : Bs) : oneB (str l) = true := (rfl)
@[simp] theorem oneB_v (x : Value) : oneB (.v x) = true := (rfl)
theorem faddr_ptr (P : Program) (t : TypeId) (id ver off f : Nat) (H : Hp) : dFieldAddr P t (.ptr id ver off) f H = match P.underlying t with
    | some (.struct fs) => (fs[f]?).bind fun fd => (P.info? fd.type).bind fun i => (cellsAt H id ver).bind fun cs => if off ≤ cs.length ∧ i.size ≠ 0 then some (.ptr id ver (off + fd.offset)) else none
    | _ => none := by
  unfold dFieldAddr
  split
  · rename_i fs hu
    simp only [hu]
    cases fs[f]? with
    | none => rfl
    | some fd =>
      simp only [Option.bind_some]
      cases P.info? fd.type with
      | none => rfl
      | some i =>
        simp only [Option.bind_some, atP]
        cases cellsAt H id ver with
        | none => rfl
        | some cs =>
          simp only [Option.bind_some]
          by_cases h1 : off ≤ cs.length
          · by_cases h2 : i.size = 0 <;> simp [h1, h2]
          · simp [h1]
  · rename_i hn
    split
    · rename_i fs hu; exact absurd hu (hn fs)
    · rfl
theorem load_aggp {P : Program} {t : TypeId} {d : TypeDesc} {i : TypeInfo} (h : P.underlying t = some d) (ha : aggB d = true) (hi : P.info? t = some i) (id ver off : Nat) (H : Hp) :
    dLoad P t (.ptr id ver off) H = (cellsAt H id ver).bind fun cs => if off + i.size ≤ cs.length then some (.agg ((cs.drop off).take i.size)) else none := by
  simp only [dLoad, h, hi, Option.bind_some, ha, if_true, atP]
  cases cellsAt H id ver with
  | none => rfl
  | some cs =>
    simp only [Option.bind_some]
    by_cases h1 : off ≤ cs.length
    · simp only [h1, if_true, Option.bind_some, List.length_drop]
      by_cases h2 : off + i.size ≤ cs.length
      · rw [if_pos (by omega), if_pos h2]
      · rw [if_neg (by omega), if_neg h2]
    · rw [if_neg h1, if_neg (by omega)]; rfl
end Go.SL

/- A region whose order is drawn, where what has no order has no bearing on each other at such a state. -/
namespace Go.SL
set_option linter.unusedVariables false

abbrev JT := Fr → Hp → Prop
def CmtJ (J : JT) (P : Program) (cfg : Cfg) (ce : CallE) (m n : Nat) (ops : Array Oper) (o1 o2 : Oper) : Prop :=
  ∀ fr H s1 s2, J fr H → stepX P cfg ce m n ops o1 fr H = some s1 → stepX P cfg ce m n ops o2 s1.1 s1.2 = some s2 → ∃ t1, stepX P cfg ce m n ops o2 fr H = some t1 ∧ stepX P cfg ce m n ops o1 t1.1 t1.2 = some s2
def KeepJ (J : JT) (P : Program) (cfg : Cfg) (ce : CallE) (m n : Nat) (ops : Array Oper) (o : Oper) : Prop :=
  ∀ fr H s, J fr H → stepX P cfg ce m n ops o fr H = some s → J s.1 s.2
theorem Cmt.j {J : JT} {P : Program} {cfg : Cfg} {ce : CallE} {m n : Nat} {ops : Array Oper} {o1 o2 : Oper} (h : Cmt P cfg ce m n ops o1 o2) : CmtJ J P cfg ce m n ops o1 o2 :=
  fun fr H s1 s2 _ h1 h2 => h fr H s1 s2 h1 h2

theorem evOps_frontJ {J : JT} {P : Program} {cfg : Cfg} {ce : CallE} {m n : Nat} {ops : Array Oper} {o : Oper} {r : Fr × Hp} : ∀ (A B : List Oper) (fr : Fr) (H : Hp), J fr H → (∀ x ∈ A, KeepJ J P cfg ce m n ops x) → (∀ x ∈ A, CmtJ J P cfg ce m n ops x o) → evOps P cfg ce m n ops (A ++ o :: B) fr H = some r → evOps P cfg ce m n ops (o :: (A ++ B)) fr H = some r
  | [], B, fr, H, _, _, _, h => h
  | x :: A, B, fr, H, hj, hk, hc, h => by
    rw [List.cons_append, evOps_step] at h
    obtain ⟨s1, h1, h⟩ := Option.bind_eq_some_iff.1 h
    have h2 := evOps_frontJ A B s1.1 s1.2 (hk x (by simp) fr H s1 hj h1) (fun y hy => hk y (by simp [hy])) (fun y hy => hc y (by simp [hy])) h
    rw [evOps_step] at h2
    obtain ⟨s2, h3, h4⟩ := Option.bind_eq_some_iff.1 h2
    obtain ⟨t1, h5, h6⟩ := hc x (by simp) fr H s1 s2 hj h1 h3
    rw [evOps_step, h5]
    simp only [Option.bind_some, List.cons_append]
    rw [evOps_step, h6]
    exact h4

def okE (E : List (Nat × Nat)) (mu : Bool) (ops : Array Oper) : Bool :=
  let anc := ancOf ops.toList []
  (List.range ops.size).all fun i => match ops[i]? with
    | none => true
    | some o => (edgesOf o).all (fun e => decide (e < i)) && (anc.getD i 0 == ancM anc (edgesOf o)) &&
        (List.range i).all fun j => (anc.getD i 0).testBit j || (match ops[j]? with | none => true | some p => cmB mu ops p o || E.contains (j, i))
theorem okE_at {E : List (Nat × Nat)} {mu : Bool} {ops : Array Oper} (h : okE E mu ops = true) {i : Nat} {o : Oper} (ho : ops[i]? = some o) :
    (∀ e ∈ edgesOf o, e < i) ∧ (ancOf ops.toList []).getD i 0 = ancM (ancOf ops.toList []) (edgesOf o) ∧
      ∀ j p, j < i → ops[j]? = some p → ((ancOf ops.toList []).getD i 0).testBit j = true ∨ cmB mu ops p o = true ∨ (j, i) ∈ E := by
  unfold okE at h
  simp only [] at h
  have hi : i < ops.size := (Array.getElem?_eq_some_iff.1 ho).1
  have := List.all_eq_true.1 h i (List.mem_range.2 hi)
  rw [ho] at this
  simp only [Bool.and_eq_true, beq_iff_eq] at this
  obtain ⟨⟨h1, h2⟩, h3⟩ := this
  refine ⟨fun e he => by simpa using List.all_eq_true.1 h1 e he, h2, fun j p hj hp => ?_⟩
  have := List.all_eq_true.1 h3 j (List.mem_range.2 hj)
  rw [hp] at this
  simpa using this
theorem ancE_listed {E : List (Nat × Nat)} {mu : Bool} {ops : Array Oper} (h : okE E mu ops = true) {listed : Array Bool} (hd : DC ops listed) : ∀ (i : Nat) (o : Oper), ops[i]? = some o → (∀ e ∈ edgesOf o, listed.getD e false = true) →
    ∀ j, ((ancOf ops.toList []).getD i 0).testBit j = true → listed.getD j false = true := by
  intro i
  induction i using Nat.strongRecOn with
  | ind i ih =>
    intro o ho hl j hj
    obtain ⟨h1, h2, _⟩ := okE_at h ho
    rw [h2] at hj
    rcases ancM_spec _ _ hj with hz | ⟨e, he, hz⟩
    · simp at hz
    · rcases hz with rfl | hz
      · exact hl _ he
      · have hlt := h1 e he
        have hi : i < ops.size := (Array.getElem?_eq_some_iff.1 ho).1
        have hoe : ops[e]? = some (ops[e]'(by omega)) := Array.getElem?_eq_getElem (by omega)
        exact ih e hlt _ hoe (fun e' he' => hd e _ (hl e he) hoe e' he') j hz

theorem draw_ixJ {J : JT} {E : List (Nat × Nat)} {P : Program} {cfg : Cfg} {ce : CallE} {m n : Nat} {ops : Array Oper} (hok : okE E cfg.mu ops = true) (hk : ∀ o ∈ ops, KeepJ J P cfg ce m n ops o)
    (hE : ∀ j i oj oi, (j, i) ∈ E → ops[j]? = some oj → ops[i]? = some oi → CmtJ J P cfg ce m n ops oj oi) {r : Fr × Hp} : ∀ (l : List Nat) (listed : Array Bool), listed.size = ops.size → DC ops listed → LinX ops l listed →
    ∀ (fr : Fr) (H : Hp), J fr H → evIx P cfg ce m n ops (un ops listed) fr H = some r → evIx P cfg ce m n ops l fr H = some r
  | [], listed, hsz, hd, hl, fr, H, hj, h => by
    have hr : Region.ready .any ops listed = [] := hl
    have all : ∀ j, j < ops.size → listed.getD j false = true := by
      intro j
      induction j using Nat.strongRecOn with
      | ind j ih =>
        intro hj
        cases hb : listed.getD j false with
        | true => rfl
        | false =>
          have ho : ops[j]? = some (ops[j]'hj) := Array.getElem?_eq_getElem hj
          have : j ∈ Region.ready .any ops listed := mem_ready.2 ⟨by rw [getD_both (by omega) true false, hb], _, ho, fun e he hbind => by
            have hlt := (okE_at hok ho).1 e.on (mem_edges.2 ⟨e, he, hbind, rfl⟩)
            exact ih e.on hlt (by omega)⟩
          rw [hr] at this
          cases this
    have : un ops listed = [] := by
      unfold un
      refine List.filter_eq_nil_iff.2 fun j hj => ?_
      have hj' := List.mem_range.1 hj
      rw [getD_both (by omega) true false, all j hj']; simp
    rw [this] at h
    exact h
  | i :: l, listed, hsz, hd, hl, fr, H, hj, h => by
    obtain ⟨hi, hl⟩ := hl
    obtain ⟨h0, o, ho, hall⟩ := mem_ready.1 hi
    have his : i < ops.size := (Array.getElem?_eq_some_iff.1 ho).1
    have hedge : ∀ e ∈ edgesOf o, listed.getD e false = true := by
      intro x hx
      obtain ⟨e, he, hb, rfl⟩ := mem_edges.1 hx
      exact hall e he hb
    have hmem : i ∈ un ops listed := List.mem_filter.2 ⟨List.mem_range.2 his, by rw [h0]; rfl⟩
    have hsorted : (un ops listed).Pairwise (· < ·) := List.Pairwise.filter _ List.pairwise_lt_range
    obtain ⟨A, B, hAB⟩ := List.append_of_mem hmem
    rw [hAB] at hsorted h
    have hA : ∀ x ∈ A, x < i := fun x hx => (List.pairwise_append.1 hsorted).2.2 x hx i (by simp)
    have hB : ∀ x ∈ B, i < x := fun x hx => (List.pairwise_cons.1 (List.pairwise_append.1 hsorted).2.1).1 x hx
    have hset : un ops (listed.setIfInBounds i true) = A ++ B := by
      have e1 : un ops (listed.setIfInBounds i true) = (un ops listed).filter fun j => j != i := by
        unfold un
        rw [List.filter_filter]
        refine List.filter_congr fun j hj => ?_
        by_cases e : i = j
        · subst e
          have hlt : i < listed.size := by omega
          simp [hlt]
        · rw [getD_set_ne true e]
          have : (j != i) = true := by simpa using Ne.symm e
          rw [this]; simp
      rw [e1, hAB, List.filter_append, List.filter_cons]
      simp only [bne_self_eq_false, Bool.false_eq_true, if_false]
      rw [List.filter_eq_self.2 fun x hx => by have := hA x hx; simp; omega, List.filter_eq_self.2 fun x hx => by have := hB x hx; simp; omega]
    have hfm : (A ++ i :: B).filterMap (ops[·]?) = A.filterMap (ops[·]?) ++ o :: B.filterMap (ops[·]?) := by
      rw [List.filterMap_append, List.filterMap_cons, ho]
    have hin : ∀ x ∈ A.filterMap (ops[·]?), x ∈ ops := fun x hx => by
      obtain ⟨j, _, hjo⟩ := List.mem_filterMap.1 hx
      exact Array.mem_of_getElem? hjo
    unfold evIx at h
    rw [hfm] at h
    have h2 := evOps_frontJ (J := J) (P := P) (cfg := cfg) (ce := ce) (m := m) (n := n) (ops := ops) (o := o) _ _ fr H hj (fun x hx => hk x (hin x hx)) (fun x hx => by
      obtain ⟨j, hj, hjo⟩ := List.mem_filterMap.1 hx
      have hji := hA j hj
      have hjun : j ∈ un ops listed := by rw [hAB]; simp [hj]
      have hjun2 : listed.getD j true = false := by have := (List.mem_filter.1 hjun).2; simpa using this
      rcases (okE_at hok ho).2.2 j x hji hjo with hbit | hcm | hin
      · have := ancE_listed hok hd i o ho hedge j hbit
        rw [getD_both (by omega) false true, hjun2] at this
        cases this
      · unfold cmB at hcm
        simp only [Bool.and_eq_true, Bool.or_eq_true] at hcm
        obtain ⟨c1, c2⟩ := hcm
        refine (cmt_of c1 ?_).j
        rcases c2 with (c2 | c2) | c2
        · exact .inl (pur_of c2)
        · exact .inr (.inl (pur_of c2))
        · exact .inr (.inr ⟨rd_of c2.1, rd_of c2.2⟩)
      · exact hE j i x o hin hjo ho) h
    rw [evOps_step] at h2
    obtain ⟨s, h3, h4⟩ := Option.bind_eq_some_iff.1 h2
    rw [← List.filterMap_append, ← hset] at h4
    have ih := draw_ixJ hok hk hE (r := r) l (listed.setIfInBounds i true) (by simp [hsz]) (fun i' o' hi' ho' e he => by
      by_cases e1 : i = i'
      · subst e1
        rw [ho] at ho'; cases ho'
        exact getD_set_true (hedge e he)
      · rw [getD_set_ne false e1] at hi'
        exact getD_set_true (hd i' o' hi' ho' e he)) hl s.1 s.2 (hk o (Array.mem_of_getElem? ho) fr H s hj h3) h4
    unfold evIx
    rw [List.filterMap_cons, ho]
    simp only []
    rw [evOps_step, h3]
    exact ih

theorem W_drawJ (J : JT) (E : List (Nat × Nat)) (x : Cx) (i : Nat) (ops : Array Oper) (fr : Fr) (H : Hp) (Q : Ex → Fr → Hp → Prop) (hm : x.P.follows .mixedOrders = true) (hj : J fr H) (hok : okE E x.cfg.mu ops = true)
    (hk : ∀ k, ∀ o ∈ ops, KeepJ J x.P x.cfg (evCall x.P x.cs k) x.m x.n ops o) (hE : ∀ k, ∀ j i oj oi, (j, i) ∈ E → ops[j]? = some oj → ops[i]? = some oi → CmtJ J x.P x.cfg (evCall x.P x.cs k) x.m x.n ops oj oi) :
    W x (.region i ops true) fr H Q ↔ WO x ops ops.toList fr H (Q .norm) := by
  have key : ∀ k, evDraw x.P x.cfg (evCall x.P x.cs k) x.m x.n ops fr H = evOps x.P x.cfg (evCall x.P x.cs k) x.m x.n ops ops.toList fr H := by
    intro k
    unfold evDraw
    rw [if_pos hm]
    cases he : evOps x.P x.cfg (evCall x.P x.cs k) x.m x.n ops ops.toList fr H with
    | none => rfl
    | some r =>
      have : ∀ l, LinX ops l (Array.replicate ops.size false) → evIx x.P x.cfg (evCall x.P x.cs k) x.m x.n ops l fr H = some r := fun l hl =>
        draw_ixJ hok (hk k) (hE k) l _ (by simp) (fun i o hi => by
          rw [Array.getD_eq_getD_getElem?] at hi
          by_cases hlt : i < ops.size
          · simp [hlt] at hi
          · simp [hlt] at hi) hl fr H hj (by unfold evIx; rw [un_all, he])
      simp only [Option.bind_some]
      rw [if_pos this]
  constructor
  · rintro ⟨k, r, h, hq⟩
    cases k with
    | zero => cases h
    | succ k =>
      obtain ⟨r1, h1, h2⟩ := Option.map_eq_some_iff.1 h
      cases h2
      rw [key] at h1
      exact ⟨k + 1, r1, h1, hq⟩
  · rintro ⟨k, r, h, hq⟩
    refine ⟨k + 1, _, Option.map_eq_some_iff.2 ⟨r, ?_, rfl⟩, hq⟩
    rw [key]
    exact evOps_mono (evCall_mono (Nat.le_succ k)) x.m x.n ops _ fr H _ h

/-- A call of a function that is known, and leaves the objects. -/
theorem rd_call {P : Program} {cs : Cfgs} {cfg : Cfg} {k m : Nat} {ops : Array Oper} {o : Oper} {f : FuncId} {args : Array Operand} {ts : Array TypeId} {p : List CV → Hp → Option (CV × Hp)} (ho : o.op = .call ⟨.value (.func f), args, ts⟩) (hp : cs.prim f = some p)
    (hq : ∀ xs H r, p xs H = some r → r.2 = H) : Rd P cfg (evCall P cs k) m ops o := by
  intro fr H y hy
  unfold actX at hy
  obtain ⟨b, _, hy⟩ := Option.bind_eq_some_iff.1 hy
  cases b with
  | true =>
    simp only [if_true, ho, opX, evO, Option.bind_some] at hy
    obtain ⟨xs, _, hy⟩ := Option.bind_eq_some_iff.1 hy
    cases k with
    | zero => cases hy
    | succ k =>
      simp only [evCall, hp] at hy
      exact hq _ _ _ hy
  | false => simp only [Bool.false_eq_true, if_false, Option.some.injEq] at hy; rw [← hy]
theorem cmt_rd {P : Program} {cfg : Cfg} {ce : CallE} {m n : Nat} {ops : Array Oper} {o1 o2 : Oper} (hap : o1.apart ops o2 = true) (h1 : Rd P cfg ce m ops o1) (h2 : Rd P cfg ce m ops o2) (J : JT) : CmtJ J P cfg ce m n ops o1 o2 := (cmt_of hap (.inr (.inr ⟨h1, h2⟩))).j
def TJ : JT := fun _ _ => True
theorem keep_T {P : Program} {cfg : Cfg} {ce : CallE} {m n : Nat} {ops : Array Oper} {o : Oper} : KeepJ TJ P cfg ce m n ops o := fun _ _ _ _ _ => trivial

/-- The one writes, what the other reads is not changed by it. -/
theorem cmt_rw {J : JT} {P : Program} {cfg : Cfg} {ce : CallE} {m n : Nat} {ops : Array Oper} {o1 o2 : Oper} (hap : o1.apart ops o2 = true) (hr : Rd P cfg ce m ops o1)
    (hst : ∀ fr H y, J fr H → actX P cfg ce m ops o2 fr H = some y → actX P cfg ce m ops o1 fr y.2 = (actX P cfg ce m ops o1 fr H).map fun z => (z.1, y.2)) : CmtJ J P cfg ce m n ops o1 o2 := by
  obtain ⟨a1, a2, a3⟩ := Oper.apart_spec hap
  intro fr H s1 s2 hJ h1 h2
  obtain ⟨⟨y1, H1⟩, b1, h1⟩ := Option.bind_eq_some_iff.1 h1
  obtain ⟨fr1, b2, h1⟩ := Option.map_eq_some_iff.1 h1
  cases h1
  obtain ⟨⟨y2, H2⟩, c1, h2⟩ := Option.bind_eq_some_iff.1 h2
  obtain ⟨fr2, c2, h2⟩ := Option.map_eq_some_iff.1 h2
  cases h2
  simp only at b2 c1 c2 ⊢
  rw [actX_put b2 a1 a2] at c1
  obtain ⟨fr', d1, d2⟩ := putC_comm a2 b2 c2
  have back : ∀ K, actX P cfg ce m ops o1 fr' K = actX P cfg ce m ops o1 fr K := fun K => actX_put d1 a3 (fun d hd e => a2 d e hd)
  have e : H1 = H := hr _ _ _ b1
  subst e
  have k2 := hst fr H1 _ hJ c1
  rw [b1] at k2
  refine ⟨(fr', H2), ?_, ?_⟩
  · unfold stepX; rw [c1]; simp only [Option.bind_some, d1, Option.map_some]
  · unfold stepX; simp only [back, k2, Option.map_some, Option.bind_some, d2]
theorem cmt_wr {J : JT} {P : Program} {cfg : Cfg} {ce : CallE} {m n : Nat} {ops : Array Oper} {o1 o2 : Oper} (hap : o1.apart ops o2 = true) (hr : Rd P cfg ce m ops o2)
    (hst : ∀ fr H y, J fr H → actX P cfg ce m ops o1 fr H = some y → actX P cfg ce m ops o2 fr y.2 = (actX P cfg ce m ops o2 fr H).map fun z => (z.1, y.2)) : CmtJ J P cfg ce m n ops o1 o2 := by
  obtain ⟨a1, a2, a3⟩ := Oper.apart_spec hap
  intro fr H s1 s2 hJ h1 h2
  obtain ⟨⟨y1, H1⟩, b1, h1⟩ := Option.bind_eq_some_iff.1 h1
  obtain ⟨fr1, b2, h1⟩ := Option.map_eq_some_iff.1 h1
  cases h1
  obtain ⟨⟨y2, H2⟩, c1, h2⟩ := Option.bind_eq_some_iff.1 h2
  obtain ⟨fr2, c2, h2⟩ := Option.map_eq_some_iff.1 h2
  cases h2
  simp only at b2 c1 c2 ⊢
  rw [actX_put b2 a1 a2] at c1
  obtain ⟨fr', d1, d2⟩ := putC_comm a2 b2 c2
  have back : ∀ K, actX P cfg ce m ops o1 fr' K = actX P cfg ce m ops o1 fr K := fun K => actX_put d1 a3 (fun d hd e => a2 d e hd)
  have k2 := hst fr H _ hJ b1
  rw [c1] at k2
  obtain ⟨⟨y3, H3⟩, k3, k4⟩ := Option.map_eq_some_iff.1 k2.symm
  simp only [Prod.mk.injEq] at k4
  obtain ⟨rfl, rfl⟩ := k4
  have e : H3 = H := hr _ _ _ k3
  subst e
  refine ⟨(fr', H3), ?_, ?_⟩
  · unfold stepX; rw [k3]; simp only [Option.bind_some, d1, Option.map_some]
  · unfold stepX; simp only [back, b1, Option.bind_some, d2, Option.map_some]
end Go.SL

/- Texts that are read from their front. -/
namespace Go.SL
set_option linter.unusedVariables false

def tokB (c : UInt8) : Bool := decide (tokC c)
/-- The signs at the front, and what is behind them. -/
def tokF (s : Bs) : Bs := s.takeWhile tokB
def tokR (s : Bs) : Bs := s.dropWhile tokB
theorem tw_step {p : UInt8 → Bool} {s : Bs} {i : Nat} (h : ∀ c ∈ s.take i, p c = true) (hi : i < s.length) (hp : p s[i] = false) : s.takeWhile p = s.take i ∧ s.dropWhile p = s.drop i := by
  have e : s = s.take i ++ s[i] :: s.drop (i + 1) := by rw [← List.drop_eq_getElem_cons hi, List.take_append_drop]
  have h1 : (s.take i ++ s[i] :: s.drop (i + 1)).takeWhile p = s.take i := by
    rw [List.takeWhile_append_of_pos h, List.takeWhile_cons, hp]; simp
  have h2 : (s.take i ++ s[i] :: s.drop (i + 1)).dropWhile p = s[i] :: s.drop (i + 1) := by
    rw [List.dropWhile_append_of_pos h, List.dropWhile_cons, hp]; simp
  rw [← e] at h1 h2
  exact ⟨h1, by rw [h2, ← List.drop_eq_getElem_cons hi]⟩
theorem tw_end {p : UInt8 → Bool} {s : Bs} (h : ∀ c ∈ s, p c = true) : s.takeWhile p = s ∧ s.dropWhile p = [] := by
  have h1 := List.takeWhile_append_of_pos (l₂ := []) h
  have h2 := List.dropWhile_append_of_pos (l₂ := []) h
  simp only [List.append_nil, List.takeWhile_nil, List.dropWhile_nil] at h1 h2
  exact ⟨h1, h2⟩

theorem sfx_cons {c : UInt8} {r s : Bs} (h : c :: r <:+ s) : r <:+ s := (List.suffix_cons c r).trans h
theorem sfx_get {c : UInt8} {r s : Bs} (h : c :: r <:+ s) : s[s.length - (c :: r).length]? = some c := by
  obtain ⟨a, rfl⟩ := h
  simp
theorem sfx_drop {r s : Bs} (h : r <:+ s) : s.drop (s.length - r.length) = r := by
  obtain ⟨a, rfl⟩ := h
  simp
theorem trimL_sfx (r : Bs) : trimL r <:+ r := List.dropWhile_suffix _
theorem tokR_sfx (r : Bs) : tokR r <:+ r := List.dropWhile_suffix _
theorem tok_split (r : Bs) : tokF r ++ tokR r = r := List.takeWhile_append_dropWhile
theorem tokF_cons {c : UInt8} (r : Bs) (h : tokC c) : tokF (c :: r) = c :: tokF r ∧ tokR (c :: r) = tokR r := by
  have : tokB c = true := by simp [tokB, h]
  simp [tokF, tokR, this]
theorem tokF_stop {c : UInt8} (r : Bs) (h : ¬ tokC c) : tokF (c :: r) = [] ∧ tokR (c :: r) = c :: r := by
  have : tokB c = false := by simp [tokB, h]
  simp [tokF, tokR, this]

/-- What stands between ", and what is behind it. -/
def qS : Bs → Option (Bs × Bs)
  | [] => none
  | c :: r => if c = 34 then some ([], r) else if c = 92 then (match r with
      | [] => none
      | d :: r => (qS r).map fun q => (d :: q.1, q.2)) else (qS r).map fun q => (c :: q.1, q.2)
theorem qS_nil : qS [] = none := (rfl)
theorem qS_q (r : Bs) : qS (34 :: r) = some ([], r) := by rw [qS.eq_def]; simp
theorem qS_b (d : UInt8) (r : Bs) : qS (92 :: d :: r) = (qS r).map fun q => (d :: q.1, q.2) := by rw [qS.eq_def]; simp
theorem qS_b0 : qS [92] = none := by rw [qS.eq_def]; simp
theorem qS_c {c : UInt8} (r : Bs) (h1 : c ≠ 34) (h2 : c ≠ 92) : qS (c :: r) = (qS r).map fun q => (c :: q.1, q.2) := by rw [qS.eq_def]; simp [h1, h2]
end Go.SL

/- More on slices that grow. -/
namespace Go.SL
set_option linter.unusedVariables false
variable {P : Program} {t tx e : TypeId} {H H' : Hp} {x y : CV} {cs cs' : List CV} {n n' sz m : Nat}

theorem Grow.pre {A A' L : Hp} (h : Grow m (A ++ L) x cs n sz e) (hA : A.length = m) (hA' : A'.length = m) : Grow m (A' ++ L) x cs n sz e := by
  rcases h with h | ⟨hl, id, ver, hm, rfl, hc⟩
  · exact .inl h
  · refine .inr ⟨hl, id, ver, hm, rfl, ?_⟩
    rw [List.getElem?_append_right (by omega), hA] at hc
    rw [List.getElem?_append_right (by omega), hA']; exact hc
theorem Grow.more {L : Hp} (h : Grow m H x cs n sz e) (L : Hp) : Grow m (H ++ L) x cs n sz e := h.app L
theorem split_at {A : Hp} {H2 : Hp} (h : H2.take m = A) : H2 = A ++ H2.drop m := by rw [← h, List.take_append_drop]
theorem mkA1 {zs : List CV} {i : TypeInfo} (ht : P.underlying t = some (.slice e)) (he : isU8 (P.underlying e) = false) (hi : P.info? e = some i) (hz : zeroL P e = some zs) (hzl : zs.length = i.size) (hs : i.size = sz) (h0 : 0 < sz) (hb : sz ≤ 16777216) (hl : cs.length = sz) (ho : cs.all oneB = true) (hc : cs.all clB = true) (H : Hp) :
    dBuildSlice P t 1 [(0, .agg cs)] H false = some (.im cs 1 sz, H) := by
  subst hs
  have h1 : (zerosC zs (1 * i.size)).length = i.size := by simp [zerosC]
  have h2 : (zerosC zs (1 * i.size)).drop cs.length = [] := List.drop_eq_nil_of_le (by omega)
  simp only [dBuildSlice, ht, hi, hz, Option.bind_some, Nat.one_mul, hb, hzl, and_self, if_true, fillC, Nat.zero_mul, cells_agg ho, hl, Nat.zero_add]
  rw [Nat.one_mul] at h1 h2
  rw [hl] at h2
  simp [h1, h2, he]
  exact fun x hx => List.all_eq_true.1 hc x hx
theorem Acc.grow (h : Acc H H' x cs n sz e) : Grow H.length H' x cs n sz e := by
  rcases h with ⟨h1, h2, h3, rfl⟩ | ⟨hl, ver, rfl, rfl⟩
  · exact .inl ⟨h1, h2, h3⟩
  · exact .inr ⟨hl, _, ver, Nat.le_refl _, rfl, by simp⟩
/-- A list of texts. -/
def strS (l : List Bs) : List CV := l.map str
theorem strS_flat (l : List Bs) : (l.map fun s => [str s]).flatten = strS l := by
  induction l with
  | nil => rfl
  | cons a l ih => rw [List.map_cons, List.flatten_cons, ih]; rfl
theorem strCh (l : List Bs) : Chunks (l.map fun s => [str s]) 1 := by
  intro c hc; obtain ⟨p, _, rfl⟩ := List.mem_map.1 hc; rfl
theorem Grow.strs {l : List Bs} (h : Grow m H x (strS l) l.length 1 e) : RS H x (l.map fun s => [str s]) 1 := by
  refine Grow.rs (m := m) (e := e) ?_ (strCh l)
  rw [strS_flat, List.length_map]; exact h
theorem Cls.strs {l : List Bs} (h : Cls x (strS l) l.length 1) (H : Hp) : RS H x (l.map fun s => [str s]) 1 := by
  refine Cls.rs ?_ (strCh l) H
  rw [strS_flat, List.length_map]; exact h
theorem strS_clB (l : List Bs) : (strS l).all clB = true := by
  induction l with
  | nil => rfl
  | cons a l ih => simp only [strS, List.map_cons, List.all_cons] at ih ⊢; rw [ih]; rfl
@[simp] theorem strS_len (l : List Bs) : (strS l).length = l.length := by simp [strS]
theorem strS_snoc (l : List Bs) (a : Bs) : strS (l ++ [a]) = strS l ++ [str a] := by simp [strS]
end Go.SL

/- More pairs of operations that have no bearing on each other. -/
namespace Go.SL
set_option linter.unusedVariables false
variable {P : Program} {cfg : Cfg} {ce : CallE} {m n : Nat} {ops : Array Oper} {o1 o2 : Oper}

/-- What is read is read with more objects, too. -/
def Mon (P : Program) (cfg : Cfg) (ce : CallE) (m : Nat) (ops : Array Oper) (o : Oper) : Prop := ∀ fr H z, actX P cfg ce m ops o fr H = some z → ∀ L, actX P cfg ce m ops o fr (H ++ L) = some (z.1, H ++ L)
/-- Objects are added, none is changed. -/
def Gro (P : Program) (cfg : Cfg) (ce : CallE) (m : Nat) (ops : Array Oper) (o : Oper) : Prop := ∀ fr H z, actX P cfg ce m ops o fr H = some z → ∃ L, z.2 = H ++ L

theorem cmt_grow (hap : o1.apart ops o2 = true) (h1 : Mon P cfg ce m ops o1) (h2 : Gro P cfg ce m ops o2) (J : JT) : CmtJ J P cfg ce m n ops o1 o2 := by
  obtain ⟨a1, a2, a3⟩ := Oper.apart_spec hap
  intro fr H s1 s2 hJ k1 k2
  obtain ⟨⟨y1, H1⟩, b1, k1⟩ := Option.bind_eq_some_iff.1 k1
  obtain ⟨fr1, b2, k1⟩ := Option.map_eq_some_iff.1 k1
  cases k1
  obtain ⟨⟨y2, H2⟩, c1, k2⟩ := Option.bind_eq_some_iff.1 k2
  obtain ⟨fr2, c2, k2⟩ := Option.map_eq_some_iff.1 k2
  cases k2
  simp only at b2 c1 c2 ⊢
  rw [actX_put b2 a1 a2] at c1
  obtain ⟨fr', d1, d2⟩ := putC_comm a2 b2 c2
  have back : ∀ K, actX P cfg ce m ops o1 fr' K = actX P cfg ce m ops o1 fr K := fun K => actX_put d1 a3 (fun d hd e => a2 d e hd)
  have e0 := h1 _ _ _ b1 []
  rw [List.append_nil] at e0
  rw [b1] at e0
  have e : H1 = H := by cases e0; rfl
  subst e
  obtain ⟨L, hL⟩ := h2 _ _ _ c1
  simp only at hL
  subst hL
  have k2 := h1 _ _ _ b1 L
  refine ⟨(fr', H1 ++ L), ?_, ?_⟩
  · unfold stepX; rw [c1]; simp only [Option.bind_some, d1, Option.map_some]
  · unfold stepX; simp only [back, k2, Option.bind_some, d2, Option.map_some]

theorem act_mon {o : Oper} (h : ∀ fr old H z, opX P cfg ce m fr old H o.op = some z → ∀ L, opX P cfg ce m fr old (H ++ L) o.op = some (z.1, H ++ L)) : Mon P cfg ce m ops o := by
  intro fr H z hz L
  unfold actX at hz ⊢
  obtain ⟨b, hb, hz⟩ := Option.bind_eq_some_iff.1 hz
  rw [hb]
  cases b with
  | true => exact h _ _ _ _ hz L
  | false => cases hz; rfl
theorem atP_app {H L : Hp} {x : CV} {cs : List CV} (h : atP H x = some cs) : atP (H ++ L) x = some cs := by
  cases x with
  | ptr id ver off =>
    obtain ⟨c, h1, h2⟩ := Option.bind_eq_some_iff.1 h
    simp only [atP, cellsAt_app L h1, Option.bind_some]; exact h2
  | _ => exact h
theorem mon_load {o : Oper} {t : TypeId} {a : Operand} (ho : o.op = .load t a) : Mon P cfg ce m ops o := by
  refine act_mon fun fr old H z hz L => ?_
  rw [ho] at hz ⊢
  simp only [opX, opE] at hz ⊢
  obtain ⟨x, h1, hz⟩ := Option.bind_eq_some_iff.1 hz
  obtain ⟨y, h2, rfl⟩ := Option.map_eq_some_iff.1 hz
  rw [h1]
  simp only [Option.bind_some]
  unfold dLoad at h2 ⊢
  obtain ⟨d, h3, h2⟩ := Option.bind_eq_some_iff.1 h2
  obtain ⟨i, h4, h2⟩ := Option.bind_eq_some_iff.1 h2
  obtain ⟨r, h5, h2⟩ := Option.bind_eq_some_iff.1 h2
  rw [h3, h4]
  simp [Option.bind_some, atP_app h5, h2, stOK]
theorem mon_nilCheck {o : Oper} {a : Operand} (ho : o.op = .nilCheck a) : Mon P cfg ce m ops o := by
  refine act_mon fun fr old H z hz L => ?_
  rw [ho] at hz ⊢
  simp only [opX, opE] at hz ⊢
  obtain ⟨x, h1, hz⟩ := Option.bind_eq_some_iff.1 hz
  rw [h1]
  simp only [Option.bind_some]
  split at hz
  · rename_i h
    cases hz
    obtain ⟨r, hr⟩ := Option.isSome_iff_exists.1 h
    simp [atP_app hr, stOK]
  · cases hz
theorem mon_faddr {o : Oper} {t : TypeId} {a : Operand} {f : Nat} (ho : o.op = .fieldAddr t a f) : Mon P cfg ce m ops o := by
  refine act_mon fun fr old H z hz L => ?_
  rw [ho] at hz ⊢
  simp only [opX, opE] at hz ⊢
  obtain ⟨x, h1, hz⟩ := Option.bind_eq_some_iff.1 hz
  obtain ⟨y, h2, rfl⟩ := Option.map_eq_some_iff.1 hz
  rw [h1]
  simp only [Option.bind_some]
  have : dFieldAddr P t x f (H ++ L) = some y := by
    unfold dFieldAddr at h2 ⊢
    split at h2
    · rename_i fs hu
      obtain ⟨fd, h3, h2⟩ := Option.bind_eq_some_iff.1 h2
      obtain ⟨i, h4, h2⟩ := Option.bind_eq_some_iff.1 h2
      obtain ⟨r, h5, h2⟩ := Option.bind_eq_some_iff.1 h2
      simp only [hu, h3, h4, Option.bind_some, atP_app h5]
      exact h2
    · cases h2
  rw [this]; rfl
theorem gro_buildSlice {o : Oper} {t : TypeId} {k : Nat} {ps : Array (Nat × Operand)} (ho : o.op = .buildSlice t k ps) : Gro P cfg ce m ops o := by
  intro fr H z hz
  unfold actX at hz
  obtain ⟨b, hb, hz⟩ := Option.bind_eq_some_iff.1 hz
  cases b with
  | false => cases hz; exact ⟨[], by simp⟩
  | true =>
    simp only [if_true, ho, opX, opE] at hz
    obtain ⟨x, h1, hz⟩ := Option.bind_eq_some_iff.1 hz
    unfold dBuildSlice at hz
    split at hz
    · obtain ⟨i, h2, hz⟩ := Option.bind_eq_some_iff.1 hz
      obtain ⟨zs, h3, hz⟩ := Option.bind_eq_some_iff.1 hz
      split at hz
      · obtain ⟨out, h4, rfl⟩ := Option.map_eq_some_iff.1 hz
        split
        · exact ⟨[], by simp⟩
        · exact ⟨_, rfl⟩
      · cases hz
    · cases hz
theorem pur_max {o : Oper} {args : Array Operand} {ts : Array TypeId} (ho : o.op = .call ⟨.builtin .max, args, ts⟩) : Pur P cfg ce m ops o := by
  intro fr H H'
  unfold actX
  cases wantC fr ops o with
  | none => rfl
  | some b =>
    cases b with
    | false => rfl
    | true =>
      simp only [Option.bind_some, if_true, ho, opX, opE]
      cases evL fr args.toList with
      | none => rfl
      | some xs =>
        simp only [Option.bind_some]
        simp only [stOK, if_true, dBuiltin, Option.map_map]
        rfl
end Go.SL

/- Operations of a region that have no bearing on each other, where the places that they go to are known. -/
namespace Go.SL
set_option linter.unusedVariables false
variable {P : Program} {cfg : Cfg} {ce : CallE} {m n : Nat} {ops : Array Oper} {o1 o2 o : Oper}

theorem cells_put_ne {H : Hp} {id id' ver off : Nat} {ys : List CV} (h : id' ≠ id) : cellsAt (putH H id' off ys) id ver = cellsAt H id ver := by
  unfold cellsAt putH
  rw [List.getElem?_modify_ne _ _ h]
theorem cells_put_is {H : Hp} {id id' ver off : Nat} {ys : List CV} : (cellsAt (putH H id' off ys) id ver).isSome = (cellsAt H id ver).isSome := by
  by_cases h : id' = id
  · subst h
    unfold cellsAt putH
    rw [List.getElem?_modify]
    simp only [if_true]
    cases H[id']? with
    | none => rfl
    | some o =>
      cases o with
      | cells v cs e => simp only [Option.map_eq_map, Option.map_some]; by_cases hv : v = ver <;> simp [hv]
      | _ => rfl
  · rw [cells_put_ne h]

/-- What some slots hold. -/
def SlotJ (V : List (Nat × CV)) : JT := fun fr _ => ∀ p ∈ V, fr p.1 = p.2
theorem keep_slot {V : List (Nat × CV)} (h : (V.all fun p => o.dst != some p.1) = true) : KeepJ (SlotJ V) P cfg ce m n ops o := by
  intro fr H s hj hs p hp
  obtain ⟨y, _, h2⟩ := Option.bind_eq_some_iff.1 hs
  obtain ⟨fr', h3, rfl⟩ := Option.map_eq_some_iff.1 h2
  have hne : o.dst ≠ some p.1 := by have := List.all_eq_true.1 h p hp; simpa using this
  show fr' p.1 = p.2
  unfold putC at h3
  split at h3
  · cases h3; exact hj p hp
  · rename_i d hd
    split at h3
    · cases h3
      have : p.1 ≠ d := fun e => hne (by rw [hd, e])
      simp only [this, if_false]; exact hj p hp
    · cases h3
theorem keep_slots {V : List (Nat × CV)} (h : (ops.toList.all fun o => (V.map Prod.fst).all fun k => o.dst != some k) = true) : ∀ o ∈ ops, KeepJ (SlotJ V) P cfg ce m n ops o := by
  intro o ho
  refine keep_slot ?_
  have := List.all_eq_true.1 h o (Array.mem_toList_iff.2 ho)
  rw [List.all_eq_true] at this ⊢
  exact fun p hp => this p.1 (List.mem_map.2 ⟨p, hp, rfl⟩)
theorem want_none {fr : Fr} {o : Oper} (h : o.guard = none) : wantC fr ops o = some true := by unfold wantC; rw [h]
theorem actX_plain {fr : Fr} {H : Hp} (h : o.guard = none) : actX P cfg ce m ops o fr H = opX P cfg ce m fr (oldC fr o.dst) H o.op := by unfold actX; rw [want_none h]; rfl
theorem act_store {fr : Fr} {H : Hp} {y : CV × Hp} {t : TypeId} {a b : Operand} (h : o.guard = none) (ho : o.op = .store t a b) (hy : actX P cfg ce m ops o fr H = some y) : ∃ x z, evO fr a = some x ∧ evO fr b = some z ∧ dStore P t x z H = some y.2 := by
  rw [actX_plain h, ho] at hy
  simp only [opX] at hy
  split at hy
  · simp only [opE] at hy
    obtain ⟨x, h1, hy⟩ := Option.bind_eq_some_iff.1 hy
    obtain ⟨z, h2, hy⟩ := Option.bind_eq_some_iff.1 hy
    obtain ⟨H2, h3, rfl⟩ := Option.map_eq_some_iff.1 hy
    exact ⟨x, z, h1, h2, h3⟩
  · cases hy
theorem store_put {t : TypeId} {id ver off : Nat} {z : CV} {H H2 : Hp} (h : dStore P t (.ptr id ver off) z H = some H2) : ∃ ys, H2 = putH H id off ys := by
  unfold dStore at h
  simp only [] at h
  obtain ⟨i, h1, h⟩ := Option.bind_eq_some_iff.1 h
  obtain ⟨ys, h2, h⟩ := Option.bind_eq_some_iff.1 h
  obtain ⟨cs, h3, h⟩ := Option.bind_eq_some_iff.1 h
  split at h
  · cases h; exact ⟨ys, rfl⟩
  · cases h
theorem load_put {t : TypeId} {id ver off id' off' : Nat} {ys : List CV} {H : Hp} (h : id' ≠ id) : dLoad P t (.ptr id ver off) (putH H id' off' ys) = dLoad P t (.ptr id ver off) H := by
  unfold dLoad
  simp only [atP, cells_put_ne h]
theorem len_put {t : TypeId} {x : CV} {id' off' : Nat} {ys : List CV} {H : Hp} : dLenS P t x (putH H id' off' ys) = dLenS P t x H := by
  unfold dLenS
  split
  · rw [cells_put_is]
  · rfl
/-- The one reads, the other writes somewhere else. -/
theorem cmt_ls {V : List (Nat × CV)} {t1 t2 : TypeId} {s1 s2 : Nat} {b : Operand} {i1 v1 f1 i2 v2 f2 : Nat} (hap : o1.apart ops o2 = true) (g1 : o1.guard = none) (g2 : o2.guard = none) (h1 : o1.op = .load t1 (.tmp s1)) (h2 : o2.op = .store t2 (.tmp s2) b) (hr : rdB cfg.mu o1.op = true)
    (m1 : (s1, CV.ptr i1 v1 f1) ∈ V) (m2 : (s2, CV.ptr i2 v2 f2) ∈ V) (hne : i2 ≠ i1) : CmtJ (SlotJ V) P cfg ce m n ops o1 o2 := by
  refine cmt_rw hap (rd_of hr) fun fr H y hj hy => ?_
  obtain ⟨x, z, e1, e2, e3⟩ := act_store g2 h2 hy
  have a1 : fr s1 = .ptr i1 v1 f1 := hj _ m1
  have a2 : fr s2 = .ptr i2 v2 f2 := hj _ m2
  have : x = .ptr i2 v2 f2 := by have : evO fr (.tmp s2) = some (fr s2) := rfl; rw [this, a2] at e1; cases e1; rfl
  subst this
  obtain ⟨ys, e4⟩ := store_put e3
  rw [e4, actX_plain g1, actX_plain g1, h1]
  simp only [opX, opE, stOK, if_true, show evO fr (.tmp s1) = some (fr s1) from rfl, a1, Option.bind_some, load_put hne, Option.map_map]
  rfl
theorem cmt_lens {V : List (Nat × CV)} {t2 : TypeId} {t1 : TypeId} {s1 s2 : Nat} {b : Operand} {i2 v2 f2 : Nat} (hap : o1.apart ops o2 = true) (g1 : o1.guard = none) (g2 : o2.guard = none) (h1 : o1.op = .call ⟨.builtin .len, #[.tmp s1], #[t1]⟩) (h2 : o2.op = .store t2 (.tmp s2) b) (hr : rdB cfg.mu o1.op = true)
    (m2 : (s2, CV.ptr i2 v2 f2) ∈ V) : CmtJ (SlotJ V) P cfg ce m n ops o1 o2 := by
  refine cmt_rw hap (rd_of hr) fun fr H y hj hy => ?_
  obtain ⟨x, z, e1, e2, e3⟩ := act_store g2 h2 hy
  have a2 : fr s2 = .ptr i2 v2 f2 := hj _ m2
  have : x = .ptr i2 v2 f2 := by have : evO fr (.tmp s2) = some (fr s2) := rfl; rw [this, a2] at e1; cases e1; rfl
  subst this
  obtain ⟨ys, e4⟩ := store_put e3
  rw [e4, actX_plain g1, actX_plain g1, h1]
  simp only [opX, opE, stOK, if_true, dBuiltin, evL, show evO fr (.tmp s1) = some (fr s1) from rfl, Option.bind_some, Option.map_some, len_put, Option.map_map]
  rfl
/-- The length of a slice is read with more objects, too. -/
theorem mon_len {t1 : TypeId} {a : Operand} (ho : o.op = .call ⟨.builtin .len, #[a], #[t1]⟩) : Mon P cfg ce m ops o := by
  refine act_mon fun fr old H z hz L => ?_
  rw [ho] at hz ⊢
  simp only [opX, opE, stOK, if_true, dBuiltin, evL] at hz ⊢
  cases hx : evO fr a with
  | none => rw [hx] at hz; cases hz
  | some x =>
    rw [hx] at hz
    simp only [Option.bind_some, Option.map_some] at hz ⊢
    obtain ⟨y, h1, rfl⟩ := Option.map_eq_some_iff.1 hz
    have : dLenS P t1 x (H ++ L) = some y := by
      unfold dLenS at h1 ⊢
      split at h1
      · rename_i id ver off len sz e he
        split at h1
        · rename_i hc
          obtain ⟨cs, hcs⟩ := Option.isSome_iff_exists.1 hc
          simp only [cellsAt_app L hcs, Option.isSome_some, if_true]; exact h1
        · cases h1
      · exact h1
    simp only [this, Option.map_some]
end Go.SL

/- A region that puts a body behind a head, and tells whether there are parts, in any order. -/
namespace Go.SL
set_option linter.unusedVariables false
variable {P : Program} {cfg : Cfg} {ce : CallE} {m n : Nat} {ops : Array Oper} {o1 o2 o : Oper}

/-- An object from k on, if any. -/
def own (k : Nat) (v : CV) : Prop := ∀ id ver off len sz, v = .sl id ver off len sz → k ≤ id
def clS (v : CV) : Prop := ∀ id ver off len sz, v ≠ .sl id ver off len sz
theorem Grow.own {m : Nat} {H : Hp} {x : CV} {cs : List CV} {n sz : Nat} {e : TypeId} (h : Grow m H x cs n sz e) : SL.own m x := by
  rcases h with ⟨_, _, rfl⟩ | ⟨_, _, _, hm, rfl, _⟩
  · intro _ _ _ _ _ h; cases h
  · intro _ _ _ _ _ h; cases h; exact hm
theorem Cls.clS {y : CV} {cs : List CV} {n sz : Nat} (h : Cls y cs n sz) : SL.clS y := by
  rcases h with rfl | ⟨_, _, rfl⟩ <;> (intro _ _ _ _ _ h; cases h)
theorem app_below {t tx : TypeId} {s x y : CV} {H H2 : Hp} {k : Nat} (h : dAppend P t tx s x H = some (y, H2)) (ho : own k s) (hk : k ≤ H.length) : k ≤ H2.length ∧ ∀ i, i < k → H2[i]? = H[i]? := by
  unfold dAppend at h
  split at h
  · obtain ⟨i, _, h⟩ := Option.bind_eq_some_iff.1 h
    obtain ⟨zs, _, h⟩ := Option.bind_eq_some_iff.1 h
    obtain ⟨xn, _, h⟩ := Option.bind_eq_some_iff.1 h
    split at h
    · split at h
      · split at h
        · cases h; exact ⟨hk, fun _ _ => rfl⟩
        · split at h
          · cases h
            exact ⟨by simp; omega, fun i hi => by rw [List.getElem?_append_left (by omega)]⟩
          · cases h
      · rename_i id ver off len sz
        have hid := ho _ _ _ _ _ rfl
        split at h
        · split at h
          · split at h
            · cases h; exact ⟨hk, fun _ _ => rfl⟩
            · split at h
              · cases h
                exact ⟨by simpa using hk, fun i hi => by rw [List.getElem?_set_ne (by omega)]⟩
              · cases h
          · cases h
        · cases h
      · split at h
        · cases h; exact ⟨hk, fun _ _ => rfl⟩
        · cases h
      · cases h
    · cases h
  · cases h
theorem cells_below {H H2 : Hp} {k id ver : Nat} (h : ∀ i, i < k → H2[i]? = H[i]?) (hi : id < k) : cellsAt H2 id ver = cellsAt H id ver := by unfold cellsAt; rw [h id hi]

/-- What holds in such a region: p is the part's place, h the head, a its copy, e the parts' place, f the parts. -/
structure LJ (p h a e f hl k : Nat) (fv xv qv : CV) (fr : Fr) (H : Hp) : Prop where
  hp : fr p = .ptr hl 0 0
  hk : k ≤ H.length
  hh : own k (fr h)
  ha : own k (fr a)
  hc : cellsAt H hl 0 = some [fv, xv, qv]
  he : fr e = .ptr hl 0 2 ∨ fr e = .tup []
  hf : clS (fr f)
section
variable {p h a e f hl k : Nat} {fv xv qv : CV} (hlk : hl < k) (hcl : clS qv)

theorem step_inv {fr : Fr} {H : Hp} {s : Fr × Hp} (hs : stepX P cfg ce m n ops o fr H = some s) : ∃ y, actX P cfg ce m ops o fr H = some (y, s.2) ∧ ∀ t, s.1 t = if o.dst = some t then y else fr t := by
  obtain ⟨⟨y, H2⟩, h1, h2⟩ := Option.bind_eq_some_iff.1 hs
  obtain ⟨fr', h3, rfl⟩ := Option.map_eq_some_iff.1 h2
  refine ⟨y, h1, fun t => ?_⟩
  unfold putC at h3
  split at h3
  · rename_i hd; cases h3; rw [hd]; simp
  · rename_i d hd
    split at h3
    · cases h3; rw [hd]
      by_cases e : t = d
      · subst e; simp
      · have : ¬ some d = some t := fun h => e (by cases h; rfl)
        simp [e, this]
    · cases h3
theorem keep_rd (hr : Rd P cfg ce m ops o) (hd : o.dst ≠ some p ∧ o.dst ≠ some h ∧ o.dst ≠ some a ∧ o.dst ≠ some e ∧ o.dst ≠ some f) : KeepJ (LJ p h a e f hl k fv xv qv) P cfg ce m n ops o := by
  intro fr H s hj hs
  obtain ⟨y, h1, h2⟩ := step_inv hs
  have e0 : s.2 = H := hr _ _ _ h1
  obtain ⟨d1, d2, d3, d4, d5⟩ := hd
  rw [e0]
  exact ⟨by rw [h2, if_neg d1]; exact hj.hp, hj.hk, by rw [h2, if_neg d2]; exact hj.hh, by rw [h2, if_neg d3]; exact hj.ha, hj.hc, by rw [h2, if_neg d4]; exact hj.he, by rw [h2, if_neg d5]; exact hj.hf⟩
theorem own_unlit {k : Nat} {v : CV} (h : own k v) : own k (unlit v) := by
  intro id ver off len sz e
  cases v <;> simp [unlit] at e
  obtain ⟨rfl, rfl, rfl, rfl, rfl⟩ := e
  exact h _ _ _ _ _ rfl
theorem keep_mv (ho : o.op = .move (.tmp h)) (g : o.guard = none) (hd : o.dst = some a) (hne : a ≠ p ∧ a ≠ h ∧ a ≠ e ∧ a ≠ f) : KeepJ (LJ p h a e f hl k fv xv qv) P cfg ce m n ops o := by
  intro fr H s hj hs
  obtain ⟨y, h1, h2⟩ := step_inv hs
  rw [actX_plain g, ho] at h1
  simp only [opX, opE, stOK, if_true, show evO fr (.tmp h) = some (fr h) from rfl, Option.map_some, Option.some.injEq, Prod.mk.injEq] at h1
  obtain ⟨rfl, e0⟩ := h1
  rw [hd] at h2
  obtain ⟨d1, d2, d4, d5⟩ := hne
  have d1' : ¬ (some a = some p) := fun h => d1 (by cases h; rfl)
  have d2' : ¬ (some a = some h) := fun h => d2 (by cases h; rfl)
  have d4' : ¬ (some a = some e) := fun h => d4 (by cases h; rfl)
  have d5' : ¬ (some a = some f) := fun h => d5 (by cases h; rfl)
  rw [← e0]
  exact ⟨by rw [h2, if_neg d1']; exact hj.hp, hj.hk, by rw [h2, if_neg d2']; exact hj.hh, by rw [h2, if_pos rfl]; exact own_unlit hj.hh, hj.hc, by rw [h2, if_neg d4']; exact hj.he, by rw [h2, if_neg d5']; exact hj.hf⟩
theorem act_app {fr : Fr} {H : Hp} {y : CV × Hp} {t tx : TypeId} {b : Operand} (ho : o.op = .call ⟨.builtin .append, #[.tmp a, b], #[t, tx]⟩) (g : o.guard = none) (h1 : actX P cfg ce m ops o fr H = some y) : ∃ x, dAppend P t tx (fr a) x H = some y := by
  rw [actX_plain g, ho] at h1
  simp only [opX] at h1
  split at h1
  · simp only [opE, evL, show evO fr (.tmp a) = some (fr a) from rfl, Option.bind_some] at h1
    cases hb : evO fr b with
    | none => rw [hb] at h1; cases h1
    | some x => rw [hb] at h1; exact ⟨x, h1⟩
  · cases h1
include hlk in
theorem keep_app {t tx : TypeId} {b : Operand} (ho : o.op = .call ⟨.builtin .append, #[.tmp a, b], #[t, tx]⟩) (g : o.guard = none) (hd : o.dst ≠ some p ∧ o.dst ≠ some h ∧ o.dst ≠ some a ∧ o.dst ≠ some e ∧ o.dst ≠ some f) : KeepJ (LJ p h a e f hl k fv xv qv) P cfg ce m n ops o := by
  intro fr H s hj hs
  obtain ⟨y, h1, h2⟩ := step_inv hs
  obtain ⟨x, h3⟩ := act_app ho g h1
  obtain ⟨h4, h5⟩ := app_below h3 hj.ha hj.hk
  obtain ⟨d1, d2, d3, d4, d5⟩ := hd
  exact ⟨by rw [h2, if_neg d1]; exact hj.hp, h4, by rw [h2, if_neg d2]; exact hj.hh, by rw [h2, if_neg d3]; exact hj.ha, by rw [cells_below h5 hlk]; exact hj.hc, by rw [h2, if_neg d4]; exact hj.he, by rw [h2, if_neg d5]; exact hj.hf⟩
theorem keep_fa {t : TypeId} (hfa : ∀ H y, dFieldAddr P t (.ptr hl 0 0) 2 H = some y → y = .ptr hl 0 2) (ho : o.op = .fieldAddr t (.tmp p) 2) (g : o.guard = none) (hd : o.dst = some e) (hne : e ≠ p ∧ e ≠ h ∧ e ≠ a ∧ e ≠ f) : KeepJ (LJ p h a e f hl k fv xv qv) P cfg ce m n ops o := by
  intro fr H s hj hs
  obtain ⟨y, h1, h2⟩ := step_inv hs
  rw [actX_plain g, ho] at h1
  simp only [opX, opE, stOK, if_true, show evO fr (.tmp p) = some (fr p) from rfl, Option.bind_some, hj.hp] at h1
  obtain ⟨z, h3, h4⟩ := Option.map_eq_some_iff.1 h1
  simp only [Prod.mk.injEq] at h4
  obtain ⟨rfl, e0⟩ := h4
  rw [hd] at h2
  obtain ⟨d1, d2, d3, d5⟩ := hne
  have d1' : ¬ (some e = some p) := fun h => d1 (by cases h; rfl)
  have d2' : ¬ (some e = some h) := fun h => d2 (by cases h; rfl)
  have d3' : ¬ (some e = some a) := fun h => d3 (by cases h; rfl)
  have d5' : ¬ (some e = some f) := fun h => d5 (by cases h; rfl)
  rw [← e0]
  exact ⟨by rw [h2, if_neg d1']; exact hj.hp, hj.hk, by rw [h2, if_neg d2']; exact hj.hh, by rw [h2, if_neg d3']; exact hj.ha, hj.hc, by rw [h2, if_pos rfl]; exact .inl (hfa _ _ h3), by rw [h2, if_neg d5']; exact hj.hf⟩
include hcl in
theorem keep_ld {t : TypeId} (hld : ∀ H y, cellsAt H hl 0 = some [fv, xv, qv] → dLoad P t (.ptr hl 0 2) H = some y → y = qv) (ho : o.op = .load t (.tmp e)) (g : o.guard = none) (hd : o.dst = some f) (hne : f ≠ p ∧ f ≠ h ∧ f ≠ a ∧ f ≠ e) : KeepJ (LJ p h a e f hl k fv xv qv) P cfg ce m n ops o := by
  intro fr H s hj hs
  obtain ⟨y, h1, h2⟩ := step_inv hs
  rw [actX_plain g, ho] at h1
  simp only [opX, opE, stOK, if_true, show evO fr (.tmp e) = some (fr e) from rfl, Option.bind_some] at h1
  obtain ⟨z, h3, h4⟩ := Option.map_eq_some_iff.1 h1
  simp only [Prod.mk.injEq] at h4
  obtain ⟨rfl, e0⟩ := h4
  have hz : z = qv := by
    rcases hj.he with he | he
    · rw [he] at h3; exact hld _ _ hj.hc h3
    · rw [he] at h3
      unfold dLoad at h3
      obtain ⟨_, _, h3⟩ := Option.bind_eq_some_iff.1 h3
      obtain ⟨_, _, h3⟩ := Option.bind_eq_some_iff.1 h3
      cases h3
  rw [hd] at h2
  obtain ⟨d1, d2, d3, d4⟩ := hne
  have d1' : ¬ (some f = some p) := fun h => d1 (by cases h; rfl)
  have d2' : ¬ (some f = some h) := fun h => d2 (by cases h; rfl)
  have d3' : ¬ (some f = some a) := fun h => d3 (by cases h; rfl)
  have d4' : ¬ (some f = some e) := fun h => d4 (by cases h; rfl)
  rw [← e0]
  exact ⟨by rw [h2, if_neg d1']; exact hj.hp, hj.hk, by rw [h2, if_neg d2']; exact hj.hh, by rw [h2, if_neg d3']; exact hj.ha, hj.hc, by rw [h2, if_neg d4']; exact hj.he, by rw [h2, if_pos rfl, hz]; exact hcl⟩

include hlk in
theorem capp_fa {t tx t2 : TypeId} {b : Operand} {i : Nat} (hap : o1.apart ops o2 = true) (h1 : o1.op = .call ⟨.builtin .append, #[.tmp a, b], #[t, tx]⟩) (g1 : o1.guard = none) (h2 : o2.op = .fieldAddr t2 (.tmp p) i) (g2 : o2.guard = none) (hr : rdB cfg.mu o2.op = true) : CmtJ (LJ p h a e f hl k fv xv qv) P cfg ce m n ops o1 o2 := by
  refine cmt_wr hap (rd_of hr) fun fr H y hj hy => ?_
  obtain ⟨x, h3⟩ := act_app h1 g1 hy
  obtain ⟨h4, h5⟩ := app_below h3 hj.ha hj.hk
  rw [actX_plain g2, actX_plain g2, h2]
  have : dFieldAddr P t2 (.ptr hl 0 0) i y.2 = dFieldAddr P t2 (.ptr hl 0 0) i H := by unfold dFieldAddr; simp only [atP, cells_below h5 hlk]
  simp only [opX, opE, stOK, if_true, show evO fr (.tmp p) = some (fr p) from rfl, Option.bind_some, hj.hp, this, Option.map_map]
  rfl
include hlk in
theorem capp_ld {t tx t2 : TypeId} {b : Operand} (hap : o1.apart ops o2 = true) (h1 : o1.op = .call ⟨.builtin .append, #[.tmp a, b], #[t, tx]⟩) (g1 : o1.guard = none) (h2 : o2.op = .load t2 (.tmp e)) (g2 : o2.guard = none) (hr : rdB cfg.mu o2.op = true) : CmtJ (LJ p h a e f hl k fv xv qv) P cfg ce m n ops o1 o2 := by
  refine cmt_wr hap (rd_of hr) fun fr H y hj hy => ?_
  obtain ⟨x, h3⟩ := act_app h1 g1 hy
  obtain ⟨h4, h5⟩ := app_below h3 hj.ha hj.hk
  rw [actX_plain g2, actX_plain g2, h2]
  have : dLoad P t2 (fr e) y.2 = dLoad P t2 (fr e) H := by
    rcases hj.he with he | he <;> rw [he] <;> unfold dLoad <;> simp only [atP, cells_below h5 hlk]
  simp only [opX, opE, stOK, if_true, show evO fr (.tmp e) = some (fr e) from rfl, Option.bind_some, this, Option.map_map]
  rfl
theorem capp_len {t tx t2 : TypeId} {b : Operand} (hap : o1.apart ops o2 = true) (h1 : o1.op = .call ⟨.builtin .append, #[.tmp a, b], #[t, tx]⟩) (g1 : o1.guard = none) (h2 : o2.op = .call ⟨.builtin .len, #[.tmp f], #[t2]⟩) (g2 : o2.guard = none) (hr : rdB cfg.mu o2.op = true) : CmtJ (LJ p h a e f hl k fv xv qv) P cfg ce m n ops o1 o2 := by
  refine cmt_wr hap (rd_of hr) fun fr H y hj hy => ?_
  rw [actX_plain g2, actX_plain g2, h2]
  have : dLenS P t2 (fr f) y.2 = dLenS P t2 (fr f) H := by
    have hf := hj.hf
    unfold dLenS
    split
    · rename_i hx; exact absurd hx (hf _ _ _ _ _)
    · rfl
  simp only [opX, opE, stOK, if_true, dBuiltin, evL, show evO fr (.tmp f) = some (fr f) from rfl, Option.bind_some, Option.map_some, this, Option.map_map]
  rfl
theorem eql_int (t : TypeId) (x : CV) (k : IntKind) (i : Int) (H H' : Hp) : dBin P .eql t x (.v (.int k i)) H = dBin P .eql t x (.v (.int k i)) H' := by
  unfold dBin
  cases x with
  | v x => cases x <;> rfl
  | _ => rfl
theorem capp_eql {t tx t2 t3 : TypeId} {b x : Operand} {k' : IntKind} {i : Int} (hap : o1.apart ops o2 = true) (g2 : o2.guard = none) (h2 : o2.op = .binOp .eql t2 x (.const (.int k' i)) t3) (hr : rdB cfg.mu o2.op = true) : CmtJ (LJ p h a e f hl k fv xv qv) P cfg ce m n ops o1 o2 := by
  refine cmt_wr hap (rd_of hr) fun fr H y hj hy => ?_
  rw [actX_plain g2, actX_plain g2, h2]
  simp only [opX, opE, stOK, if_true]
  cases evO fr x with
  | none => rfl
  | some z =>
    simp only [Option.bind_some, show evO fr (.const (.int k' i)) = some (.v (.int k' i)) from rfl, eql_int (P := P) t2 z k' i y.2 H, Option.map_map]
    rfl
end
end Go.SL

/- The simplifier stops where it is stuck: what is behind such a step is not looked at. -/
namespace Go.SL
set_option linter.unusedVariables false
def stopN : Nat := 0
@[simp] theorem stopN_eq : stopN = 0 := rfl
theorem WX_stop {α : Type} {o o' : Option α} {k : Nat} (K : α → Prop) (hz : stopN = k) (h : o = o') : WX o K = WX o' K := by rw [h]
theorem WC_stop {P : Program} {cs : Cfgs} {m m' : Nat} {f : Tg} {args args' : List CV} {H H' : Hp} {k : Nat} (K : CV → Hp → Prop) (hz : stopN = k) (hm : m = m') (h : args = args') (h2 : H = H') : WC P cs m f args H K = WC P cs m' f args' H' K := by rw [hm, h, h2]
theorem W_stop (x : Cx) (c : Code) {fr fr' : Fr} {H H' : Hp} {k : Nat} (Q : Ex → Fr → Hp → Prop) (hz : stopN = k) (h : fr = fr') (h2 : H = H') : W x c fr H Q = W x c fr' H' Q := by rw [h, h2]
end Go.SL

/- More pairs of operations: what does not read the objects at such a state; calls that leave them. -/
namespace Go.SL
set_option linter.unusedVariables false
variable {P : Program} {cfg : Cfg} {ce : CallE} {m n : Nat} {ops : Array Oper} {o1 o2 o : Oper} {J : JT}

theorem cmt_purJ (hap : o1.apart ops o2 = true) (hp : ∀ fr H H', J fr H → actX P cfg ce m ops o1 fr H' = (actX P cfg ce m ops o1 fr H).map fun y => (y.1, H')) : CmtJ J P cfg ce m n ops o1 o2 := by
  obtain ⟨a1, a2, a3⟩ := Oper.apart_spec hap
  intro fr H s1 s2 hJ h1 h2
  obtain ⟨⟨y1, H1⟩, b1, h1⟩ := Option.bind_eq_some_iff.1 h1
  obtain ⟨fr1, b2, h1⟩ := Option.map_eq_some_iff.1 h1
  cases h1
  obtain ⟨⟨y2, H2⟩, c1, h2⟩ := Option.bind_eq_some_iff.1 h2
  obtain ⟨fr2, c2, h2⟩ := Option.map_eq_some_iff.1 h2
  cases h2
  simp only at b2 c1 c2 ⊢
  rw [actX_put b2 a1 a2] at c1
  obtain ⟨fr', d1, d2⟩ := putC_comm a2 b2 c2
  have back : ∀ K, actX P cfg ce m ops o1 fr' K = actX P cfg ce m ops o1 fr K := fun K => actX_put d1 a3 (fun d hd e => a2 d e hd)
  have e : H1 = H := by
    have := hp fr H H hJ
    rw [b1] at this
    simp only [Option.map_some, Option.some.injEq, Prod.mk.injEq, true_and] at this
    exact this
  subst e
  have k2 := hp fr H1 H2 hJ
  rw [b1] at k2
  refine ⟨(fr', H2), ?_, ?_⟩
  · unfold stepX; rw [c1]; simp only [Option.bind_some, d1, Option.map_some]
  · unfold stepX; simp only [back, k2, Option.map_some, Option.bind_some, d2]
/-- A call with no arguments that leaves the objects. -/
theorem rd_ret {cs : Cfgs} {g : FuncId} {v : CV} {ts : Array TypeId} {k : Nat} (ho : o.op = .call ⟨.value (.func g), #[], ts⟩) (h : ∀ H, Ret P cs m g [] H v H) : Rd P cfg (evCall P cs k) m ops o := by
  intro fr H y hy
  unfold actX at hy
  obtain ⟨b, _, hy⟩ := Option.bind_eq_some_iff.1 hy
  cases b with
  | true =>
    simp only [if_true, ho, opX, evO, Option.bind_some] at hy
    obtain ⟨xs, hxs, hy⟩ := Option.bind_eq_some_iff.1 hy
    have : xs = [] := by simpa [evL] using hxs.symm
    subst this
    have := ((h H).wc fun _ H' => H' = y.2).1 ⟨k, y, hy, rfl⟩
    exact this.symm
  | false => simp only [Bool.false_eq_true, if_false, Option.some.injEq] at hy; rw [← hy]
end Go.SL
namespace Go.SL
variable {P : Program} {cfg : Cfg} {ce : CallE} {m n : Nat} {ops : Array Oper} {o1 o2 o : Oper} {J : JT}
/-- A closed slice, and its copy in another slot. -/
def ImJ (s t : Nat) (cs : List CV) (len sz : Nat) : JT := fun fr _ => fr s = .im cs len sz ∧ (fr t = .im cs len sz ∨ fr t = .tup [])
theorem keep_im {s t : Nat} {cs : List CV} {len sz : Nat} (hd : o.dst ≠ some s ∧ o.dst ≠ some t) : KeepJ (ImJ s t cs len sz) P cfg ce m n ops o := by
  intro fr H z hj hs
  obtain ⟨y, h1, h2⟩ := step_inv hs
  exact ⟨by rw [h2, if_neg hd.1]; exact hj.1, by rw [h2, if_neg hd.2]; exact hj.2⟩
theorem keep_imv {s t : Nat} {cs : List CV} {len sz : Nat} (ho : o.op = .move (.tmp s)) (g : o.guard = none) (hd : o.dst = some t) (hne : t ≠ s) : KeepJ (ImJ s t cs len sz) P cfg ce m n ops o := by
  intro fr H z hj hs
  obtain ⟨y, h1, h2⟩ := step_inv hs
  rw [actX_plain g, ho] at h1
  simp only [opX, opE, stOK, if_true, show evO fr (.tmp s) = some (fr s) from rfl, Option.map_some, Option.some.injEq, Prod.mk.injEq, hj.1] at h1
  obtain ⟨rfl, e0⟩ := h1
  rw [hd] at h2
  have hne' : ¬ some t = some s := fun h => hne (by cases h; rfl)
  exact ⟨by rw [h2, if_neg hne']; exact hj.1, by rw [h2, if_pos rfl]; exact .inl rfl⟩
theorem cmt_im {s t : Nat} {cs : List CV} {len sz : Nat} {ty : TypeId} {lo hi : Option Operand} (hap : o1.apart ops o2 = true) (ho : o1.op = .slice ty (.tmp t) lo hi none) (g : o1.guard = none) : CmtJ (ImJ s t cs len sz) P cfg ce m n ops o1 o2 := by
  refine cmt_purJ hap fun fr H H' hj => ?_
  rw [actX_plain g, actX_plain g, ho]
  have key : ∀ lo hi, dSlice P ty (fr t) lo hi H' = dSlice P ty (fr t) lo hi H := by
    intro lo hi
    rcases hj.2 with h | h <;> rw [h] <;> unfold dSlice <;> split <;> first | rfl | (split <;> first | rfl | (rename_i h2 _ _ _ _; cases h2) | skip)
    all_goals (rename_i h2; cases h2)
  simp only [opX, opE, stOK, if_true, show evO fr (.tmp t) = some (fr t) from rfl, Option.bind_some, key]
  cases evM fr lo with
  | none => rfl
  | some a =>
    cases evM fr hi with
    | none => rfl
    | some b =>
      simp only [Option.bind_some, Option.map_map]
      rfl
end Go.SL

/- A region that puts an element behind a slice that another object holds, in any order. -/
namespace Go.SL
set_option linter.unusedVariables false
variable {P : Program} {cfg : Cfg} {ce : CallE} {m n : Nat} {ops : Array Oper} {o1 o2 o : Oper} {J : JT}

theorem put_comm {H : Hp} {a b x y : Nat} {u v : List CV} (h : a ≠ b) : putH (putH H a x u) b y v = putH (putH H b y v) a x u := by
  unfold putH
  apply List.ext_getElem?
  intro j
  rw [List.getElem?_modify, List.getElem?_modify, List.getElem?_modify, List.getElem?_modify]
  by_cases e1 : a = j
  · subst e1
    have : ¬ b = a := fun e => h e.symm
    simp [this]
  · simp [e1]
theorem iaddr_eq {t e : TypeId} (hu : P.underlying t = some (.slice e)) (x i : CV) (H : Hp) : dIndexAddr P t x i H = match i with
    | .v (.int _ i) => (P.info? e).bind fun inf =>
      match x with
      | .sl id ver off len sz => if 0 ≤ i ∧ i < len ∧ sz = inf.size ∧ (cellsAt H id ver).isSome then some (.ptr id ver (off + i.toNat * sz)) else none
      | .im cs len sz => if 0 ≤ i ∧ i < len ∧ sz = inf.size then some (.ip (cs.drop (i.toNat * sz))) else none
      | _ => none
    | _ => none := by
  unfold dIndexAddr
  rw [hu]
  cases i with
  | v i => cases i <;> rfl
  | _ => rfl
theorem iaddr_put {t e : TypeId} (hu : P.underlying t = some (.slice e)) {x i : CV} {id off : Nat} {ys : List CV} {H : Hp} : dIndexAddr P t x i (putH H id off ys) = dIndexAddr P t x i H := by
  rw [iaddr_eq hu, iaddr_eq hu]
  simp only [cells_put_is]
theorem iaddr_own {t e : TypeId} (hu : P.underlying t = some (.slice e)) {x i : CV} {H : Hp} {id ver off : Nat} (h : dIndexAddr P t x i H = some (.ptr id ver off)) : ∃ off' len sz, x = .sl id ver off' len sz := by
  rw [iaddr_eq hu] at h
  split at h
  · obtain ⟨inf, _, h⟩ := Option.bind_eq_some_iff.1 h
    split at h
    · split at h
      · cases h; exact ⟨_, _, _, rfl⟩
      · cases h
    · split at h <;> cases h
    · cases h
  · cases h
theorem act_store2 {fr : Fr} {H : Hp} {y : CV × Hp} {t : TypeId} {a b : Operand} (h : o.guard = none) (ho : o.op = .store t a b) (hy : actX P cfg ce m ops o fr H = some y) : ∃ x z, evO fr a = some x ∧ evO fr b = some z ∧ dStore P t x z H = some y.2 ∧ y.1 = .tup [] ∧ stOK m fr (.store t a b) = true := by
  rw [actX_plain h, ho] at hy
  simp only [opX] at hy
  split at hy
  · rename_i hst
    simp only [opE] at hy
    obtain ⟨x, h1, hy⟩ := Option.bind_eq_some_iff.1 hy
    obtain ⟨z, h2, hy⟩ := Option.bind_eq_some_iff.1 hy
    obtain ⟨H2, h3, rfl⟩ := Option.map_eq_some_iff.1 hy
    exact ⟨x, z, h1, h2, h3, rfl, hst⟩
  · cases hy
/-- A place that is no object below k. -/
def ptrO (k : Nat) (v : CV) : Prop := ∀ id ver off, v = .ptr id ver off → k ≤ id
def ownA (k : Nat) (v : CV) : Prop := own k v ∧ ∀ cs, v ≠ .agg cs
structure FJ (s a b c io k : Nat) (fr : Fr) (H : Hp) : Prop where
  hs : fr s = .ptr io 0 0
  hk : k ≤ H.length
  ha : ownA k (fr a)
  hb : ownA k (fr b)
  hc : ptrO k (fr c)
  hio : ∃ v, cellsAt H io 0 = some [v] ∧ ownA k v
section
variable {s a b c io k : Nat} (hik : io < k)
theorem fkeep_rd (hr : Rd P cfg ce m ops o) (hd : o.dst ≠ some s ∧ o.dst ≠ some a ∧ o.dst ≠ some b ∧ o.dst ≠ some c) : KeepJ (FJ s a b c io k) P cfg ce m n ops o := by
  intro fr H z hj hs
  obtain ⟨y, h1, h2⟩ := step_inv hs
  have e0 : z.2 = H := hr _ _ _ h1
  obtain ⟨d1, d2, d3, d4⟩ := hd
  rw [e0]
  exact ⟨by rw [h2, if_neg d1]; exact hj.hs, hj.hk, by rw [h2, if_neg d2]; exact hj.ha, by rw [h2, if_neg d3]; exact hj.hb, by rw [h2, if_neg d4]; exact hj.hc, hj.hio⟩
theorem fkeep_gro (hr : Gro P cfg ce m ops o) (hd : o.dst ≠ some s ∧ o.dst ≠ some a ∧ o.dst ≠ some b ∧ o.dst ≠ some c) : KeepJ (FJ s a b c io k) P cfg ce m n ops o := by
  intro fr H z hj hs
  obtain ⟨y, h1, h2⟩ := step_inv hs
  obtain ⟨L, e0⟩ := hr _ _ _ h1
  simp only at e0
  obtain ⟨d1, d2, d3, d4⟩ := hd
  rw [e0]
  obtain ⟨v, hv1, hv2⟩ := hj.hio
  exact ⟨by rw [h2, if_neg d1]; exact hj.hs, by simp; have := hj.hk; omega, by rw [h2, if_neg d2]; exact hj.ha, by rw [h2, if_neg d3]; exact hj.hb, by rw [h2, if_neg d4]; exact hj.hc, v, cellsAt_app L hv1, hv2⟩
theorem fkeep_ld {t : TypeId} (hld : ∀ H v y, cellsAt H io 0 = some [v] → dLoad P t (.ptr io 0 0) H = some y → y = v) (ho : o.op = .load t (.tmp s)) (g : o.guard = none) (hd : o.dst = some a) (hne : a ≠ s ∧ a ≠ b ∧ a ≠ c) : KeepJ (FJ s a b c io k) P cfg ce m n ops o := by
  intro fr H z hj hs
  obtain ⟨y, h1, h2⟩ := step_inv hs
  rw [actX_plain g, ho] at h1
  simp only [opX, opE, stOK, if_true, show evO fr (.tmp s) = some (fr s) from rfl, Option.bind_some, hj.hs] at h1
  obtain ⟨u, h3, h4⟩ := Option.map_eq_some_iff.1 h1
  simp only [Prod.mk.injEq] at h4
  obtain ⟨rfl, e0⟩ := h4
  obtain ⟨v, hv1, hv2⟩ := hj.hio
  have hz := hld _ _ _ hv1 h3
  rw [hd] at h2
  obtain ⟨d1, d2, d3⟩ := hne
  have d1' : ¬ (some a = some s) := fun h => d1 (by cases h; rfl)
  have d2' : ¬ (some a = some b) := fun h => d2 (by cases h; rfl)
  have d3' : ¬ (some a = some c) := fun h => d3 (by cases h; rfl)
  rw [← e0]
  exact ⟨by rw [h2, if_neg d1']; exact hj.hs, hj.hk, by rw [h2, if_pos rfl, hz]; exact hv2, by rw [h2, if_neg d2']; exact hj.hb, by rw [h2, if_neg d3']; exact hj.hc, v, hv1, hv2⟩
theorem app_ownA {t tx : TypeId} {q x y : CV} {H H2 : Hp} {k : Nat} (h : dAppend P t tx q x H = some (y, H2)) (ho : ownA k q) (hk : k ≤ H.length) : ownA k y := by
  have hsl : ∀ id ver off len sz, k ≤ id → ownA k (.sl id ver off len sz) := fun id ver off len sz hid => ⟨fun _ _ _ _ _ e => by cases e; exact hid, fun cs e => by cases e⟩
  unfold dAppend at h
  split at h
  · obtain ⟨i, _, h⟩ := Option.bind_eq_some_iff.1 h
    obtain ⟨zs, _, h⟩ := Option.bind_eq_some_iff.1 h
    obtain ⟨xn, _, h⟩ := Option.bind_eq_some_iff.1 h
    split at h
    · split at h
      · split at h
        · cases h; exact ho
        · split at h
          · cases h; exact hsl _ _ _ _ _ hk
          · cases h
      · rename_i id ver off len sz
        have hid := ho.1 _ _ _ _ _ rfl
        split at h
        · split at h
          · split at h
            · cases h; exact ho
            · split at h
              · cases h; exact hsl _ _ _ _ _ hid
              · cases h
          · cases h
        · cases h
      · split at h
        · cases h; exact ho
        · cases h
      · cases h
    · cases h
  · cases h
include hik in
theorem fkeep_app {t tx : TypeId} {x : Operand} (ho : o.op = .call ⟨.builtin .append, #[.tmp a, x], #[t, tx]⟩) (g : o.guard = none) (hd : o.dst = some b) (hne : b ≠ s ∧ b ≠ a ∧ b ≠ c) : KeepJ (FJ s a b c io k) P cfg ce m n ops o := by
  intro fr H z hj hs
  obtain ⟨y, h1, h2⟩ := step_inv hs
  obtain ⟨x, h3⟩ := act_app ho g h1
  obtain ⟨h4, h5⟩ := app_below h3 hj.ha.1 hj.hk
  rw [hd] at h2
  obtain ⟨d1, d2, d3⟩ := hne
  have d1' : ¬ (some b = some s) := fun h => d1 (by cases h; rfl)
  have d2' : ¬ (some b = some a) := fun h => d2 (by cases h; rfl)
  have d3' : ¬ (some b = some c) := fun h => d3 (by cases h; rfl)
  obtain ⟨v, hv1, hv2⟩ := hj.hio
  exact ⟨by rw [h2, if_neg d1']; exact hj.hs, h4, by rw [h2, if_neg d2']; exact hj.ha, by rw [h2, if_pos rfl]; exact app_ownA h3 hj.ha hj.hk, by rw [h2, if_neg d3']; exact hj.hc, v, by rw [cells_below h5 hik]; exact hv1, hv2⟩
theorem fkeep_ia {t e : TypeId} (hu : P.underlying t = some (.slice e)) {i : Operand} (ho : o.op = .indexAddr t (.tmp b) i) (g : o.guard = none) (hd : o.dst = some c) (hne : c ≠ s ∧ c ≠ a ∧ c ≠ b) : KeepJ (FJ s a b c io k) P cfg ce m n ops o := by
  intro fr H z hj hs
  obtain ⟨y, h1, h2⟩ := step_inv hs
  rw [actX_plain g, ho] at h1
  simp only [opX, opE, stOK, if_true, show evO fr (.tmp b) = some (fr b) from rfl, Option.bind_some] at h1
  obtain ⟨iv, _, h1⟩ := Option.bind_eq_some_iff.1 h1
  obtain ⟨u, h3, h4⟩ := Option.map_eq_some_iff.1 h1
  simp only [Prod.mk.injEq] at h4
  obtain ⟨rfl, e0⟩ := h4
  have hp : ptrO k u := by
    intro id ver off e
    subst e
    obtain ⟨_, _, _, hx⟩ := iaddr_own hu h3
    exact hj.hb.1 _ _ _ _ _ hx
  rw [hd] at h2
  obtain ⟨d1, d2, d3⟩ := hne
  have d1' : ¬ (some c = some s) := fun h => d1 (by cases h; rfl)
  have d2' : ¬ (some c = some a) := fun h => d2 (by cases h; rfl)
  have d3' : ¬ (some c = some b) := fun h => d3 (by cases h; rfl)
  rw [← e0]
  exact ⟨by rw [h2, if_neg d1']; exact hj.hs, hj.hk, by rw [h2, if_neg d2']; exact hj.ha, by rw [h2, if_neg d3']; exact hj.hb, by rw [h2, if_pos rfl]; exact hp, hj.hio⟩
/-- An element of the slice is written: another object than the one that holds the slice. -/
theorem put_len {H : Hp} {id off : Nat} {ys : List CV} : (putH H id off ys).length = H.length := by unfold putH; simp
include hik in
theorem fkeep_st {t : TypeId} {x : Operand} (ho : o.op = .store t (.tmp c) x) (g : o.guard = none) (hd : o.dst = none) : KeepJ (FJ s a b c io k) P cfg ce m n ops o := by
  intro fr H z hj hs
  obtain ⟨y, h1, h2⟩ := step_inv hs
  obtain ⟨u, w, e1, e2, e3, _, _⟩ := act_store2 g ho h1
  have : u = fr c := by have : evO fr (.tmp c) = some (fr c) := rfl; rw [this] at e1; cases e1; rfl
  subst this
  rw [hd] at h2
  simp only [reduceCtorEq, if_false] at h2
  obtain ⟨v, hv1, hv2⟩ := hj.hio
  cases hcv : fr c with
  | ptr id ver off =>
    have hid := hj.hc _ _ _ hcv
    rw [hcv] at e3
    obtain ⟨ys, e4⟩ := store_put e3
    simp only at e4
    rw [e4]
    exact ⟨by rw [h2]; exact hj.hs, by rw [put_len]; exact hj.hk, by rw [h2]; exact hj.ha, by rw [h2]; exact hj.hb, by rw [h2]; exact hj.hc, v, by rw [cells_put_ne (by omega)]; exact hv1, hv2⟩
  | _ => rw [hcv] at e3; cases e3
theorem fkeep_so {t : TypeId} (ho : o.op = .store t (.tmp s) (.tmp b)) (g : o.guard = none) (hd : o.dst = none) (hsz : ∀ i, P.info? t = some i → i.size = 1) : KeepJ (FJ s a b c io k) P cfg ce m n ops o := by
  intro fr H z hj hs
  obtain ⟨y, h1, h2⟩ := step_inv hs
  obtain ⟨u, w, e1, e2, e3, _, _⟩ := act_store2 g ho h1
  have h3 : u = .ptr io 0 0 := by have : evO fr (.tmp s) = some (fr s) := rfl; rw [this, hj.hs] at e1; cases e1; rfl
  have h4 : w = fr b := by have : evO fr (.tmp b) = some (fr b) := rfl; rw [this] at e2; cases e2; rfl
  subst h3 h4
  rw [hd] at h2
  simp only [reduceCtorEq, if_false] at h2
  obtain ⟨v, hv1, hv2⟩ := hj.hio
  unfold dStore at e3
  simp only [] at e3
  obtain ⟨i, f1, e3⟩ := Option.bind_eq_some_iff.1 e3
  obtain ⟨ys, f2, e3⟩ := Option.bind_eq_some_iff.1 e3
  obtain ⟨cs, f3, e3⟩ := Option.bind_eq_some_iff.1 e3
  split at e3
  · rename_i hlen
    have e4 : putH H io 0 ys = z.2 := by simpa using e3
    have hys : ys = [fr b] := by
      have hna := hj.hb.2
      unfold cvCells at f2
      split at f2
      · rename_i cs' hb'; exact absurd hb' (hna _)
      · cases f2
      · cases f2; rfl
    rw [← e4]
    have hcell : cellsAt (putH H io 0 ys) io 0 = some [fr b] := by
      obtain ⟨e, he⟩ := cellsAt_some hv1
      unfold cellsAt putH
      rw [List.getElem?_modify]
      simp [he, hys]
    exact ⟨by rw [h2]; exact hj.hs, by rw [put_len]; exact hj.hk, by rw [h2]; exact hj.ha, by rw [h2]; exact hj.hb, by rw [h2]; exact hj.hc, _, hcell, hj.hb⟩
  · cases e3

theorem fcmt_ia {t e t2 : TypeId} (hu : P.underlying t = some (.slice e)) {i x : Operand} (hap : o1.apart ops o2 = true) (h1 : o1.op = .indexAddr t (.tmp b) i) (g1 : o1.guard = none) (h2 : o2.op = .store t2 (.tmp s) x) (g2 : o2.guard = none) (hr : rdB cfg.mu o1.op = true) : CmtJ (FJ s a b c io k) P cfg ce m n ops o1 o2 := by
  refine cmt_rw hap (rd_of hr) fun fr H y hj hy => ?_
  obtain ⟨u, w, e1, e2, e3, _, _⟩ := act_store2 g2 h2 hy
  have h3 : u = .ptr io 0 0 := by have : evO fr (.tmp s) = some (fr s) := rfl; rw [this, hj.hs] at e1; cases e1; rfl
  subst h3
  obtain ⟨ys, e4⟩ := store_put e3
  rw [e4, actX_plain g1, actX_plain g1, h1]
  simp only [opX, opE, stOK, if_true, show evO fr (.tmp b) = some (fr b) from rfl, Option.bind_some]
  cases evO fr i with
  | none => rfl
  | some iv =>
    simp only [Option.bind_some, iaddr_put hu, Option.map_map]
    rfl
include hik in
theorem fcmt_ss {t t2 : TypeId} {x : Operand} (hap : o1.apart ops o2 = true) (h1 : o1.op = .store t (.tmp c) x) (g1 : o1.guard = none) (d1 : o1.dst = none) (h2 : o2.op = .store t2 (.tmp s) (.tmp b)) (g2 : o2.guard = none) (d2 : o2.dst = none) : CmtJ (FJ s a b c io k) P cfg ce m n ops o1 o2 := by
  intro fr H s1 s2 hJ k1 k2
  obtain ⟨⟨y1, H1⟩, b1, k1⟩ := Option.bind_eq_some_iff.1 k1
  obtain ⟨fr1, b2, k1⟩ := Option.map_eq_some_iff.1 k1
  cases k1
  obtain ⟨⟨y2, H2⟩, c1, k2⟩ := Option.bind_eq_some_iff.1 k2
  obtain ⟨fr2, c2, k2⟩ := Option.map_eq_some_iff.1 k2
  cases k2
  simp only at b2 c1 c2 ⊢
  rw [d1] at b2
  rw [d2] at c2
  have hf1 : fr1 = fr := by unfold putC at b2; cases b2; rfl
  have hf2 : fr2 = fr1 := by unfold putC at c2; cases c2; rfl
  subst hf1 hf2
  obtain ⟨u, w, e1, e2, e3, e4, e5⟩ := act_store2 g1 h1 b1
  obtain ⟨u', w', f1, f2, f3, f4, f5⟩ := act_store2 g2 h2 c1
  simp only at e3 e4 f3 f4
  have h3 : u' = .ptr io 0 0 := by have : evO fr2 (.tmp s) = some (fr2 s) := rfl; rw [this, hJ.hs] at f1; cases f1; rfl
  have h4 : u = fr2 c := by have : evO fr2 (.tmp c) = some (fr2 c) := rfl; rw [this] at e1; cases e1; rfl
  subst h3 h4
  cases hcv : fr2 c with
  | ptr id ver off =>
    have hid := hJ.hc _ _ _ hcv
    have hne : id ≠ io := by omega
    rw [hcv] at e3
    unfold dStore at e3 f3
    simp only [] at e3 f3
    obtain ⟨i1, p1, e3⟩ := Option.bind_eq_some_iff.1 e3
    obtain ⟨ys1, p2, e3⟩ := Option.bind_eq_some_iff.1 e3
    obtain ⟨cs1, p3, e3⟩ := Option.bind_eq_some_iff.1 e3
    split at e3
    · rename_i hl1
      cases e3
      obtain ⟨i2, q1, f3⟩ := Option.bind_eq_some_iff.1 f3
      obtain ⟨ys2, q2, f3⟩ := Option.bind_eq_some_iff.1 f3
      obtain ⟨cs2, q3, f3⟩ := Option.bind_eq_some_iff.1 f3
      split at f3
      · rename_i hl2
        cases f3
        rw [cells_put_ne hne] at q3
        have A : actX P cfg ce m ops o2 fr2 H = some (.tup [], putH H io 0 ys2) := by
          rw [actX_plain g2, h2]
          simp only [opX, f5, if_true, opE, f1, f2, Option.bind_some, dStore, q1, q2, q3]
          rw [if_pos hl2]; rfl
        have B : actX P cfg ce m ops o1 fr2 (putH H io 0 ys2) = some (.tup [], putH (putH H io 0 ys2) id off ys1) := by
          rw [actX_plain g1, h1]
          have p3' : cellsAt (putH H io 0 ys2) id ver = some cs1 := by rw [cells_put_ne (fun e => hne e.symm)]; exact p3
          simp only [opX, e5, if_true, opE, e1, e2, Option.bind_some, hcv, dStore, p1, p2, p3']
          rw [if_pos hl1]; rfl
        refine ⟨(fr2, putH H io 0 ys2), ?_, ?_⟩
        · unfold stepX; rw [A, d2]; rfl
        · unfold stepX; simp only [B, d1, putC, Option.bind_some, Option.map_some, put_comm hne]
      · cases f3
    · cases e3
  | _ => rw [hcv] at e3; cases e3
end
end Go.SL

/- Bits of numbers without a sign. -/
namespace Go.SL
set_option linter.unusedVariables false
theorem wrapU8 (x : Nat) (h : x < 256) : IntKind.u8.wrap (x : Int) = (x : Int) := by simp [IntKind.wrap, IntKind.bits, IntKind.signed]; omega
theorem wrapU32 (x : Nat) (h : x < 4294967296) : IntKind.u32.wrap (x : Int) = (x : Int) := by simp [IntKind.wrap, IntKind.bits, IntKind.signed]; omega
theorem wrapU64 (x : Nat) (h : x < 18446744073709551616) : IntKind.u64.wrap (x : Int) = (x : Int) := by simp [IntKind.wrap, IntKind.bits, IntKind.signed]; omega
theorem bits_or_u32 (a b : Nat) (ha : a < 4294967296) (hb : b < 4294967296) : bits .or .u32 (a : Int) (b : Int) = ((a ||| b : Nat) : Int) := by
  have hx : a ||| b < 2 ^ 32 := Nat.or_lt_two_pow (by omega) (by omega)
  have h1 : (BitVec.ofInt 32 (a : Int)).toNat = a := by rw [BitVec.ofInt_natCast, BitVec.toNat_ofNat]; exact Nat.mod_eq_of_lt (by omega)
  have h2 : (BitVec.ofInt 32 (b : Int)).toNat = b := by rw [BitVec.ofInt_natCast, BitVec.toNat_ofNat]; exact Nat.mod_eq_of_lt (by omega)
  show IntKind.u32.wrap ((BitVec.ofInt 32 (a : Int) ||| BitVec.ofInt 32 (b : Int)).toNat : Int) = _
  rw [BitVec.toNat_or, h1, h2, wrapU32 _ (by omega)]
theorem bits_and_u32 (a b : Nat) (ha : a < 4294967296) (hb : b < 4294967296) : bits .and .u32 (a : Int) (b : Int) = ((a &&& b : Nat) : Int) := by
  have hx : a &&& b < 2 ^ 32 := Nat.and_lt_two_pow _ (by omega)
  have h1 : (BitVec.ofInt 32 (a : Int)).toNat = a := by rw [BitVec.ofInt_natCast, BitVec.toNat_ofNat]; exact Nat.mod_eq_of_lt (by omega)
  have h2 : (BitVec.ofInt 32 (b : Int)).toNat = b := by rw [BitVec.ofInt_natCast, BitVec.toNat_ofNat]; exact Nat.mod_eq_of_lt (by omega)
  show IntKind.u32.wrap ((BitVec.ofInt 32 (a : Int) &&& BitVec.ofInt 32 (b : Int)).toNat : Int) = _
  rw [BitVec.toNat_and, h1, h2, wrapU32 _ (by omega)]
theorem bits_or_u8 (a b : Nat) (ha : a < 256) (hb : b < 256) : bits .or .u8 (a : Int) (b : Int) = ((a ||| b : Nat) : Int) := by
  have hx : a ||| b < 2 ^ 8 := Nat.or_lt_two_pow (by omega) (by omega)
  have h1 : (BitVec.ofInt 8 (a : Int)).toNat = a := by rw [BitVec.ofInt_natCast, BitVec.toNat_ofNat]; exact Nat.mod_eq_of_lt (by omega)
  have h2 : (BitVec.ofInt 8 (b : Int)).toNat = b := by rw [BitVec.ofInt_natCast, BitVec.toNat_ofNat]; exact Nat.mod_eq_of_lt (by omega)
  show IntKind.u8.wrap ((BitVec.ofInt 8 (a : Int) ||| BitVec.ofInt 8 (b : Int)).toNat : Int) = _
  rw [BitVec.toNat_or, h1, h2, wrapU8 _ (by omega)]
theorem or_shift (a b k : Nat) (h : b < 2 ^ k) : a * 2 ^ k ||| b = a * 2 ^ k + b := by
  rw [← Nat.shiftLeft_eq, Nat.shiftLeft_add_eq_or_of_lt h]
variable {P : Program} {t : TypeId}
theorem or_u32 (a b : Nat) (k : Nat) (H : Hp) (hb : b < 2 ^ k) (ha : a * 2 ^ k + b < 4294967296) : dBin P .or t (.v (.int .u32 ((a * 2 ^ k : Nat) : Int))) (.v (.int .u32 (b : Nat))) H = some (.v (.int .u32 ((a * 2 ^ k + b : Nat) : Int))) := by
  simp only [dBin_int, binA, if_true, bits_or_u32 _ _ (Nat.lt_of_le_of_lt (Nat.le_add_right _ b) ha) (Nat.lt_of_le_of_lt (Nat.le_add_left b _) ha), or_shift a b k hb, Option.map_some]
theorem shl_u32 (a k : Nat) (q : IntKind) (H : Hp) (hk : k ≤ 32) (ha : a * 2 ^ k < 4294967296) : dBin P .shl t (.v (.int .u32 (a : Nat))) (.v (.int q (k : Nat))) H = some (.v (.int .u32 ((a * 2 ^ k : Nat) : Int))) := by
  have h1 : min (k : Int).toNat IntKind.u32.bits = k := by rw [Int.toNat_natCast]; exact Nat.min_eq_left hk
  have h2 : ((a : Nat) : Int) * 2 ^ k = ((a * 2 ^ k : Nat) : Int) := by push_cast; rfl
  simp only [dBin, binA]
  rw [if_pos (by omega), h1, h2, wrapU32 _ ha]; rfl
theorem shr_u32 (a k : Nat) (q : IntKind) (H : Hp) (hk : k ≤ 32) : dBin P .shr t (.v (.int .u32 (a : Nat))) (.v (.int q (k : Nat))) H = some (.v (.int .u32 ((a / 2 ^ k : Nat) : Int))) := by
  have h1 : min (k : Int).toNat IntKind.u32.bits = k := by rw [Int.toNat_natCast]; exact Nat.min_eq_left hk
  simp only [dBin, binA]
  rw [if_pos (by omega), h1, Int.fdiv_eq_ediv_of_nonneg _ (by exact_mod_cast Nat.zero_le _)]
  simp
theorem and_u32 (a k : Nat) (H : Hp) (ha : a < 4294967296) (hk : k ≤ 32) : dBin P .and t (.v (.int .u32 (a : Nat))) (.v (.int .u32 ((2 ^ k - 1 : Nat) : Int))) H = some (.v (.int .u32 ((a % 2 ^ k : Nat) : Int))) := by
  have h2 : 2 ^ k ≤ 2 ^ 32 := Nat.pow_le_pow_right (by omega) hk
  have h3 : 0 < 2 ^ k := Nat.pow_pos (by omega)
  simp only [dBin_int, binA, if_true, bits_and_u32 _ _ ha (show 2 ^ k - 1 < 4294967296 by omega), Nat.and_two_pow_sub_one_eq_mod, Option.map_some]
@[simp] theorem binA_mul (k : IntKind) (a b : Int) : binA .mul (.int k a) (.int k b) = some (.int k (k.wrap (a * b))) := by simp [binA]
theorem rem_nat (a b : Nat) (H : Hp) (hb : b ≠ 0) : dBin P .rem t (.v (.int .i64 (a : Nat))) (.v (.int .i64 (b : Nat))) H = some (.v (.int .i64 ((a % b : Nat) : Int))) := by
  have h1 : (b : Int) ≠ 0 := by omega
  simp only [dBin_int, binA]
  rw [if_pos ⟨trivial, h1⟩, Int.tmod_eq_emod_of_nonneg (by omega)]
  rfl
theorem or_u8 (a b : Nat) (k : Nat) (H : Hp) (hb : b < 2 ^ k) (ha : a * 2 ^ k + b < 256) : dBin P .or t (.v (.int .u8 ((a * 2 ^ k : Nat) : Int))) (.v (.int .u8 (b : Nat))) H = some (.v (.int .u8 ((a * 2 ^ k + b : Nat) : Int))) := by
  simp only [dBin_int, binA, if_true, bits_or_u8 _ _ (Nat.lt_of_le_of_lt (Nat.le_add_right _ b) ha) (Nat.lt_of_le_of_lt (Nat.le_add_left b _) ha), or_shift a b k hb, Option.map_some]
theorem shl_u8 (a k : Nat) (q : IntKind) (H : Hp) (hk : k ≤ 8) (ha : a * 2 ^ k < 256) : dBin P .shl t (.v (.int .u8 (a : Nat))) (.v (.int q (k : Nat))) H = some (.v (.int .u8 ((a * 2 ^ k : Nat) : Int))) := by
  have h1 : min (k : Int).toNat IntKind.u8.bits = k := by rw [Int.toNat_natCast]; exact Nat.min_eq_left hk
  have h2 : ((a : Nat) : Int) * 2 ^ k = ((a * 2 ^ k : Nat) : Int) := by push_cast; rfl
  simp only [dBin, binA]
  rw [if_pos (by omega), h1, h2, wrapU8 _ ha]; rfl
end Go.SL

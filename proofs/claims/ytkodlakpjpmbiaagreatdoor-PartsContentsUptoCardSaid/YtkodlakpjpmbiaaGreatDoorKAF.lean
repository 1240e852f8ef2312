/- The rules, told to the simplifier. -/
import Derived.Test.YtkodlakpjpmbiaaGreatDoorKAE
import Derived.Laws.Strings
import Derived.IntWalk

set_option linter.all false

namespace Go.SL
set_option linter.unusedVariables false

@[congr] theorem WX_congr {α : Type} {o o' : Option α} (K : α → Prop) (h : o = o') : WX o K = WX o' K := by rw [h]
@[congr] theorem gQ_congr (A B : Prop) (fr : Fr) (want : Bool) {t t' : Option Tmp} (h : t = t') : gQ A B fr want t = gQ A B fr want t' := by rw [h]
@[congr] theorem gQ2_congr (A B : Prop) (want : Bool) {t t' : CV} (h : t = t') : gQ2 A B want t = gQ2 A B want t' := by rw [h]
@[congr] theorem condQ_congr (A B : Prop) {t t' : CV} (h : t = t') : condQ A B t = condQ A B t' := by rw [h]

/-- A condition: each way knows it. -/
def gR2 (A B : Fr → Prop) (fr : Fr) (want : Bool) (t : Tmp) : CV → Prop
  | .v (.bool b) => if b = want then A (upd fr t (.v (.bool want))) else B (upd fr t (.v (.bool !want)))
  | .tup [] => B fr
  | _ => False
def gR (A B : Fr → Prop) (fr : Fr) (want : Bool) : Option Tmp → Prop
  | none => B fr
  | some t => gR2 A B fr want t (fr t)
theorem upd_self (fr : Fr) (t : Tmp) : upd fr t (fr t) = fr := by
  funext u; unfold upd; split
  · rename_i h; rw [h]
  · rfl
theorem gR2_gQ {A B : Fr → Prop} {fr : Fr} {want : Bool} {t : Tmp} (c : CV) (hc : fr t = c) : gQ2 (A fr) (B fr) want c ↔ gR2 A B fr want t c := by
  cases c with
  | v q =>
    cases q with
    | bool b =>
      simp only [gQ2, gR2]
      by_cases hb : b = want
      · subst hb; rw [if_pos rfl, if_pos rfl, ← hc, upd_self]
      · have : b = !want := by cases b <;> cases want <;> simp_all
        rw [if_neg hb, if_neg hb, ← this, ← hc, upd_self]
    | _ => exact Iff.rfl
  | tup l => cases l <;> exact Iff.rfl
  | _ => exact Iff.rfl
theorem gR_gQ {A B : Fr → Prop} {fr : Fr} {want : Bool} {o : Option Tmp} : gQ (A fr) (B fr) fr want o ↔ gR A B fr want o := by
  cases o with
  | none => exact Iff.rfl
  | some t => exact gR2_gQ _ rfl
@[simp] theorem gR_none (A B : Fr → Prop) (fr : Fr) (want : Bool) : gR A B fr want none ↔ B fr := (Iff.rfl)
@[simp] theorem gR_some (A B : Fr → Prop) (fr : Fr) (want : Bool) (t : Tmp) : gR A B fr want (some t) ↔ gR2 A B fr want t (fr t) := (Iff.rfl)
@[congr] theorem gR_congr (A B : Fr → Prop) (fr : Fr) (want : Bool) {t t' : Option Tmp} (h : t = t') : gR A B fr want t = gR A B fr want t' := by rw [h]
@[congr] theorem gR2_congr (A B : Fr → Prop) (fr : Fr) (want : Bool) (t : Tmp) {c c' : CV} (h : c = c') : gR2 A B fr want t c = gR2 A B fr want t c' := by rw [h]
@[simp] theorem gR2_v (A B : Fr → Prop) (fr : Fr) (want : Bool) (t : Tmp) (b : Bool) : gR2 A B fr want t (.v (.bool b)) ↔ if b = want then A (upd fr t (.v (.bool want))) else B (upd fr t (.v (.bool !want))) := (Iff.rfl)
@[simp] theorem gR2_t (A B : Fr → Prop) (fr : Fr) (want : Bool) (t : Tmp) : gR2 A B fr want t (.tup []) ↔ B fr := (Iff.rfl)
@[simp ↓] theorem WO_ifd (x : Cx) (ops : Array Oper) (d : Tmp) (op : Op) (ty : TypeId) (pos : String) (after : Array Edge) (j : Nat) (want : Bool) (rest : List Oper) (fr : Fr) (H : Hp) (KO : Fr → Hp → Prop) (h : d < x.n) :
    WO x ops (⟨some d, op, ty, pos, after, some (j, want)⟩ :: rest) fr H KO ↔ gR (fun fr => WP x op (fr d) fr H fun y H2 => WO x ops rest (upd fr d y) H2 KO) (fun fr => WO x ops rest (upd fr d (.tup [])) H KO) fr want (guardT ops j) := by
  rw [← gR_gQ]; exact WO_if1 x fr H ops d op ty pos after j want rest KO h
@[simp ↓] theorem WO_ife (x : Cx) (ops : Array Oper) (op : Op) (ty : TypeId) (pos : String) (after : Array Edge) (j : Nat) (want : Bool) (rest : List Oper) (fr : Fr) (H : Hp) (KO : Fr → Hp → Prop) :
    WO x ops (⟨none, op, ty, pos, after, some (j, want)⟩ :: rest) fr H KO ↔ gR (fun fr => WP x op (.tup []) fr H fun y H2 => WO x ops rest fr H2 KO) (fun fr => WO x ops rest fr H KO) fr want (guardT ops j) := by
  rw [← gR_gQ]; exact WO_ifE x fr H ops op ty pos after j want rest KO
attribute [simp ↓] W_skip W_scope W_label W_exit W_ret W_seq W_block W_cond WO_nil WO_one WO_eff WP_move WP_assign WP_pick WP_alloc WP_box WP_build WP_buildSlice WP_load WP_store WP_nilCheck WP_binOp WP_unOp WP_convert WP_makeInterface WP_makeFunc WP_makeMap WP_slice WP_fieldAddr WP_field WP_indexAddr WP_index WP_lookup WP_mapUpdate WP_insert WP_extract WP_len WP_max WP_min WP_append WP_copy WP_unsD WP_unsS WP_call
attribute [simp] WX_some WX_none WX_map WX_bind gQ_some gQ_none upd_same
@[simp ↓] theorem W_region' (x : Cx) (i : Nat) (l : List Oper) (fr : Fr) (H : Hp) (Q : Ex → Fr → Hp → Prop) (hc : x.cfg.clo i = []) : W x (.region i (List.toArray l) false) fr H Q ↔ WO x (List.toArray l) l fr H (Q .norm) := W_region x i _ fr H Q hc
@[simp ↓] theorem W_regionC' (x : Cx) (i : Nat) (l : List Oper) (fr : Fr) (H : Hp) (Q : Ex → Fr → Hp → Prop) (t : Tmp) (ts : List Tmp) (hc : x.cfg.clo i = t :: ts) : W x (.region i (List.toArray l) false) fr H Q ↔ WO x (List.toArray l) l (cloR x.m (t :: ts) (fr, H)).1 (cloR x.m (t :: ts) (fr, H)).2 (Q .norm) := by
  rw [W_regionC, hc]
@[simp ↓] theorem guardT_mk (l : List Oper) (j : Nat) : guardT (List.toArray l) j = gT l j := (rfl)
@[simp ↓] theorem gT_zero (o : Oper) (l : List Oper) : gT (o :: l) 0 = o.dst := (rfl)
@[simp ↓] theorem gT_succ (o : Oper) (l : List Oper) (n : Nat) : gT (o :: l) (n + 1) = gT l n := (rfl)
@[simp] theorem upd_ne' (fr : Fr) (d : Tmp) (x : CV) (t : Tmp) (h : ¬ t = d) : upd fr d x t = fr t := by simp [upd, h]
@[simp ↓] theorem seqQ_norm (x : Cx) (b : Code) (Q : Ex → Fr → Hp → Prop) (fr : Fr) (H : Hp) : seqQ x b Q .norm fr H ↔ W x b fr H Q := (Iff.rfl)
@[simp ↓] theorem seqQ_exit (x : Cx) (b : Code) (Q : Ex → Fr → Hp → Prop) (fr : Fr) (H : Hp) (i : Nat) : seqQ x b Q (.exit i) fr H ↔ Q (.exit i) fr H := (Iff.rfl)
@[simp ↓] theorem seqQ_ret (x : Cx) (b : Code) (Q : Ex → Fr → Hp → Prop) (fr : Fr) (H : Hp) : seqQ x b Q .ret fr H ↔ Q .ret fr H := (Iff.rfl)
@[simp ↓] theorem scoQ_norm (Q : Ex → Fr → Hp → Prop) (fr : Fr) (H : Hp) : scoQ Q .norm fr H ↔ Q .norm fr H := (Iff.rfl)
@[simp ↓] theorem scoQ_ret (Q : Ex → Fr → Hp → Prop) (fr : Fr) (H : Hp) : scoQ Q .ret fr H ↔ Q .ret fr H := (Iff.rfl)
@[simp ↓] theorem scoQ_exit (j : Nat) (Q : Ex → Fr → Hp → Prop) (fr : Fr) (H : Hp) : scoQ Q (.exit j) fr H ↔ Q (.exit j) fr H := (Iff.rfl)
@[simp ↓] theorem blkQ_norm (i : Nat) (Q : Ex → Fr → Hp → Prop) (fr : Fr) (H : Hp) : blkQ i Q .norm fr H ↔ Q .norm fr H := (Iff.rfl)
@[simp ↓] theorem blkQ_ret (i : Nat) (Q : Ex → Fr → Hp → Prop) (fr : Fr) (H : Hp) : blkQ i Q .ret fr H ↔ Q .ret fr H := (Iff.rfl)
@[simp ↓] theorem blkQ_exit (i j : Nat) (Q : Ex → Fr → Hp → Prop) (fr : Fr) (H : Hp) : blkQ i Q (.exit j) fr H ↔ if j = i then Q .norm fr H else Q (.exit j) fr H := (Iff.rfl)
@[simp] theorem condQ_v (A B : Prop) (t : Bool) : condQ A B (.v (.bool t)) ↔ if t = true then A else B := (Iff.rfl)
@[simp] theorem gQ2_v (A B : Prop) (w t : Bool) : gQ2 A B w (.v (.bool t)) ↔ if t = w then A else B := (Iff.rfl)
@[simp] theorem gQ2_t (A B : Prop) (w : Bool) : gQ2 A B w (.tup []) ↔ B := (Iff.rfl)
@[simp] theorem evO_tmp (fr : Fr) (t : Tmp) : evO fr (.tmp t) = some (fr t) := (rfl)
@[simp] theorem evO_int (fr : Fr) (k : IntKind) (n : Int) : evO fr (.const (.int k n)) = some (.v (.int k n)) := (rfl)
@[simp] theorem evO_bool (fr : Fr) (b : Bool) : evO fr (.const (.bool b)) = some (.v (.bool b)) := (rfl)
@[simp] theorem evO_str (fr : Fr) (b : ByteArray) : evO fr (.const (.string b)) = some (.v (.string b)) := (rfl)
@[simp] theorem evO_func (fr : Fr) (f : FuncId) : evO fr (.func f) = some (.v (.func (.func f) #[] #[])) := (rfl)
@[simp] theorem evO_nil (fr : Fr) : evO fr (.const .nilIface) = some (.v .nilIface) := (rfl)
@[simp] theorem evO_slice (fr : Fr) : evO fr (.const (.slice none 0 0)) = some (.v (.slice none 0 0)) := (rfl)
@[simp] theorem evO_ptr (fr : Fr) : evO fr (.const (.pointer none)) = some (.v (.pointer none)) := (rfl)
@[simp] theorem unlit_v (v : Value) : unlit (.v v) = .v v := (rfl)
@[simp] theorem unlit_im (l : List CV) (a b : Nat) : unlit (.im l a b) = .im l a b := (rfl)
@[simp] theorem unlit_ptr (a b c : Nat) : unlit (.ptr a b c) = .ptr a b c := (rfl)
@[simp] theorem unlit_sl (a b c d e : Nat) : unlit (.sl a b c d e) = .sl a b c d e := (rfl)
@[simp] theorem unlit_agg (l : List CV) : unlit (.agg l) = .agg l := (rfl)
@[simp] theorem unlit_tup (l : List CV) : unlit (.tup l) = .tup l := (rfl)
@[simp] theorem unlit_lit (l : List CV) (a b : Nat) : unlit (.lit l a b) = .im l a b := (rfl)
@[simp] theorem unlit_ifc (t : TypeId) (x : CV) : unlit (.ifc t x) = .ifc t x := (rfl)
@[simp] theorem unlit_ip (l : List CV) : unlit (.ip l) = .ip l := (rfl)
@[simp] theorem unlit_mp (a b : Nat) : unlit (.mp a b) = .mp a b := (rfl)
@[simp] theorem unlit_fn (f : Fn) (a b : List CV) : unlit (.fn f a b) = .fn f a b := (rfl)
@[simp] theorem dBin_int (P : Program) (op : BinOp) (t : TypeId) (k : IntKind) (a b : Int) (H : Hp) : dBin P op t (.v (.int k a)) (.v (.int k b)) H = (binA op (.int k a) (.int k b)).map .v := (rfl)
@[simp] theorem dBin_str (P : Program) (op : BinOp) (t : TypeId) (a b : ByteArray) (H : Hp) : dBin P op t (.v (.string a)) (.v (.string b)) H = (binA op (.string a) (.string b)).map .v := (rfl)
@[simp] theorem binA_lss (k : IntKind) (a b : Int) : binA .lss (.int k a) (.int k b) = some (.bool (decide (a < b))) := by simp [binA]
@[simp] theorem binA_leq (k : IntKind) (a b : Int) : binA .leq (.int k a) (.int k b) = some (.bool (decide (a ≤ b))) := by simp [binA]
@[simp] theorem binA_gtr (k : IntKind) (a b : Int) : binA .gtr (.int k a) (.int k b) = some (.bool (decide (b < a))) := by simp [binA]
@[simp] theorem binA_geq (k : IntKind) (a b : Int) : binA .geq (.int k a) (.int k b) = some (.bool (decide (b ≤ a))) := by simp [binA]
@[simp] theorem binA_eql (k : IntKind) (a b : Int) : binA .eql (.int k a) (.int k b) = some (.bool (decide (a = b))) := by simp [binA]; rfl
@[simp] theorem binA_neq (k : IntKind) (a b : Int) : binA .neq (.int k a) (.int k b) = some (.bool (!decide (a = b))) := by simp [binA, bne]; rfl
@[simp] theorem binA_add (k : IntKind) (a b : Int) : binA .add (.int k a) (.int k b) = some (.int k (k.wrap (a + b))) := by simp [binA]
@[simp] theorem binA_sub (k : IntKind) (a b : Int) : binA .sub (.int k a) (.int k b) = some (.int k (k.wrap (a - b))) := by simp [binA]
@[simp] theorem dLenS_str {P : Program} {t : TypeId} (h : P.underlying t = some .string) (s : ByteArray) (H : Hp) : dLenS P t (.v (.string s)) H = some (.v (.int .i64 s.size)) := by simp [dLenS, dLen, h]
@[simp] theorem dIndex_str {P : Program} {t : TypeId} (h : P.underlying t = some .string) (s : ByteArray) (k : IntKind) (i : Int) : dIndex P t (.v (.string s)) (.v (.int k i)) = if 0 ≤ i ∧ i < s.size then some (.v (.int .u8 (s.get! i.toNat).toNat)) else none := by simp [dIndex, h]
@[simp ↓] theorem retQ_ret (P : Program) (m : Nat) (rs : List ResultVar) (K : CV → Hp → Prop) (fr : Fr) (H : Hp) : retQ P m rs K .ret fr H ↔ WX (resC P fr H rs) fun xs => WX (frz H m (one xs)) fun y => K y (H.take m) := (Iff.rfl)
@[simp ↓] theorem retQ_norm (P : Program) (m : Nat) (rs : List ResultVar) (K : CV → Hp → Prop) (fr : Fr) (H : Hp) : retQ P m rs K .norm fr H ↔ WX (resC P fr H rs) fun xs => WX (frz H m (one xs)) fun y => K y (H.take m) := (Iff.rfl)
@[simp ↓] theorem rawQ_ret (P : Program) (rs : List ResultVar) (K : CV → Hp → Prop) (fr : Fr) (H : Hp) : rawQ P rs K .ret fr H ↔ WX (resC P fr H rs) fun xs => K (one xs) H := (Iff.rfl)
@[simp ↓] theorem rawQ_norm (P : Program) (rs : List ResultVar) (K : CV → Hp → Prop) (fr : Fr) (H : Hp) : rawQ P rs K .norm fr H ↔ WX (resC P fr H rs) fun xs => K (one xs) H := (Iff.rfl)
attribute [simp] topLe
@[simp] theorem resC_nil (P : Program) (fr : Fr) (H : Hp) : resC P fr H [] = some [] := (rfl)
@[simp] theorem resC_tmp (P : Program) (fr : Fr) (H : Hp) (t : Tmp) (rs : List ResultVar) : resC P fr H (.tmp t :: rs) = (resC P fr H rs).map (unlit (fr t) :: ·) := (rfl)
@[simp] theorem resC_cell (P : Program) (fr : Fr) (H : Hp) (a : Tmp) (t : TypeId) (rs : List ResultVar) : resC P fr H (.cell a t :: rs) = (dLoad P t (fr a) H).bind fun x => (resC P fr H rs).map (x :: ·) := (rfl)
@[simp] theorem one_one (x : CV) : one [x] = x := (rfl)
@[simp] theorem one_nil : one [] = .tup [] := (rfl)
@[simp] theorem one_more (x y : CV) (l : List CV) : one (x :: y :: l) = .tup (x :: y :: l) := (rfl)
@[simp] theorem frzL_nil (f : CV → Option CV) : frzL f [] = some [] := (rfl)
@[simp] theorem frzL_cons (f : CV → Option CV) (x : CV) (xs : List CV) : frzL f (x :: xs) = (f x).bind fun y => (frzL f xs).map (y :: ·) := (rfl)
@[simp] theorem frz_v (H : Hp) (m : Nat) (x : Value) : frz H m (.v x) = frz1 H m (.v x) := (rfl)
@[simp] theorem frz2_v (H : Hp) (m : Nat) (x : Value) : frz2 H m (.v x) = frz1 H m (.v x) := (rfl)
@[simp] theorem frz_ptr (H : Hp) (m : Nat) (a b c : Nat) : frz H m (.ptr a b c) = frz1 H m (.ptr a b c) := (rfl)
@[simp] theorem frz2_ptr (H : Hp) (m : Nat) (a b c : Nat) : frz2 H m (.ptr a b c) = frz1 H m (.ptr a b c) := (rfl)
@[simp] theorem frz_sl (H : Hp) (m : Nat) (a b c d e : Nat) : frz H m (.sl a b c d e) = frz1 H m (.sl a b c d e) := (rfl)
@[simp] theorem frz2_sl (H : Hp) (m : Nat) (a b c d e : Nat) : frz2 H m (.sl a b c d e) = frz1 H m (.sl a b c d e) := (rfl)
@[simp] theorem frz_im (H : Hp) (m : Nat) (l : List CV) (a b : Nat) : frz H m (.im l a b) = frz1 H m (.im l a b) := (rfl)
@[simp] theorem frz2_im (H : Hp) (m : Nat) (l : List CV) (a b : Nat) : frz2 H m (.im l a b) = frz1 H m (.im l a b) := (rfl)
@[simp] theorem frz_ip (H : Hp) (m : Nat) (l : List CV) : frz H m (.ip l) = frz1 H m (.ip l) := (rfl)
@[simp] theorem frz2_ip (H : Hp) (m : Nat) (l : List CV) : frz2 H m (.ip l) = frz1 H m (.ip l) := (rfl)
@[simp] theorem frz_lit (H : Hp) (m : Nat) (l : List CV) (a b : Nat) : frz H m (.lit l a b) = frz1 H m (.lit l a b) := (rfl)
@[simp] theorem frz2_lit (H : Hp) (m : Nat) (l : List CV) (a b : Nat) : frz2 H m (.lit l a b) = frz1 H m (.lit l a b) := (rfl)
@[simp] theorem frz_mp (H : Hp) (m : Nat) (a b : Nat) : frz H m (.mp a b) = frz1 H m (.mp a b) := (rfl)
@[simp] theorem frz2_mp (H : Hp) (m : Nat) (a b : Nat) : frz2 H m (.mp a b) = frz1 H m (.mp a b) := (rfl)
@[simp] theorem frz_fn (H : Hp) (m : Nat) (f : Fn) (a b : List CV) : frz H m (.fn f a b) = frz1 H m (.fn f a b) := (rfl)
@[simp] theorem frz2_fn (H : Hp) (m : Nat) (f : Fn) (a b : List CV) : frz2 H m (.fn f a b) = frz1 H m (.fn f a b) := (rfl)
@[simp] theorem frz_ifc (H : Hp) (m : Nat) (t : TypeId) (x : CV) : frz H m (.ifc t x) = frz1 H m (.ifc t x) := (rfl)
@[simp] theorem frz2_ifc (H : Hp) (m : Nat) (t : TypeId) (x : CV) : frz2 H m (.ifc t x) = frz1 H m (.ifc t x) := (rfl)
@[simp] theorem frz_agg (H : Hp) (m : Nat) (l : List CV) : frz H m (.agg l) = (frzL (frz1 H m) l).map .agg := (rfl)
@[simp] theorem frz2_agg (H : Hp) (m : Nat) (l : List CV) : frz2 H m (.agg l) = (frzL (frz1 H m) l).map .agg := (rfl)
@[simp] theorem frz_tup (H : Hp) (m : Nat) (l : List CV) : frz H m (.tup l) = (frzL (frz2 H m) l).map .tup := (rfl)
@[simp] theorem frz1_v (H : Hp) (m : Nat) (x : Value) : frz1 H m (.v x) = some (.v x) := (rfl)
@[simp] theorem frz1_im (H : Hp) (m : Nat) (l : List CV) (a b : Nat) : frz1 H m (.im l a b) = some (.im l a b) := (rfl)
@[simp] theorem frz1_ip (H : Hp) (m : Nat) (l : List CV) : frz1 H m (.ip l) = some (.ip l) := (rfl)
@[simp] theorem frz1_lit (H : Hp) (m : Nat) (l : List CV) (a b : Nat) : frz1 H m (.lit l a b) = some (.im l a b) := (rfl)
@[simp] theorem frz1_sl (H : Hp) (m id ver off len sz : Nat) : frz1 H m (.sl id ver off len sz) = if id < m then some (.sl id ver off len sz) else (atS H (.sl id ver off len sz)).bind fun cn => if cn.1.all clB && decide (cn.1.length = len * sz) then some (.im cn.1 len sz) else none := (rfl)
@[simp] theorem frz1_ptr (H : Hp) (m id ver off : Nat) : frz1 H m (.ptr id ver off) = if id < m then some (.ptr id ver off) else none := by simp [frz1, topLe]
@[simp] theorem frz1_mp (H : Hp) (m id ver : Nat) : frz1 H m (.mp id ver) = if id < m then some (.mp id ver) else none := by simp [frz1, topLe]
@[simp] theorem frz1_ifc (H : Hp) (m : Nat) (t : TypeId) (x : CV) : frz1 H m (.ifc t x) = if topLe m x = true then some (.ifc t x) else none := by
  cases h : topLe m x <;> simp [frz1, topLe, h]
@[simp] theorem frame_at (args : List CV) (t : Tmp) : frame args t = args.getD t (.tup []) := (rfl)
end Go.SL

/- A region whose order is drawn, where what has no order has no bearing on each other: as in the text's order. -/
namespace Go.SL
set_option linter.unusedVariables false

theorem evL_congr {fr fr' : Fr} : ∀ {l : List Operand}, (∀ x ∈ l, evO fr x = evO fr' x) → evL fr l = evL fr' l
  | [], _ => rfl
  | o :: os, h => by
    unfold evL
    rw [h o (by simp), evL_congr fun x hx => h x (by simp [hx])]
theorem evP_congr {fr fr' : Fr} : ∀ {l : List (Nat × Operand)}, (∀ x ∈ l.map (·.2), evO fr x = evO fr' x) → evP fr l = evP fr' l
  | [], _ => rfl
  | o :: os, h => by
    unfold evP
    rw [h o.2 (by simp), evP_congr fun x hx => h x (by simp only [List.map_cons, List.mem_cons]; exact .inr hx)]
theorem evM_congr {fr fr' : Fr} {o : Option Operand} (h : ∀ x ∈ o.toArray, evO fr x = evO fr' x) : evM fr o = evM fr' o := by
  cases o with
  | none => rfl
  | some x => show (evO fr x).map some = (evO fr' x).map some; rw [h x (by simp)]

theorem opX_congr {P : Program} {cfg : Cfg} {ce : CallE} {m : Nat} {fr fr' : Fr} {old : CV} {H : Hp} (o : Op) (h : ∀ x ∈ o.operands, evO fr x = evO fr' x) : opX P cfg ce m fr old H o = opX P cfg ce m fr' old H o := by
  cases o <;> simp only [Op.operands] at h
  case call c =>
    obtain ⟨callee, args, ts⟩ := c
    have ha : evL fr args.toList = evL fr' args.toList := evL_congr fun x hx => h x (by simp only [Call.operands]; exact Array.mem_append.2 (.inr (by simpa using hx)))
    cases callee with
    | value f =>
      have hf := h f (by simp [Call.operands])
      simp only [opX, ha, hf]
    | invoke r q => simp only [opX, opE, stOK]
    | builtin b =>
      have e1 : stOK m fr (.call ⟨.builtin b, args, ts⟩) = stOK m fr' (.call ⟨.builtin b, args, ts⟩) := by cases b <;> simp only [stOK, ha]
      have e2 : opE P cfg fr old H (.call ⟨.builtin b, args, ts⟩) = opE P cfg fr' old H (.call ⟨.builtin b, args, ts⟩) := by simp only [opE, ha]
      show (if stOK m fr _ then opE P cfg fr old H _ else none) = _
      rw [e1, e2]; rfl
  case build t ps => simp only [opX, opE, stOK, evP_congr (l := ps.toList) fun x hx => h x (by simpa using hx)]
  case buildSlice t n ps => simp only [opX, opE, stOK, evP_congr (l := ps.toList) fun x hx => h x (by simpa using hx)]
  case makeFunc f a b =>
    have ha : evL fr a.toList = evL fr' a.toList := evL_congr fun x hx => h x (Array.mem_append.2 (.inl (by simpa using hx)))
    have hb : evL fr b.toList = evL fr' b.toList := evL_congr fun x hx => h x (Array.mem_append.2 (.inr (by simpa using hx)))
    cases f <;> simp only [opX, opE, stOK, ha, hb]
  case makeMap t r => cases r <;> simp only [opX, opE, stOK]
  case slice t x lo hi mx' =>
    have hx := h x (by simp)
    have hl := evM_congr (fr := fr) (fr' := fr') (o := lo) fun y hy => h y (by simp only [Array.mem_append]; exact .inl (.inl (.inr hy)))
    have hh := evM_congr (fr := fr) (fr' := fr') (o := hi) fun y hy => h y (by simp only [Array.mem_append]; exact .inl (.inr hy))
    cases mx' <;> simp only [opX, opE, stOK, hx, hl, hh]
  case mapUpdate t q k x =>
    have h1 := h q (by simp)
    have h2 := h k (by simp)
    have h3 := h x (by simp)
    have e1 : stOK m fr (.mapUpdate t q k x) = stOK m fr' (.mapUpdate t q k x) := by simp only [stOK, h1, h3]
    have e2 : opE P cfg fr old H (.mapUpdate t q k x) = opE P cfg fr' old H (.mapUpdate t q k x) := by simp only [opE, h1, h2, h3]
    show (if stOK m fr _ then opE P cfg fr old H _ else none) = _
    rw [e1, e2]; rfl
  case insert t q k x =>
    have h1 := h q (by simp)
    have h2 := h k (by simp)
    have h3 := h x (by simp)
    have e1 : stOK m fr (.insert t q k x) = stOK m fr' (.insert t q k x) := by simp only [stOK, h1, h3]
    have e2 : opE P cfg fr old H (.insert t q k x) = opE P cfg fr' old H (.insert t q k x) := by simp only [opE, h1, h2, h3]
    show (if stOK m fr _ then opE P cfg fr old H _ else none) = _
    rw [e1, e2]; rfl
  case store t q x =>
    have h1 := h q (by simp)
    have h3 := h x (by simp)
    have e1 : stOK m fr (.store t q x) = stOK m fr' (.store t q x) := by simp only [stOK, h1, h3]
    have e2 : opE P cfg fr old H (.store t q x) = opE P cfg fr' old H (.store t q x) := by simp only [opE, h1, h3]
    show (if stOK m fr _ then opE P cfg fr old H _ else none) = _
    rw [e1, e2]; rfl
  case pick c a b =>
    have h1 := h c (by simp)
    have h2 := h a (by simp)
    have h3 := h b (by simp)
    simp only [opX, opE, stOK, h1]
    congr 1
    congr 1
    funext c
    split
    · rename_i t; cases t <;> simp [h2, h3]
    · rfl
  all_goals (first
    | (simp only [opX, opE, stOK]; done)
    | (rename_i a; have h1 := h a (by simp); simp only [opX, opE, stOK, h1]; done)
    | (rename_i a b; have h1 := h a (by simp); simp only [opX, opE, stOK, h1]; done)
    | (rename_i a b; have h1 := h b (by simp); simp only [opX, opE, stOK, h1]; done)
    | (rename_i a b; have h1 := h a (by simp); have h2 := h b (by simp); simp only [opX, opE, stOK, h1, h2]; done)
    | (rename_i a b c; have h1 := h b (by simp); simp only [opX, opE, stOK, h1]; done)
    | (rename_i a b c; have h1 := h b (by simp); have h2 := h c (by simp); simp only [opX, opE, stOK, h1, h2]; done)
    | (rename_i a b c d; have h1 := h b (by simp); have h2 := h c (by simp); simp only [opX, opE, stOK, h1, h2]; done)
    | (rename_i a b c d; have h1 := h b (by simp); have h2 := h c (by simp); have h3 := h d (by simp); simp only [opX, opE, stOK, h1, h2, h3]; done)
    | (rename_i a b c d e; have h1 := h c (by simp); have h2 := h d (by simp); simp only [opX, opE, stOK, h1, h2]; done))

/-- What an operation does. -/
def actX (P : Program) (cfg : Cfg) (ce : CallE) (m : Nat) (ops : Array Oper) (o : Oper) (fr : Fr) (H : Hp) : Option (CV × Hp) :=
  (wantC fr ops o).bind fun b => if b then opX P cfg ce m fr (oldC fr o.dst) H o.op else some (.tup [], H)
def stepX (P : Program) (cfg : Cfg) (ce : CallE) (m n : Nat) (ops : Array Oper) (o : Oper) (fr : Fr) (H : Hp) : Option (Fr × Hp) :=
  (actX P cfg ce m ops o fr H).bind fun y => (putC n fr o.dst y.1).map (·, y.2)
theorem evOps_step {P : Program} {cfg : Cfg} {ce : CallE} {m n : Nat} {ops : Array Oper} {o : Oper} {rest : List Oper} {fr : Fr} {H : Hp} :
    evOps P cfg ce m n ops (o :: rest) fr H = (stepX P cfg ce m n ops o fr H).bind fun s => evOps P cfg ce m n ops rest s.1 s.2 := by
  unfold stepX actX
  cases hw : wantC fr ops o with
  | none => rw [evOps_none hw]; rfl
  | some b =>
    cases b with
    | true =>
      rw [evOps_do hw]
      simp only [Option.bind_some, if_true]
      cases opX P cfg ce m fr (oldC fr o.dst) H o.op with
      | none => rfl
      | some y =>
        simp only [Option.bind_some]
        cases putC n fr o.dst y.1 <;> rfl
    | false =>
      rw [evOps_not hw]
      simp only [Option.bind_some, Bool.false_eq_true, if_false]
      cases putC n fr o.dst (.tup []) <;> rfl

theorem actX_put {P : Program} {cfg : Cfg} {ce : CallE} {m n : Nat} {ops : Array Oper} {o1 o2 : Oper} {fr fr1 : Fr} {H : Hp} {y : CV} (hput : putC n fr o1.dst y = some fr1)
    (h : ∀ d, o1.dst = some d → d ∉ o2.looksAt ops) (hd : ∀ d, o1.dst = some d → o2.dst ≠ some d) : actX P cfg ce m ops o2 fr1 H = actX P cfg ce m ops o2 fr H := by
  cases hd1 : o1.dst with
  | none => rw [hd1] at hput; simp only [putC, Option.some.injEq] at hput; rw [hput]
  | some d =>
    rw [hd1] at hput
    have h := h d hd1
    have hd := hd d hd1
    have hfr : ∀ t, t ≠ d → fr1 t = fr t := by
      intro t ht
      simp only [putC] at hput
      split at hput
      · cases hput; simp [ht]
      · cases hput
    have hw : wantC fr1 ops o2 = wantC fr ops o2 := by
      unfold wantC
      cases hg : o2.guard with
      | none => rfl
      | some gw =>
        obtain ⟨j, want⟩ := gw
        simp only []
        cases ht : (ops[j]?).bind (·.dst) with
        | none => rfl
        | some t =>
          have : t ≠ d := fun e => h (by subst e; simp [Oper.looksAt, hg, ht])
          simp only [hfr t this]
    have hold : oldC fr1 o2.dst = oldC fr o2.dst := by
      cases h2 : o2.dst with
      | none => rfl
      | some t => exact hfr t fun e => hd (by rw [h2, e])
    have hop : ∀ x ∈ o2.op.operands, evO fr1 x = evO fr x := by
      intro x hx
      cases x with
      | tmp t =>
        have : t ≠ d := fun e => h (by
          subst e
          exact List.mem_append_left _ (List.mem_filterMap.2 ⟨.tmp t, by simpa using hx, rfl⟩))
        simp only [evO, hfr t this]
      | _ => rfl
    unfold actX
    rw [hw, hold]
    congr 1
    funext b
    split
    · exact opX_congr _ hop
    · rfl

/-- Two operations may change places. -/
def Cmt (P : Program) (cfg : Cfg) (ce : CallE) (m n : Nat) (ops : Array Oper) (o1 o2 : Oper) : Prop :=
  ∀ fr H s1 s2, stepX P cfg ce m n ops o1 fr H = some s1 → stepX P cfg ce m n ops o2 s1.1 s1.2 = some s2 → ∃ t1, stepX P cfg ce m n ops o2 fr H = some t1 ∧ stepX P cfg ce m n ops o1 t1.1 t1.2 = some s2

theorem putC_comm {n : Nat} {fr fr1 fr2 : Fr} {d e : Option Tmp} {x y : CV} (hne : ∀ t, d = some t → e ≠ some t) (h1 : putC n fr d x = some fr1) (h2 : putC n fr1 e y = some fr2) : ∃ fr', putC n fr e y = some fr' ∧ putC n fr' d x = some fr2 := by
  cases d with
  | none => simp only [putC, Option.some.injEq] at h1; subst h1; exact ⟨fr2, h2, rfl⟩
  | some d =>
    cases e with
    | none => simp only [putC, Option.some.injEq] at h2; subst h2; exact ⟨fr, rfl, h1⟩
    | some e =>
      have hde : d ≠ e := fun he => hne d rfl (by rw [he])
      simp only [putC] at h1 h2 ⊢
      split at h1
      · rename_i hd
        cases h1
        split at h2
        · rename_i he
          cases h2
          refine ⟨_, by rw [if_pos he], ?_⟩
          rw [if_pos hd]
          congr 1
          funext t
          by_cases ht : t = d
          · subst ht; simp [hde]
          · simp [ht]
        · cases h2
      · cases h1

def Pur (P : Program) (cfg : Cfg) (ce : CallE) (m : Nat) (ops : Array Oper) (o : Oper) : Prop := ∀ fr H H', actX P cfg ce m ops o fr H = (actX P cfg ce m ops o fr H').map fun y => (y.1, H)
def Rd (P : Program) (cfg : Cfg) (ce : CallE) (m : Nat) (ops : Array Oper) (o : Oper) : Prop := ∀ fr H y, actX P cfg ce m ops o fr H = some y → y.2 = H
theorem Pur.rd {P : Program} {cfg : Cfg} {ce : CallE} {m : Nat} {ops : Array Oper} {o : Oper} (h : Pur P cfg ce m ops o) : Rd P cfg ce m ops o := by
  intro fr H y hy
  rw [h fr H H] at hy
  obtain ⟨z, _, rfl⟩ := Option.map_eq_some_iff.1 hy
  rfl

theorem cmt_of {P : Program} {cfg : Cfg} {ce : CallE} {m n : Nat} {ops : Array Oper} {o1 o2 : Oper} (hap : o1.apart ops o2 = true)
    (h : Pur P cfg ce m ops o1 ∨ Pur P cfg ce m ops o2 ∨ (Rd P cfg ce m ops o1 ∧ Rd P cfg ce m ops o2)) : Cmt P cfg ce m n ops o1 o2 := by
  obtain ⟨a1, a2, a3⟩ := Oper.apart_spec hap
  intro fr H s1 s2 h1 h2
  obtain ⟨⟨y1, H1⟩, b1, h1⟩ := Option.bind_eq_some_iff.1 h1
  obtain ⟨fr1, b2, h1⟩ := Option.map_eq_some_iff.1 h1
  cases h1
  obtain ⟨⟨y2, H2⟩, c1, h2⟩ := Option.bind_eq_some_iff.1 h2
  obtain ⟨fr2, c2, h2⟩ := Option.map_eq_some_iff.1 h2
  cases h2
  simp only at b2 c1 c2 ⊢
  rw [actX_put b2 a1 a2] at c1
  obtain ⟨fr', d1, d2⟩ := putC_comm a2 b2 c2
  have back : ∀ K, actX P cfg ce m ops o1 fr' K = actX P cfg ce m ops o1 fr K := fun K => actX_put d1 a3 (fun d hd e => a2 d e hd)
  have key : ∃ Hm, actX P cfg ce m ops o2 fr H = some (y2, Hm) ∧ actX P cfg ce m ops o1 fr Hm = some (y1, H2) := by
    rcases h with h | h | ⟨h, h'⟩
    · have e : H1 = H := h.rd _ _ _ b1
      subst e
      refine ⟨H2, c1, ?_⟩
      rw [h fr H2 H1, b1]; rfl
    · have e : H2 = H1 := h.rd _ _ _ c1
      subst e
      refine ⟨H, ?_, b1⟩
      rw [h fr H H2, c1]; rfl
    · have e : H1 = H := h _ _ _ b1
      have e' : H2 = H1 := h' _ _ _ c1
      subst e; subst e'
      exact ⟨_, c1, b1⟩
  obtain ⟨Hm, k1, k2⟩ := key
  refine ⟨(fr', Hm), ?_, ?_⟩
  · unfold stepX; rw [k1]; simp only [Option.bind_some, d1, Option.map_some]
  · unfold stepX; simp only [back, k2, Option.bind_some, d2, Option.map_some]

theorem evOps_front {P : Program} {cfg : Cfg} {ce : CallE} {m n : Nat} {ops : Array Oper} {o : Oper} {r : Fr × Hp} : ∀ (A B : List Oper) (fr : Fr) (H : Hp), (∀ x ∈ A, Cmt P cfg ce m n ops x o) → evOps P cfg ce m n ops (A ++ o :: B) fr H = some r → evOps P cfg ce m n ops (o :: (A ++ B)) fr H = some r
  | [], B, fr, H, _, h => h
  | x :: A, B, fr, H, hc, h => by
    rw [List.cons_append, evOps_step] at h
    obtain ⟨s1, h1, h⟩ := Option.bind_eq_some_iff.1 h
    have h2 := evOps_front A B s1.1 s1.2 (fun y hy => hc y (by simp [hy])) h
    rw [evOps_step] at h2
    obtain ⟨s2, h3, h4⟩ := Option.bind_eq_some_iff.1 h2
    obtain ⟨t1, h5, h6⟩ := hc x (by simp) fr H s1 s2 h1 h3
    rw [evOps_step, h5, Option.bind_some, List.cons_append, evOps_step, h6, Option.bind_some, h4]

end Go.SL

/- What can be seen of a region whose order is drawn: that its order has no bearing. -/
namespace Go.SL
set_option linter.unusedVariables false

def purB : Op → Bool
  | .move _ | .assign _ | .pick .. | .unOp .. | .field .. | .index .. | .extract .. | .build .. | .makeFunc .. | .makeInterface .. => true
  | .binOp op .. => match op with | .eql | .neq => false | _ => true
  | _ => false
def rdB (mu : Bool) : Op → Bool
  | .load .. | .nilCheck .. | .binOp .. | .slice .. | .fieldAddr .. | .indexAddr .. | .lookup .. => true
  | .convert .. => !mu
  | .call ⟨.builtin .len, _, _⟩ | .call ⟨.builtin .unsafeSliceData, _, _⟩ => true
  | o => purB o

theorem dBin_pur {P : Program} {op : BinOp} {t : TypeId} {x y : CV} (h1 : op ≠ .eql) (h2 : op ≠ .neq) (H H' : Hp) : dBin P op t x y H = dBin P op t x y H' := by
  unfold dBin
  split
  · rfl
  · split <;> first
      | rfl
      | (cases op <;> first | rfl | exact absurd rfl h1 | exact absurd rfl h2)

theorem opX_pur {P : Program} {cfg : Cfg} {ce : CallE} {m : Nat} {fr : Fr} {old : CV} {o : Op} (h : purB o = true) (H H' : Hp) : opX P cfg ce m fr old H o = (opX P cfg ce m fr old H' o).map fun y => (y.1, H) := by
  cases o <;> simp only [purB, Bool.false_eq_true] at h
  case move a => simp only [opX, opE, stOK, if_true]; cases evO fr a <;> rfl
  case assign a => simp only [opX, opE, stOK, if_true]; cases evO fr a <;> rfl
  case pick c a b =>
    simp only [opX, opE, stOK, if_true]
    cases evO fr c with
    | none => rfl
    | some q =>
      simp only [Option.bind_some]
      split
      · simp only [Option.map_map]; rfl
      · rfl
  case unOp op t a => simp only [opX, opE, stOK, if_true]; cases evO fr a <;> simp [Option.map_map] <;> rfl
  case field t a f => simp only [opX, opE, stOK, if_true]; cases evO fr a <;> simp [Option.map_map] <;> rfl
  case index t a i => simp only [opX, opE, stOK, if_true]; cases evO fr a <;> cases evO fr i <;> simp [Option.map_map] <;> rfl
  case extract a i => simp only [opX, opE, stOK, if_true]; cases evO fr a <;> simp [Option.map_map] <;> rfl
  case build t ps => simp only [opX, opE, stOK, if_true]; cases evP fr ps.toList <;> simp [Option.map_map] <;> rfl
  case makeInterface t a =>
    simp only [opX, opE, stOK, if_true]
    cases evO fr a with
    | none => rfl
    | some q => simp only [Option.bind_some]; split <;> rfl
  case makeFunc f a b =>
    cases f <;> simp only [opX, opE, stOK, if_true] <;> first
      | rfl
      | (cases evL fr a.toList <;> cases evL fr b.toList <;> rfl)
  case binOp op t a b q =>
    have h1 : op ≠ .eql := by intro e; subst e; simp at h
    have h2 : op ≠ .neq := by intro e; subst e; simp at h
    simp only [opX, opE, stOK, if_true]
    cases evO fr a with
    | none => rfl
    | some u =>
      cases evO fr b with
      | none => rfl
      | some v => simp only [Option.bind_some, Option.map_map, dBin_pur h1 h2 H H']; rfl

theorem map_rd {H : Hp} {o : Option CV} {y : CV × Hp} (h : o.map (·, H) = some y) : y.2 = H := by
  obtain ⟨z, _, rfl⟩ := Option.map_eq_some_iff.1 h; rfl

theorem opX_rd {P : Program} {cfg : Cfg} {ce : CallE} {m : Nat} {fr : Fr} {old : CV} {o : Op} (h : rdB cfg.mu o = true) (H : Hp) (y : CV × Hp) (hy : opX P cfg ce m fr old H o = some y) : y.2 = H := by
  have pur : purB o = true → y.2 = H := by
    intro hp
    rw [opX_pur hp H H] at hy
    obtain ⟨z, _, rfl⟩ := Option.map_eq_some_iff.1 hy; rfl
  cases o <;> first
    | (refine pur ?_; simpa only [rdB] using h)
    | (simp only [rdB, purB, Bool.false_eq_true] at h; done)
    | skip
  case load t a =>
    simp only [opX, opE, stOK, if_true] at hy
    obtain ⟨u, _, hy⟩ := Option.bind_eq_some_iff.1 hy
    exact map_rd hy
  case nilCheck a =>
    simp only [opX, opE, stOK, if_true] at hy
    obtain ⟨u, _, hy⟩ := Option.bind_eq_some_iff.1 hy
    split at hy <;> cases hy; rfl
  case binOp op t a b q =>
    simp only [opX, opE, stOK, if_true] at hy
    obtain ⟨u, _, hy⟩ := Option.bind_eq_some_iff.1 hy
    obtain ⟨u, _, hy⟩ := Option.bind_eq_some_iff.1 hy
    exact map_rd hy
  case slice t a lo hi mx' =>
    cases mx' with
    | some q => simp only [opX, opE, stOK, if_true] at hy; cases hy
    | none =>
      simp only [opX, opE, stOK, if_true] at hy
      obtain ⟨u, _, hy⟩ := Option.bind_eq_some_iff.1 hy
      obtain ⟨u, _, hy⟩ := Option.bind_eq_some_iff.1 hy
      obtain ⟨u, _, hy⟩ := Option.bind_eq_some_iff.1 hy
      exact map_rd hy
  case fieldAddr t a f =>
    simp only [opX, opE, stOK, if_true] at hy
    obtain ⟨u, _, hy⟩ := Option.bind_eq_some_iff.1 hy
    exact map_rd hy
  case indexAddr t a i =>
    simp only [opX, opE, stOK, if_true] at hy
    obtain ⟨u, _, hy⟩ := Option.bind_eq_some_iff.1 hy
    obtain ⟨u, _, hy⟩ := Option.bind_eq_some_iff.1 hy
    exact map_rd hy
  case lookup t a i ok =>
    simp only [opX, opE, stOK, if_true] at hy
    obtain ⟨u, _, hy⟩ := Option.bind_eq_some_iff.1 hy
    obtain ⟨u, _, hy⟩ := Option.bind_eq_some_iff.1 hy
    exact map_rd hy
  case convert s d a =>
    have hmu : cfg.mu = false := by simpa [rdB] using h
    simp only [opX, opE, stOK, if_true] at hy
    obtain ⟨u, _, hy⟩ := Option.bind_eq_some_iff.1 hy
    split at hy
    · cases hy; rfl
    · split at hy
      · cases hy; rfl
      · unfold dS2B at hy
        rw [hmu] at hy
        split at hy
        · split at hy
          · cases hy; rfl
          · cases hy
        · cases hy
  case call c =>
    obtain ⟨callee, args, ts⟩ := c
    cases callee with
    | value f => simp [rdB, purB] at h
    | invoke r q => simp [rdB, purB] at h
    | builtin b =>
      cases b <;> simp [rdB, purB] at h
      all_goals
        simp only [opX, opE, stOK, if_true] at hy
        obtain ⟨xs, _, hy⟩ := Option.bind_eq_some_iff.1 hy
        simp only [dBuiltin] at hy
        split at hy
        · exact map_rd hy
        · cases hy

theorem pur_of {P : Program} {cfg : Cfg} {ce : CallE} {m : Nat} {ops : Array Oper} {o : Oper} (h : purB o.op = true) : Pur P cfg ce m ops o := by
  intro fr H H'
  unfold actX
  cases wantC fr ops o with
  | none => rfl
  | some b => cases b with
    | true => simp only [Option.bind_some, if_true]; exact opX_pur h H H'
    | false => rfl
theorem rd_of {P : Program} {cfg : Cfg} {ce : CallE} {m : Nat} {ops : Array Oper} {o : Oper} (h : rdB cfg.mu o.op = true) : Rd P cfg ce m ops o := by
  intro fr H y hy
  unfold actX at hy
  obtain ⟨b, _, hy⟩ := Option.bind_eq_some_iff.1 hy
  cases b with
  | true => simp only [if_true] at hy; exact opX_rd h H y hy
  | false => simp only [Bool.false_eq_true, if_false, Option.some.injEq] at hy; rw [← hy]

/-- What an operation stands behind. -/
def edgesOf (o : Oper) : List Nat := o.after.toList.filterMap fun e => if Region.binds .any e then some e.on else none
def ancM (anc : List Nat) (es : List Nat) : Nat := es.foldl (fun q e => q ||| (1 <<< e) ||| anc.getD e 0) 0
def ancOf : List Oper → List Nat → List Nat
  | [], acc => acc
  | o :: os, acc => ancOf os (acc ++ [ancM acc (edgesOf o)])

theorem ancM_spec {anc : List Nat} {j : Nat} : ∀ (es : List Nat) (q : Nat), (es.foldl (fun q e => q ||| (1 <<< e) ||| anc.getD e 0) q).testBit j = true → q.testBit j = true ∨ ∃ e ∈ es, e = j ∨ (anc.getD e 0).testBit j = true
  | [], q, h => .inl h
  | e :: es, q, h => by
    rw [List.foldl_cons] at h
    rcases ancM_spec es _ h with h | ⟨e', he, h⟩
    · simp only [Nat.testBit_or, Bool.or_eq_true] at h
      rcases h with (h | h) | h
      · exact .inl h
      · refine .inr ⟨e, by simp, .inl ?_⟩
        rw [Nat.one_shiftLeft, Nat.testBit_two_pow] at h
        simpa using h
      · exact .inr ⟨e, by simp, .inr h⟩
    · exact .inr ⟨e', by simp [he], h⟩

def cmB (mu : Bool) (ops : Array Oper) (a b : Oper) : Bool := a.apart ops b && (purB a.op || purB b.op || (rdB mu a.op && rdB mu b.op))
def okX (mu : Bool) (ops : Array Oper) : Bool :=
  let anc := ancOf ops.toList []
  (List.range ops.size).all fun i => match ops[i]? with
    | none => true
    | some o => (edgesOf o).all (fun e => decide (e < i)) && (anc.getD i 0 == ancM anc (edgesOf o)) &&
        (List.range i).all fun j => (anc.getD i 0).testBit j || (match ops[j]? with | none => true | some p => cmB mu ops p o)

/-- What is listed is listed with all that it stands behind. -/
def DC (ops : Array Oper) (listed : Array Bool) : Prop := ∀ i o, listed.getD i false = true → ops[i]? = some o → ∀ e ∈ edgesOf o, listed.getD e false = true

theorem okX_at {mu : Bool} {ops : Array Oper} (h : okX mu ops = true) {i : Nat} {o : Oper} (ho : ops[i]? = some o) :
    (∀ e ∈ edgesOf o, e < i) ∧ (ancOf ops.toList []).getD i 0 = ancM (ancOf ops.toList []) (edgesOf o) ∧
      ∀ j p, j < i → ops[j]? = some p → ((ancOf ops.toList []).getD i 0).testBit j = true ∨ cmB mu ops p o = true := by
  unfold okX at h
  simp only [] at h
  have hi : i < ops.size := (Array.getElem?_eq_some_iff.1 ho).1
  have := List.all_eq_true.1 h i (List.mem_range.2 hi)
  rw [ho] at this
  simp only [Bool.and_eq_true, beq_iff_eq] at this
  obtain ⟨⟨h1, h2⟩, h3⟩ := this
  refine ⟨fun e he => by simpa using List.all_eq_true.1 h1 e he, h2, fun j p hj hp => ?_⟩
  have := List.all_eq_true.1 h3 j (List.mem_range.2 hj)
  rw [hp] at this
  simpa using this

theorem anc_listed {mu : Bool} {ops : Array Oper} (h : okX mu ops = true) {listed : Array Bool} (hd : DC ops listed) : ∀ (i : Nat) (o : Oper), ops[i]? = some o → (∀ e ∈ edgesOf o, listed.getD e false = true) →
    ∀ j, ((ancOf ops.toList []).getD i 0).testBit j = true → listed.getD j false = true := by
  intro i
  induction i using Nat.strongRecOn with
  | ind i ih =>
    intro o ho hl j hj
    obtain ⟨h1, h2, _⟩ := okX_at h ho
    rw [h2] at hj
    rcases ancM_spec _ _ hj with hz | ⟨e, he, hz⟩
    · simp at hz
    · rcases hz with rfl | hz
      · exact hl _ he
      · have hlt := h1 e he
        have hi : i < ops.size := (Array.getElem?_eq_some_iff.1 ho).1
        have hoe : ops[e]? = some (ops[e]'(by omega)) := Array.getElem?_eq_getElem (by omega)
        exact ih e hlt _ hoe (fun e' he' => hd e _ (hl e he) hoe e' he') j hz

def un (ops : Array Oper) (listed : Array Bool) : List Nat := (List.range ops.size).filter fun j => !listed.getD j true

theorem mem_edges {o : Oper} {x : Nat} : x ∈ edgesOf o ↔ ∃ e ∈ o.after, Region.binds .any e = true ∧ e.on = x := by
  unfold edgesOf
  rw [List.mem_filterMap]
  constructor
  · rintro ⟨e, he, h⟩
    split at h
    · rename_i hb; cases h; exact ⟨e, by simpa using he, hb, rfl⟩
    · cases h
  · rintro ⟨e, he, hb, rfl⟩
    exact ⟨e, by simpa using he, by rw [if_pos hb]⟩

theorem getD_both {listed : Array Bool} {i : Nat} (hi : i < listed.size) (d d' : Bool) : listed.getD i d = listed.getD i d' := by
  simp [Array.getD, hi]

theorem draw_ix {P : Program} {cfg : Cfg} {ce : CallE} {m n : Nat} {ops : Array Oper} (hok : okX cfg.mu ops = true) {r : Fr × Hp} : ∀ (l : List Nat) (listed : Array Bool), listed.size = ops.size → DC ops listed → LinX ops l listed →
    ∀ (fr : Fr) (H : Hp), evIx P cfg ce m n ops (un ops listed) fr H = some r → evIx P cfg ce m n ops l fr H = some r
  | [], listed, hsz, hd, hl, fr, H, h => by
    have hr : Region.ready .any ops listed = [] := hl
    have all : ∀ j, j < ops.size → listed.getD j false = true := by
      intro j
      induction j using Nat.strongRecOn with
      | ind j ih =>
        intro hj
        cases hb : listed.getD j false with
        | true => rfl
        | false =>
          have ho : ops[j]? = some (ops[j]'hj) := Array.getElem?_eq_getElem hj
          have : j ∈ Region.ready .any ops listed := mem_ready.2 ⟨by rw [getD_both (by omega) true false, hb], _, ho, fun e he hbind => by
            have hlt := (okX_at hok ho).1 e.on (mem_edges.2 ⟨e, he, hbind, rfl⟩)
            exact ih e.on hlt (by omega)⟩
          rw [hr] at this
          cases this
    have : un ops listed = [] := by
      unfold un
      refine List.filter_eq_nil_iff.2 fun j hj => ?_
      have hj' := List.mem_range.1 hj
      rw [getD_both (by omega) true false, all j hj']; simp
    rw [this] at h
    exact h
  | i :: l, listed, hsz, hd, hl, fr, H, h => by
    obtain ⟨hi, hl⟩ := hl
    obtain ⟨h0, o, ho, hall⟩ := mem_ready.1 hi
    have his : i < ops.size := (Array.getElem?_eq_some_iff.1 ho).1
    have hedge : ∀ e ∈ edgesOf o, listed.getD e false = true := by
      intro x hx
      obtain ⟨e, he, hb, rfl⟩ := mem_edges.1 hx
      exact hall e he hb
    have hmem : i ∈ un ops listed := List.mem_filter.2 ⟨List.mem_range.2 his, by rw [h0]; rfl⟩
    have hsorted : (un ops listed).Pairwise (· < ·) := List.Pairwise.filter _ List.pairwise_lt_range
    obtain ⟨A, B, hAB⟩ := List.append_of_mem hmem
    rw [hAB] at hsorted h
    have hA : ∀ x ∈ A, x < i := fun x hx => (List.pairwise_append.1 hsorted).2.2 x hx i (by simp)
    have hB : ∀ x ∈ B, i < x := fun x hx => (List.pairwise_cons.1 (List.pairwise_append.1 hsorted).2.1).1 x hx
    have hset : un ops (listed.setIfInBounds i true) = A ++ B := by
      have e1 : un ops (listed.setIfInBounds i true) = (un ops listed).filter fun j => j != i := by
        unfold un
        rw [List.filter_filter]
        refine List.filter_congr fun j hj => ?_
        by_cases e : i = j
        · subst e
          have hlt : i < listed.size := by omega
          simp [hlt]
        · rw [getD_set_ne true e]
          have : (j != i) = true := by simpa using Ne.symm e
          rw [this]; simp
      rw [e1, hAB, List.filter_append, List.filter_cons]
      simp only [bne_self_eq_false, Bool.false_eq_true, if_false]
      rw [List.filter_eq_self.2 fun x hx => by have := hA x hx; simp; omega, List.filter_eq_self.2 fun x hx => by have := hB x hx; simp; omega]
    have hfm : (A ++ i :: B).filterMap (ops[·]?) = A.filterMap (ops[·]?) ++ o :: B.filterMap (ops[·]?) := by
      rw [List.filterMap_append, List.filterMap_cons, ho]
    unfold evIx at h
    rw [hfm] at h
    have h2 := evOps_front (P := P) (cfg := cfg) (ce := ce) (m := m) (n := n) (ops := ops) (o := o) _ _ fr H (fun x hx => by
      obtain ⟨j, hj, hjo⟩ := List.mem_filterMap.1 hx
      have hji := hA j hj
      have hjun : j ∈ un ops listed := by rw [hAB]; simp [hj]
      have hjun2 : listed.getD j true = false := by have := (List.mem_filter.1 hjun).2; simpa using this
      rcases (okX_at hok ho).2.2 j x hji hjo with hbit | hcm
      · have := anc_listed hok hd i o ho hedge j hbit
        rw [getD_both (by omega) false true, hjun2] at this
        cases this
      · unfold cmB at hcm
        simp only [Bool.and_eq_true, Bool.or_eq_true] at hcm
        obtain ⟨c1, c2⟩ := hcm
        refine cmt_of c1 ?_
        rcases c2 with (c2 | c2) | c2
        · exact .inl (pur_of c2)
        · exact .inr (.inl (pur_of c2))
        · exact .inr (.inr ⟨rd_of c2.1, rd_of c2.2⟩)) h
    rw [evOps_step] at h2
    obtain ⟨s, h3, h4⟩ := Option.bind_eq_some_iff.1 h2
    rw [← List.filterMap_append, ← hset] at h4
    have ih := draw_ix hok (r := r) l (listed.setIfInBounds i true) (by simp [hsz]) (fun i' o' hi' ho' e he => by
      by_cases e1 : i = i'
      · subst e1
        rw [ho] at ho'; cases ho'
        exact getD_set_true (hedge e he)
      · rw [getD_set_ne false e1] at hi'
        exact getD_set_true (hd i' o' hi' ho' e he)) hl s.1 s.2 h4
    unfold evIx
    rw [List.filterMap_cons, ho]
    simp only []
    rw [evOps_step, h3]
    exact ih

theorem un_all (ops : Array Oper) : (un ops (Array.replicate ops.size false)).filterMap (ops[·]?) = ops.toList := by
  have : un ops (Array.replicate ops.size false) = List.range ops.size := by
    unfold un
    refine List.filter_eq_self.2 fun j hj => ?_
    have := List.mem_range.1 hj
    simp [this]
  rw [this]
  have gen : ∀ l : List Oper, (List.range l.length).filterMap (l[·]?) = l := by
    intro l
    induction l with
    | nil => rfl
    | cons a l ih =>
      rw [List.length_cons, List.range_succ_eq_map, List.filterMap_cons]
      simp only [List.getElem?_cons_zero, List.filterMap_map]
      congr 1
  have := gen ops.toList
  simpa using this

/-- A region whose order is drawn, and whose order has no bearing. -/
theorem W_draw (x : Cx) (i : Nat) (ops : Array Oper) (fr : Fr) (H : Hp) (Q : Ex → Fr → Hp → Prop) (hm : x.P.follows .mixedOrders = true) (hok : okX x.cfg.mu ops = true) (hc : x.cfg.clo i = [] := by rfl) : W x (.region i ops true) fr H Q ↔ WO x ops ops.toList fr H (Q .norm) := by
  have key : ∀ ce, evDraw x.P x.cfg ce x.m x.n ops fr H = evOps x.P x.cfg ce x.m x.n ops ops.toList fr H := by
    intro ce
    unfold evDraw
    rw [if_pos hm]
    cases he : evOps x.P x.cfg ce x.m x.n ops ops.toList fr H with
    | none => rfl
    | some r =>
      have : ∀ l, LinX ops l (Array.replicate ops.size false) → evIx x.P x.cfg ce x.m x.n ops l fr H = some r := fun l hl =>
        draw_ix hok l _ (by simp) (fun i o hi => by
          rw [Array.getD_eq_getD_getElem?] at hi
          by_cases hlt : i < ops.size
          · simp [hlt] at hi
          · simp [hlt] at hi) hl fr H (by unfold evIx; rw [un_all, he])
      simp only [Option.bind_some]
      rw [if_pos this]
  constructor
  · rintro ⟨k, r, h, hq⟩
    cases k with
    | zero => cases h
    | succ k =>
      obtain ⟨r1, h1, h2⟩ := Option.map_eq_some_iff.1 h
      cases h2
      rw [hc] at h1
      simp only [cloR] at h1
      rw [key] at h1
      exact ⟨k + 1, r1, h1, hq⟩
  · rintro ⟨k, r, h, hq⟩
    refine ⟨k + 1, _, Option.map_eq_some_iff.2 ⟨r, ?_, rfl⟩, hq⟩
    rw [hc]
    simp only [cloR]
    rw [key]
    exact evOps_mono (evCall_mono (Nat.le_succ k)) x.m x.n ops _ fr H _ h

end Go.SL

/- The objects behind a caller's, and what is read of them, told to the simplifier. -/
namespace Go.SL
set_option linter.unusedVariables false

theorem info_of {P : Program} {t : TypeId} {i : TypeInfo} (h : P.types[t]? = some i) : P.info? t = some i := by
  have hl : t < P.types.size := (Array.getElem?_eq_some_iff.1 h).1
  unfold Tables.info?
  rw [if_pos hl, h]

@[simp] theorem get_old {H L : Hp} {id : Nat} (h : id < H.length) : (H ++ L)[id]? = H[id]? := List.getElem?_append_left h
@[simp] theorem get_own0 (H L : Hp) : (H ++ L)[H.length]? = L[0]? := by rw [List.getElem?_append_right (Nat.le_refl _), Nat.sub_self]
@[simp] theorem get_own (H L : Hp) (i : Nat) : (H ++ L)[H.length + i]? = L[i]? := by rw [List.getElem?_append_right (by omega)]; congr 1; omega
@[simp] theorem at_old {H L : Hp} {id ver : Nat} (h : id < H.length) : cellsAt (H ++ L) id ver = cellsAt H id ver := by unfold cellsAt; rw [get_old h]
@[simp] theorem at_own0 (H L : Hp) (ver : Nat) : cellsAt (H ++ L) H.length ver = cellsAt L 0 ver := by unfold cellsAt; rw [get_own0]
@[simp] theorem at_own (H L : Hp) (i ver : Nat) : cellsAt (H ++ L) (H.length + i) ver = cellsAt L i ver := by unfold cellsAt; rw [get_own]
@[simp] theorem at_zero (v ver : Nat) (cs : List CV) (e : TypeId) (L : Hp) : cellsAt (.cells v cs e :: L) 0 ver = if v = ver then some cs else none := (rfl)
@[simp] theorem at_succ (o : CO) (L : Hp) (i ver : Nat) : cellsAt (o :: L) (i + 1) ver = cellsAt L i ver := (rfl)
@[simp] theorem set_own0 (H L : Hp) (o : CO) : (H ++ L).set H.length o = H ++ L.set 0 o := by rw [List.set_append_right _ _ (Nat.le_refl _), Nat.sub_self]
@[simp] theorem set_own (H L : Hp) (i : Nat) (o : CO) : (H ++ L).set (H.length + i) o = H ++ L.set i o := by rw [List.set_append_right _ _ (by omega)]; congr 2; omega
theorem modify_own (H L : Hp) (i : Nat) (f : CO → CO) : (H ++ L).modify (H.length + i) f = H ++ L.modify i f := by
  apply List.ext_getElem?
  intro j
  rw [List.getElem?_modify]
  by_cases hj : j < H.length
  · rw [List.getElem?_append_left hj, List.getElem?_append_left hj]
    simp [show H.length + i ≠ j by omega]
  · rw [List.getElem?_append_right (by omega), List.getElem?_append_right (by omega), List.getElem?_modify]
    by_cases e : H.length + i = j
    · subst e
      simp
    · have e2 : ¬ i = j - H.length := by omega
      simp [e, e2]
@[simp] theorem put_own (H L : Hp) (i off : Nat) (xs : List CV) : putH (H ++ L) (H.length + i) off xs = H ++ putH L i off xs := modify_own H L i _
@[simp] theorem put_own0 (H L : Hp) (off : Nat) (xs : List CV) : putH (H ++ L) H.length off xs = H ++ putH L 0 off xs := put_own H L 0 off xs
@[simp] theorem put_zero (v : Nat) (cs : List CV) (e : TypeId) (L : Hp) (off : Nat) (xs : List CV) : putH (.cells v cs e :: L) 0 off xs = .cells v (cs.take off ++ xs ++ cs.drop (off + xs.length)) e :: L := (rfl)
@[simp] theorem put_succ (o : CO) (L : Hp) (i off : Nat) (xs : List CV) : putH (o :: L) (i + 1) off xs = o :: putH L i off xs := (rfl)
@[simp] theorem take_own (H L : Hp) : (H ++ L).take H.length = H := List.take_left' rfl

theorem dLenS_sl {P : Program} {t e : TypeId} (h : P.underlying t = some (.slice e)) (id ver off len sz : Nat) (H : Hp) : dLenS P t (.sl id ver off len sz) H = if (cellsAt H id ver).isSome = true then some (.v (.int .i64 len)) else none := by simp [dLenS, h]
theorem dLenS_im {P : Program} {t e : TypeId} (h : P.underlying t = some (.slice e)) (cs : List CV) (len sz : Nat) (H : Hp) : dLenS P t (.im cs len sz) H = some (.v (.int .i64 len)) := by simp [dLenS, dLen, h]
theorem dLenS_nil {P : Program} {t e : TypeId} (h : P.underlying t = some (.slice e)) (a b : Nat) (H : Hp) : dLenS P t (.v (.slice none a b)) H = some (.v (.int .i64 0)) := by simp [dLenS, dLen, h]
end Go.SL

/- Texts and bytes as lists; the operations on them, told to the simplifier. -/
namespace Go.SL
set_option linter.unusedVariables false

abbrev Bs := List UInt8
/-- A text. -/
def str (l : Bs) : CV := .v (.string ⟨l.toArray⟩)
def u8 (b : UInt8) : CV := .v (.int .u8 b.toNat)
def u8s (l : Bs) : List CV := l.map u8
/-- Bytes that no one writes to any more. -/
def byt (l : Bs) : CV := .im (u8s l) l.length 1
def num (n : Int) : CV := .v (.int .i64 n)
def tf (b : Bool) : CV := .v (.bool b)

theorem str_of (s : ByteArray) : CV.v (.string s) = str s.data.toList := by simp [str]
@[simp] theorem u8s_length (l : Bs) : (u8s l).length = l.length := by simp [u8s]
@[simp] theorem u8s_append (a b : Bs) : u8s (a ++ b) = u8s a ++ u8s b := by simp [u8s]
@[simp] theorem u8s_nil : u8s [] = [] := (rfl)
theorem u8s_cons (b : UInt8) (l : Bs) : u8s (b :: l) = u8 b :: u8s l := rfl
theorem u8s_take (n : Nat) (l : Bs) : (u8s l).take n = u8s (l.take n) := by simp [u8s, List.map_take]
theorem u8s_drop (n : Nat) (l : Bs) : (u8s l).drop n = u8s (l.drop n) := by simp [u8s, List.map_drop]
theorem u8s_set (n : Nat) (l : Bs) (b : UInt8) : (u8s l).set n (u8 b) = u8s (l.set n b) := by simp [u8s, List.map_set]
theorem u8s_get (n : Nat) (l : Bs) : (u8s l)[n]? = (l[n]?).map u8 := by simp [u8s]
theorem u8s_get_lt {n : Nat} {l : Bs} (h : n < l.length) : (u8s l)[n]? = some (u8 l[n]) := by simp [u8s, h]
@[simp] theorem u8s_at {n : Nat} {l : Bs} (h : n < (u8s l).length) : (u8s l)[n] = u8 (l[n]'(by simpa using h)) := by simp [u8s]
@[simp] theorem bytesC_eq (l : Bs) : bytesC ⟨l.toArray⟩ = u8s l := by simp only [bytesC, u8s]; rfl
theorem numsOf_u8s : ∀ l : Bs, numsOf (u8s l) = some (l.map fun b => (b.toNat : Int))
  | [] => rfl
  | b :: l => by simp only [u8s_cons, u8, numsOf, numsOf_u8s l, Option.map_some, List.map_cons]
theorem u8s_clB : ∀ l : Bs, (u8s l).all clB = true
  | [] => rfl
  | b :: l => by rw [u8s_cons, List.all_cons, u8s_clB l]; rfl
theorem u8s_top (m : Nat) : ∀ l : Bs, topLeL m (u8s l) = true
  | [] => rfl
  | b :: l => by rw [u8s_cons, topLeL, u8s_top m l]; rfl
theorem u8s_cons_all : ∀ (l : Bs), (u8s l).all oneB = true
  | [] => rfl
  | b :: l => by rw [u8s_cons, List.all_cons, u8s_cons_all l]; rfl

@[simp high] theorem evO_str' (fr : Fr) (l : Bs) : evO fr (.const (.string ⟨List.toArray l⟩)) = some (str l) := (rfl)
@[simp] theorem unlit_str (l : Bs) : unlit (str l) = str l := (rfl)
@[simp] theorem unlit_byt (l : Bs) : unlit (byt l) = byt l := (rfl)
@[simp] theorem unlit_u8 (b : UInt8) : unlit (u8 b) = u8 b := (rfl)
@[simp] theorem unlit_num (n : Int) : unlit (num n) = num n := (rfl)
@[simp] theorem unlit_tf (b : Bool) : unlit (tf b) = tf b := (rfl)
theorem str_inj {a b : Bs} : str a = str b ↔ a = b := by simp [str]

theorem strOf (l : Bs) : strOfNums (l.map fun b => (b.toNat : Int)) = ⟨l.toArray⟩ := by
  simp [strOfNums, Function.comp_def]

variable {P : Program} {t e : TypeId}

theorem len_str (h : P.underlying t = some .string) (l : Bs) (H : Hp) : dLenS P t (str l) H = some (.v (.int .i64 l.length)) := by simp [str, dLenS, dLen, h, ByteArray.size]
theorem len_byt (h : P.underlying t = some (.slice e)) (l : Bs) (H : Hp) : dLenS P t (byt l) H = some (.v (.int .i64 l.length)) := by simp [byt, dLenS, dLen, h]
theorem index_str (h : P.underlying t = some .string) (l : Bs) (k : IntKind) (i : Int) : dIndex P t (str l) (.v (.int k i)) = if 0 ≤ i then (l[i.toNat]?).map u8 else none := by
  simp only [str, dIndex, h]
  by_cases h0 : 0 ≤ i
  · by_cases h1 : i < l.length
    · have h2 : i.toNat < l.length := by omega
      have h3 : 0 ≤ i ∧ i < (ByteArray.size ⟨l.toArray⟩ : Int) := ⟨h0, by simpa [ByteArray.size] using h1⟩
      rw [if_pos h3, if_pos h0, List.getElem?_eq_getElem h2]
      simp [u8, ByteArray.get!, h2]
    · have h2 : l.length ≤ i.toNat := by omega
      have h3 : ¬ (0 ≤ i ∧ i < (ByteArray.size ⟨l.toArray⟩ : Int)) := by simp [ByteArray.size]; omega
      rw [if_neg h3, if_pos h0, List.getElem?_eq_none h2]; rfl
  · rw [if_neg (by omega), if_neg h0]
theorem slice_str (h : P.underlying t = some .string) (l : Bs) (lo hi : Option CV) (H : Hp) : dSlice P t (str l) lo hi H = (dBound hi l.length).bind fun h => (dBound lo 0).bind fun o => if 0 ≤ o ∧ o ≤ h ∧ h ≤ l.length then some (str ((l.take h.toNat).drop o.toNat)) else none := by
  simp only [str, dSlice, h]
  have e1 : ByteArray.size ⟨l.toArray⟩ = l.length := by simp [ByteArray.size]
  rw [e1]
  congr 1
  funext hh
  congr 1
  funext oo
  split
  · rename_i hc
    congr 2
    simp only [Value.string.injEq]
    apply ByteArray.ext
    simp [ByteArray.data_extract, List.extract_eq_take_drop]
    rw [List.drop_take]
  · rfl
theorem bin_str (op : BinOp) (a b : Bs) (H : Hp) : dBin P op t (str a) (str b) H = (binA op (.string ⟨a.toArray⟩) (.string ⟨b.toArray⟩)).map .v := rfl
theorem beq_arr (a b : Bs) : ((⟨a.toArray⟩ : ByteArray).toList == (⟨b.toArray⟩ : ByteArray).toList) = decide (a = b) := by
  rw [ByteArray.toList_mk, ByteArray.toList_mk]
  by_cases h : a = b <;> simp [h]
@[simp] theorem eql_str (a b : Bs) (H : Hp) : dBin P .eql t (str a) (str b) H = some (.v (.bool (decide (a = b)))) := by
  rw [bin_str]; simp only [binA, beq_arr]; rfl
@[simp] theorem neq_str (a b : Bs) (H : Hp) : dBin P .neq t (str a) (str b) H = some (.v (.bool (!decide (a = b)))) := by
  rw [bin_str]; simp only [binA, beq_arr]; rfl
@[simp] theorem add_str (a b : Bs) (H : Hp) : dBin P .add t (str a) (str b) H = if a.length + b.length ≤ 9223372036854775807 then some (str (a ++ b)) else none := by
  rw [bin_str]
  simp only [binA]
  have e1 : ∀ l : Bs, ByteArray.size ⟨l.toArray⟩ = l.length := fun l => by simp [ByteArray.size]
  rw [e1, e1]
  split
  · simp only [Option.map_some, str]
    congr 3
  · rfl
@[simp] theorem clB_str (l : Bs) : clB (str l) = true := (rfl)
@[simp] theorem topLe_str (m : Nat) (l : Bs) : topLe m (str l) = true := (rfl)
@[simp] theorem topLe_byt (m : Nat) (l : Bs) : topLe m (byt l) = true := (rfl)
@[simp] theorem clB_byt (l : Bs) : clB (byt l) = true := by simp only [byt, clB]
@[simp] theorem frz1_str (H : Hp) (m : Nat) (l : Bs) : frz1 H m (str l) = some (str l) := (rfl)
@[simp] theorem frz2_str (H : Hp) (m : Nat) (l : Bs) : frz2 H m (str l) = some (str l) := (rfl)
@[simp] theorem frz_str (H : Hp) (m : Nat) (l : Bs) : frz H m (str l) = some (str l) := (rfl)
@[simp] theorem frz1_byt (H : Hp) (m : Nat) (l : Bs) : frz1 H m (byt l) = some (byt l) := (rfl)
@[simp] theorem frz2_byt (H : Hp) (m : Nat) (l : Bs) : frz2 H m (byt l) = some (byt l) := (rfl)
@[simp] theorem frz_byt (H : Hp) (m : Nat) (l : Bs) : frz H m (byt l) = some (byt l) := (rfl)

/-- Loads and stores of one cell. -/
theorem load_one {d : TypeDesc} {i : TypeInfo} (h : P.underlying t = some d) (ha : aggB d = false) (hi : P.info? t = some i) (id ver off : Nat) (H : Hp) : dLoad P t (.ptr id ver off) H = (cellsAt H id ver).bind fun cs => cs[off]? := by
  simp only [dLoad, h, hi, Option.bind_some, ha, Bool.false_eq_true, if_false, atP]
  cases cellsAt H id ver with
  | none => rfl
  | some cs =>
    simp only [Option.bind_some]
    by_cases hc : off ≤ cs.length
    · rw [if_pos hc]; simp [List.head?_drop]
    · rw [if_neg hc, List.getElem?_eq_none (by omega)]; rfl
theorem load_ip {d : TypeDesc} {i : TypeInfo} (h : P.underlying t = some d) (ha : aggB d = false) (hi : P.info? t = some i) (cs : List CV) (H : Hp) : dLoad P t (.ip cs) H = cs.head? := by
  simp only [dLoad, h, hi, Option.bind_some, ha, Bool.false_eq_true, if_false, atP]
theorem store_at {i : TypeInfo} (hi : P.info? t = some i) (id ver off : Nat) (y : CV) (H : Hp) : dStore P t (.ptr id ver off) y H = (cvCells y).bind fun ys => (cellsAt H id ver).bind fun cs => if ys.length = i.size ∧ off + ys.length ≤ cs.length then some (putH H id off ys) else none := by
  simp only [dStore, hi, Option.bind_some]
@[simp] theorem cells_int (k : IntKind) (n : Int) : cvCells (.v (.int k n)) = some [.v (.int k n)] := (rfl)
@[simp] theorem cells_bool (b : Bool) : cvCells (.v (.bool b)) = some [.v (.bool b)] := (rfl)
@[simp] theorem cells_u8 (b : UInt8) : cvCells (u8 b) = some [u8 b] := (rfl)
@[simp] theorem cells_str (l : Bs) : cvCells (str l) = some [str l] := (rfl)
@[simp] theorem cells_byt (l : Bs) : cvCells (byt l) = some [byt l] := (rfl)
theorem addr_sl {i : TypeInfo} (h : P.underlying t = some (.slice e)) (hi : P.info? e = some i) (id ver off len sz : Nat) (k : IntKind) (n : Int) (H : Hp) : dIndexAddr P t (.sl id ver off len sz) (.v (.int k n)) H = if 0 ≤ n ∧ n < len ∧ sz = i.size ∧ (cellsAt H id ver).isSome = true then some (.ptr id ver (off + n.toNat * sz)) else none := by
  simp only [dIndexAddr, h, hi, Option.bind_some]
theorem addr_byt {i : TypeInfo} (h : P.underlying t = some (.slice e)) (hi : P.info? e = some i) (hz : i.size = 1) (l : Bs) (k : IntKind) (n : Int) (H : Hp) : dIndexAddr P t (byt l) (.v (.int k n)) H = if 0 ≤ n ∧ n < l.length then some (.ip (u8s (l.drop n.toNat))) else none := by
  simp only [dIndexAddr, h, hi, Option.bind_some, byt, hz, and_true, Nat.mul_one, u8s_drop]
theorem slice_byt {i : TypeInfo} (h : P.underlying t = some (.slice e)) (hi : P.info? e = some i) (hz : i.size = 1) (l : Bs) (lo hh : Option CV) (H : Hp) : dSlice P t (byt l) lo hh H = (dBound hh l.length).bind fun h => (dBound lo 0).bind fun o => if 0 ≤ o ∧ o ≤ h ∧ h ≤ l.length then some (byt ((l.take h.toNat).drop o.toNat)) else none := by
  simp only [dSlice, h, hi, Option.bind_some, byt, hz, and_true, Nat.mul_one]
  congr 1
  funext a
  congr 1
  funext b
  split
  · rename_i hc
    congr 1
    rw [u8s_drop, u8s_take, List.drop_take]
    congr 1
    · congr 2; omega
    · simp; omega
  · rfl
@[simp] theorem bound_none (d : Nat) : dBound none d = some (d : Int) := (rfl)
@[simp] theorem bound_some (k : IntKind) (n : Int) (d : Nat) : dBound (some (.v (.int k n))) d = some n := (rfl)
@[simp] theorem evM_none (fr : Fr) : evM fr none = some none := (rfl)
@[simp] theorem evM_some (fr : Fr) (o : Operand) : evM fr (some o) = (evO fr o).map some := (rfl)
/-- Bytes of a text, to be written to. -/
theorem cvt_s2b {s d : TypeId} (h1 : P.underlying s = some .string) (h2 : P.underlying d = some (.slice e)) (h3 : P.underlying e = some (.int .u8)) (l : Bs) (H : Hp) :
    cvt P true s d (str l) H = some (.sl H.length 0 0 l.length 1, H ++ [.cells 0 (u8s l) e]) := by
  have e1 : ByteArray.size ⟨l.toArray⟩ = l.length := by simp [ByteArray.size]
  simp only [cvt, dConv, dB2B, dS2B, h1, h2, h3, isU8, str, if_true, bytesC_eq, e1]
theorem cvt_s2b' {s d : TypeId} (h1 : P.underlying s = some .string) (h2 : P.underlying d = some (.slice e)) (h3 : P.underlying e = some (.int .u8)) (l : Bs) (H : Hp) :
    cvt P false s d (str l) H = some (byt l, H) := by
  have e1 : ByteArray.size ⟨l.toArray⟩ = l.length := by simp [ByteArray.size]
  simp only [cvt, dConv, dB2B, dS2B, h1, h2, h3, isU8, str, if_true, Bool.false_eq_true, if_false, bytesC_eq, e1, byt]
theorem cvt_b2s {s d : TypeId} (mu : Bool) (h1 : P.underlying s = some (.slice e)) (h2 : P.underlying d = some .string) (h3 : P.underlying e = some (.int .u8)) (id ver off : Nat) (l : Bs) (len : Nat) (H : Hp) (h : atS H (.sl id ver off len 1) = some (u8s l, len)) (hl : l.length = len) :
    cvt P mu s d (.sl id ver off len 1) H = some (str l, H) := by
  simp only [cvt, dConv, h1, h2, h3, isU8, if_true, h, Option.bind_some, numsOf_u8s, u8s_length, hl, if_true, strOf, str]
theorem cvt_byt {s d : TypeId} (mu : Bool) (h1 : P.underlying s = some (.slice e)) (h2 : P.underlying d = some .string) (h3 : P.underlying e = some (.int .u8)) (l : Bs) (H : Hp) :
    cvt P mu s d (byt l) H = some (str l, H) := by
  have : atS H (byt l) = some (u8s l, l.length) := by simp [atS, byt]
  simp only [cvt, dConv, h1, h2, h3, isU8, if_true, this, Option.bind_some, numsOf_u8s, u8s_length, if_true, strOf, str]
@[simp] theorem fold_str (l : Bs) : CV.v (.string ⟨List.toArray l⟩) = str l := (rfl)
attribute [simp] u8 numsOf_u8s strOf
theorem u8_fold (b : UInt8) : [CV.v (.int .u8 b.toNat)] = u8s [b] := rfl
@[simp] theorem lit_fold (b : UInt8) : CV.lit [CV.v (.int .u8 b.toNat)] 1 1 = CV.lit (u8s [b]) 1 1 := (rfl)
theorem cvt_sl {s d : TypeId} (mu : Bool) (h1 : P.underlying s = some (.slice e)) (h2 : P.underlying d = some .string) (h3 : P.underlying e = some (.int .u8)) (id ver off len sz : Nat) (H : Hp) :
    cvt P mu s d (.sl id ver off len sz) H = (cellsAt H id ver).bind fun cs => if off + len * sz ≤ cs.length ∧ len * sz = len then (numsOf ((cs.drop off).take (len * sz))).map fun ns => (.v (.string (strOfNums ns)), H) else none := by
  simp only [cvt, dConv, h1, h2, h3, isU8, if_true, atS, dB2B, dS2B]
  cases cellsAt H id ver with
  | none => rfl
  | some cs =>
    simp only [Option.bind_some]
    by_cases hc : off + len * sz ≤ cs.length
    · rw [if_pos hc]
      simp only [Option.bind_some]
      have hl : ((cs.drop off).take (len * sz)).length = len * sz := by simp; omega
      cases hn : numsOf ((cs.drop off).take (len * sz)) with
      | none => simp
      | some ns =>
        simp only [Option.bind_some, hl, hc, true_and, Option.map_some]
        by_cases hz : len * sz = len <;> simp [hz]
    · rw [if_neg hc, if_neg (by omega)]; rfl
theorem cvt_sl' {s d : TypeId} (mu : Bool) (h1 : P.underlying s = some (.slice e)) (h2 : P.underlying d = some .string) (h3 : P.underlying e = some (.int .u8)) {id ver off len : Nat} {H : Hp} {L : Bs} (h : cellsAt H id ver = some (u8s L)) (hl : off + len ≤ L.length) :
    cvt P mu s d (.sl id ver off len 1) H = some (str ((L.drop off).take len), H) := by
  rw [cvt_sl mu h1 h2 h3, h]
  simp only [Option.bind_some, Nat.mul_one, u8s_length, hl, true_and, if_true, u8s_drop, u8s_take, numsOf_u8s, Option.map_some, strOf, fold_str]
@[simp] theorem stQ_own (H : Hp) (i ver off : Nat) (y : CV) : stQ H.length (.ptr (H.length + i) ver off) y = true := by simp [stQ]
@[simp] theorem stQ_own0 (H : Hp) (ver off : Nat) (y : CV) : stQ H.length (.ptr H.length ver off) y = true := by simp [stQ]
@[simp] theorem apQ_own (H : Hp) (i ver off len sz : Nat) (y : CV) : apQ H.length (.sl (H.length + i) ver off len sz) y = true := by simp [apQ]
@[simp] theorem apQ_own0 (H : Hp) (ver off len sz : Nat) (y : CV) : apQ H.length (.sl H.length ver off len sz) y = true := by simp [apQ]
@[simp] theorem apQ_nil (m a b : Nat) (y : CV) : apQ m (.v (.slice none a b)) y = true := (rfl)
@[simp] theorem muQ_own (H : Hp) (i ver : Nat) (y : CV) : muQ H.length (.mp (H.length + i) ver) y = true := by simp [muQ]
@[simp] theorem muQ_own0 (H : Hp) (ver : Nat) (y : CV) : muQ H.length (.mp H.length ver) y = true := by simp [muQ]
attribute [simp] u8s_take u8s_drop
@[simp] theorem u8s_inj {a b : Bs} : u8s a = u8s b ↔ a = b := by
  constructor
  · intro h
    refine List.map_inj_right (f := u8) ?_ |>.1 h
    intro x y hxy
    simp only [u8, CV.v.injEq, Value.int.injEq, true_and] at hxy
    exact UInt8.toNat_inj.1 (by exact_mod_cast hxy)
  · rintro rfl; rfl
/-- Numbers. -/
@[simp] theorem wrap64 {n : Int} (h : -9223372036854775808 ≤ n ∧ n ≤ 9223372036854775807) : IntKind.i64.wrap n = n := IntWalk.i64_in n h
theorem wrap8 {n : Int} (h : 0 ≤ n ∧ n ≤ 255) : IntKind.u8.wrap n = n := IntWalk.u8_in n h
end Go.SL

/- What a range over a function comes to, and a round of it. -/
namespace Go.SL
set_option linter.unusedVariables false

/-- The loop's end: its record, its pending jump. -/
def afterR (id : Nat) (HH : Hp) : Option (Ex × Hp) :=
  match HH[id]? with
  | some (.loop 0 fn1 ts1 ps1 a1 b1 st pe) => match st with
    | .busy => none
    | _ => (jumpEx pe).map fun e => (e, HH.set id (.loop 0 fn1 ts1 ps1 a1 b1 .exhausted pe))
  | _ => none

theorem W_range (x : Cx) (f : Operand) (ps : Array Tmp) (a b : Code) (fr : Fr) (H : Hp) (Q : Ex → Fr → Hp → Prop) {g : FuncId} {cs : List CV} (hr : x.cfg.inR = false) (hf : evO fr f = some (.fn (.func g) [] cs)) (hb : ((x.P.funcs[g]?).bind (·.body)).isSome = true) :
    W x (.rangeFunc f ps a b) fr H Q ↔ WC x.P x.cs x.m (.f g) (.yl H.length 0 :: cs) (H ++ [.loop 0 x.cfg.fn ((List.range x.n).map fr) ps a b .ready none]) fun _ HH => WX (afterR H.length HH) fun r => Q r.1 fr r.2 := by
  have key : ∀ k, ev x.P x.cfg (evCall x.P x.cs k) x.m x.n (k + 1) (.rangeFunc f ps a b) fr H =
      (evCall x.P x.cs k x.m (.f g) (.yl H.length 0 :: cs) (H ++ [.loop 0 x.cfg.fn ((List.range x.n).map fr) ps a b .ready none])).bind fun r => (afterR H.length r.2).map fun q => (q.1, fr, q.2) := by
    intro k
    simp only [ev, hr, hf, hb, Option.bind_some, if_true, Bool.false_eq_true, if_false]
    congr 1
    funext r
    unfold afterR
    split
    · rename_i fn1 ts1 ps1 a1 b1 st pe heq
      rw [heq]
      cases st <;> simp only [Option.map_map, Option.map_none] <;> rfl
    · rename_i hno
      split
      · rename_i heq; exact absurd heq (hno _ _ _ _ _ _ _)
      · rfl
  constructor
  · rintro ⟨k, r, h, hq⟩
    have h' := ev_mono (evCall_mono (Nat.le_refl k)) x.m x.n (Nat.le_succ k) _ fr H _ h
    rw [key] at h'
    obtain ⟨y, h1, h2⟩ := Option.bind_eq_some_iff.1 h'
    obtain ⟨q, h3, h4⟩ := Option.map_eq_some_iff.1 h2
    subst h4
    exact ⟨k, y, h1, q, h3, hq⟩
  · rintro ⟨k, y, h1, q, h3, hq⟩
    refine ⟨k + 1, (q.1, fr, q.2), ?_, hq⟩
    have h' : ev x.P x.cfg (evCall x.P x.cs k) x.m x.n (k + 1) (.rangeFunc f ps a b) fr H = some (q.1, fr, q.2) := by
      rw [key, h1]
      simp only [Option.bind_some, h3, Option.map_some]
    exact ev_mono (evCall_mono (Nat.le_succ k)) x.m x.n (Nat.le_refl _) _ fr H _ h'

/-- The record, busy. -/
def busyR (id ver : Nat) (H : Hp) : Option Hp :=
  match H[id]? with
  | some (.loop v1 fn1 ts1 ps1 a1 b1 .ready none) => if v1 = ver then some (H.set id (.loop v1 fn1 ts1 ps1 a1 b1 .busy none)) else none
  | _ => none
/-- The record behind a round. -/
def doneR (id ver : Nat) (e : Ex) (H : Hp) : Option Hp :=
  match H[id]? with
  | some (.loop v2 fn2 ts2 ps2 a2 b2 _ _) => if v2 = ver then some (H.set id (.loop v2 fn2 ts2 ps2 a2 b2 (if e.jump.isNone then .ready else .done) e.jump)) else none
  | _ => none

theorem WC_round {P : Program} {cs : Cfgs} {m id ver : Nat} {args : List CV} {H : Hp} {K : CV → Hp → Prop} {fn : FuncId} {ts : List CV} {ps : Array Tmp} {a b : Code} (h0 : H[id]? = some (.loop ver fn ts ps a b .ready none)) (ha : args.length = ps.size) :
    WC P cs m (.y id ver) args H K ↔ W ⟨P, cs, { cs.of fn with inR := true }, m, ts.length⟩ a (roundFr ts ps args) H fun e fr1 H1 => e = .norm ∧ WX (busyR id ver H1) fun H1' =>
      W ⟨P, cs, { cs.of fn with inR := true }, m, ts.length⟩ b fr1 H1' fun e2 _ H3 => WX (doneR id ver e2 H3) fun H4 => K (.v (.bool e2.jump.isNone)) H4 := by
  have key : ∀ k, evCall P cs (k + 1) m (.y id ver) args H = (ev P { cs.of fn with inR := true } (evCall P cs k) m ts.length k a (roundFr ts ps args) H).bind fun r => match r.1 with
      | .norm => (busyR id ver r.2.2).bind fun H1' => (ev P { cs.of fn with inR := true } (evCall P cs k) m ts.length k b r.2.1 H1').bind fun q => (doneR id ver q.1 q.2.2).map fun H4 => (.v (.bool q.1.jump.isNone), H4)
      | _ => none := by
    intro k
    simp only [evCall, evRound, h0, ha, and_self, if_true]
    congr 1
    funext r
    obtain ⟨e, fr1, H1⟩ := r
    cases e with
    | norm =>
      simp only [busyR]
      split
      · rename_i heq
        rw [heq]
        simp only []
        split
        · simp only [Option.bind_some]
          congr 1
          funext q
          simp only [doneR]
          split
          · rename_i heq2
            rw [heq2]
            simp only []
            split <;> rfl
          · rename_i hno2
            split
            · rename_i heq2; exact absurd heq2 (hno2 _ _ _ _ _ _ _ _)
            · rfl
        · rfl
      · rename_i hno
        split
        · rename_i heq; exact absurd heq (hno _ _ _ _ _ _ rfl)
        · rfl
    | _ => rfl
  constructor
  · rintro ⟨k, r, h, hk⟩
    cases k with
    | zero => cases h
    | succ k =>
      rw [key] at h
      obtain ⟨⟨e, fr1, H1⟩, h1, h⟩ := Option.bind_eq_some_iff.1 h
      refine ⟨k, _, h1, ?_⟩
      cases e with
      | norm =>
        obtain ⟨H1', h2, h⟩ := Option.bind_eq_some_iff.1 h
        obtain ⟨q, h3, h⟩ := Option.bind_eq_some_iff.1 h
        obtain ⟨H4, h4, h⟩ := Option.map_eq_some_iff.1 h
        subst h
        exact ⟨rfl, H1', h2, k, q, h3, H4, h4, hk⟩
      | _ => cases h
  · rintro ⟨k, ⟨e, fr1, H1⟩, h1, he, H1', h2, k2, q, h3, H4, h4, hk⟩
    simp only at he h2 h3 h4
    subst he
    refine ⟨max k k2 + 1, (.v (.bool q.1.jump.isNone), H4), ?_, hk⟩
    rw [key, ev_mono (evCall_mono (Nat.le_max_left k k2)) _ _ (Nat.le_max_left k k2) _ _ _ _ h1]
    simp only [Option.bind_some, h2]
    rw [ev_mono (evCall_mono (Nat.le_max_right k k2)) _ _ (Nat.le_max_right k k2) _ _ _ _ h3]
    simp only [Option.bind_some, h4, Option.map_some]

end Go.SL

/- Bytes that are read: closed ones, an object's, or none. -/
namespace Go.SL
set_option linter.unusedVariables false

/-- The nil slice. -/
abbrev nilC : CV := .v (.slice none 0 0)

/-- A value reads as these bytes. -/
def RB (H : Hp) (x : CV) (l : Bs) : Prop :=
  x = byt l ∨ (l = [] ∧ x = nilC) ∨ ∃ id ver off cs, x = .sl id ver off l.length 1 ∧ cellsAt H id ver = some cs ∧ (cs.drop off).take l.length = u8s l ∧ off + l.length ≤ cs.length

theorem RB.byt (H : Hp) (l : Bs) : RB H (byt l) l := .inl rfl
theorem RB.nil (H : Hp) : RB H nilC [] := .inr (.inl ⟨rfl, rfl⟩)
theorem RB.own {H : Hp} {id ver off len : Nat} {cs : List CV} {l : Bs} (hc : cellsAt H id ver = some cs) (ht : (cs.drop off).take len = u8s l) (hl : len = l.length) (ho : off + l.length ≤ cs.length) : RB H (.sl id ver off len 1) l := by
  subst hl; exact .inr (.inr ⟨id, ver, off, cs, rfl, hc, ht, ho⟩)

theorem RB.unl {H : Hp} {x : CV} {l : Bs} (h : RB H x l) : unlit x = x := by rcases h with rfl | ⟨_, rfl⟩ | ⟨_, _, _, _, rfl, _⟩ <;> rfl
@[simp] theorem evL_nil (fr : Fr) : evL fr [] = some [] := (rfl)
@[simp] theorem evL_cons (fr : Fr) (o : Operand) (os : List Operand) : evL fr (o :: os) = (evO fr o).bind fun x => (evL fr os).map (x :: ·) := (rfl)
@[simp] theorem evP_nil (fr : Fr) : evP fr [] = some [] := (rfl)
@[simp] theorem evP_cons (fr : Fr) (p : Nat × Operand) (ps : List (Nat × Operand)) : evP fr (p :: ps) = (evO fr p.2).bind fun x => (evP fr ps).map ((p.1, x) :: ·) := (rfl)
attribute [simp ↓] WX_some gR_some gR_none gR2_v gR2_t condQ_v gQ2_v gQ2_t gQ_some gQ_none
@[simp ↓] theorem callQ_f (x : Cx) (H : Hp) (K : CV → Hp → Prop) (xs : List CV) (f : FuncId) (a b : Array Value) : callQ x H K xs (.v (.func (.func f) a b)) ↔ WC x.P x.cs x.m (.f f) (xs.map unlit) H K := (Iff.rfl)
@[simp ↓] theorem callQ_fn (x : Cx) (H : Hp) (K : CV → Hp → Prop) (xs : List CV) (f : FuncId) (a b : List CV) : callQ x H K xs (.fn (.func f) a b) ↔ WC x.P x.cs x.m (.f f) (a ++ xs.map unlit ++ b) H K := (Iff.rfl)
@[simp ↓] theorem callQ_y (x : Cx) (H : Hp) (K : CV → Hp → Prop) (xs : List CV) (id ver : Nat) : callQ x H K xs (.yl id ver) ↔ WC x.P x.cs x.m (.y id ver) (xs.map unlit) H K := (Iff.rfl)

variable {P : Program} {t e : TypeId} {H : Hp} {x : CV} {l : Bs}

theorem cellsAt_app {H : Hp} {id ver : Nat} {cs : List CV} (L : Hp) (h : cellsAt H id ver = some cs) : cellsAt (H ++ L) id ver = some cs := by
  have hid : id < H.length := by
    unfold cellsAt at h
    by_cases hd : id < H.length
    · exact hd
    · rw [List.getElem?_eq_none (by omega)] at h; cases h
  rw [at_old hid]; exact h

theorem RB.app (L : Hp) (h : RB H x l) : RB (H ++ L) x l := by
  rcases h with rfl | ⟨rfl, rfl⟩ | ⟨id, ver, off, cs, rfl, hc, ht, hl⟩
  · exact .inl rfl
  · exact .inr (.inl ⟨rfl, rfl⟩)
  · exact .inr (.inr ⟨id, ver, off, cs, rfl, cellsAt_app L hc, ht, hl⟩)

theorem RB.len (h : P.underlying t = some (.slice e)) (hx : RB H x l) : dLenS P t x H = some (.v (.int .i64 l.length)) := by
  rcases hx with rfl | ⟨rfl, rfl⟩ | ⟨id, ver, off, cs, rfl, hc, _, _⟩
  · exact len_byt h l H
  · exact dLenS_nil h 0 0 H
  · rw [dLenS_sl h, hc]; rfl

theorem RB.atS (hx : RB H x l) : SL.atS H x = some (u8s l, l.length) := by
  rcases hx with rfl | ⟨rfl, rfl⟩ | ⟨id, ver, off, cs, rfl, hc, ht, hl⟩
  · simp [SL.atS, SL.byt]
  · rfl
  · simp [SL.atS, hc, hl, ht]

theorem RB.str {s d : TypeId} (mu : Bool) (h1 : P.underlying s = some (.slice e)) (h2 : P.underlying d = some .string) (h3 : P.underlying e = some (.int .u8)) (hx : RB H x l) : cvt P mu s d x H = some (str l, H) := by
  simp only [cvt, dConv, h1, h2, h3, isU8, if_true, hx.atS, Option.bind_some, numsOf_u8s, u8s_length, strOf, SL.str]

theorem RB.src {tx : TypeId} (h : P.underlying tx = some (.slice e)) (hx : RB H x l) : dSrc P H tx 1 x = some (u8s l, l.length) := by
  simp only [dSrc, h, hx.atS, Option.bind_some, u8s_length, Nat.mul_one, if_true]

/-- A part of it. -/
def cutC (x : CV) (o h : Nat) : CV :=
  match x with
  | .sl id ver off len sz => .sl id ver (off + o * sz) (h - o) sz
  | .im cs len sz => .im ((cs.drop (o * sz)).take ((h - o) * sz)) (h - o) sz
  | x => x

theorem RB.cut {o h : Nat} (ho : o ≤ h) (hh : h ≤ l.length) (hx : RB H x l) : RB H (cutC x o h) ((l.take h).drop o) := by
  have hlen : ((l.take h).drop o).length = h - o := by simp; omega
  rcases hx with rfl | ⟨rfl, rfl⟩ | ⟨id, ver, off, cs, rfl, hc, ht, hl⟩
  · left
    simp only [cutC, SL.byt, Nat.mul_one, u8s_drop, u8s_take, List.drop_take]
    rw [List.drop_take] at hlen
    rw [hlen]
  · exact .inr (.inl ⟨by simp, rfl⟩)
  · refine .inr (.inr ⟨id, ver, off + o, cs, by simp only [cutC, hlen, Nat.mul_one], hc, ?_, by rw [hlen]; omega⟩)
    rw [hlen, List.drop_take, ← u8s_take, ← u8s_drop, ← ht, List.drop_take, List.take_take, List.drop_drop, Nat.min_eq_left (by omega)]

theorem RB.slice {i : TypeInfo} (h : P.underlying t = some (.slice e)) (hi : P.info? e = some i) (hz : i.size = 1) (hx : RB H x l) (lo hh : Option CV) :
    dSlice P t x lo hh H = (dBound hh l.length).bind fun h => (dBound lo 0).bind fun o => if 0 ≤ o ∧ o ≤ h ∧ h ≤ l.length then some (cutC x o.toNat h.toNat) else none := by
  rcases hx with rfl | ⟨rfl, rfl⟩ | ⟨id, ver, off, cs, rfl, hc, ht, hl⟩
  · simp only [dSlice, h, hi, Option.bind_some, SL.byt, hz, and_true, Nat.mul_one, cutC]
    congr 1
    funext a
    congr 1
    funext b
    split
    · congr 2
      · congr 1; omega
      · omega
    · rfl
  · simp only [dSlice, h, hi, Option.bind_some, cutC, List.length_nil]
    congr 1
    funext a
    congr 1
    funext b
    split
    · rw [if_pos (by simp; omega)]
    · rw [if_neg (by simp; omega)]
  · have hs : (SL.atS H (.sl id ver off l.length 1)).isSome = true := by simp [SL.atS, hc, hl]
    simp only [dSlice, h, hi, Option.bind_some, hz, Nat.mul_one, cutC, hs, and_true]
    congr 1
    funext a
    congr 1
    funext b
    split
    · congr 2
      omega
    · rfl

/-- The place of an element. -/
def adrC (x : CV) (i : Nat) : CV :=
  match x with
  | .sl id ver off len sz => .ptr id ver (off + i * sz)
  | .im cs len sz => .ip (cs.drop (i * sz))
  | x => x
theorem RB.addr {i : TypeInfo} (h : P.underlying t = some (.slice e)) (hi : P.info? e = some i) (hz : i.size = 1) (hx : RB H x l) (k : IntKind) (n : Int) : dIndexAddr P t x (.v (.int k n)) H = if 0 ≤ n ∧ n < l.length then some (adrC x n.toNat) else none := by
  rcases hx with rfl | ⟨rfl, rfl⟩ | ⟨id, ver, off, cs, rfl, hc, ht, hl⟩
  · simp only [dIndexAddr, h, hi, Option.bind_some, SL.byt, hz, and_true, adrC]
  · simp only [dIndexAddr, h, hi, Option.bind_some]
    rw [if_neg (by simp)]
  · simp only [dIndexAddr, h, hi, Option.bind_some, hz, hc, Option.isSome_some, and_true, adrC]
theorem RB.load {d : TypeDesc} {i : TypeInfo} (h : P.underlying t = some d) (ha : aggB d = false) (hi : P.info? t = some i) (hx : RB H x l) (n : Nat) (hn : n < l.length) : dLoad P t (adrC x n) H = some (u8 l[n]) := by
  rcases hx with rfl | ⟨rfl, rfl⟩ | ⟨id, ver, off, cs, rfl, hc, ht, hl⟩
  · rw [show adrC (SL.byt l) n = .ip ((u8s l).drop (n * 1)) from rfl, load_ip h ha hi, Nat.mul_one, List.head?_drop, u8s_get_lt hn]
  · simp at hn
  · rw [show adrC (.sl id ver off l.length 1) n = .ptr id ver (off + n * 1) from rfl, load_one h ha hi, hc, Nat.mul_one, Option.bind_some]
    have h1 : (u8s l)[n]? = cs[off + n]? := by rw [← ht, List.getElem?_take_of_lt hn, List.getElem?_drop]
    rw [← h1, u8s_get_lt hn]
end Go.SL

/- Slices that are read, as a list of elements. -/
namespace Go.SL
set_option linter.unusedVariables false

/-- Elements of sz cells each. -/
def Chunks (ch : List (List CV)) (sz : Nat) : Prop := ∀ c ∈ ch, c.length = sz

theorem Chunks.len {ch : List (List CV)} {sz : Nat} (h : Chunks ch sz) : ch.flatten.length = ch.length * sz := by
  induction ch with
  | nil => simp
  | cons c ch ih =>
    rw [List.flatten_cons, List.length_append, ih fun c hc => h c (by simp [hc]), h c (by simp), List.length_cons, Nat.succ_mul, Nat.add_comm]
theorem Chunks.drop {ch : List (List CV)} {sz : Nat} (h : Chunks ch sz) (i : Nat) : Chunks (ch.drop i) sz := fun c hc => h c (List.mem_of_mem_drop hc)
theorem Chunks.take {ch : List (List CV)} {sz : Nat} (h : Chunks ch sz) (i : Nat) : Chunks (ch.take i) sz := fun c hc => h c (List.mem_of_mem_take hc)
theorem Chunks.flat_drop {sz : Nat} : ∀ {ch : List (List CV)} (h : Chunks ch sz) (i : Nat), ch.flatten.drop (i * sz) = (ch.drop i).flatten
  | ch, h, 0 => by simp
  | [], h, i + 1 => by simp
  | c :: ch, h, i + 1 => by
    have hc : c.length = sz := h c (by simp)
    rw [List.flatten_cons, List.drop_succ_cons, ← Chunks.flat_drop (fun c hc => h c (by simp [hc])) i, Nat.succ_mul, Nat.add_comm, ← List.drop_drop, ← hc, List.drop_left]
theorem Chunks.flat_take {sz : Nat} : ∀ {ch : List (List CV)} (h : Chunks ch sz) (i : Nat), ch.flatten.take (i * sz) = (ch.take i).flatten
  | ch, h, 0 => by simp
  | [], h, i + 1 => by simp
  | c :: ch, h, i + 1 => by
    have hc : c.length = sz := h c (by simp)
    rw [List.flatten_cons, List.take_succ_cons, List.flatten_cons, ← Chunks.flat_take (fun c hc => h c (by simp [hc])) i, Nat.succ_mul, Nat.add_comm, ← hc, List.take_length_add_append]
theorem Chunks.at {ch : List (List CV)} {sz : Nat} (h : Chunks ch sz) {i : Nat} (hi : i < ch.length) : (ch.flatten.drop (i * sz)).take sz = ch[i] := by
  rw [h.flat_drop, List.drop_eq_getElem_cons hi, List.flatten_cons, ← h _ (List.getElem_mem hi), List.take_left]
theorem Chunks.get {ch : List (List CV)} {sz : Nat} (h : Chunks ch sz) {i k : Nat} (hi : i < ch.length) (hk : k < sz) : ch.flatten[i * sz + k]? = ch[i][k]? := by
  rw [← h.at hi, List.getElem?_take_of_lt hk, List.getElem?_drop]

/-- A slice reads as these elements. -/
structure RS (H : Hp) (x : CV) (ch : List (List CV)) (sz : Nat) : Prop where
  ok : Chunks ch sz
  is : x = .im ch.flatten ch.length sz ∨ (ch = [] ∧ x = nilC) ∨ ∃ id ver off cc, x = .sl id ver off ch.length sz ∧ cellsAt H id ver = some cc ∧ (cc.drop off).take (ch.length * sz) = ch.flatten ∧ off + ch.length * sz ≤ cc.length

variable {P : Program} {t e : TypeId} {H : Hp} {x : CV} {ch : List (List CV)} {sz : Nat}

theorem RS.nil (H : Hp) (sz : Nat) : RS H nilC [] sz := ⟨fun _ h => by simp at h, .inr (.inl ⟨rfl, rfl⟩)⟩
theorem RS.im (H : Hp) (ok : Chunks ch sz) : RS H (.im ch.flatten ch.length sz) ch sz := ⟨ok, .inl rfl⟩
theorem RS.own {id ver off len : Nat} {cc : List CV} (ok : Chunks ch sz) (hc : cellsAt H id ver = some cc) (hl : len = ch.length) (ht : (cc.drop off).take (ch.length * sz) = ch.flatten) (ho : off + ch.length * sz ≤ cc.length) : RS H (.sl id ver off len sz) ch sz := by
  subst hl; exact ⟨ok, .inr (.inr ⟨id, ver, off, cc, rfl, hc, ht, ho⟩)⟩
theorem RS.own0 {id ver len : Nat} (ok : Chunks ch sz) (hc : cellsAt H id ver = some ch.flatten) (hl : len = ch.length) : RS H (.sl id ver 0 len sz) ch sz :=
  .own ok hc hl (by rw [List.drop_zero, ← ok.len, List.take_length]) (by rw [ok.len]; omega)
theorem RS.unl (h : RS H x ch sz) : unlit x = x := by rcases h.is with rfl | ⟨_, rfl⟩ | ⟨_, _, _, _, rfl, _⟩ <;> rfl
theorem RS.app (L : Hp) (h : RS H x ch sz) : RS (H ++ L) x ch sz := by
  refine ⟨h.ok, ?_⟩
  rcases h.is with h | h | ⟨id, ver, off, cs, rfl, hc, ht, hl⟩
  · exact .inl h
  · exact .inr (.inl h)
  · exact .inr (.inr ⟨id, ver, off, cs, rfl, cellsAt_app L hc, ht, hl⟩)
theorem RS.len (h : P.underlying t = some (.slice e)) (hx : RS H x ch sz) : dLenS P t x H = some (.v (.int .i64 ch.length)) := by
  rcases hx.is with rfl | ⟨rfl, rfl⟩ | ⟨id, ver, off, cs, rfl, hc, _, _⟩
  · exact dLenS_im h _ _ _ H
  · exact dLenS_nil h 0 0 H
  · rw [dLenS_sl h, hc]; rfl
theorem RS.atS (hx : RS H x ch sz) : SL.atS H x = some (ch.flatten, ch.length) := by
  rcases hx.is with rfl | ⟨rfl, rfl⟩ | ⟨id, ver, off, cs, rfl, hc, ht, hl⟩
  · simp [SL.atS, hx.ok.len]
  · rfl
  · simp [SL.atS, hc, hl, ht]
theorem RS.src {tx : TypeId} (h : P.underlying tx = some (.slice e)) (hx : RS H x ch sz) : dSrc P H tx sz x = some (ch.flatten, ch.length) := by
  simp only [dSrc, h, hx.atS, Option.bind_some, hx.ok.len, if_true]
theorem RS.cut {o h : Nat} (ho : o ≤ h) (hh : h ≤ ch.length) (hx : RS H x ch sz) : RS H (cutC x o h) ((ch.take h).drop o) sz := by
  have hlen : ((ch.take h).drop o).length = h - o := by simp; omega
  have hok : Chunks ((ch.take h).drop o) sz := (hx.ok.take h).drop o
  have e1 : (ch.flatten.drop (o * sz)).take ((h - o) * sz) = ((ch.take h).drop o).flatten := by
    rw [hx.ok.flat_drop, (hx.ok.drop o).flat_take, List.drop_take]
  refine ⟨hok, ?_⟩
  rcases hx.is with rfl | ⟨rfl, rfl⟩ | ⟨id, ver, off, cs, rfl, hc, ht, hl⟩
  · left; simp only [cutC, e1, hlen]
  · exact .inr (.inl ⟨by simp, rfl⟩)
  · have hm : (h - o) * sz + o * sz ≤ ch.length * sz := by rw [← Nat.add_mul]; exact Nat.mul_le_mul_right _ (by omega)
    refine .inr (.inr ⟨id, ver, off + o * sz, cs, by simp only [cutC, hlen], hc, ?_, by rw [hlen]; omega⟩)
    rw [hlen, ← e1, ← ht, List.drop_take, List.take_take, List.drop_drop, Nat.min_eq_left (by omega)]
theorem RS.slice {i : TypeInfo} (h : P.underlying t = some (.slice e)) (hi : P.info? e = some i) (hz : i.size = sz) (hx : RS H x ch sz) (lo hh : Option CV) :
    dSlice P t x lo hh H = (dBound hh ch.length).bind fun h => (dBound lo 0).bind fun o => if 0 ≤ o ∧ o ≤ h ∧ h ≤ ch.length then some (cutC x o.toNat h.toNat) else none := by
  rcases hx.is with rfl | ⟨rfl, rfl⟩ | ⟨id, ver, off, cs, rfl, hc, ht, hl⟩
  · simp only [dSlice, h, hi, Option.bind_some, hz, and_true, cutC]
    congr 1
    funext a
    congr 1
    funext b
    split
    · have : (a - b).toNat = a.toNat - b.toNat := by omega
      rw [this]
    · rfl
  · simp only [dSlice, h, hi, Option.bind_some, cutC, List.length_nil]
    congr 1
    funext a
    congr 1
    funext b
    split
    · rw [if_pos (by simp; omega)]
    · rw [if_neg (by simp; omega)]
  · have hs : (SL.atS H (.sl id ver off ch.length sz)).isSome = true := by simp [SL.atS, hc, hl]
    simp only [dSlice, h, hi, Option.bind_some, hz, cutC, hs, and_true]
    congr 1
    funext a
    congr 1
    funext b
    split
    · have : (a - b).toNat = a.toNat - b.toNat := by omega
      rw [this]
    · rfl
theorem RS.addr {i : TypeInfo} (h : P.underlying t = some (.slice e)) (hi : P.info? e = some i) (hz : i.size = sz) (hx : RS H x ch sz) (k : IntKind) (n : Int) : dIndexAddr P t x (.v (.int k n)) H = if 0 ≤ n ∧ n < ch.length then some (adrC x n.toNat) else none := by
  rcases hx.is with rfl | ⟨rfl, rfl⟩ | ⟨id, ver, off, cs, rfl, hc, ht, hl⟩
  · simp only [dIndexAddr, h, hi, Option.bind_some, hz, and_true, adrC]
  · simp only [dIndexAddr, h, hi, Option.bind_some]
    rw [if_neg (by simp)]
  · simp only [dIndexAddr, h, hi, Option.bind_some, hz, hc, Option.isSome_some, and_true, adrC]

/-- The place of a part of an element. -/
def partC (x : CV) (k : Nat) : CV :=
  match x with
  | .ptr id ver off => .ptr id ver (off + k)
  | .ip cs => .ip (cs.drop k)
  | x => x
theorem RS.rest (hx : RS H x ch sz) {n : Nat} (hn : n < ch.length) : ∃ rest, atP H (adrC x n) = some rest ∧ rest.take sz = ch[n] ∧ sz ≤ rest.length := by
  have hsz : ch[n].length = sz := hx.ok _ (List.getElem_mem hn)
  have hm : n * sz + sz ≤ ch.length * sz := by rw [← Nat.succ_mul]; exact Nat.mul_le_mul_right _ hn
  rcases hx.is with rfl | ⟨rfl, rfl⟩ | ⟨id, ver, off, cs, rfl, hc, ht, hl⟩
  · refine ⟨_, rfl, hx.ok.at hn, ?_⟩
    rw [List.length_drop, hx.ok.len]; omega
  · simp at hn
  · refine ⟨cs.drop (off + n * sz), ?_, ?_, by rw [List.length_drop]; omega⟩
    · simp only [adrC, atP, hc, Option.bind_some]
      rw [if_pos (by omega)]
    · rw [← hx.ok.at hn, ← ht, List.drop_take, List.take_take, List.drop_drop, Nat.min_eq_left (by omega)]
theorem RS.fieldAddr {fs : Array Field} {fd : Field} {f : Nat} {i : TypeInfo} (h : P.underlying t = some (.struct fs)) (hf : fs[f]? = some fd) (hi : P.info? fd.type = some i) (hz : ¬ i.size = 0) (hx : RS H x ch sz) {n : Nat} (hn : n < ch.length) (ho : fd.offset ≤ sz) :
    dFieldAddr P t (adrC x n) f H = some (partC (adrC x n) fd.offset) := by
  obtain ⟨rest, h1, h2, h3⟩ := hx.rest hn
  simp only [dFieldAddr, h, hf, hi, Option.bind_some, h1, if_neg hz]
  rcases hx.is with rfl | ⟨rfl, rfl⟩ | ⟨id, ver, off, cs, rfl, hc, ht, hl⟩
  · simp only [adrC, atP, Option.some.injEq] at h1
    simp only [adrC, partC, h1]
    rw [if_pos (by omega)]
  · simp at hn
  · rfl
theorem RS.loadPart {d : TypeDesc} {i : TypeInfo} (h : P.underlying t = some d) (ha : aggB d = false) (hi : P.info? t = some i) (hx : RS H x ch sz) {n k : Nat} (hn : n < ch.length) (hk : k < sz) : dLoad P t (partC (adrC x n) k) H = ch[n][k]? := by
  rcases hx.is with rfl | ⟨rfl, rfl⟩ | ⟨id, ver, off, cs, rfl, hc, ht, hl⟩
  · simp only [adrC, partC]
    rw [load_ip h ha hi, List.head?_drop, List.getElem?_drop, hx.ok.get hn hk]
  · simp at hn
  · simp only [adrC, partC]
    have hm : n * sz + sz ≤ ch.length * sz := by rw [← Nat.succ_mul]; exact Nat.mul_le_mul_right _ hn
    rw [load_one h ha hi, hc, Option.bind_some, ← hx.ok.get hn hk, ← ht, List.getElem?_take_of_lt (by omega), List.getElem?_drop, Nat.add_assoc]
theorem RS.load1 {d : TypeDesc} {i : TypeInfo} (h : P.underlying t = some d) (ha : aggB d = false) (hi : P.info? t = some i) (hx : RS H x ch sz) {n : Nat} (hn : n < ch.length) (hk : 0 < sz) : dLoad P t (adrC x n) H = ch[n][0]? := by
  have := hx.loadPart h ha hi hn hk
  rw [← this]
  rcases hx.is with rfl | ⟨rfl, rfl⟩ | ⟨id, ver, off, cs, rfl, hc, ht, hl⟩
  · simp only [adrC, partC, List.drop_zero]
  · simp at hn
  · simp only [adrC, partC, Nat.add_zero]
theorem RS.loadAgg {d : TypeDesc} {i : TypeInfo} (h : P.underlying t = some d) (ha : aggB d = true) (hi : P.info? t = some i) (hz : i.size = sz) (hx : RS H x ch sz) {n : Nat} (hn : n < ch.length) : dLoad P t (adrC x n) H = some (.agg ch[n]) := by
  obtain ⟨rest, h1, h2, h3⟩ := hx.rest hn
  simp only [dLoad, h, hi, Option.bind_some, h1, ha, if_true, hz, h3, h2]

end Go.SL

/- Loops that count, and calls with more than one outcome. -/
namespace Go.SL
set_option linter.unusedVariables false

/-- What is behind a call, or a loop, is looked at when its turn comes. -/
@[congr] theorem WC_congr {P : Program} {cs : Cfgs} {m m' : Nat} {f : Tg} {args args' : List CV} {H H' : Hp} (K : CV → Hp → Prop) (hm : m = m') (h : args = args') (h2 : H = H') : WC P cs m f args H K = WC P cs m' f args' H' K := by rw [hm, h, h2]
@[congr] theorem W_congr (x : Cx) (c : Code) {fr fr' : Fr} {H H' : Hp} (Q : Ex → Fr → Hp → Prop) (h : fr = fr') (h2 : H = H') : W x c fr H Q = W x c fr' H' Q := by rw [h, h2]

@[congr] theorem callQ_congr (x : Cx) (H : Hp) (K : CV → Hp → Prop) {xs xs' : List CV} {f f' : CV} (h : xs = xs') (h2 : f = f') : callQ x H K xs f = callQ x H K xs' f' := by rw [h, h2]
@[congr] theorem aQ_congr (P : Program) (t : TypeId) {old old' : CV} (H : Hp) (K : CV → Hp → Prop) {re re' : Bool} (h : old = old') (h2 : re = re') : aQ P t old H K re = aQ P t old' H K re' := by rw [h, h2]

/-- A loop that counts up to n. -/
theorem W_up {x : Cx} {c : Code} {Q : Ex → Fr → Hp → Prop} (n : Nat) (I : Nat → Fr → Hp → Prop)
    (h : ∀ i fr H, i ≤ n → I i fr H → W x c fr H fun e fr H => match e with | .norm => i < n ∧ I (i + 1) fr H | e => Q e fr H) (i : Nat) (fr : Fr) (H : Hp) (hi : i ≤ n) (h0 : I i fr H) : W x (.loop c) fr H Q := by
  refine W_rounds (fun j fr H => ∃ i, i ≤ n ∧ j = n - i ∧ I i fr H) ?_ (n - i) _ _ ⟨i, hi, rfl, h0⟩
  rintro j fr H ⟨i, hi, rfl, h0⟩
  refine W_mono (h i fr H hi h0) ?_
  rintro e fr' H' hq
  cases e with
  | norm => exact ⟨n - (i + 1), by have := hq.1; omega, i + 1, hq.1, rfl, hq.2⟩
  | _ => exact hq

theorem WC_mono {P : Program} {cs : Cfgs} {m : Nat} {f : Tg} {args : List CV} {H : Hp} {K K' : CV → Hp → Prop} (h : WC P cs m f args H K) (hk : ∀ y H', K y H' → K' y H') : WC P cs m f args H K' :=
  let ⟨k, r, h1, h2⟩ := h
  ⟨k, r, h1, hk _ _ h2⟩

theorem WC_prim {P : Program} {cs : Cfgs} {m : Nat} {f : FuncId} {args : List CV} {H : Hp} {K : CV → Hp → Prop} {p : List CV → Hp → Option (CV × Hp)} (hp : cs.prim f = some p) : WC P cs m (.f f) args H K ↔ WX (p args H) fun r => K r.1 r.2 := by
  have key : ∀ k, evCall P cs (k + 1) m (.f f) args H = p args H := fun k => by simp only [evCall, hp]
  constructor
  · rintro ⟨k, r, h1, h2⟩
    cases k with
    | zero => cases h1
    | succ k => rw [key] at h1; exact ⟨r, h1, h2⟩
  · rintro ⟨r, h1, h2⟩
    exact ⟨1, r, by rw [key]; exact h1, h2⟩

/-- A function's outcome, told by a predicate. -/
abbrev Out (P : Program) (cs : Cfgs) (m : Nat) (f : FuncId) (args : List CV) (H : Hp) (K : CV → Hp → Prop) : Prop := WC P cs m (.f f) args H K
end Go.SL

/- Small laws on lists of bytes. -/
namespace Go.SL
set_option linter.unusedVariables false

theorem take_all {α : Type} {p : α → Prop} {s : List α} {i : Nat} (h : ∀ c ∈ s.take i, p c) (hi : i < s.length) (hc : p s[i]) : ∀ c ∈ s.take (i + 1), p c := by
  intro c hm
  rw [List.take_add_one, List.getElem?_eq_getElem hi] at hm
  rcases List.mem_append.1 hm with hm | hm
  · exact h c hm
  · simp at hm; subst hm; exact hc
theorem up64 {i n : Nat} (h : i < n) (hn : n ≤ 9223372036854775807) : IntKind.i64.wrap ((i : Int) + 1) = ((i + 1 : Nat) : Int) := wrap64 (by omega)
theorem take_snoc {α : Type} {s : List α} {i : Nat} (hi : i < s.length) : s.take (i + 1) = s.take i ++ [s[i]] := by
  rw [List.take_add_one, List.getElem?_eq_getElem hi]; rfl

theorem upJ {i n : Nat} (h : i < n) (hn : n ≤ 9223372036854775807) : ∃ j, j = i + 1 ∧ IntKind.i64.wrap ((i : Int) + 1) = (j : Int) := ⟨i + 1, rfl, up64 h hn⟩
theorem wrN {x : Int} {n : Nat} (h : x = n) (hn : n ≤ 9223372036854775807) : IntKind.i64.wrap x = (n : Int) := by subst h; exact wrap64 (by omega)
@[simp] theorem dUn_not (b : Bool) : dUn .not (.v (.bool b)) = some (.v (.bool (!b))) := (rfl)
/-- Numbers that are counts. -/
@[simp] theorem nz_eq (a k : Nat) : ((a : Int) = (no_index (OfNat.ofNat k) : Int)) ↔ a = OfNat.ofNat k := by
  show ((a : Int) = ((k : Nat) : Int)) ↔ a = k
  omega
@[simp] theorem nn_eq (a b : Nat) : ((a : Int) = (b : Int)) ↔ a = b := Int.ofNat_inj
@[simp] theorem nz_lt (a k : Nat) : ((a : Int) < (no_index (OfNat.ofNat k) : Int)) ↔ a < OfNat.ofNat k := by
  show ((a : Int) < ((k : Nat) : Int)) ↔ a < k
  omega
@[simp] theorem nz_le (a k : Nat) : ((a : Int) ≤ (no_index (OfNat.ofNat k) : Int)) ↔ a ≤ OfNat.ofNat k := by
  show ((a : Int) ≤ ((k : Nat) : Int)) ↔ a ≤ k
  omega
@[simp] theorem nz_gt (a k : Nat) : ((no_index (OfNat.ofNat k) : Int) < (a : Int)) ↔ OfNat.ofNat k < a := by
  show (((k : Nat) : Int) < (a : Int)) ↔ k < a
  omega
@[simp] theorem nz_ge (a k : Nat) : ((no_index (OfNat.ofNat k) : Int) ≤ (a : Int)) ↔ OfNat.ofNat k ≤ a := by
  show (((k : Nat) : Int) ≤ (a : Int)) ↔ k ≤ a
  omega
theorem u8_eq (c : UInt8) (k : UInt8) : c.toNat = k.toNat ↔ c = k := UInt8.toNat_inj

/-- Small letters. -/
def lowB (c : UInt8) : UInt8 := if 65 ≤ c.toNat ∧ c.toNat ≤ 90 then c + 32 else c
theorem lowB_hi {c : UInt8} (h : 65 ≤ c.toNat ∧ c.toNat ≤ 90) : CV.v (.int .u8 (IntKind.u8.wrap ((c.toNat : Int) + 32))) = u8 (lowB c) := by
  have : lowB c = c + 32 := by unfold lowB; rw [if_pos h]
  rw [this]
  simp only [u8, CV.v.injEq, Value.int.injEq, true_and]
  rw [wrap8 (by omega), UInt8.toNat_add]
  simp; omega
theorem lowB_wrap {c : UInt8} (h : 65 ≤ c.toNat ∧ c.toNat ≤ 90) : IntKind.u8.wrap ((c.toNat : Int) + 32) = ((lowB c).toNat : Int) := by
  have := lowB_hi h
  simp only [u8, CV.v.injEq, Value.int.injEq, true_and] at this
  exact this
theorem lowB_lo {c : UInt8} (h : ¬ (65 ≤ c.toNat ∧ c.toNat ≤ 90)) : lowB c = c := by unfold lowB; rw [if_neg h]
def low (s : Bs) : Bs := s.map lowB
theorem low_snoc (s : Bs) (c : UInt8) : low (s ++ [c]) = low s ++ [lowB c] := by simp [low]
@[simp] theorem low_length (s : Bs) : (low s).length = s.length := by simp [low]

/-- Blanks and tabs. -/
def blankC (c : UInt8) : Bool := c.toNat = 32 || c.toNat = 9
def trimL (s : Bs) : Bs := s.dropWhile blankC
def trim (s : Bs) : Bs := (trimL (trimL s).reverse).reverse

theorem trimL_nil : trimL [] = [] := rfl
theorem trimL_blank {c : UInt8} (s : Bs) (h : blankC c = true) : trimL (c :: s) = trimL s := by simp [trimL, h]
theorem trimL_stop {c : UInt8} (s : Bs) (h : blankC c = false) : trimL (c :: s) = c :: s := by simp [trimL, h]
def trimR (s : Bs) : Bs := (trimL s.reverse).reverse
theorem trimR_nil : trimR [] = [] := rfl
theorem trimR_blank {c : UInt8} (s : Bs) (h : blankC c = true) : trimR (s ++ [c]) = trimR s := by simp [trimR, trimL, h]
theorem trimR_stop {c : UInt8} (s : Bs) (h : blankC c = false) : trimR (s ++ [c]) = s ++ [c] := by simp [trimR, trimL, h]
theorem trim_eq (s : Bs) : trim s = trimR (trimL s) := rfl
theorem blankC_iff (c : UInt8) : blankC c = true ↔ c.toNat = 32 ∨ c.toNat = 9 := by simp [blankC]

/-- A name. -/
def nameC (c : UInt8) : Prop := 33 ≤ c.toNat ∧ c.toNat ≤ 126 ∧ c.toNat ≠ 58
instance (c : UInt8) : Decidable (nameC c) := by unfold nameC; infer_instance
def isName (s : Bs) : Prop := 1 ≤ s.length ∧ s.length ≤ 64 ∧ ∀ c ∈ s, nameC c
instance (s : Bs) : Decidable (isName s) := by unfold isName; infer_instance
/-- A value. -/
def valC (c : UInt8) : Prop := c.toNat = 9 ∨ 32 ≤ c.toNat ∧ c.toNat ≤ 126
instance (c : UInt8) : Decidable (valC c) := by unfold valC; infer_instance
def isVal (s : Bs) : Prop := (∀ c ∈ s, valC c) ∧ s.length ≤ 4096 ∧ trim s = s
instance (s : Bs) : Decidable (isVal s) := by unfold isVal; infer_instance
/-- A token. -/
def others : Bs := [40, 41, 60, 62, 64, 44, 59, 58, 92, 34, 47, 91, 93, 63, 61]
theorem othersE : str [40, 41, 60, 62, 64, 44, 59, 58, 92, 34, 47, 91, 93, 63, 61] = str others := rfl
def tokC (c : UInt8) : Prop := 33 ≤ c.toNat ∧ c.toNat ≤ 126 ∧ c ∉ others
instance (c : UInt8) : Decidable (tokC c) := by unfold tokC; infer_instance
def isTok (s : Bs) : Prop := (∀ c ∈ s, tokC c) ∧ 0 < s.length ∧ s.length ≤ 64
instance (s : Bs) : Decidable (isTok s) := by unfold isTok; infer_instance

/-- Sizes that all texts here have. -/
abbrev big : Nat := 4294967280
end Go.SL

/- Slices that grow: nothing yet, or the last object. -/
namespace Go.SL
set_option linter.unusedVariables false

/-- A slice of n elements that grows behind H. -/
def Acc (H H' : Hp) (x : CV) (cs : List CV) (n sz : Nat) (e : TypeId) : Prop :=
  (n = 0 ∧ cs = [] ∧ x = nilC ∧ H' = H) ∨ (cs.length = n * sz ∧ ∃ ver, x = .sl H.length ver 0 n sz ∧ H' = H ++ [.cells ver cs e])

variable {P : Program} {t tx e : TypeId} {H H' : Hp} {x y : CV} {cs cs' : List CV} {n n' sz : Nat}

theorem Acc.nil (H : Hp) (sz : Nat) (e : TypeId) : Acc H H nilC [] 0 sz e := .inl ⟨rfl, rfl, rfl, rfl⟩
theorem Acc.len (h : Acc H H' x cs n sz e) : cs.length = n * sz := by
  rcases h with ⟨rfl, rfl, _, _⟩ | ⟨h, _⟩
  · simp
  · exact h
theorem Acc.append {zs : List CV} {i : TypeInfo} (ht : P.underlying t = some (.slice e)) (hi : P.info? e = some i) (hz : zeroL P e = some zs) (hzl : zs.length = i.size) (hs : i.size = sz) (h0 : 0 < sz) (h : Acc H H' x cs n sz e)
    (hsrc : dSrc P H' tx sz y = some (cs', n')) (hl : cs'.length = n' * sz) (hbig : (n + n') * i.bytes ≤ 140737488355328) (hbig2 : n + n' ≤ 9223372036854775807) : ∃ x2 H2, dAppend P t tx x y H' = some (x2, H2) ∧ Acc H H2 x2 (cs ++ cs') (n + n') sz e := by
  subst hs
  rcases h with ⟨rfl, rfl, rfl, rfl⟩ | ⟨hcl, ver, rfl, rfl⟩
  · by_cases hn : n' = 0
    · subst hn
      have : cs' = [] := List.eq_nil_of_length_eq_zero (by simpa using hl)
      subst this
      exact ⟨_, _, by simp only [dAppend, ht, hi, hz, hsrc, Option.bind_some, hzl, h0, and_self, if_true], .inl ⟨rfl, rfl, rfl, rfl⟩⟩
    · refine ⟨_, _, by simp only [dAppend, ht, hi, hz, hsrc, Option.bind_some, hzl, h0, and_self, if_true, hn, if_false]; rw [if_pos ⟨by simpa using hbig, by simpa using hbig2⟩], .inr ⟨by simpa using hl, 0, by simp, by simp⟩⟩
  · by_cases hn : n' = 0
    · subst hn
      have : cs' = [] := List.eq_nil_of_length_eq_zero (by simpa using hl)
      subst this
      refine ⟨_, _, by simp only [dAppend, ht, hi, hz, hsrc, Option.bind_some, hzl, h0, and_self, if_true, get_own0, List.getElem?_cons_zero, Nat.zero_add, true_and]; rw [if_pos (by omega)], .inr ⟨by simpa using hcl, ver, by simp, by simp⟩⟩
    · refine ⟨_, _, by simp only [dAppend, ht, hi, hz, hsrc, Option.bind_some, hzl, h0, and_self, if_true, get_own0, List.getElem?_cons_zero, Nat.zero_add, true_and, hn, if_false]; rw [if_pos (by omega), if_pos ⟨hbig, hbig2⟩], .inr ⟨by simp [hcl, hl, Nat.add_mul], ver + 1, rfl, ?_⟩⟩
      rw [set_own0, List.drop_zero, ← hcl, List.take_length]; rfl
theorem Acc.ap (h : Acc H H' x cs n sz e) {m : Nat} (hm : m ≤ H.length) (y : CV) : apQ m x y = true := by
  rcases h with ⟨rfl, rfl, rfl, rfl⟩ | ⟨hcl, ver, rfl, rfl⟩
  · rfl
  · simp [apQ, hm]
theorem Acc.unl (h : Acc H H' x cs n sz e) : unlit x = x := by
  rcases h with ⟨rfl, rfl, rfl, rfl⟩ | ⟨hcl, ver, rfl, rfl⟩ <;> rfl
theorem Acc.take (h : Acc H H' x cs n sz e) : H'.take H.length = H := by
  rcases h with ⟨rfl, rfl, rfl, rfl⟩ | ⟨hcl, ver, rfl, rfl⟩
  · simp
  · simp
theorem Acc.take' (h : Acc H H' x cs n sz e) {m : Nat} (hm : m ≤ H.length) : H'.take m = H.take m := by
  rcases h with ⟨rfl, rfl, rfl, rfl⟩ | ⟨hcl, ver, rfl, rfl⟩
  · rfl
  · rw [List.take_append_of_le_length hm]
/-- A closed slice, or none. -/
def Cls (y : CV) (cs : List CV) (n sz : Nat) : Prop := y = .im cs n sz ∨ (n = 0 ∧ cs = [] ∧ y = nilC)
theorem Acc.frz (h : Acc H H' x cs n sz e) {m : Nat} (hm : m ≤ H.length) (hc : cs.all clB = true) : ∃ y, frz1 H' m x = some y ∧ Cls y cs n sz := by
  rcases h with ⟨rfl, rfl, rfl, rfl⟩ | ⟨hcl, ver, rfl, rfl⟩
  · exact ⟨nilC, rfl, .inr ⟨rfl, rfl, rfl⟩⟩
  · refine ⟨.im cs n sz, ?_, .inl rfl⟩
    have hat : atS (H ++ [.cells ver cs e]) (.sl H.length ver 0 n sz) = some (cs, n) := by
      simp only [atS, at_own0, at_zero, if_true, Option.bind_some, Nat.zero_add, hcl, Nat.le_refl, List.drop_zero]
      rw [← hcl, List.take_length]
    rw [frz1_sl, if_neg (by omega), hat]
    simp [hcl]; exact fun x hx => List.all_eq_true.1 hc x hx
theorem frz_clo {H : Hp} {m : Nat} {y : CV} (h : Cls y cs n sz) : frz1 H m y = some y := by
  rcases h with rfl | ⟨_, _, rfl⟩ <;> rfl

/-- Bytes that grow. -/
abbrev AccB (H H' : Hp) (x : CV) (l : Bs) (e : TypeId) : Prop := Acc H H' x (u8s l) l.length 1 e
theorem Acc.rb {l : Bs} (h : AccB H H' x l e) : RB H' x l := by
  rcases h with ⟨h1, h2, rfl, rfl⟩ | ⟨hcl, ver, rfl, rfl⟩
  · exact .inr (.inl ⟨List.eq_nil_of_length_eq_zero h1, rfl⟩)
  · exact RB.own (cs := u8s l) (by simp) (by simp) rfl (by simp)
/-- Closed bytes. -/
abbrev CB (y : CV) (l : Bs) : Prop := Cls y (u8s l) l.length 1
theorem Cls.rb {y : CV} {l : Bs} (h : CB y l) (H : Hp) : RB H y l := by
  rcases h with rfl | ⟨h1, _, rfl⟩
  · exact .inl rfl
  · exact .inr (.inl ⟨List.eq_nil_of_length_eq_zero h1, rfl⟩)
theorem src_str (h : P.underlying tx = some .string) (l : Bs) (H : Hp) : dSrc P H tx 1 (str l) = some (u8s l, l.length) := by
  simp only [dSrc, h, str, if_true, bytesC_eq]; rfl
theorem mkB1 {z : CV} {i : TypeInfo} (ht : P.underlying t = some (.slice e)) (he : P.underlying e = some (.int .u8)) (hi : P.info? e = some i) (hz : zeroL P e = some [z]) (hs : i.size = 1) (n : Int) (H : Hp) :
    dBuildSlice P t 1 [(0, .v (.int .u8 n))] H false = some (.lit [.v (.int .u8 n)] 1 1, H) := by
  simp [dBuildSlice, ht, he, hi, hz, hs, fillC, zerosC, isU8, clB]
theorem mkB2 {z : CV} {i : TypeInfo} (ht : P.underlying t = some (.slice e)) (he : P.underlying e = some (.int .u8)) (hi : P.info? e = some i) (hz : zeroL P e = some [z]) (hs : i.size = 1) (n n2 : Int) (H : Hp) :
    dBuildSlice P t 2 [(0, .v (.int .u8 n)), (1, .v (.int .u8 n2))] H false = some (.lit [.v (.int .u8 n), .v (.int .u8 n2)] 2 1, H) := by
  simp [dBuildSlice, ht, he, hi, hz, hs, fillC, zerosC, isU8, clB, show List.range 2 = [0, 1] from rfl]
theorem mkB3 {z : CV} {i : TypeInfo} (ht : P.underlying t = some (.slice e)) (he : P.underlying e = some (.int .u8)) (hi : P.info? e = some i) (hz : zeroL P e = some [z]) (hs : i.size = 1) (n n2 n3 : Int) (H : Hp) :
    dBuildSlice P t 3 [(0, .v (.int .u8 n)), (1, .v (.int .u8 n2)), (2, .v (.int .u8 n3))] H false = some (.lit [.v (.int .u8 n), .v (.int .u8 n2), .v (.int .u8 n3)] 3 1, H) := by
  simp [dBuildSlice, ht, he, hi, hz, hs, fillC, zerosC, isU8, clB, show List.range 3 = [0, 1, 2] from rfl]
theorem cvt_lit {s d : TypeId} (mu : Bool) (h1 : P.underlying s = some (.slice e)) (h2 : P.underlying d = some .string) (h3 : P.underlying e = some (.int .u8)) (l : Bs) (H : Hp) :
    cvt P mu s d (.lit (u8s l) l.length 1) H = some (str l, H) := by
  have : atS H (.lit (u8s l) l.length 1) = some (u8s l, l.length) := by simp [atS]
  simp only [cvt, dConv, h1, h2, h3, isU8, if_true, this, Option.bind_some, numsOf_u8s, u8s_length, if_true, strOf, str]
theorem cvt_lit1 {s d : TypeId} (mu : Bool) (h1 : P.underlying s = some (.slice e)) (h2 : P.underlying d = some .string) (h3 : P.underlying e = some (.int .u8)) (c : UInt8) (H : Hp) :
    cvt P mu s d (.lit (u8s [c]) 1 1) H = some (str [c], H) := cvt_lit mu h1 h2 h3 [c] H
theorem mkB0 {z : CV} {i : TypeInfo} (ht : P.underlying t = some (.slice e)) (hi : P.info? e = some i) (hz : zeroL P e = some [z]) (hs : i.size = 1) (H : Hp) :
    dBuildSlice P t 0 [] H true = some (.sl H.length 0 0 0 1, H ++ [.cells 0 [] e]) := by
  simp [dBuildSlice, ht, hi, hz, hs, fillC, zerosC]
theorem nil_nil (h : P.underlying t = some (.slice e)) (H : Hp) : nilR P t nilC nilC H = some true := by simp [nilR, h]
theorem RB.nilR (h : P.underlying t = some (.slice e)) {l : Bs} (hx : RB H x l) (hn : x ≠ nilC) : SL.nilR P t x nilC H = some false := by
  rcases hx with rfl | ⟨_, rfl⟩ | ⟨id, ver, off, cs, rfl, hc, _⟩
  · simp [SL.nilR, h, SL.byt]
  · exact absurd rfl hn
  · simp [SL.nilR, h, hc]
theorem RB.eqnil (h : P.underlying t = some (.slice e)) {l : Bs} (hx : RB H x l) (hn : x ≠ nilC) : dBin P .eql t x nilC H = some (.v (.bool false)) := by
  have := hx.nilR h hn
  rcases hx with rfl | ⟨_, rfl⟩ | ⟨id, ver, off, cs, rfl, hc, _⟩
  · simp [dBin, SL.byt] at this ⊢; simp [this]
  · exact absurd rfl hn
  · simp [dBin, this]
theorem eqnil_nil (h : P.underlying t = some (.slice e)) (H : Hp) : dBin P .eql t nilC nilC H = some (.v (.bool true)) := by simp [dBin, nil_nil h]
theorem src_lit (h : P.underlying tx = some (.slice e)) (hl : cs.length = n * sz) (H : Hp) : dSrc P H tx sz (.lit cs n sz) = some (cs, n) := by
  simp only [dSrc, h, atS, hl, if_true, Option.bind_some]
theorem src_clo (h : P.underlying tx = some (.slice e)) (hy : Cls y cs n sz) (hl : cs.length = n * sz) (H : Hp) : dSrc P H tx sz y = some (cs, n) := by
  rcases hy with rfl | ⟨rfl, rfl, rfl⟩
  · simp only [dSrc, h, atS, hl, if_true, Option.bind_some]
  · simp [dSrc, h, atS]
theorem AccB.append' {i : TypeInfo} {z : CV} {l l' : Bs} (ht : P.underlying t = some (.slice e)) (hi : P.info? e = some i) (hz : zeroL P e = some [z]) (hs : i.size = 1) (hby : i.bytes = 1) (h : AccB H H' x l e)
    (hsrc : dSrc P H' tx 1 y = some (u8s l', l'.length)) (hbig : l.length + l'.length ≤ 140737488355328) : ∃ x2 H2, dAppend P t tx x y H' = some (x2, H2) ∧ AccB H H2 x2 (l ++ l') e := by
  have := Acc.append (P := P) ht hi hz (by simp [hs]) hs (by omega) h hsrc (by simp) (by rw [hby]; omega) (by omega)
  simpa [AccB] using this
theorem cellsAt_lt {H : Hp} {id ver : Nat} {cs : List CV} (h : cellsAt H id ver = some cs) : id < H.length := by
  unfold cellsAt at h
  by_cases hd : id < H.length
  · exact hd
  · rw [List.getElem?_eq_none (by omega)] at h; cases h
/-- What is read stays, where it is old. -/
theorem RB.frz {l : Bs} (h : RB H x l) {m : Nat} (hm : H.length ≤ m) (H2 : Hp) : frz1 H2 m x = some x := by
  rcases h with rfl | ⟨_, rfl⟩ | ⟨id, ver, off, cs, rfl, hc, _⟩
  · rfl
  · rfl
  · rw [frz1_sl, if_pos (by have := cellsAt_lt hc; omega)]
theorem RB.frz2 {l : Bs} (h : RB H x l) {m : Nat} (hm : H.length ≤ m) (H2 : Hp) : SL.frz2 H2 m x = some x := by
  rw [← h.frz hm H2]
  rcases h with rfl | ⟨_, rfl⟩ | ⟨id, ver, off, cs, rfl, hc, _⟩ <;> rfl
theorem RB.frzV {l : Bs} (h : RB H x l) {m : Nat} (hm : H.length ≤ m) (H2 : Hp) : SL.frz H2 m x = some x := by
  rw [← h.frz hm H2]
  rcases h with rfl | ⟨_, rfl⟩ | ⟨id, ver, off, cs, rfl, hc, _⟩ <;> rfl
theorem Acc.frzV (h : Acc H H' x cs n sz e) {m : Nat} (hm : m ≤ H.length) (hc : cs.all clB = true) : ∃ y, SL.frz H' m x = some y ∧ Cls y cs n sz := by
  obtain ⟨y, h1, h2⟩ := h.frz hm hc
  refine ⟨y, ?_, h2⟩
  rw [← h1]
  rcases h with ⟨rfl, rfl, rfl, rfl⟩ | ⟨hcl, ver, rfl, rfl⟩ <;> rfl
theorem Acc.frz2 (h : Acc H H' x cs n sz e) {m : Nat} (hm : m ≤ H.length) (hc : cs.all clB = true) : ∃ y, SL.frz2 H' m x = some y ∧ Cls y cs n sz := by
  obtain ⟨y, h1, h2⟩ := h.frz hm hc
  refine ⟨y, ?_, h2⟩
  rw [← h1]
  rcases h with ⟨rfl, rfl, rfl, rfl⟩ | ⟨hcl, ver, rfl, rfl⟩ <;> rfl
end Go.SL

/- Slices that grow among other objects; boxes of structs. -/
namespace Go.SL
set_option linter.unusedVariables false

variable {P : Program} {t tx e : TypeId} {H H' : Hp} {x y : CV} {cs cs' : List CV} {n n' sz m : Nat}

/-- A slice of n elements that grows, an object from m on. -/
def Grow (m : Nat) (H : Hp) (x : CV) (cs : List CV) (n sz : Nat) (e : TypeId) : Prop :=
  (n = 0 ∧ cs = [] ∧ x = nilC) ∨ (cs.length = n * sz ∧ ∃ id ver, m ≤ id ∧ x = .sl id ver 0 n sz ∧ H[id]? = some (.cells ver cs e))

theorem Grow.nil (m : Nat) (H : Hp) (sz : Nat) (e : TypeId) : Grow m H nilC [] 0 sz e := .inl ⟨rfl, rfl, rfl⟩
theorem Grow.len (h : Grow m H x cs n sz e) : cs.length = n * sz := by
  rcases h with ⟨rfl, rfl, _⟩ | ⟨h, _⟩
  · simp
  · exact h
theorem Grow.unl (h : Grow m H x cs n sz e) : unlit x = x := by
  rcases h with ⟨_, _, rfl⟩ | ⟨_, _, _, _, rfl, _⟩ <;> rfl
theorem Grow.ap (h : Grow m H x cs n sz e) {k : Nat} (hk : k ≤ m) (y : CV) : apQ k x y = true := by
  rcases h with ⟨_, _, rfl⟩ | ⟨_, id, _, hm, rfl, _⟩
  · rfl
  · simp [apQ]; omega
theorem Grow.is (h : Grow m H x cs n sz e) : atS H x = some (cs, n) := by
  rcases h with ⟨rfl, rfl, rfl⟩ | ⟨hl, id, ver, _, rfl, hc⟩
  · rfl
  · have : cellsAt H id ver = some cs := by simp [cellsAt, hc]
    simp only [atS, this, Option.bind_some, Nat.zero_add, hl, Nat.le_refl, if_true, List.drop_zero]
    rw [← hl, List.take_length]
theorem Grow.app (L : Hp) (h : Grow m H x cs n sz e) : Grow m (H ++ L) x cs n sz e := by
  rcases h with h | ⟨hl, id, ver, hm, rfl, hc⟩
  · exact .inl h
  · exact .inr ⟨hl, id, ver, hm, rfl, by rw [List.getElem?_append_left (List.getElem?_eq_some_iff.1 hc).1]; exact hc⟩
theorem Grow.of_set {id : Nat} {o o' : CO} (h : Grow m H x cs n sz e) (h0 : H[id]? = some o) (hne : ∀ ver off len s, x = .sl id ver off len s → False) : Grow m (H.set id o') x cs n sz e := by
  rcases h with h | ⟨hl, i, ver, hm, rfl, hc⟩
  · exact .inl h
  · refine .inr ⟨hl, i, ver, hm, rfl, ?_⟩
    rw [List.getElem?_set_ne (fun e => hne ver 0 n sz (by rw [e]))]; exact hc
theorem Grow.append {zs : List CV} {i : TypeInfo} (ht : P.underlying t = some (.slice e)) (hi : P.info? e = some i) (hz : zeroL P e = some zs) (hzl : zs.length = i.size) (hs : i.size = sz) (h0 : 0 < sz) (hm : m ≤ H.length) (h : Grow m H x cs n sz e)
    (hsrc : dSrc P H tx sz y = some (cs', n')) (hl : cs'.length = n' * sz) (hbig : (n + n') * i.bytes ≤ 140737488355328) (hbig2 : n + n' ≤ 9223372036854775807) :
    ∃ x2 H2, dAppend P t tx x y H = some (x2, H2) ∧ Grow m H2 x2 (cs ++ cs') (n + n') sz e ∧ H2.take m = H.take m ∧ H.length ≤ H2.length ∧ (∀ i, (∀ ver off len s, x ≠ .sl i ver off len s) → i < H.length → H2[i]? = H[i]?) := by
  subst hs
  rcases h with ⟨rfl, rfl, rfl⟩ | ⟨hcl, id, ver, hmi, rfl, hc⟩
  · by_cases hn : n' = 0
    · subst hn
      have : cs' = [] := List.eq_nil_of_length_eq_zero (by simpa using hl)
      subst this
      exact ⟨_, _, by simp only [dAppend, ht, hi, hz, hsrc, Option.bind_some, hzl, h0, and_self, if_true], .inl ⟨rfl, rfl, rfl⟩, rfl, Nat.le_refl _, fun _ _ _ => rfl⟩
    · refine ⟨_, _, by simp only [dAppend, ht, hi, hz, hsrc, Option.bind_some, hzl, h0, and_self, if_true, hn, if_false]; rw [if_pos ⟨by simpa using hbig, by simpa using hbig2⟩], .inr ⟨by simpa using hl, H.length, 0, hm, by simp, by simp⟩, ?_, by simp, fun i _ hi => ?_⟩
      · rw [List.take_append_of_le_length hm]
      · rw [List.getElem?_append_left hi]
  · have hid := (List.getElem?_eq_some_iff.1 hc).1
    by_cases hn : n' = 0
    · subst hn
      have : cs' = [] := List.eq_nil_of_length_eq_zero (by simpa using hl)
      subst this
      refine ⟨_, _, by simp only [dAppend, ht, hi, hz, hsrc, Option.bind_some, hzl, h0, and_self, if_true, hc, Nat.zero_add, true_and]; rw [if_pos (by omega)], .inr ⟨by simpa using hcl, id, ver, hmi, by simp, by simpa using hc⟩, rfl, Nat.le_refl _, fun _ _ _ => rfl⟩
    · refine ⟨_, _, by simp only [dAppend, ht, hi, hz, hsrc, Option.bind_some, hzl, h0, and_self, if_true, hc, Nat.zero_add, true_and, hn, if_false]; rw [if_pos (by omega), if_pos ⟨hbig, hbig2⟩], .inr ⟨by simp [hcl, hl, Nat.add_mul], id, ver + 1, hmi, rfl, ?_⟩, ?_, by simp, fun i hi hlt => ?_⟩
      · rw [List.getElem?_set_self hid, List.drop_zero, ← hcl, List.take_length]
      · rw [List.take_set_of_le hmi]
      · rw [List.getElem?_set_ne]
        rintro rfl
        exact hi _ _ _ _ rfl
theorem Grow.frz (h : Grow m H x cs n sz e) {k : Nat} (hk : k ≤ m) (hc : cs.all clB = true) : ∃ y, frz1 H k x = some y ∧ Cls y cs n sz := by
  have hat := h.is
  have hcl := h.len
  rcases h with ⟨rfl, rfl, rfl⟩ | ⟨_, id, ver, hm, rfl, _⟩
  · exact ⟨nilC, rfl, .inr ⟨rfl, rfl, rfl⟩⟩
  · refine ⟨.im cs n sz, ?_, .inl rfl⟩
    rw [frz1_sl, if_neg (by omega), hat]
    simp [hcl]; exact fun x hx => List.all_eq_true.1 hc x hx
theorem Grow.frzV (h : Grow m H x cs n sz e) {k : Nat} (hk : k ≤ m) (hc : cs.all clB = true) : ∃ y, SL.frz H k x = some y ∧ SL.frz2 H k x = some y ∧ frz1 H k x = some y ∧ Cls y cs n sz := by
  obtain ⟨y, h1, h2⟩ := h.frz hk hc
  refine ⟨y, ?_, ?_, h1, h2⟩ <;> rw [← h1] <;> rcases h with ⟨_, _, rfl⟩ | ⟨_, _, _, _, rfl, _⟩ <;> rfl
theorem Grow.rs {ch : List (List CV)} (h : Grow m H x ch.flatten ch.length sz e) (ok : Chunks ch sz) : RS H x ch sz := by
  rcases h with ⟨h1, _, rfl⟩ | ⟨hl, id, ver, hm, rfl, hc⟩
  · obtain rfl := List.eq_nil_of_length_eq_zero h1; exact RS.nil _ _
  · exact .own0 ok (by simp [cellsAt, hc]) rfl
theorem Grow.rb {l : Bs} (h : Grow m H x (u8s l) l.length 1 e) : RB H x l := by
  rcases h with ⟨h1, h2, rfl⟩ | ⟨hcl, id, ver, hm, rfl, hc⟩
  · exact .inr (.inl ⟨List.eq_nil_of_length_eq_zero h1, rfl⟩)
  · exact RB.own (cs := u8s l) (by simp [cellsAt, hc]) (by simp) rfl (by simp)
theorem Cls.rs {ch : List (List CV)} (h : Cls y ch.flatten ch.length sz) (ok : Chunks ch sz) (H : Hp) : RS H y ch sz := by
  rcases h with rfl | ⟨h1, _, rfl⟩
  · exact .im H ok
  · obtain rfl := List.eq_nil_of_length_eq_zero h1; exact RS.nil _ _
theorem Cls.unl (h : Cls y cs n sz) : unlit y = y := by rcases h with rfl | ⟨_, _, rfl⟩ <;> rfl
theorem Cls.clB (h : Cls y cs n sz) : SL.clB y = true := by rcases h with rfl | ⟨_, _, rfl⟩ <;> rfl
theorem Cls.one (h : Cls y cs n sz) : oneB y = true := by rcases h with rfl | ⟨_, _, rfl⟩ <;> rfl
theorem Cls.top (h : Cls y cs n sz) (m : Nat) : topLe m y = true := by rcases h with rfl | ⟨_, _, rfl⟩ <;> rfl
theorem Cls.frz (h : Cls y cs n sz) (H : Hp) (m : Nat) : SL.frz H m y = some y ∧ SL.frz2 H m y = some y ∧ frz1 H m y = some y := by rcases h with rfl | ⟨_, _, rfl⟩ <;> exact ⟨rfl, rfl, rfl⟩
theorem RS.one {ch : List (List CV)} (h : RS H x ch sz) : oneB x = true := by rcases h.is with rfl | ⟨_, rfl⟩ | ⟨_, _, _, _, rfl, _⟩ <;> rfl
theorem RB.one {l : Bs} (h : RB H x l) : oneB x = true := by rcases h with rfl | ⟨_, rfl⟩ | ⟨_, _, _, _, rfl, _⟩ <;> rfl
theorem RS.cells {ch : List (List CV)} (h : RS H x ch sz) : cvCells x = some [x] := by rcases h.is with rfl | ⟨_, rfl⟩ | ⟨_, _, _, _, rfl, _⟩ <;> rfl
theorem RB.cells {l : Bs} (h : RB H x l) : cvCells x = some [x] := by rcases h with rfl | ⟨_, rfl⟩ | ⟨_, _, _, _, rfl, _⟩ <;> rfl
theorem cells_agg {cs : List CV} (h : cs.all oneB = true) : cvCells (.agg cs) = some cs := by simp only [cvCells, h, if_true]
@[simp] theorem oneB_str (l : Bs) : oneB (str l) = true := (rfl)
@[simp] theorem oneB_v (x : Value) : oneB (.v x) = true := (rfl)
theorem faddr_ptr (P : Program) (t : TypeId) (id ver off f : Nat) (H : Hp) : dFieldAddr P t (.ptr id ver off) f H = match P.underlying t with
    | some (.struct fs) => (fs[f]?).bind fun fd => (P.info? fd.type).bind fun i => (cellsAt H id ver).bind fun cs => if off ≤ cs.length ∧ i.size ≠ 0 then some (.ptr id ver (off + fd.offset)) else none
    | _ => none := by
  unfold dFieldAddr
  split
  · rename_i fs hu
    simp only [hu]
    cases fs[f]? with
    | none => rfl
    | some fd =>
      simp only [Option.bind_some]
      cases P.info? fd.type with
      | none => rfl
      | some i =>
        simp only [Option.bind_some, atP]
        cases cellsAt H id ver with
        | none => rfl
        | some cs =>
          simp only [Option.bind_some]
          by_cases h1 : off ≤ cs.length
          · by_cases h2 : i.size = 0 <;> simp [h1, h2]
          · simp [h1]
  · rename_i hn
    split
    · rename_i fs hu; exact absurd hu (hn fs)
    · rfl
theorem load_aggp {P : Program} {t : TypeId} {d : TypeDesc} {i : TypeInfo} (h : P.underlying t = some d) (ha : aggB d = true) (hi : P.info? t = some i) (id ver off : Nat) (H : Hp) :
    dLoad P t (.ptr id ver off) H = (cellsAt H id ver).bind fun cs => if off + i.size ≤ cs.length then some (.agg ((cs.drop off).take i.size)) else none := by
  simp only [dLoad, h, hi, Option.bind_some, ha, if_true, atP]
  cases cellsAt H id ver with
  | none => rfl
  | some cs =>
    simp only [Option.bind_some]
    by_cases h1 : off ≤ cs.length
    · simp only [h1, if_true, Option.bind_some, List.length_drop]
      by_cases h2 : off + i.size ≤ cs.length
      · rw [if_pos (by omega), if_pos h2]
      · rw [if_neg (by omega), if_neg h2]
    · rw [if_neg h1, if_neg (by omega)]; rfl
end Go.SL

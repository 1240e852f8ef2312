/- Lengths: the program's reading comes to the same. -/
import Derived.Test.YtiffbkfgimifbaaDoorPrint0
import Derived.Test.YtiffbkfgimifbaaDoorPrint6
import Derived.Test.YtiffbkfgimifbaaDoorQ9
namespace Go.Proofs.YtiffbkfgimifbaaDoor.Print
open Go.RowKit Go.Proofs.YtiffbkfgimifbaaDoorW.PrintWords Go.Proofs.YtiffbkfgimifbaaDoorW.PrintLast Go.Proofs.YtiffbkfgimifbaaDoorW.PrintMore

theorem hd_spec (l : List UInt8) : ∀ (ds d : List UInt8) (c : UInt8) (r : List UInt8), hd ds l = some (d, c, r) → ds.all isD = true → isD c = false ∧ ds ++ l = d ++ c :: r ∧ d.all isD = true := by
  induction l with
  | nil => intro ds d c r h; cases h
  | cons x l ih =>
    intro ds d c r h hd0
    unfold hd at h
    by_cases q : isD x = true
    · rw [if_pos q] at h
      have := ih _ _ _ _ h (by simp [hd0, q])
      exact ⟨this.1, by rw [← this.2.1]; simp, this.2.2⟩
    · rw [if_neg q] at h
      simp only [Option.some.injEq, Prod.mk.injEq] at h
      obtain ⟨rfl, rfl, rfl⟩ := h
      exact ⟨by simpa using q, rfl, hd0⟩
theorem hd_of (d : List UInt8) (c : UInt8) (r : List UInt8) (hc : isD c = false) : ∀ (ds : List UInt8), d.all isD = true → hd ds (d ++ c :: r) = some (ds ++ d, c, r) := by
  induction d with
  | nil => intro ds _; simp only [List.nil_append, List.append_nil]; unfold hd; rw [if_neg (by rw [hc]; decide)]
  | cons x d ih =>
    intro ds h
    simp only [List.all_cons, Bool.and_eq_true] at h
    simp only [List.cons_append]
    unfold hd
    rw [if_pos h.1, ih _ h.2]
    simp
theorem pc_hd (l : List UInt8) : ∀ (ds : List UInt8), pc ds l = (match hd ds l with
    | none => if ds ++ l = [] then some [] else none
    | some (d, c, r) => if c = 84 ∧ d = [] then (pc [] r).map (fun x => (⟨0, 84⟩ : S64) :: x) else if numR d < 0 ∨ c = 84 then none else (pc [] r).map (fun x => (⟨numR d, (c.toNat : Int)⟩ : S64) :: x)) := by
  induction l with
  | nil => intro ds; unfold pc hd; simp
  | cons x l ih =>
    intro ds
    by_cases q : isD x = true
    · have e1 : pc ds (x :: l) = pc (ds ++ [x]) l := by rw [pc, if_pos q]
      have e2 : hd ds (x :: l) = hd (ds ++ [x]) l := by rw [hd, if_pos q]
      rw [e1, e2, ih]
      simp
    · have e2 : hd ds (x :: l) = some (ds, x, l) := by rw [hd, if_neg q]
      rw [e2, pc, if_neg q]

theorem idx_none (l : List UInt8) (u : UInt8) (h : u ∉ l) : Lib.indexByte l u = -1 := by
  induction l with
  | nil => rfl
  | cons x l ih =>
    simp only [List.mem_cons, not_or] at h
    unfold Lib.indexByte
    rw [ih h.2, if_neg (by simpa using fun e => h.1 e.symm)]
    rfl
theorem idx_some (a b : List UInt8) (u : UInt8) (h : u ∉ a) : Lib.indexByte (a ++ u :: b) u = a.length := by
  induction a with
  | nil => simp [Lib.indexByte]
  | cons x a ih =>
    simp only [List.mem_cons, not_or] at h
    simp only [List.cons_append]
    unfold Lib.indexByte
    rw [ih h.2, if_neg (by simpa using fun e => h.1 e.symm), if_neg (by simp)]
    simp
theorem first_of (l : List UInt8) (u : UInt8) : u ∉ l ∨ ∃ a b, l = a ++ u :: b ∧ u ∉ a := by
  induction l with
  | nil => exact .inl (by simp)
  | cons x l ih =>
    by_cases e : x = u
    · subst e; exact .inr ⟨[], l, rfl, by simp⟩
    · rcases ih with h | ⟨a, b, h, ha⟩
      · exact .inl (by simp [h, Ne.symm e])
      · exact .inr ⟨x :: a, b, by rw [h]; rfl, by simp [ha, Ne.symm e]⟩

/-- A number with this unit at a text's front, and what is behind it. -/
def hv (l : List UInt8) (u : UInt8) : Option (Int × List UInt8) := match hd [] l with
  | none => none
  | some (d, c, r) => if c = u ∧ ¬ numR d < 0 then some (numR d, r) else none
theorem hv_some {l : List UInt8} {u : UInt8} {n : Int} {r : List UInt8} (h : hv l u = some (n, r)) : ∃ d, hd [] l = some (d, u, r) ∧ numR d = n ∧ 0 ≤ n ∧ n ≤ 9999999999 := by
  unfold hv at h
  cases e : hd [] l with
  | none => rw [e] at h; cases h
  | some t =>
    obtain ⟨d, c, r'⟩ := t
    rw [e] at h
    by_cases q : c = u ∧ ¬ numR d < 0
    · simp only [q, not_false_eq_true, and_self, if_true, Option.some.injEq, Prod.mk.injEq] at h
      obtain ⟨rfl, rfl⟩ := h
      exact ⟨d, by rw [q.1], rfl, by omega, numR_top d⟩
    · simp only [q, if_false] at h; cases h
theorem hv_none {l : List UInt8} {u : UInt8} (h : hv l u = none) {d r : List UInt8} (e : hd [] l = some (d, u, r)) : numR d < 0 := by
  unfold hv at h
  rw [e] at h
  rcases Int.lt_or_le (numR d) 0 with q | q
  · exact q
  · have q2 : ¬ numR d < 0 := by omega
    simp only [q2, not_false_eq_true, and_self, if_true] at h
    cases h
theorem all_of_numR {a : List UInt8} (h : ¬ numR a < 0) : a.all isD = true := by
  unfold numR at h
  by_cases c : a = [] ∨ 10 < a.length ∨ a.all isD = false
  · rw [if_pos c] at h; omega
  · rcases hb : a.all isD with _ | _
    · exact absurd (.inr (.inr hb)) c
    · rfl

theorem whenPiece_ev (s : ByteArray) (u : UInt8) (hu : isD u = false) (hs : (bl s).length ≤ 400) :
    (∃ n r, hv (bl s) u = some (n, bl r) ∧ 0 ≤ n ∧ n ≤ 9999999999 ∧ (bl r).length ≤ (bl s).length ∧ Ev (fun k => when_piece.f k s (u.toNat : Int)) (n, r)) ∨ (hv (bl s) u = none ∧ Ev (fun k => when_piece.f k s (u.toNat : Int)) (-1, s)) := by
  have hu8 : ((u.toNat : Int)).toNat.toUInt8 = u := by rw [Int.toNat_natCast]; simp
  have hi : strings_IndexByte.f s (u.toNat : Int) = some (Lib.indexByte (bl s) u) := by unfold strings_IndexByte.f; rw [hu8]
  rcases first_of (bl s) u with h | ⟨a, b, h, ha⟩
  · refine .inr ⟨?_, ?_⟩
    · cases e : hv (bl s) u with
      | none => rfl
      | some t =>
        obtain ⟨n, r⟩ := t
        obtain ⟨d, h1, _⟩ := hv_some e
        have := (hd_spec _ _ _ _ _ h1 rfl).2.1
        rw [List.nil_append] at this
        exact absurd (by rw [this]; simp) h
    · unfold when_piece.f
      rw [hi, idx_none _ _ h]
      exact Ev.bind_now rfl (Ev.ite_pos (by omega) (Ev.now _))
  · have hla : a.length < (bl s).length := by rw [h]; simp
    have hnum : Ev (fun k => when_number.f k (s.extract 0 ((a.length : Int)).toNat)) (numR a) := by
      have := whenNumber_ev (s.extract 0 ((a.length : Int)).toNat) (by rw [bl_extract, List.length_take]; omega)
      rw [bl_extract, h, Int.toNat_natCast, List.drop_zero, Nat.sub_zero, List.take_left] at this
      exact this
    by_cases q : numR a < 0
    · refine .inr ⟨?_, ?_⟩
      · cases e : hv (bl s) u with
        | none => rfl
        | some t =>
          obtain ⟨n, r⟩ := t
          obtain ⟨d, h1, h2, h3, _⟩ := hv_some e
          obtain ⟨_, h4, h5⟩ := hd_spec _ _ _ _ _ h1 rfl
          rw [List.nil_append, h] at h4
          have hud : u ∉ d := fun x => by have := List.all_eq_true.mp h5 u x; rw [hu] at this; cases this
          have e1 := idx_some a b u ha
          have e2 := idx_some d r u hud
          rw [h4, e2] at e1
          have hl : d.length = a.length := by omega
          have : a = d := (List.append_inj h4 hl.symm).1
          rw [this, h2] at q; omega
      · unfold when_piece.f
        rw [hi, h, idx_some a b u ha]
        refine Ev.bind_now rfl (Ev.ite_neg (by omega) (Ev.ite_pos (by omega) (Ev.ite_pos (by rw [bl_size]; omega) (Ev.bind hnum (Ev.ite_pos q ?_)))))
        exact Ev.now _
    · have had := all_of_numR q
      have hh : hd [] (bl s) = some (a, u, b) := by rw [h, hd_of a u b hu [] had]; rfl
      have e1 : wrap64 ((a.length : Int) + 1) = (a.length : Int) + 1 := w64 _ (by omega) (by omega)
      have hb : bl (s.extract ((a.length : Int) + 1).toNat s.size) = b := by
        rw [bl_extract, bl_nsize, h, show ((a.length : Int) + 1).toNat = a.length + 1 by omega]
        rw [show (a ++ u :: b).drop (a.length + 1) = b by rw [show a ++ u :: b = (a ++ [u]) ++ b by simp]; exact List.drop_left' (by simp)]
        rw [List.take_of_length_le (by simp; omega)]
      refine .inl ⟨numR a, s.extract ((a.length : Int) + 1).toNat s.size, ?_, by omega, numR_top a, by rw [hb, h]; simp; omega, ?_⟩
      · unfold hv
        rw [hh, hb]
        simp only [q, not_false_eq_true, and_self, if_true]
      · unfold when_piece.f
        rw [hi, h, idx_some a b u ha]
        refine Ev.bind_now rfl (Ev.ite_neg (by omega) (Ev.ite_pos (by omega) (Ev.ite_pos (by rw [bl_size]; omega) (Ev.bind hnum (Ev.ite_neg q ?_)))))
        rw [e1]
        refine Ev.ite_pos (by omega) (Ev.ite_pos (by rw [bl_size]; omega) ?_)
        exact Ev.now _

def rn (was acc : Int) (l : List UInt8) : Int := match pc [] l with | none => -1 | some x => run was acc x
theorem rn_none {was acc : Int} {l : List UInt8} (h : hd [] l = none) : rn was acc l = if l = [] then (if was = -1 ∨ was = 1 then -1 else acc) else -1 := by
  unfold rn
  rw [pc_hd, h]
  simp only [List.nil_append]
  by_cases c : l = []
  · simp only [c, if_true]; rfl
  · simp only [c, if_false]
theorem rn_T {was acc : Int} {l r : List UInt8} (h : hd [] l = some ([], 84, r)) : rn was acc l = if bad was 1 then -1 else rn 1 acc r := by
  unfold rn
  rw [pc_hd, h]
  simp only [and_self, if_true]
  cases pc [] r with
  | none => simp
  | some x =>
    simp only [Option.map_some, run]
    rw [show ordR 84 = 1 from rfl]
    simp
theorem rn_fail {was acc : Int} {l d r : List UInt8} {c : UInt8} (h : hd [] l = some (d, c, r)) (h1 : ¬ (c = 84 ∧ d = [])) (h2 : numR d < 0 ∨ c = 84) : rn was acc l = -1 := by
  unfold rn
  rw [pc_hd, h]
  simp only [h1, h2, if_true, if_false]
theorem rn_num {was acc : Int} {l d r : List UInt8} {c : UInt8} (h : hd [] l = some (d, c, r)) (h1 : ¬ numR d < 0) (h2 : c ≠ 84) : rn was acc l = if bad was (ordR (c.toNat : Int)) then -1 else rn (ordR (c.toNat : Int)) (acc + numR d * worR (c.toNat : Int)) r := by
  have h3 : ¬ (c = 84 ∧ d = []) := fun x => h2 x.1
  have h4 : ¬ (numR d < 0 ∨ c = 84) := fun x => x.elim h1 h2
  unfold rn
  rw [pc_hd, h]
  simp only [h3, h4, if_false]
  cases pc [] r with
  | none => simp
  | some x => simp only [Option.map_some, run]
theorem ord_of (c : UInt8) : (ordR (c.toNat : Int) = 0 ↔ c = 68) ∧ (ordR (c.toNat : Int) = 1 ↔ c = 84) ∧ (ordR (c.toNat : Int) = 2 ↔ c = 72) ∧ (ordR (c.toNat : Int) = 3 ↔ c = 77) ∧ (ordR (c.toNat : Int) = 4 ↔ c = 83) := by
  have a := byte_eq (c := c) (n := 68) (by omega)
  have b := byte_eq (c := c) (n := 84) (by omega)
  have d := byte_eq (c := c) (n := 72) (by omega)
  have e := byte_eq (c := c) (n := 77) (by omega)
  have f := byte_eq (c := c) (n := 83) (by omega)
  have q : (UInt8.ofNat 68 = 68) ∧ (UInt8.ofNat 84 = 84) ∧ (UInt8.ofNat 72 = 72) ∧ (UInt8.ofNat 77 = 77) ∧ (UInt8.ofNat 83 = 83) := ⟨rfl, rfl, rfl, rfl, rfl⟩
  rw [q.1] at a; rw [q.2.1] at b; rw [q.2.2.1] at d; rw [q.2.2.2.1] at e; rw [q.2.2.2.2] at f
  rw [← a, ← b, ← d, ← e, ← f]
  unfold ordR
  refine ⟨?_, ?_, ?_, ?_, ?_⟩ <;> (constructor <;> intro h <;> (revert h; (repeat' split) <;> omega))
/-- The three units of a time: what its order is, and what is the next one. -/
theorem rn_take {was acc : Int} {l r : List UInt8} {u : UInt8} {n : Int} (h : hv l u = some (n, r)) (hu : u ≠ 84) (hb : ¬ bad was (ordR (u.toNat : Int))) : rn was acc l = rn (ordR (u.toNat : Int)) (acc + n * worR (u.toNat : Int)) r := by
  obtain ⟨d, h1, h2, h3, _⟩ := hv_some h
  rw [rn_num h1 (by omega) hu, if_neg hb, h2]
theorem rn_bad {was acc : Int} {l r : List UInt8} {u : UInt8} {n : Int} (h : hv l u = some (n, r)) (hu : u ≠ 84) (hb : bad was (ordR (u.toNat : Int))) : rn was acc l = -1 := by
  obtain ⟨d, h1, h2, h3, _⟩ := hv_some h
  rw [rn_num h1 (by omega) hu, if_pos hb]
/-- Where no piece may follow, there is nothing, or nothing that counts. -/
theorem rn_end {was acc : Int} {l : List UInt8} (h : ∀ d c r, hd [] l = some (d, c, r) → bad was (ordR (c.toNat : Int)) ∨ numR d < 0) (hT : bad was 1) (hw : was ≠ -1 ∧ was ≠ 1) : rn was acc l = if l = [] then acc else -1 := by
  cases e : hd [] l with
  | none =>
    rw [rn_none e]
    by_cases z : l = []
    · rw [if_pos z, if_pos z, if_neg (show ¬ (was = -1 ∨ was = 1) from fun x => x.elim hw.1 hw.2)]
    · rw [if_neg z, if_neg z]
  | some t =>
    obtain ⟨d, c, r⟩ := t
    have hl : l ≠ [] := by rintro rfl; cases e
    rw [if_neg hl]
    by_cases q : c = 84 ∧ d = []
    · obtain ⟨rfl, rfl⟩ := q
      rw [rn_T e, if_pos hT]
    · by_cases q2 : numR d < 0 ∨ c = 84
      · exact rn_fail e q q2
      · have q3 : ¬ numR d < 0 := fun x => q2 (.inl x)
        have q4 : c ≠ 84 := fun x => q2 (.inr x)
        rw [rn_num e q3 q4]
        rcases h d c r e with z | z
        · rw [if_pos z]
        · exact absurd z q3
theorem rn_4 (acc : Int) (l : List UInt8) : rn 4 acc l = if l = [] then acc else -1 :=
  rn_end (was := 4) (fun d c r _ => .inl (by have := ordR_bd (c.toNat : Int); unfold bad; omega)) (by decide) (by decide)
theorem rn_3 {acc : Int} {l : List UInt8} (h : hv l 83 = none) : rn 3 acc l = if l = [] then acc else -1 :=
  rn_end (was := 3) (fun d c r e => by
    by_cases q : c = 83
    · subst q; exact .inr (hv_none h e)
    · have := mt (ord_of c).2.2.2.2.mp q; have := ordR_bd (c.toNat : Int); exact .inl (by unfold bad; omega)) (by decide) (by decide)
theorem rn_2 {acc : Int} {l : List UInt8} (h : hv l 77 = none) : rn 2 acc l = if l = [] then acc else -1 :=
  rn_end (was := 2) (fun d c r e => by
    by_cases q : c = 77
    · subst q; exact .inr (hv_none h e)
    · have := mt (ord_of c).2.2.2.1.mp q; have := ordR_bd (c.toNat : Int); exact .inl (by unfold bad; omega)) (by decide) (by decide)
theorem rn_1 {acc : Int} {l : List UInt8} (h2 : hv l 72 = none) (h3 : hv l 77 = none) (h4 : hv l 83 = none) : rn 1 acc l = -1 := by
  cases e : hd [] l with
  | none => rw [rn_none e]; simp
  | some t =>
    obtain ⟨d, c, r⟩ := t
    by_cases q : c = 84 ∧ d = []
    · obtain ⟨rfl, rfl⟩ := q
      rw [rn_T e, if_pos (by decide)]
    · by_cases q2 : numR d < 0 ∨ c = 84
      · exact rn_fail e q q2
      · have q3 : ¬ numR d < 0 := fun x => q2 (.inl x)
        have q4 : c ≠ 84 := fun x => q2 (.inr x)
        rw [rn_num e q3 q4, if_pos]
        have o := ord_of c
        have ob := ordR_bd (c.toNat : Int)
        have n2 : c ≠ 72 := by rintro rfl; exact q3 (hv_none h2 e)
        have n3 : c ≠ 77 := by rintro rfl; exact q3 (hv_none h3 e)
        have n4 : c ≠ 83 := by rintro rfl; exact q3 (hv_none h4 e)
        have := mt o.2.2.1.mp n2; have := mt o.2.2.2.1.mp n3; have := mt o.2.2.2.2.mp n4
        unfold bad; omega
end Go.Proofs.YtiffbkfgimifbaaDoor.Print

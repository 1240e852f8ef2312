/- when.Span: the closure that writes onto the text, and what the function comes to. -/
import Derived.Test.YtiffbkfgimifbaaDoorPrint0
import Derived.Test.YtiffbkfgimifbaaDoorGLib
import Derived.Deep.RegionWith
import Derived.OneCell
namespace Go.Proofs.YtiffbkfgimifbaaDoor.Print
open Go.RowKit Go.Proofs.YtiffbkfgimifbaaDoorW.PrintWords Go.Proofs.YtiffbkfgimifbaaDoorW.PrintLast Go.Proofs.YtiffbkfgimifbaaDoorW.PrintMore

def itoaB (v : Int) : ByteArray := ⟨(Lib.itoa v).toArray⟩
/-- What the closure makes of the text. -/
def when_Span.put (o : ByteArray) (v : Int) (u : ByteArray) : ByteArray := if 0 < v then o ++ (itoaB v ++ u) else o
theorem when_Span.put_pos {o u : ByteArray} {v : Int} (h : 0 < v) : when_Span.put o v u = o ++ (itoaB v ++ u) := if_pos h
theorem when_Span.put_neg {o u : ByteArray} {v : Int} (h : ¬ 0 < v) : when_Span.put o v u = o := if_neg h
theorem bcell0 {w w1 : World} {b : Nat} {o : Obj} (hb : Below w.heap.size w w1) (h : w.heap[b]? = some o) : w1.heap[b]? = some o := by
  rw [hb.block b (lt_of_block h)]; exact h

theorem heap_new (w : World) (o : Obj) : (w.alloc o).heap[w.heap.size]? = some o := by
  show (w.heap.push o)[w.heap.size]? = _
  rw [Array.getElem?_push, if_pos rfl]
theorem below_new (w : World) (o : Obj) : Below w.heap.size w (w.alloc o) := (Below.refl _ _).alloc (Nat.le_refl _) _
theorem below_low {w W w1 : World} {b : Nat} (hw : Below w.heap.size w W) (hlt : b < w.heap.size) (h1 : Below W.heap.size W w1) : Below b w w1 :=
  (hw.mono (by omega)).trans (h1.mono (by have := hw.size; omega))

set_option maxHeartbeats 4000000 in
set_option maxRecDepth 100000 in
theorem when_Span.put_calls (v : Int) (u o : ByteArray) (b : Nat) (w : World) (hv0 : -9223372036854775808 ≤ v) (hv1 : v ≤ 9223372036854775807) (hl : (itoaB v).size ≤ 30) (hu : u.size ≤ 30) (ho : o.size ≤ 1000) (hb : w.heap[b]? = some (.cells #[.string o] 9 (0, 0))) (hLD : Laid w) (hg : 0 < b) :
    Calls Tryd.prog 33 #[.int .i64 v, .string u, .pointer (some ⟨b, 0, none⟩)] w fun e w' => e = .returned (.tuple #[]) ∧ w'.heap[b]? = some (.cells #[.string (when_Span.put o v u)] 9 (0, 0)) ∧ Below b w w' ∧ Laid w' := by
  by_cases hv : 0 < v
  · rw [when_Span.put_pos hv]
    have hd : decide (0 < v) = true := decide_eq_true hv
    have HF : Aside0 (strconv_FormatInt.f v 10 = some (itoaB v)) := ⟨by unfold strconv_FormatInt.f; rw [if_pos ⟨⟨hv0, hv1⟩, rfl⟩]; rfl⟩
    have HLD := Aside0.mk hLD
    have HB := Aside0.mk hb
    have c0 := cell_of_one hb
    have f0 := free_of_one hb
    have hlt := lt_of_block hb
    generalize itoaB v = x at HF hl ⊢
    clear hLD hb
    go_enter Tryd.func33, Tryd.ntmps33
    go_wp2_with fail
    go_region_with (go_at_call 34; refine (strconv_FormatInt.calls v 10 x _ HF.out (Laid.below HLD.out (by repeat (first | exact Below.refl _ _ | apply below_alloc | apply pw_below_drewN | apply below_drew1)))).mono ?_; rintro e w1 ⟨rfl, hb1⟩; have HB1 := Aside0.mk (bcell0 hb1 HB.out); have c1 := cell_of_one HB1.out; have f1 := free_of_one HB1.out; have HBB := Aside0.mk (below_low (by repeat (first | exact Below.refl _ _ | apply below_alloc | apply pw_below_drewN | apply below_drew1)) hlt hb1); clear hb1)
    all_goals
      go_end0
      have hB := HBB.out.setCell (p := ⟨b, 0, none⟩) (Nat.le_refl b) (.string (o ++ (x ++ u)))
      exact ⟨rfl, one_setCell HB1.out, hB, var?_below hB gPow10 hg HLD.out⟩
  · rw [when_Span.put_neg hv]
    have hd : decide (0 < v) = false := decide_eq_false hv
    have HB := Aside0.mk hb
    have HLD := Aside0.mk hLD
    clear hb hLD
    go_enter Tryd.func33, Tryd.ntmps33
    go_wp2
    go_end0
    exact ⟨rfl, HB.out, Below.refl _ _, HLD.out⟩

/-- What is written behind the day's part: r is what is left of the day. -/
def when_Span.hms (o : ByteArray) (n r : Int) : ByteArray :=
  when_Span.put (when_Span.put (if (3600 ≤ r ∧ 0 < n % 60) ∧ r / 60 % 60 = 0 then when_Span.put (if 0 < r then o ++ ⟨#[84]⟩ else o) (r / 3600) ⟨#[72]⟩ ++ ⟨#[48, 77]⟩ else when_Span.put (if 0 < r then o ++ ⟨#[84]⟩ else o) (r / 3600) ⟨#[72]⟩) (r / 60 % 60) ⟨#[77]⟩) (n % 60) ⟨#[83]⟩
def when_Span.body (o : ByteArray) (n : Int) : ByteArray :=
  if 0 < n ∧ n % 604800 = 0 then when_Span.put o (n / 604800) ⟨#[87]⟩
  else if n = 0 then when_Span.hms (when_Span.put o (n / 86400) ⟨#[68]⟩) n (n % 86400) ++ ⟨#[84, 48, 83]⟩ else when_Span.hms (when_Span.put o (n / 86400) ⟨#[68]⟩) n (n % 86400)
def when_Span.f (a0 : Int) : Option (ByteArray × Int) :=
  if a0 < -1099511627776 ∨ 1099511627776 < a0 then some (⟨#[]⟩, 110)
  else if a0 < 0 then some (when_Span.body ⟨#[45, 80]⟩ (-a0), 0) else some (when_Span.body ⟨#[80]⟩ a0, 0)

theorem dec_len (k : Nat) : ∀ u, u < 10 ^ (k + 1) → (Lib.decDigits u).length ≤ k + 1 := by
  induction k with
  | zero => intro u hu; rw [Lib.decDigits, dif_pos (by omega)]; simp
  | succ k ih =>
    intro u hu
    rw [Lib.decDigits]
    split
    · simp
    · have := ih (u / 10) (by rw [Nat.pow_succ] at hu; omega)
      simp
      omega
theorem itoaB_size (v : Int) (h0 : 0 ≤ v) (h1 : v ≤ 1099511627776) : (itoaB v).size ≤ 30 := by
  show (Lib.itoa v).length ≤ 30
  unfold Lib.itoa
  rw [if_neg (by omega)]
  have := dec_len 15 v.toNat (by omega)
  omega
theorem put_size (o u : ByteArray) (v : Int) (h0 : 0 ≤ v) (h1 : v ≤ 1099511627776) (hu : u.size ≤ 30) : (when_Span.put o v u).size ≤ o.size + 60 := by
  unfold when_Span.put
  split
  · have := itoaB_size v h0 h1
    simp only [ByteArray.size_append]
    omega
  · omega

end Go.Proofs.YtiffbkfgimifbaaDoor.Print

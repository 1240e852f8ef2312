/- when.Span at 0. -/
import Derived.Test.YtiffbkfgimifbaaDoorPrint0
import Derived.Test.YtiffbkfgimifbaaDoorGSpan
namespace Go.Proofs.YtiffbkfgimifbaaDoor.Print
open Go.RowKit Go.Proofs.YtiffbkfgimifbaaDoorW.PrintWords Go.Proofs.YtiffbkfgimifbaaDoorW.PrintLast Go.Proofs.YtiffbkfgimifbaaDoorW.PrintMore
theorem when_Span.hms_zero (o : ByteArray) : when_Span.hms o 0 (0 % 86400) = when_Span.put (when_Span.put (when_Span.put o 0 ⟨#[72]⟩) 0 ⟨#[77]⟩) 0 ⟨#[83]⟩ := rfl
set_option maxHeartbeats 8000000 in
set_option maxRecDepth 100000 in
theorem when_Span.zero_calls (r1 : ByteArray) (w : World) (h : when_Span.hms (when_Span.put ⟨#[80]⟩ (0 / 86400) ⟨#[68]⟩) 0 (0 % 86400) ++ ⟨#[84, 48, 83]⟩ = r1) (hLD : Laid w) :
    Calls Tryd.prog 21 #[.int .i64 0] w fun e w' => e = .returned (.tuple #[.string r1, .int .i64 0]) ∧ Below w.heap.size w w' := by
  have hg := var_lt gPow10 hLD
  have HLD := Aside0.mk hLD
  clear hLD
  have HH := Aside0.mk h
  clear h
  go_enter Tryd.func21, Tryd.ntmps21
  have ZZ0 : Aside0 ((⟨#[80]⟩ : ByteArray).size ≤ 10) := ⟨by decide⟩
  go_wp2_with fail
  refine (when_Span.put_calls (0) ⟨#[68]⟩ (⟨#[80]⟩ : ByteArray) w.heap.size _ (by omega) (by omega) (itoaB_size _ (by omega) (by omega)) (by decide) (by have := ZZ0.out; omega) (heap_new w (Obj.cells #[Value.string ⟨#[80]⟩] 9)) (Laid.below HLD.out (below_new w (Obj.cells #[Value.string ⟨#[80]⟩] 9))) hg).mono ?_
  rintro e w1 ⟨rfl, hb1, hB1, -⟩
  have BB1 : Aside0 (Below w.heap.size w w1) := ⟨Below.trans (below_new w (Obj.cells #[Value.string ⟨#[80]⟩] 9)) hB1⟩
  have SZ1 := put_size (⟨#[80]⟩ : ByteArray) ⟨#[68]⟩ (0) (by omega) (by omega) (by decide)
  obtain ⟨o1, ho1⟩ : ∃ o : ByteArray, when_Span.put (⟨#[80]⟩ : ByteArray) (0) ⟨#[68]⟩ = o := ⟨_, rfl⟩
  rw [ho1] at hb1 SZ1
  have HO1 := Aside0.mk ho1
  have HB1 := Aside0.mk hb1
  have ZZ1 : Aside0 (o1.size ≤ 70) := ⟨by have := ZZ0.out; omega⟩
  have c1_ := cell_of_one hb1
  have f1_ := free_of_one hb1
  clear hb1 hB1 ho1 SZ1
  have zz1_ : o1.size ≤ 1000 := by have := ZZ1.out; omega
  go_wp2_with fail
  refine (when_Span.put_calls (0) ⟨#[72]⟩ o1 w.heap.size _ (by omega) (by omega) (itoaB_size _ (by omega) (by omega)) (by decide) (by have := ZZ1.out; omega) HB1.out (Laid.below HLD.out BB1.out) hg).mono ?_
  rintro e w2 ⟨rfl, hb2, hB2, -⟩
  have BB2 : Aside0 (Below w.heap.size w w2) := ⟨Below.trans BB1.out hB2⟩
  have SZ2 := put_size o1 ⟨#[72]⟩ (0) (by omega) (by omega) (by decide)
  obtain ⟨o2, ho2⟩ : ∃ o : ByteArray, when_Span.put o1 (0) ⟨#[72]⟩ = o := ⟨_, rfl⟩
  rw [ho2] at hb2 SZ2
  have HO2 := Aside0.mk ho2
  have HB2 := Aside0.mk hb2
  have ZZ2 : Aside0 (o2.size ≤ 130) := ⟨by have := ZZ1.out; omega⟩
  have c2_ := cell_of_one hb2
  have f2_ := free_of_one hb2
  clear hb2 hB2 ho2 SZ2
  have zz2_ : o2.size ≤ 1000 := by have := ZZ2.out; omega
  go_wp2_with fail
  refine (when_Span.put_calls (0) ⟨#[77]⟩ o2 w.heap.size _ (by omega) (by omega) (itoaB_size _ (by omega) (by omega)) (by decide) (by have := ZZ2.out; omega) HB2.out (Laid.below HLD.out BB2.out) hg).mono ?_
  rintro e w3 ⟨rfl, hb3, hB3, -⟩
  have BB3 : Aside0 (Below w.heap.size w w3) := ⟨Below.trans BB2.out hB3⟩
  have SZ3 := put_size o2 ⟨#[77]⟩ (0) (by omega) (by omega) (by decide)
  obtain ⟨o3, ho3⟩ : ∃ o : ByteArray, when_Span.put o2 (0) ⟨#[77]⟩ = o := ⟨_, rfl⟩
  rw [ho3] at hb3 SZ3
  have HO3 := Aside0.mk ho3
  have HB3 := Aside0.mk hb3
  have ZZ3 : Aside0 (o3.size ≤ 190) := ⟨by have := ZZ2.out; omega⟩
  have c3_ := cell_of_one hb3
  have f3_ := free_of_one hb3
  clear hb3 hB3 ho3 SZ3
  have zz3_ : o3.size ≤ 1000 := by have := ZZ3.out; omega
  go_wp2_with fail
  refine (when_Span.put_calls (0) ⟨#[83]⟩ o3 w.heap.size _ (by omega) (by omega) (itoaB_size _ (by omega) (by omega)) (by decide) (by have := ZZ3.out; omega) HB3.out (Laid.below HLD.out BB3.out) hg).mono ?_
  rintro e w4 ⟨rfl, hb4, hB4, -⟩
  have BB4 : Aside0 (Below w.heap.size w w4) := ⟨Below.trans BB3.out hB4⟩
  have SZ4 := put_size o3 ⟨#[83]⟩ (0) (by omega) (by omega) (by decide)
  obtain ⟨o4, ho4⟩ : ∃ o : ByteArray, when_Span.put o3 (0) ⟨#[83]⟩ = o := ⟨_, rfl⟩
  rw [ho4] at hb4 SZ4
  have HO4 := Aside0.mk ho4
  have HB4 := Aside0.mk hb4
  have ZZ4 : Aside0 (o4.size ≤ 250) := ⟨by have := ZZ3.out; omega⟩
  have c4_ := cell_of_one hb4
  have f4_ := free_of_one hb4
  clear hb4 hB4 ho4 SZ4
  have zz4_ : o4.size ≤ 1000 := by have := ZZ4.out; omega
  go_wp2_with fail
  have ZZ5 : Aside0 ((o4 ++ ⟨#[84, 48, 83]⟩).size ≤ 253) := ⟨by have := ZZ4.out; simp only [ByteArray.size_append, mk_size, List.length_cons, List.length_nil]; omega⟩
  go_ret2
  have e : when_Span.hms (when_Span.put ⟨#[80]⟩ (0 / 86400) ⟨#[68]⟩) 0 (0 % 86400) ++ ⟨#[84, 48, 83]⟩ = o4 ++ ⟨#[84, 48, 83]⟩ := by
    rw [show when_Span.put ⟨#[80]⟩ (0 / 86400) ⟨#[68]⟩ = when_Span.put ⟨#[80]⟩ 0 ⟨#[68]⟩ from rfl, HO1.out, when_Span.hms_zero, HO2.out, HO3.out, HO4.out]
  exact ⟨by rw [← HH.out, e]; rfl, (Below.setCell (p := ⟨w.heap.size, 0, none⟩) BB4.out (Nat.le_refl _) _)⟩
end Go.Proofs.YtiffbkfgimifbaaDoor.Print

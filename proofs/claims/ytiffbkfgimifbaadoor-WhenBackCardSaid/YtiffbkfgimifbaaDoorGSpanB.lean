/- when.Span from 0 on, and as a whole. -/
import Derived.Test.YtiffbkfgimifbaaDoorPrint0
import Derived.Test.YtiffbkfgimifbaaDoorGSpanA
import Derived.Test.YtiffbkfgimifbaaDoorGSpanZ
namespace Go.Proofs.YtiffbkfgimifbaaDoor.Print
open Go.RowKit Go.Proofs.YtiffbkfgimifbaaDoorW.PrintWords Go.Proofs.YtiffbkfgimifbaaDoorW.PrintLast Go.Proofs.YtiffbkfgimifbaaDoorW.PrintMore
set_option maxHeartbeats 8000000 in
set_option maxRecDepth 100000 in
theorem when_Span.pos_calls (a0 : Int) (r1 : ByteArray) (w : World) (c1' : 0 ≤ a0) (b1 : a0 ≤ 1099511627776) (h : when_Span.body ⟨#[80]⟩ a0 = r1) (hLD : Laid w) :
    Calls Tryd.prog 21 #[.int .i64 a0] w fun e w' => e = .returned (.tuple #[.string r1, .int .i64 0]) ∧ Below w.heap.size w w' := by
  have hg := var_lt gPow10 hLD
  have HLD := Aside0.mk hLD
  clear hLD
  unfold when_Span.body at h
  by_cases c2 : 0 < a0 ∧ a0 % 604800 = 0
  · rw [if_pos c2] at h
    have HH := Aside0.mk h
    clear h
    obtain ⟨c2, c3⟩ := c2
    have c3b : (a0 % 604800 == 0) = true := beq_iff_eq.mpr c3
    clear c3
    go_enter Tryd.func21, Tryd.ntmps21
    have ZZ0 : Aside0 ((⟨#[80]⟩ : ByteArray).size ≤ 10) := ⟨by decide⟩
    go_wp2_with fail
    refine (when_Span.put_calls (a0 / 604800) ⟨#[87]⟩ (⟨#[80]⟩ : ByteArray) w.heap.size _ (by omega) (by omega) (itoaB_size _ (by omega) (by omega)) (by decide) (by have := ZZ0.out; omega) (heap_new w (Obj.cells #[Value.string ⟨#[80]⟩] 9)) (Laid.below HLD.out (below_new w (Obj.cells #[Value.string ⟨#[80]⟩] 9))) hg).mono ?_
    rintro e w1 ⟨rfl, hb1, hB1, -⟩
    have BB1 : Aside0 (Below w.heap.size w w1) := ⟨Below.trans (below_new w (Obj.cells #[Value.string ⟨#[80]⟩] 9)) hB1⟩
    have SZ1 := put_size (⟨#[80]⟩ : ByteArray) ⟨#[87]⟩ (a0 / 604800) (by omega) (by omega) (by decide)
    obtain ⟨o1, ho1⟩ : ∃ o : ByteArray, when_Span.put (⟨#[80]⟩ : ByteArray) (a0 / 604800) ⟨#[87]⟩ = o := ⟨_, rfl⟩
    rw [ho1] at hb1 SZ1
    have HO1 := Aside0.mk ho1
    have HB1 := Aside0.mk hb1
    have ZZ1 : Aside0 (o1.size ≤ 70) := ⟨by have := ZZ0.out; omega⟩
    have c1_ := cell_of_one hb1
    have f1_ := free_of_one hb1
    clear hb1 hB1 ho1 SZ1
    have zz1_ : o1.size ≤ 1000 := by have := ZZ1.out; omega
    go_wp2_with fail
    go_ret2
    exact ⟨by rw [← HH.out]; simp only [HO1.out] <;> (first | done | rfl), BB1.out⟩
  · rw [if_neg c2] at h
    by_cases c4 : a0 = 0
    · subst c4
      rw [if_pos rfl] at h
      exact when_Span.zero_calls r1 w h HLD.out
    · rw [if_neg c4] at h
      have c5 : 0 < a0 := by omega
      clear c4
      have c3b : (a0 % 604800 == 0) = false := beq_eq_false_iff_ne.mpr (fun e => c2 ⟨c5, e⟩)
      clear c2
      unfold when_Span.hms at h
      have HH := Aside0.mk h
      clear h
      by_cases c6 : 0 < a0 % 86400
      · have e6 := c6
        have HC := Aside0.mk (c6)
        clear e6
        by_cases c7 : 3600 ≤ a0 % 86400
        · by_cases c8 : 0 < a0 % 60
          · by_cases c9 : a0 % 86400 / 60 % 60 = 0
            · have c9b : (a0 % 86400 / 60 % 60 == 0) = true := beq_iff_eq.mpr c9
              replace c9 := Aside0.mk c9
              go_enter Tryd.func21, Tryd.ntmps21
              have ZZ0 : Aside0 ((⟨#[80]⟩ : ByteArray).size ≤ 10) := ⟨by decide⟩
              go_wp2_with fail
              refine (when_Span.put_calls (a0 / 86400) ⟨#[68]⟩ (⟨#[80]⟩ : ByteArray) w.heap.size _ (by omega) (by omega) (itoaB_size _ (by omega) (by omega)) (by decide) (by have := ZZ0.out; omega) (heap_new w (Obj.cells #[Value.string ⟨#[80]⟩] 9)) (Laid.below HLD.out (below_new w (Obj.cells #[Value.string ⟨#[80]⟩] 9))) hg).mono ?_
              rintro e w1 ⟨rfl, hb1, hB1, -⟩
              have BB1 : Aside0 (Below w.heap.size w w1) := ⟨Below.trans (below_new w (Obj.cells #[Value.string ⟨#[80]⟩] 9)) hB1⟩
              have SZ1 := put_size (⟨#[80]⟩ : ByteArray) ⟨#[68]⟩ (a0 / 86400) (by omega) (by omega) (by decide)
              obtain ⟨o1, ho1⟩ : ∃ o : ByteArray, when_Span.put (⟨#[80]⟩ : ByteArray) (a0 / 86400) ⟨#[68]⟩ = o := ⟨_, rfl⟩
              rw [ho1] at hb1 SZ1
              have HO1 := Aside0.mk ho1
              have HB1 := Aside0.mk hb1
              have ZZ1 : Aside0 (o1.size ≤ 70) := ⟨by have := ZZ0.out; omega⟩
              have c1_ := cell_of_one hb1
              have f1_ := free_of_one hb1
              clear hb1 hB1 ho1 SZ1
              have zz1_ : o1.size ≤ 1000 := by have := ZZ1.out; omega
              go_wp2_with fail
              have ZZ2 : Aside0 ((o1 ++ ⟨#[84]⟩).size ≤ 71) := ⟨by have := ZZ1.out; simp only [ByteArray.size_append, mk_size, List.length_cons, List.length_nil]; omega⟩
              refine (when_Span.put_calls (a0 % 86400 / 3600) ⟨#[72]⟩ (o1 ++ ⟨#[84]⟩) w.heap.size _ (by omega) (by omega) (itoaB_size _ (by omega) (by omega)) (by decide) (by have := ZZ2.out; omega) (one_setCell HB1.out) (Laid.below HLD.out (Below.setCell (p := ⟨w.heap.size, 0, none⟩) BB1.out (Nat.le_refl _) _)) hg).mono ?_
              rintro e w2 ⟨rfl, hb2, hB2, -⟩
              have BB2 : Aside0 (Below w.heap.size w w2) := ⟨Below.trans (Below.setCell (p := ⟨w.heap.size, 0, none⟩) BB1.out (Nat.le_refl _) _) hB2⟩
              have SZ2 := put_size (o1 ++ ⟨#[84]⟩) ⟨#[72]⟩ (a0 % 86400 / 3600) (by omega) (by omega) (by decide)
              obtain ⟨o2, ho2⟩ : ∃ o : ByteArray, when_Span.put (o1 ++ ⟨#[84]⟩) (a0 % 86400 / 3600) ⟨#[72]⟩ = o := ⟨_, rfl⟩
              rw [ho2] at hb2 SZ2
              have HO2 := Aside0.mk ho2
              have HB2 := Aside0.mk hb2
              have ZZ3 : Aside0 (o2.size ≤ 131) := ⟨by have := ZZ2.out; omega⟩
              have c2_ := cell_of_one hb2
              have f2_ := free_of_one hb2
              clear hb2 hB2 ho2 SZ2
              have zz2_ : o2.size ≤ 1000 := by have := ZZ3.out; omega
              go_wp2_with fail
              have ZZ4 : Aside0 ((o2 ++ ⟨#[48, 77]⟩).size ≤ 133) := ⟨by have := ZZ3.out; simp only [ByteArray.size_append, mk_size, List.length_cons, List.length_nil]; omega⟩
              refine (when_Span.put_calls (a0 % 86400 / 60 % 60) ⟨#[77]⟩ (o2 ++ ⟨#[48, 77]⟩) w.heap.size _ (by omega) (by omega) (itoaB_size _ (by omega) (by omega)) (by decide) (by have := ZZ4.out; omega) (one_setCell HB2.out) (Laid.below HLD.out (Below.setCell (p := ⟨w.heap.size, 0, none⟩) BB2.out (Nat.le_refl _) _)) hg).mono ?_
              rintro e w3 ⟨rfl, hb3, hB3, -⟩
              have BB3 : Aside0 (Below w.heap.size w w3) := ⟨Below.trans (Below.setCell (p := ⟨w.heap.size, 0, none⟩) BB2.out (Nat.le_refl _) _) hB3⟩
              have SZ3 := put_size (o2 ++ ⟨#[48, 77]⟩) ⟨#[77]⟩ (a0 % 86400 / 60 % 60) (by omega) (by omega) (by decide)
              obtain ⟨o3, ho3⟩ : ∃ o : ByteArray, when_Span.put (o2 ++ ⟨#[48, 77]⟩) (a0 % 86400 / 60 % 60) ⟨#[77]⟩ = o := ⟨_, rfl⟩
              rw [ho3] at hb3 SZ3
              have HO3 := Aside0.mk ho3
              have HB3 := Aside0.mk hb3
              have ZZ5 : Aside0 (o3.size ≤ 193) := ⟨by have := ZZ4.out; omega⟩
              have c3_ := cell_of_one hb3
              have f3_ := free_of_one hb3
              clear hb3 hB3 ho3 SZ3
              have zz3_ : o3.size ≤ 1000 := by have := ZZ5.out; omega
              go_wp2_with fail
              refine (when_Span.put_calls (a0 % 60) ⟨#[83]⟩ o3 w.heap.size _ (by omega) (by omega) (itoaB_size _ (by omega) (by omega)) (by decide) (by have := ZZ5.out; omega) HB3.out (Laid.below HLD.out BB3.out) hg).mono ?_
              rintro e w4 ⟨rfl, hb4, hB4, -⟩
              have BB4 : Aside0 (Below w.heap.size w w4) := ⟨Below.trans BB3.out hB4⟩
              have SZ4 := put_size o3 ⟨#[83]⟩ (a0 % 60) (by omega) (by omega) (by decide)
              obtain ⟨o4, ho4⟩ : ∃ o : ByteArray, when_Span.put o3 (a0 % 60) ⟨#[83]⟩ = o := ⟨_, rfl⟩
              rw [ho4] at hb4 SZ4
              have HO4 := Aside0.mk ho4
              have HB4 := Aside0.mk hb4
              have ZZ6 : Aside0 (o4.size ≤ 253) := ⟨by have := ZZ5.out; omega⟩
              have c4_ := cell_of_one hb4
              have f4_ := free_of_one hb4
              clear hb4 hB4 ho4 SZ4
              have zz4_ : o4.size ≤ 1000 := by have := ZZ6.out; omega
              go_wp2_with fail
              go_ret2
              exact ⟨by rw [← HH.out]; simp only [if_pos (show 0 < a0 % 86400 by omega), if_pos (show (3600 ≤ a0 % 86400 ∧ 0 < a0 % 60) ∧ a0 % 86400 / 60 % 60 = 0 from ⟨⟨by omega, by omega⟩, c9.out⟩), HO1.out, HO2.out, HO3.out, HO4.out] <;> (first | done | rfl), BB4.out⟩
            · have c9b : (a0 % 86400 / 60 % 60 == 0) = false := beq_eq_false_iff_ne.mpr c9
              replace c9 := Aside0.mk c9
              go_enter Tryd.func21, Tryd.ntmps21
              have ZZ0 : Aside0 ((⟨#[80]⟩ : ByteArray).size ≤ 10) := ⟨by decide⟩
              go_wp2_with fail
              refine (when_Span.put_calls (a0 / 86400) ⟨#[68]⟩ (⟨#[80]⟩ : ByteArray) w.heap.size _ (by omega) (by omega) (itoaB_size _ (by omega) (by omega)) (by decide) (by have := ZZ0.out; omega) (heap_new w (Obj.cells #[Value.string ⟨#[80]⟩] 9)) (Laid.below HLD.out (below_new w (Obj.cells #[Value.string ⟨#[80]⟩] 9))) hg).mono ?_
              rintro e w1 ⟨rfl, hb1, hB1, -⟩
              have BB1 : Aside0 (Below w.heap.size w w1) := ⟨Below.trans (below_new w (Obj.cells #[Value.string ⟨#[80]⟩] 9)) hB1⟩
              have SZ1 := put_size (⟨#[80]⟩ : ByteArray) ⟨#[68]⟩ (a0 / 86400) (by omega) (by omega) (by decide)
              obtain ⟨o1, ho1⟩ : ∃ o : ByteArray, when_Span.put (⟨#[80]⟩ : ByteArray) (a0 / 86400) ⟨#[68]⟩ = o := ⟨_, rfl⟩
              rw [ho1] at hb1 SZ1
              have HO1 := Aside0.mk ho1
              have HB1 := Aside0.mk hb1
              have ZZ1 : Aside0 (o1.size ≤ 70) := ⟨by have := ZZ0.out; omega⟩
              have c1_ := cell_of_one hb1
              have f1_ := free_of_one hb1
              clear hb1 hB1 ho1 SZ1
              have zz1_ : o1.size ≤ 1000 := by have := ZZ1.out; omega
              go_wp2_with fail
              have ZZ2 : Aside0 ((o1 ++ ⟨#[84]⟩).size ≤ 71) := ⟨by have := ZZ1.out; simp only [ByteArray.size_append, mk_size, List.length_cons, List.length_nil]; omega⟩
              refine (when_Span.put_calls (a0 % 86400 / 3600) ⟨#[72]⟩ (o1 ++ ⟨#[84]⟩) w.heap.size _ (by omega) (by omega) (itoaB_size _ (by omega) (by omega)) (by decide) (by have := ZZ2.out; omega) (one_setCell HB1.out) (Laid.below HLD.out (Below.setCell (p := ⟨w.heap.size, 0, none⟩) BB1.out (Nat.le_refl _) _)) hg).mono ?_
              rintro e w2 ⟨rfl, hb2, hB2, -⟩
              have BB2 : Aside0 (Below w.heap.size w w2) := ⟨Below.trans (Below.setCell (p := ⟨w.heap.size, 0, none⟩) BB1.out (Nat.le_refl _) _) hB2⟩
              have SZ2 := put_size (o1 ++ ⟨#[84]⟩) ⟨#[72]⟩ (a0 % 86400 / 3600) (by omega) (by omega) (by decide)
              obtain ⟨o2, ho2⟩ : ∃ o : ByteArray, when_Span.put (o1 ++ ⟨#[84]⟩) (a0 % 86400 / 3600) ⟨#[72]⟩ = o := ⟨_, rfl⟩
              rw [ho2] at hb2 SZ2
              have HO2 := Aside0.mk ho2
              have HB2 := Aside0.mk hb2
              have ZZ3 : Aside0 (o2.size ≤ 131) := ⟨by have := ZZ2.out; omega⟩
              have c2_ := cell_of_one hb2
              have f2_ := free_of_one hb2
              clear hb2 hB2 ho2 SZ2
              have zz2_ : o2.size ≤ 1000 := by have := ZZ3.out; omega
              go_wp2_with fail
              refine (when_Span.put_calls (a0 % 86400 / 60 % 60) ⟨#[77]⟩ o2 w.heap.size _ (by omega) (by omega) (itoaB_size _ (by omega) (by omega)) (by decide) (by have := ZZ3.out; omega) HB2.out (Laid.below HLD.out BB2.out) hg).mono ?_
              rintro e w3 ⟨rfl, hb3, hB3, -⟩
              have BB3 : Aside0 (Below w.heap.size w w3) := ⟨Below.trans BB2.out hB3⟩
              have SZ3 := put_size o2 ⟨#[77]⟩ (a0 % 86400 / 60 % 60) (by omega) (by omega) (by decide)
              obtain ⟨o3, ho3⟩ : ∃ o : ByteArray, when_Span.put o2 (a0 % 86400 / 60 % 60) ⟨#[77]⟩ = o := ⟨_, rfl⟩
              rw [ho3] at hb3 SZ3
              have HO3 := Aside0.mk ho3
              have HB3 := Aside0.mk hb3
              have ZZ4 : Aside0 (o3.size ≤ 191) := ⟨by have := ZZ3.out; omega⟩
              have c3_ := cell_of_one hb3
              have f3_ := free_of_one hb3
              clear hb3 hB3 ho3 SZ3
              have zz3_ : o3.size ≤ 1000 := by have := ZZ4.out; omega
              go_wp2_with fail
              refine (when_Span.put_calls (a0 % 60) ⟨#[83]⟩ o3 w.heap.size _ (by omega) (by omega) (itoaB_size _ (by omega) (by omega)) (by decide) (by have := ZZ4.out; omega) HB3.out (Laid.below HLD.out BB3.out) hg).mono ?_
              rintro e w4 ⟨rfl, hb4, hB4, -⟩
              have BB4 : Aside0 (Below w.heap.size w w4) := ⟨Below.trans BB3.out hB4⟩
              have SZ4 := put_size o3 ⟨#[83]⟩ (a0 % 60) (by omega) (by omega) (by decide)
              obtain ⟨o4, ho4⟩ : ∃ o : ByteArray, when_Span.put o3 (a0 % 60) ⟨#[83]⟩ = o := ⟨_, rfl⟩
              rw [ho4] at hb4 SZ4
              have HO4 := Aside0.mk ho4
              have HB4 := Aside0.mk hb4
              have ZZ5 : Aside0 (o4.size ≤ 251) := ⟨by have := ZZ4.out; omega⟩
              have c4_ := cell_of_one hb4
              have f4_ := free_of_one hb4
              clear hb4 hB4 ho4 SZ4
              have zz4_ : o4.size ≤ 1000 := by have := ZZ5.out; omega
              go_wp2_with fail
              go_ret2
              exact ⟨by rw [← HH.out]; simp only [if_pos (show 0 < a0 % 86400 by omega), if_neg (show ¬ ((3600 ≤ a0 % 86400 ∧ 0 < a0 % 60) ∧ a0 % 86400 / 60 % 60 = 0) from fun e => c9.out e.2), HO1.out, HO2.out, HO3.out, HO4.out] <;> (first | done | rfl), BB4.out⟩
          · skip
            go_enter Tryd.func21, Tryd.ntmps21
            have ZZ0 : Aside0 ((⟨#[80]⟩ : ByteArray).size ≤ 10) := ⟨by decide⟩
            go_wp2_with fail
            refine (when_Span.put_calls (a0 / 86400) ⟨#[68]⟩ (⟨#[80]⟩ : ByteArray) w.heap.size _ (by omega) (by omega) (itoaB_size _ (by omega) (by omega)) (by decide) (by have := ZZ0.out; omega) (heap_new w (Obj.cells #[Value.string ⟨#[80]⟩] 9)) (Laid.below HLD.out (below_new w (Obj.cells #[Value.string ⟨#[80]⟩] 9))) hg).mono ?_
            rintro e w1 ⟨rfl, hb1, hB1, -⟩
            have BB1 : Aside0 (Below w.heap.size w w1) := ⟨Below.trans (below_new w (Obj.cells #[Value.string ⟨#[80]⟩] 9)) hB1⟩
            have SZ1 := put_size (⟨#[80]⟩ : ByteArray) ⟨#[68]⟩ (a0 / 86400) (by omega) (by omega) (by decide)
            obtain ⟨o1, ho1⟩ : ∃ o : ByteArray, when_Span.put (⟨#[80]⟩ : ByteArray) (a0 / 86400) ⟨#[68]⟩ = o := ⟨_, rfl⟩
            rw [ho1] at hb1 SZ1
            have HO1 := Aside0.mk ho1
            have HB1 := Aside0.mk hb1
            have ZZ1 : Aside0 (o1.size ≤ 70) := ⟨by have := ZZ0.out; omega⟩
            have c1_ := cell_of_one hb1
            have f1_ := free_of_one hb1
            clear hb1 hB1 ho1 SZ1
            have zz1_ : o1.size ≤ 1000 := by have := ZZ1.out; omega
            go_wp2_with fail
            have ZZ2 : Aside0 ((o1 ++ ⟨#[84]⟩).size ≤ 71) := ⟨by have := ZZ1.out; simp only [ByteArray.size_append, mk_size, List.length_cons, List.length_nil]; omega⟩
            refine (when_Span.put_calls (a0 % 86400 / 3600) ⟨#[72]⟩ (o1 ++ ⟨#[84]⟩) w.heap.size _ (by omega) (by omega) (itoaB_size _ (by omega) (by omega)) (by decide) (by have := ZZ2.out; omega) (one_setCell HB1.out) (Laid.below HLD.out (Below.setCell (p := ⟨w.heap.size, 0, none⟩) BB1.out (Nat.le_refl _) _)) hg).mono ?_
            rintro e w2 ⟨rfl, hb2, hB2, -⟩
            have BB2 : Aside0 (Below w.heap.size w w2) := ⟨Below.trans (Below.setCell (p := ⟨w.heap.size, 0, none⟩) BB1.out (Nat.le_refl _) _) hB2⟩
            have SZ2 := put_size (o1 ++ ⟨#[84]⟩) ⟨#[72]⟩ (a0 % 86400 / 3600) (by omega) (by omega) (by decide)
            obtain ⟨o2, ho2⟩ : ∃ o : ByteArray, when_Span.put (o1 ++ ⟨#[84]⟩) (a0 % 86400 / 3600) ⟨#[72]⟩ = o := ⟨_, rfl⟩
            rw [ho2] at hb2 SZ2
            have HO2 := Aside0.mk ho2
            have HB2 := Aside0.mk hb2
            have ZZ3 : Aside0 (o2.size ≤ 131) := ⟨by have := ZZ2.out; omega⟩
            have c2_ := cell_of_one hb2
            have f2_ := free_of_one hb2
            clear hb2 hB2 ho2 SZ2
            have zz2_ : o2.size ≤ 1000 := by have := ZZ3.out; omega
            go_wp2_with fail
            refine (when_Span.put_calls (a0 % 86400 / 60 % 60) ⟨#[77]⟩ o2 w.heap.size _ (by omega) (by omega) (itoaB_size _ (by omega) (by omega)) (by decide) (by have := ZZ3.out; omega) HB2.out (Laid.below HLD.out BB2.out) hg).mono ?_
            rintro e w3 ⟨rfl, hb3, hB3, -⟩
            have BB3 : Aside0 (Below w.heap.size w w3) := ⟨Below.trans BB2.out hB3⟩
            have SZ3 := put_size o2 ⟨#[77]⟩ (a0 % 86400 / 60 % 60) (by omega) (by omega) (by decide)
            obtain ⟨o3, ho3⟩ : ∃ o : ByteArray, when_Span.put o2 (a0 % 86400 / 60 % 60) ⟨#[77]⟩ = o := ⟨_, rfl⟩
            rw [ho3] at hb3 SZ3
            have HO3 := Aside0.mk ho3
            have HB3 := Aside0.mk hb3
            have ZZ4 : Aside0 (o3.size ≤ 191) := ⟨by have := ZZ3.out; omega⟩
            have c3_ := cell_of_one hb3
            have f3_ := free_of_one hb3
            clear hb3 hB3 ho3 SZ3
            have zz3_ : o3.size ≤ 1000 := by have := ZZ4.out; omega
            go_wp2_with fail
            refine (when_Span.put_calls (a0 % 60) ⟨#[83]⟩ o3 w.heap.size _ (by omega) (by omega) (itoaB_size _ (by omega) (by omega)) (by decide) (by have := ZZ4.out; omega) HB3.out (Laid.below HLD.out BB3.out) hg).mono ?_
            rintro e w4 ⟨rfl, hb4, hB4, -⟩
            have BB4 : Aside0 (Below w.heap.size w w4) := ⟨Below.trans BB3.out hB4⟩
            have SZ4 := put_size o3 ⟨#[83]⟩ (a0 % 60) (by omega) (by omega) (by decide)
            obtain ⟨o4, ho4⟩ : ∃ o : ByteArray, when_Span.put o3 (a0 % 60) ⟨#[83]⟩ = o := ⟨_, rfl⟩
            rw [ho4] at hb4 SZ4
            have HO4 := Aside0.mk ho4
            have HB4 := Aside0.mk hb4
            have ZZ5 : Aside0 (o4.size ≤ 251) := ⟨by have := ZZ4.out; omega⟩
            have c4_ := cell_of_one hb4
            have f4_ := free_of_one hb4
            clear hb4 hB4 ho4 SZ4
            have zz4_ : o4.size ≤ 1000 := by have := ZZ5.out; omega
            go_wp2_with fail
            go_ret2
            exact ⟨by rw [← HH.out]; simp only [if_pos (show 0 < a0 % 86400 by omega), if_neg (show ¬ ((3600 ≤ a0 % 86400 ∧ 0 < a0 % 60) ∧ a0 % 86400 / 60 % 60 = 0) from fun e => by omega), HO1.out, HO2.out, HO3.out, HO4.out] <;> (first | done | rfl), BB4.out⟩
        · skip
          go_enter Tryd.func21, Tryd.ntmps21
          have ZZ0 : Aside0 ((⟨#[80]⟩ : ByteArray).size ≤ 10) := ⟨by decide⟩
          go_wp2_with fail
          refine (when_Span.put_calls (a0 / 86400) ⟨#[68]⟩ (⟨#[80]⟩ : ByteArray) w.heap.size _ (by omega) (by omega) (itoaB_size _ (by omega) (by omega)) (by decide) (by have := ZZ0.out; omega) (heap_new w (Obj.cells #[Value.string ⟨#[80]⟩] 9)) (Laid.below HLD.out (below_new w (Obj.cells #[Value.string ⟨#[80]⟩] 9))) hg).mono ?_
          rintro e w1 ⟨rfl, hb1, hB1, -⟩
          have BB1 : Aside0 (Below w.heap.size w w1) := ⟨Below.trans (below_new w (Obj.cells #[Value.string ⟨#[80]⟩] 9)) hB1⟩
          have SZ1 := put_size (⟨#[80]⟩ : ByteArray) ⟨#[68]⟩ (a0 / 86400) (by omega) (by omega) (by decide)
          obtain ⟨o1, ho1⟩ : ∃ o : ByteArray, when_Span.put (⟨#[80]⟩ : ByteArray) (a0 / 86400) ⟨#[68]⟩ = o := ⟨_, rfl⟩
          rw [ho1] at hb1 SZ1
          have HO1 := Aside0.mk ho1
          have HB1 := Aside0.mk hb1
          have ZZ1 : Aside0 (o1.size ≤ 70) := ⟨by have := ZZ0.out; omega⟩
          have c1_ := cell_of_one hb1
          have f1_ := free_of_one hb1
          clear hb1 hB1 ho1 SZ1
          have zz1_ : o1.size ≤ 1000 := by have := ZZ1.out; omega
          go_wp2_with fail
          have ZZ2 : Aside0 ((o1 ++ ⟨#[84]⟩).size ≤ 71) := ⟨by have := ZZ1.out; simp only [ByteArray.size_append, mk_size, List.length_cons, List.length_nil]; omega⟩
          refine (when_Span.put_calls (a0 % 86400 / 3600) ⟨#[72]⟩ (o1 ++ ⟨#[84]⟩) w.heap.size _ (by omega) (by omega) (itoaB_size _ (by omega) (by omega)) (by decide) (by have := ZZ2.out; omega) (one_setCell HB1.out) (Laid.below HLD.out (Below.setCell (p := ⟨w.heap.size, 0, none⟩) BB1.out (Nat.le_refl _) _)) hg).mono ?_
          rintro e w2 ⟨rfl, hb2, hB2, -⟩
          have BB2 : Aside0 (Below w.heap.size w w2) := ⟨Below.trans (Below.setCell (p := ⟨w.heap.size, 0, none⟩) BB1.out (Nat.le_refl _) _) hB2⟩
          have SZ2 := put_size (o1 ++ ⟨#[84]⟩) ⟨#[72]⟩ (a0 % 86400 / 3600) (by omega) (by omega) (by decide)
          obtain ⟨o2, ho2⟩ : ∃ o : ByteArray, when_Span.put (o1 ++ ⟨#[84]⟩) (a0 % 86400 / 3600) ⟨#[72]⟩ = o := ⟨_, rfl⟩
          rw [ho2] at hb2 SZ2
          have HO2 := Aside0.mk ho2
          have HB2 := Aside0.mk hb2
          have ZZ3 : Aside0 (o2.size ≤ 131) := ⟨by have := ZZ2.out; omega⟩
          have c2_ := cell_of_one hb2
          have f2_ := free_of_one hb2
          clear hb2 hB2 ho2 SZ2
          have zz2_ : o2.size ≤ 1000 := by have := ZZ3.out; omega
          go_wp2_with fail
          refine (when_Span.put_calls (a0 % 86400 / 60 % 60) ⟨#[77]⟩ o2 w.heap.size _ (by omega) (by omega) (itoaB_size _ (by omega) (by omega)) (by decide) (by have := ZZ3.out; omega) HB2.out (Laid.below HLD.out BB2.out) hg).mono ?_
          rintro e w3 ⟨rfl, hb3, hB3, -⟩
          have BB3 : Aside0 (Below w.heap.size w w3) := ⟨Below.trans BB2.out hB3⟩
          have SZ3 := put_size o2 ⟨#[77]⟩ (a0 % 86400 / 60 % 60) (by omega) (by omega) (by decide)
          obtain ⟨o3, ho3⟩ : ∃ o : ByteArray, when_Span.put o2 (a0 % 86400 / 60 % 60) ⟨#[77]⟩ = o := ⟨_, rfl⟩
          rw [ho3] at hb3 SZ3
          have HO3 := Aside0.mk ho3
          have HB3 := Aside0.mk hb3
          have ZZ4 : Aside0 (o3.size ≤ 191) := ⟨by have := ZZ3.out; omega⟩
          have c3_ := cell_of_one hb3
          have f3_ := free_of_one hb3
          clear hb3 hB3 ho3 SZ3
          have zz3_ : o3.size ≤ 1000 := by have := ZZ4.out; omega
          go_wp2_with fail
          refine (when_Span.put_calls (a0 % 60) ⟨#[83]⟩ o3 w.heap.size _ (by omega) (by omega) (itoaB_size _ (by omega) (by omega)) (by decide) (by have := ZZ4.out; omega) HB3.out (Laid.below HLD.out BB3.out) hg).mono ?_
          rintro e w4 ⟨rfl, hb4, hB4, -⟩
          have BB4 : Aside0 (Below w.heap.size w w4) := ⟨Below.trans BB3.out hB4⟩
          have SZ4 := put_size o3 ⟨#[83]⟩ (a0 % 60) (by omega) (by omega) (by decide)
          obtain ⟨o4, ho4⟩ : ∃ o : ByteArray, when_Span.put o3 (a0 % 60) ⟨#[83]⟩ = o := ⟨_, rfl⟩
          rw [ho4] at hb4 SZ4
          have HO4 := Aside0.mk ho4
          have HB4 := Aside0.mk hb4
          have ZZ5 : Aside0 (o4.size ≤ 251) := ⟨by have := ZZ4.out; omega⟩
          have c4_ := cell_of_one hb4
          have f4_ := free_of_one hb4
          clear hb4 hB4 ho4 SZ4
          have zz4_ : o4.size ≤ 1000 := by have := ZZ5.out; omega
          go_wp2_with fail
          go_ret2
          exact ⟨by rw [← HH.out]; simp only [if_pos (show 0 < a0 % 86400 by omega), if_neg (show ¬ ((3600 ≤ a0 % 86400 ∧ 0 < a0 % 60) ∧ a0 % 86400 / 60 % 60 = 0) from fun e => by omega), HO1.out, HO2.out, HO3.out, HO4.out] <;> (first | done | rfl), BB4.out⟩
      · have c6' : ¬ 3600 ≤ a0 % 86400 := by omega
        go_enter Tryd.func21, Tryd.ntmps21
        have ZZ0 : Aside0 ((⟨#[80]⟩ : ByteArray).size ≤ 10) := ⟨by decide⟩
        go_wp2_with fail
        refine (when_Span.put_calls (a0 / 86400) ⟨#[68]⟩ (⟨#[80]⟩ : ByteArray) w.heap.size _ (by omega) (by omega) (itoaB_size _ (by omega) (by omega)) (by decide) (by have := ZZ0.out; omega) (heap_new w (Obj.cells #[Value.string ⟨#[80]⟩] 9)) (Laid.below HLD.out (below_new w (Obj.cells #[Value.string ⟨#[80]⟩] 9))) hg).mono ?_
        rintro e w1 ⟨rfl, hb1, hB1, -⟩
        have BB1 : Aside0 (Below w.heap.size w w1) := ⟨Below.trans (below_new w (Obj.cells #[Value.string ⟨#[80]⟩] 9)) hB1⟩
        have SZ1 := put_size (⟨#[80]⟩ : ByteArray) ⟨#[68]⟩ (a0 / 86400) (by omega) (by omega) (by decide)
        obtain ⟨o1, ho1⟩ : ∃ o : ByteArray, when_Span.put (⟨#[80]⟩ : ByteArray) (a0 / 86400) ⟨#[68]⟩ = o := ⟨_, rfl⟩
        rw [ho1] at hb1 SZ1
        have HO1 := Aside0.mk ho1
        have HB1 := Aside0.mk hb1
        have ZZ1 : Aside0 (o1.size ≤ 70) := ⟨by have := ZZ0.out; omega⟩
        have c1_ := cell_of_one hb1
        have f1_ := free_of_one hb1
        clear hb1 hB1 ho1 SZ1
        have zz1_ : o1.size ≤ 1000 := by have := ZZ1.out; omega
        go_wp2_with fail
        refine (when_Span.put_calls (a0 % 86400 / 3600) ⟨#[72]⟩ o1 w.heap.size _ (by omega) (by omega) (itoaB_size _ (by omega) (by omega)) (by decide) (by have := ZZ1.out; omega) HB1.out (Laid.below HLD.out BB1.out) hg).mono ?_
        rintro e w2 ⟨rfl, hb2, hB2, -⟩
        have BB2 : Aside0 (Below w.heap.size w w2) := ⟨Below.trans BB1.out hB2⟩
        have SZ2 := put_size o1 ⟨#[72]⟩ (a0 % 86400 / 3600) (by omega) (by omega) (by decide)
        obtain ⟨o2, ho2⟩ : ∃ o : ByteArray, when_Span.put o1 (a0 % 86400 / 3600) ⟨#[72]⟩ = o := ⟨_, rfl⟩
        rw [ho2] at hb2 SZ2
        have HO2 := Aside0.mk ho2
        have HB2 := Aside0.mk hb2
        have ZZ2 : Aside0 (o2.size ≤ 130) := ⟨by have := ZZ1.out; omega⟩
        have c2_ := cell_of_one hb2
        have f2_ := free_of_one hb2
        clear hb2 hB2 ho2 SZ2
        have zz2_ : o2.size ≤ 1000 := by have := ZZ2.out; omega
        go_wp2_with fail
        refine (when_Span.put_calls (a0 % 86400 / 60 % 60) ⟨#[77]⟩ o2 w.heap.size _ (by omega) (by omega) (itoaB_size _ (by omega) (by omega)) (by decide) (by have := ZZ2.out; omega) HB2.out (Laid.below HLD.out BB2.out) hg).mono ?_
        rintro e w3 ⟨rfl, hb3, hB3, -⟩
        have BB3 : Aside0 (Below w.heap.size w w3) := ⟨Below.trans BB2.out hB3⟩
        have SZ3 := put_size o2 ⟨#[77]⟩ (a0 % 86400 / 60 % 60) (by omega) (by omega) (by decide)
        obtain ⟨o3, ho3⟩ : ∃ o : ByteArray, when_Span.put o2 (a0 % 86400 / 60 % 60) ⟨#[77]⟩ = o := ⟨_, rfl⟩
        rw [ho3] at hb3 SZ3
        have HO3 := Aside0.mk ho3
        have HB3 := Aside0.mk hb3
        have ZZ3 : Aside0 (o3.size ≤ 190) := ⟨by have := ZZ2.out; omega⟩
        have c3_ := cell_of_one hb3
        have f3_ := free_of_one hb3
        clear hb3 hB3 ho3 SZ3
        have zz3_ : o3.size ≤ 1000 := by have := ZZ3.out; omega
        go_wp2_with fail
        refine (when_Span.put_calls (a0 % 60) ⟨#[83]⟩ o3 w.heap.size _ (by omega) (by omega) (itoaB_size _ (by omega) (by omega)) (by decide) (by have := ZZ3.out; omega) HB3.out (Laid.below HLD.out BB3.out) hg).mono ?_
        rintro e w4 ⟨rfl, hb4, hB4, -⟩
        have BB4 : Aside0 (Below w.heap.size w w4) := ⟨Below.trans BB3.out hB4⟩
        have SZ4 := put_size o3 ⟨#[83]⟩ (a0 % 60) (by omega) (by omega) (by decide)
        obtain ⟨o4, ho4⟩ : ∃ o : ByteArray, when_Span.put o3 (a0 % 60) ⟨#[83]⟩ = o := ⟨_, rfl⟩
        rw [ho4] at hb4 SZ4
        have HO4 := Aside0.mk ho4
        have HB4 := Aside0.mk hb4
        have ZZ4 : Aside0 (o4.size ≤ 250) := ⟨by have := ZZ3.out; omega⟩
        have c4_ := cell_of_one hb4
        have f4_ := free_of_one hb4
        clear hb4 hB4 ho4 SZ4
        have zz4_ : o4.size ≤ 1000 := by have := ZZ4.out; omega
        go_wp2_with fail
        go_ret2
        exact ⟨by rw [← HH.out]; simp only [if_neg (show ¬ 0 < a0 % 86400 by omega), if_neg (show ¬ ((3600 ≤ a0 % 86400 ∧ 0 < a0 % 60) ∧ a0 % 86400 / 60 % 60 = 0) from fun e => by omega), HO1.out, HO2.out, HO3.out, HO4.out] <;> (first | done | rfl), BB4.out⟩
set_option maxHeartbeats 4000000 in
theorem when_Span.calls (a0 : Int) (r1 : ByteArray) (r2 : Int) (w : World) (h : when_Span.f a0 = some (r1, r2)) (hLD : Laid w) :
    Calls Tryd.prog 21 #[.int .i64 a0] w fun e w' => e = .returned (.tuple #[.string r1, .int .i64 r2]) ∧ Below w.heap.size w w' := by
  unfold when_Span.f at h
  by_cases c0 : a0 < -1099511627776 ∨ 1099511627776 < a0
  · rw [if_pos c0] at h
    simp only [Option.some.injEq, Prod.mk.injEq] at h
    obtain ⟨rfl, rfl⟩ := h
    clear hLD
    by_cases c1 : a0 < -1099511627776
    · clear c0
      go_enter Tryd.func21, Tryd.ntmps21
      go_wp2_with fail
      go_ret2
      exact ⟨rfl, Below.refl _ _⟩
    · have c2 : 1099511627776 < a0 := by omega
      clear c0
      go_enter Tryd.func21, Tryd.ntmps21
      go_wp2_with fail
      go_ret2
      exact ⟨rfl, Below.refl _ _⟩
  · rw [if_neg c0] at h
    by_cases c1 : a0 < 0
    · rw [if_pos c1] at h
      simp only [Option.some.injEq, Prod.mk.injEq] at h
      obtain ⟨h, rfl⟩ := h
      have := when_Span.neg_calls (-a0) r1 w (by omega) (by omega) h hLD
      rw [Int.neg_neg] at this
      exact this
    · rw [if_neg c1] at h
      simp only [Option.some.injEq, Prod.mk.injEq] at h
      obtain ⟨h, rfl⟩ := h
      exact when_Span.pos_calls a0 r1 w (by omega) (by omega) h hLD
end Go.Proofs.YtiffbkfgimifbaaDoor.Print

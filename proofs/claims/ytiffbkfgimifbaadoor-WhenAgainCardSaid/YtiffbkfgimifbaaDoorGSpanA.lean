/- when.Span below 0. -/
import Derived.Test.YtiffbkfgimifbaaDoorPrint0
import Derived.Test.YtiffbkfgimifbaaDoorGSpan
namespace Go.Proofs.YtiffbkfgimifbaaDoor.Print
open Go.RowKit Go.Proofs.YtiffbkfgimifbaaDoorW.PrintWords Go.Proofs.YtiffbkfgimifbaaDoorW.PrintLast Go.Proofs.YtiffbkfgimifbaaDoorW.PrintMore
set_option maxHeartbeats 8000000 in
set_option maxRecDepth 100000 in
theorem when_Span.neg_calls (n : Int) (r1 : ByteArray) (w : World) (n0 : 0 < n) (n1 : n ≤ 1099511627776) (h : when_Span.body ⟨#[45, 80]⟩ n = r1) (hLD : Laid w) :
    Calls Tryd.prog 21 #[.int .i64 (-n)] w fun e w' => e = .returned (.tuple #[.string r1, .int .i64 0]) ∧ Below w.heap.size w w' := by
  have hg := var_lt gPow10 hLD
  have HLD := Aside0.mk hLD
  clear hLD
  unfold when_Span.body at h
  have c1 : -n < 0 := by omega
  by_cases c2 : 0 < n ∧ n % 604800 = 0
  · rw [if_pos c2] at h
    have HH := Aside0.mk h
    clear h
    obtain ⟨c2, c3⟩ := c2
    have c3b : (n % 604800 == 0) = true := beq_iff_eq.mpr c3
    clear c3
    go_enter Tryd.func21, Tryd.ntmps21
    have ZZ0 : Aside0 ((⟨#[45, 80]⟩ : ByteArray).size ≤ 10) := ⟨by decide⟩
    go_wp2_with fail
    refine (when_Span.put_calls (n / 604800) ⟨#[87]⟩ (⟨#[45, 80]⟩ : ByteArray) w.heap.size _ (by omega) (by omega) (itoaB_size _ (by omega) (by omega)) (by decide) (by have := ZZ0.out; omega) (heap_new w (Obj.cells #[Value.string ⟨#[45, 80]⟩] 9)) (Laid.below HLD.out (below_new w (Obj.cells #[Value.string ⟨#[45, 80]⟩] 9))) hg).mono ?_
    rintro e w1 ⟨rfl, hb1, hB1, -⟩
    have BB1 : Aside0 (Below w.heap.size w w1) := ⟨Below.trans (below_new w (Obj.cells #[Value.string ⟨#[45, 80]⟩] 9)) hB1⟩
    have SZ1 := put_size (⟨#[45, 80]⟩ : ByteArray) ⟨#[87]⟩ (n / 604800) (by omega) (by omega) (by decide)
    obtain ⟨o1, ho1⟩ : ∃ o : ByteArray, when_Span.put (⟨#[45, 80]⟩ : ByteArray) (n / 604800) ⟨#[87]⟩ = o := ⟨_, rfl⟩
    rw [ho1] at hb1 SZ1
    have HO1 := Aside0.mk ho1
    have HB1 := Aside0.mk hb1
    have ZZ1 : Aside0 (o1.size ≤ 70) := ⟨by have := ZZ0.out; omega⟩
    have c1_ := cell_of_one hb1
    have f1_ := free_of_one hb1
    clear hb1 hB1 ho1 SZ1
    have zz1_ : o1.size ≤ 1000 := by have := ZZ1.out; omega
    go_wp2_with fail
    go_ret2
    exact ⟨by rw [← HH.out]; simp only [HO1.out] <;> (first | done | rfl), BB1.out⟩
  · rw [if_neg c2] at h
    rw [if_neg (by omega)] at h
    have c5 : 0 < n := by omega
    have c3b : (n % 604800 == 0) = false := beq_eq_false_iff_ne.mpr (fun e => c2 ⟨c5, e⟩)
    clear c2
    unfold when_Span.hms at h
    have HH := Aside0.mk h
    clear h
    by_cases c6 : 0 < n % 86400
    · have e6 := c6
      have HC := Aside0.mk (c6)
      clear e6
      by_cases c7 : 3600 ≤ n % 86400
      · by_cases c8 : 0 < n % 60
        · by_cases c9 : n % 86400 / 60 % 60 = 0
          · have c9b : (n % 86400 / 60 % 60 == 0) = true := beq_iff_eq.mpr c9
            replace c9 := Aside0.mk c9
            go_enter Tryd.func21, Tryd.ntmps21
            have ZZ0 : Aside0 ((⟨#[45, 80]⟩ : ByteArray).size ≤ 10) := ⟨by decide⟩
            go_wp2_with fail
            refine (when_Span.put_calls (n / 86400) ⟨#[68]⟩ (⟨#[45, 80]⟩ : ByteArray) w.heap.size _ (by omega) (by omega) (itoaB_size _ (by omega) (by omega)) (by decide) (by have := ZZ0.out; omega) (heap_new w (Obj.cells #[Value.string ⟨#[45, 80]⟩] 9)) (Laid.below HLD.out (below_new w (Obj.cells #[Value.string ⟨#[45, 80]⟩] 9))) hg).mono ?_
            rintro e w1 ⟨rfl, hb1, hB1, -⟩
            have BB1 : Aside0 (Below w.heap.size w w1) := ⟨Below.trans (below_new w (Obj.cells #[Value.string ⟨#[45, 80]⟩] 9)) hB1⟩
            have SZ1 := put_size (⟨#[45, 80]⟩ : ByteArray) ⟨#[68]⟩ (n / 86400) (by omega) (by omega) (by decide)
            obtain ⟨o1, ho1⟩ : ∃ o : ByteArray, when_Span.put (⟨#[45, 80]⟩ : ByteArray) (n / 86400) ⟨#[68]⟩ = o := ⟨_, rfl⟩
            rw [ho1] at hb1 SZ1
            have HO1 := Aside0.mk ho1
            have HB1 := Aside0.mk hb1
            have ZZ1 : Aside0 (o1.size ≤ 70) := ⟨by have := ZZ0.out; omega⟩
            have c1_ := cell_of_one hb1
            have f1_ := free_of_one hb1
            clear hb1 hB1 ho1 SZ1
            have zz1_ : o1.size ≤ 1000 := by have := ZZ1.out; omega
            go_wp2_with fail
            have ZZ2 : Aside0 ((o1 ++ ⟨#[84]⟩).size ≤ 71) := ⟨by have := ZZ1.out; simp only [ByteArray.size_append, mk_size, List.length_cons, List.length_nil]; omega⟩
            refine (when_Span.put_calls (n % 86400 / 3600) ⟨#[72]⟩ (o1 ++ ⟨#[84]⟩) w.heap.size _ (by omega) (by omega) (itoaB_size _ (by omega) (by omega)) (by decide) (by have := ZZ2.out; omega) (one_setCell HB1.out) (Laid.below HLD.out (Below.setCell (p := ⟨w.heap.size, 0, none⟩) BB1.out (Nat.le_refl _) _)) hg).mono ?_
            rintro e w2 ⟨rfl, hb2, hB2, -⟩
            have BB2 : Aside0 (Below w.heap.size w w2) := ⟨Below.trans (Below.setCell (p := ⟨w.heap.size, 0, none⟩) BB1.out (Nat.le_refl _) _) hB2⟩
            have SZ2 := put_size (o1 ++ ⟨#[84]⟩) ⟨#[72]⟩ (n % 86400 / 3600) (by omega) (by omega) (by decide)
            obtain ⟨o2, ho2⟩ : ∃ o : ByteArray, when_Span.put (o1 ++ ⟨#[84]⟩) (n % 86400 / 3600) ⟨#[72]⟩ = o := ⟨_, rfl⟩
            rw [ho2] at hb2 SZ2
            have HO2 := Aside0.mk ho2
            have HB2 := Aside0.mk hb2
            have ZZ3 : Aside0 (o2.size ≤ 131) := ⟨by have := ZZ2.out; omega⟩
            have c2_ := cell_of_one hb2
            have f2_ := free_of_one hb2
            clear hb2 hB2 ho2 SZ2
            have zz2_ : o2.size ≤ 1000 := by have := ZZ3.out; omega
            go_wp2_with fail
            have ZZ4 : Aside0 ((o2 ++ ⟨#[48, 77]⟩).size ≤ 133) := ⟨by have := ZZ3.out; simp only [ByteArray.size_append, mk_size, List.length_cons, List.length_nil]; omega⟩
            refine (when_Span.put_calls (n % 86400 / 60 % 60) ⟨#[77]⟩ (o2 ++ ⟨#[48, 77]⟩) w.heap.size _ (by omega) (by omega) (itoaB_size _ (by omega) (by omega)) (by decide) (by have := ZZ4.out; omega) (one_setCell HB2.out) (Laid.below HLD.out (Below.setCell (p := ⟨w.heap.size, 0, none⟩) BB2.out (Nat.le_refl _) _)) hg).mono ?_
            rintro e w3 ⟨rfl, hb3, hB3, -⟩
            have BB3 : Aside0 (Below w.heap.size w w3) := ⟨Below.trans (Below.setCell (p := ⟨w.heap.size, 0, none⟩) BB2.out (Nat.le_refl _) _) hB3⟩
            have SZ3 := put_size (o2 ++ ⟨#[48, 77]⟩) ⟨#[77]⟩ (n % 86400 / 60 % 60) (by omega) (by omega) (by decide)
            obtain ⟨o3, ho3⟩ : ∃ o : ByteArray, when_Span.put (o2 ++ ⟨#[48, 77]⟩) (n % 86400 / 60 % 60) ⟨#[77]⟩ = o := ⟨_, rfl⟩
            rw [ho3] at hb3 SZ3
            have HO3 := Aside0.mk ho3
            have HB3 := Aside0.mk hb3
            have ZZ5 : Aside0 (o3.size ≤ 193) := ⟨by have := ZZ4.out; omega⟩
            have c3_ := cell_of_one hb3
            have f3_ := free_of_one hb3
            clear hb3 hB3 ho3 SZ3
            have zz3_ : o3.size ≤ 1000 := by have := ZZ5.out; omega
            go_wp2_with fail
            refine (when_Span.put_calls (n % 60) ⟨#[83]⟩ o3 w.heap.size _ (by omega) (by omega) (itoaB_size _ (by omega) (by omega)) (by decide) (by have := ZZ5.out; omega) HB3.out (Laid.below HLD.out BB3.out) hg).mono ?_
            rintro e w4 ⟨rfl, hb4, hB4, -⟩
            have BB4 : Aside0 (Below w.heap.size w w4) := ⟨Below.trans BB3.out hB4⟩
            have SZ4 := put_size o3 ⟨#[83]⟩ (n % 60) (by omega) (by omega) (by decide)
            obtain ⟨o4, ho4⟩ : ∃ o : ByteArray, when_Span.put o3 (n % 60) ⟨#[83]⟩ = o := ⟨_, rfl⟩
            rw [ho4] at hb4 SZ4
            have HO4 := Aside0.mk ho4
            have HB4 := Aside0.mk hb4
            have ZZ6 : Aside0 (o4.size ≤ 253) := ⟨by have := ZZ5.out; omega⟩
            have c4_ := cell_of_one hb4
            have f4_ := free_of_one hb4
            clear hb4 hB4 ho4 SZ4
            have zz4_ : o4.size ≤ 1000 := by have := ZZ6.out; omega
            go_wp2_with fail
            go_ret2
            exact ⟨by rw [← HH.out]; simp only [if_pos (show 0 < n % 86400 by omega), if_pos (show (3600 ≤ n % 86400 ∧ 0 < n % 60) ∧ n % 86400 / 60 % 60 = 0 from ⟨⟨by omega, by omega⟩, c9.out⟩), HO1.out, HO2.out, HO3.out, HO4.out] <;> (first | done | rfl), BB4.out⟩
          · have c9b : (n % 86400 / 60 % 60 == 0) = false := beq_eq_false_iff_ne.mpr c9
            replace c9 := Aside0.mk c9
            go_enter Tryd.func21, Tryd.ntmps21
            have ZZ0 : Aside0 ((⟨#[45, 80]⟩ : ByteArray).size ≤ 10) := ⟨by decide⟩
            go_wp2_with fail
            refine (when_Span.put_calls (n / 86400) ⟨#[68]⟩ (⟨#[45, 80]⟩ : ByteArray) w.heap.size _ (by omega) (by omega) (itoaB_size _ (by omega) (by omega)) (by decide) (by have := ZZ0.out; omega) (heap_new w (Obj.cells #[Value.string ⟨#[45, 80]⟩] 9)) (Laid.below HLD.out (below_new w (Obj.cells #[Value.string ⟨#[45, 80]⟩] 9))) hg).mono ?_
            rintro e w1 ⟨rfl, hb1, hB1, -⟩
            have BB1 : Aside0 (Below w.heap.size w w1) := ⟨Below.trans (below_new w (Obj.cells #[Value.string ⟨#[45, 80]⟩] 9)) hB1⟩
            have SZ1 := put_size (⟨#[45, 80]⟩ : ByteArray) ⟨#[68]⟩ (n / 86400) (by omega) (by omega) (by decide)
            obtain ⟨o1, ho1⟩ : ∃ o : ByteArray, when_Span.put (⟨#[45, 80]⟩ : ByteArray) (n / 86400) ⟨#[68]⟩ = o := ⟨_, rfl⟩
            rw [ho1] at hb1 SZ1
            have HO1 := Aside0.mk ho1
            have HB1 := Aside0.mk hb1
            have ZZ1 : Aside0 (o1.size ≤ 70) := ⟨by have := ZZ0.out; omega⟩
            have c1_ := cell_of_one hb1
            have f1_ := free_of_one hb1
            clear hb1 hB1 ho1 SZ1
            have zz1_ : o1.size ≤ 1000 := by have := ZZ1.out; omega
            go_wp2_with fail
            have ZZ2 : Aside0 ((o1 ++ ⟨#[84]⟩).size ≤ 71) := ⟨by have := ZZ1.out; simp only [ByteArray.size_append, mk_size, List.length_cons, List.length_nil]; omega⟩
            refine (when_Span.put_calls (n % 86400 / 3600) ⟨#[72]⟩ (o1 ++ ⟨#[84]⟩) w.heap.size _ (by omega) (by omega) (itoaB_size _ (by omega) (by omega)) (by decide) (by have := ZZ2.out; omega) (one_setCell HB1.out) (Laid.below HLD.out (Below.setCell (p := ⟨w.heap.size, 0, none⟩) BB1.out (Nat.le_refl _) _)) hg).mono ?_
            rintro e w2 ⟨rfl, hb2, hB2, -⟩
            have BB2 : Aside0 (Below w.heap.size w w2) := ⟨Below.trans (Below.setCell (p := ⟨w.heap.size, 0, none⟩) BB1.out (Nat.le_refl _) _) hB2⟩
            have SZ2 := put_size (o1 ++ ⟨#[84]⟩) ⟨#[72]⟩ (n % 86400 / 3600) (by omega) (by omega) (by decide)
            obtain ⟨o2, ho2⟩ : ∃ o : ByteArray, when_Span.put (o1 ++ ⟨#[84]⟩) (n % 86400 / 3600) ⟨#[72]⟩ = o := ⟨_, rfl⟩
            rw [ho2] at hb2 SZ2
            have HO2 := Aside0.mk ho2
            have HB2 := Aside0.mk hb2
            have ZZ3 : Aside0 (o2.size ≤ 131) := ⟨by have := ZZ2.out; omega⟩
            have c2_ := cell_of_one hb2
            have f2_ := free_of_one hb2
            clear hb2 hB2 ho2 SZ2
            have zz2_ : o2.size ≤ 1000 := by have := ZZ3.out; omega
            go_wp2_with fail
            refine (when_Span.put_calls (n % 86400 / 60 % 60) ⟨#[77]⟩ o2 w.heap.size _ (by omega) (by omega) (itoaB_size _ (by omega) (by omega)) (by decide) (by have := ZZ3.out; omega) HB2.out (Laid.below HLD.out BB2.out) hg).mono ?_
            rintro e w3 ⟨rfl, hb3, hB3, -⟩
            have BB3 : Aside0 (Below w.heap.size w w3) := ⟨Below.trans BB2.out hB3⟩
            have SZ3 := put_size o2 ⟨#[77]⟩ (n % 86400 / 60 % 60) (by omega) (by omega) (by decide)
            obtain ⟨o3, ho3⟩ : ∃ o : ByteArray, when_Span.put o2 (n % 86400 / 60 % 60) ⟨#[77]⟩ = o := ⟨_, rfl⟩
            rw [ho3] at hb3 SZ3
            have HO3 := Aside0.mk ho3
            have HB3 := Aside0.mk hb3
            have ZZ4 : Aside0 (o3.size ≤ 191) := ⟨by have := ZZ3.out; omega⟩
            have c3_ := cell_of_one hb3
            have f3_ := free_of_one hb3
            clear hb3 hB3 ho3 SZ3
            have zz3_ : o3.size ≤ 1000 := by have := ZZ4.out; omega
            go_wp2_with fail
            refine (when_Span.put_calls (n % 60) ⟨#[83]⟩ o3 w.heap.size _ (by omega) (by omega) (itoaB_size _ (by omega) (by omega)) (by decide) (by have := ZZ4.out; omega) HB3.out (Laid.below HLD.out BB3.out) hg).mono ?_
            rintro e w4 ⟨rfl, hb4, hB4, -⟩
            have BB4 : Aside0 (Below w.heap.size w w4) := ⟨Below.trans BB3.out hB4⟩
            have SZ4 := put_size o3 ⟨#[83]⟩ (n % 60) (by omega) (by omega) (by decide)
            obtain ⟨o4, ho4⟩ : ∃ o : ByteArray, when_Span.put o3 (n % 60) ⟨#[83]⟩ = o := ⟨_, rfl⟩
            rw [ho4] at hb4 SZ4
            have HO4 := Aside0.mk ho4
            have HB4 := Aside0.mk hb4
            have ZZ5 : Aside0 (o4.size ≤ 251) := ⟨by have := ZZ4.out; omega⟩
            have c4_ := cell_of_one hb4
            have f4_ := free_of_one hb4
            clear hb4 hB4 ho4 SZ4
            have zz4_ : o4.size ≤ 1000 := by have := ZZ5.out; omega
            go_wp2_with fail
            go_ret2
            exact ⟨by rw [← HH.out]; simp only [if_pos (show 0 < n % 86400 by omega), if_neg (show ¬ ((3600 ≤ n % 86400 ∧ 0 < n % 60) ∧ n % 86400 / 60 % 60 = 0) from fun e => c9.out e.2), HO1.out, HO2.out, HO3.out, HO4.out] <;> (first | done | rfl), BB4.out⟩
        · skip
          go_enter Tryd.func21, Tryd.ntmps21
          have ZZ0 : Aside0 ((⟨#[45, 80]⟩ : ByteArray).size ≤ 10) := ⟨by decide⟩
          go_wp2_with fail
          refine (when_Span.put_calls (n / 86400) ⟨#[68]⟩ (⟨#[45, 80]⟩ : ByteArray) w.heap.size _ (by omega) (by omega) (itoaB_size _ (by omega) (by omega)) (by decide) (by have := ZZ0.out; omega) (heap_new w (Obj.cells #[Value.string ⟨#[45, 80]⟩] 9)) (Laid.below HLD.out (below_new w (Obj.cells #[Value.string ⟨#[45, 80]⟩] 9))) hg).mono ?_
          rintro e w1 ⟨rfl, hb1, hB1, -⟩
          have BB1 : Aside0 (Below w.heap.size w w1) := ⟨Below.trans (below_new w (Obj.cells #[Value.string ⟨#[45, 80]⟩] 9)) hB1⟩
          have SZ1 := put_size (⟨#[45, 80]⟩ : ByteArray) ⟨#[68]⟩ (n / 86400) (by omega) (by omega) (by decide)
          obtain ⟨o1, ho1⟩ : ∃ o : ByteArray, when_Span.put (⟨#[45, 80]⟩ : ByteArray) (n / 86400) ⟨#[68]⟩ = o := ⟨_, rfl⟩
          rw [ho1] at hb1 SZ1
          have HO1 := Aside0.mk ho1
          have HB1 := Aside0.mk hb1
          have ZZ1 : Aside0 (o1.size ≤ 70) := ⟨by have := ZZ0.out; omega⟩
          have c1_ := cell_of_one hb1
          have f1_ := free_of_one hb1
          clear hb1 hB1 ho1 SZ1
          have zz1_ : o1.size ≤ 1000 := by have := ZZ1.out; omega
          go_wp2_with fail
          have ZZ2 : Aside0 ((o1 ++ ⟨#[84]⟩).size ≤ 71) := ⟨by have := ZZ1.out; simp only [ByteArray.size_append, mk_size, List.length_cons, List.length_nil]; omega⟩
          refine (when_Span.put_calls (n % 86400 / 3600) ⟨#[72]⟩ (o1 ++ ⟨#[84]⟩) w.heap.size _ (by omega) (by omega) (itoaB_size _ (by omega) (by omega)) (by decide) (by have := ZZ2.out; omega) (one_setCell HB1.out) (Laid.below HLD.out (Below.setCell (p := ⟨w.heap.size, 0, none⟩) BB1.out (Nat.le_refl _) _)) hg).mono ?_
          rintro e w2 ⟨rfl, hb2, hB2, -⟩
          have BB2 : Aside0 (Below w.heap.size w w2) := ⟨Below.trans (Below.setCell (p := ⟨w.heap.size, 0, none⟩) BB1.out (Nat.le_refl _) _) hB2⟩
          have SZ2 := put_size (o1 ++ ⟨#[84]⟩) ⟨#[72]⟩ (n % 86400 / 3600) (by omega) (by omega) (by decide)
          obtain ⟨o2, ho2⟩ : ∃ o : ByteArray, when_Span.put (o1 ++ ⟨#[84]⟩) (n % 86400 / 3600) ⟨#[72]⟩ = o := ⟨_, rfl⟩
          rw [ho2] at hb2 SZ2
          have HO2 := Aside0.mk ho2
          have HB2 := Aside0.mk hb2
          have ZZ3 : Aside0 (o2.size ≤ 131) := ⟨by have := ZZ2.out; omega⟩
          have c2_ := cell_of_one hb2
          have f2_ := free_of_one hb2
          clear hb2 hB2 ho2 SZ2
          have zz2_ : o2.size ≤ 1000 := by have := ZZ3.out; omega
          go_wp2_with fail
          refine (when_Span.put_calls (n % 86400 / 60 % 60) ⟨#[77]⟩ o2 w.heap.size _ (by omega) (by omega) (itoaB_size _ (by omega) (by omega)) (by decide) (by have := ZZ3.out; omega) HB2.out (Laid.below HLD.out BB2.out) hg).mono ?_
          rintro e w3 ⟨rfl, hb3, hB3, -⟩
          have BB3 : Aside0 (Below w.heap.size w w3) := ⟨Below.trans BB2.out hB3⟩
          have SZ3 := put_size o2 ⟨#[77]⟩ (n % 86400 / 60 % 60) (by omega) (by omega) (by decide)
          obtain ⟨o3, ho3⟩ : ∃ o : ByteArray, when_Span.put o2 (n % 86400 / 60 % 60) ⟨#[77]⟩ = o := ⟨_, rfl⟩
          rw [ho3] at hb3 SZ3
          have HO3 := Aside0.mk ho3
          have HB3 := Aside0.mk hb3
          have ZZ4 : Aside0 (o3.size ≤ 191) := ⟨by have := ZZ3.out; omega⟩
          have c3_ := cell_of_one hb3
          have f3_ := free_of_one hb3
          clear hb3 hB3 ho3 SZ3
          have zz3_ : o3.size ≤ 1000 := by have := ZZ4.out; omega
          go_wp2_with fail
          refine (when_Span.put_calls (n % 60) ⟨#[83]⟩ o3 w.heap.size _ (by omega) (by omega) (itoaB_size _ (by omega) (by omega)) (by decide) (by have := ZZ4.out; omega) HB3.out (Laid.below HLD.out BB3.out) hg).mono ?_
          rintro e w4 ⟨rfl, hb4, hB4, -⟩
          have BB4 : Aside0 (Below w.heap.size w w4) := ⟨Below.trans BB3.out hB4⟩
          have SZ4 := put_size o3 ⟨#[83]⟩ (n % 60) (by omega) (by omega) (by decide)
          obtain ⟨o4, ho4⟩ : ∃ o : ByteArray, when_Span.put o3 (n % 60) ⟨#[83]⟩ = o := ⟨_, rfl⟩
          rw [ho4] at hb4 SZ4
          have HO4 := Aside0.mk ho4
          have HB4 := Aside0.mk hb4
          have ZZ5 : Aside0 (o4.size ≤ 251) := ⟨by have := ZZ4.out; omega⟩
          have c4_ := cell_of_one hb4
          have f4_ := free_of_one hb4
          clear hb4 hB4 ho4 SZ4
          have zz4_ : o4.size ≤ 1000 := by have := ZZ5.out; omega
          go_wp2_with fail
          go_ret2
          exact ⟨by rw [← HH.out]; simp only [if_pos (show 0 < n % 86400 by omega), if_neg (show ¬ ((3600 ≤ n % 86400 ∧ 0 < n % 60) ∧ n % 86400 / 60 % 60 = 0) from fun e => by omega), HO1.out, HO2.out, HO3.out, HO4.out] <;> (first | done | rfl), BB4.out⟩
      · skip
        go_enter Tryd.func21, Tryd.ntmps21
        have ZZ0 : Aside0 ((⟨#[45, 80]⟩ : ByteArray).size ≤ 10) := ⟨by decide⟩
        go_wp2_with fail
        refine (when_Span.put_calls (n / 86400) ⟨#[68]⟩ (⟨#[45, 80]⟩ : ByteArray) w.heap.size _ (by omega) (by omega) (itoaB_size _ (by omega) (by omega)) (by decide) (by have := ZZ0.out; omega) (heap_new w (Obj.cells #[Value.string ⟨#[45, 80]⟩] 9)) (Laid.below HLD.out (below_new w (Obj.cells #[Value.string ⟨#[45, 80]⟩] 9))) hg).mono ?_
        rintro e w1 ⟨rfl, hb1, hB1, -⟩
        have BB1 : Aside0 (Below w.heap.size w w1) := ⟨Below.trans (below_new w (Obj.cells #[Value.string ⟨#[45, 80]⟩] 9)) hB1⟩
        have SZ1 := put_size (⟨#[45, 80]⟩ : ByteArray) ⟨#[68]⟩ (n / 86400) (by omega) (by omega) (by decide)
        obtain ⟨o1, ho1⟩ : ∃ o : ByteArray, when_Span.put (⟨#[45, 80]⟩ : ByteArray) (n / 86400) ⟨#[68]⟩ = o := ⟨_, rfl⟩
        rw [ho1] at hb1 SZ1
        have HO1 := Aside0.mk ho1
        have HB1 := Aside0.mk hb1
        have ZZ1 : Aside0 (o1.size ≤ 70) := ⟨by have := ZZ0.out; omega⟩
        have c1_ := cell_of_one hb1
        have f1_ := free_of_one hb1
        clear hb1 hB1 ho1 SZ1
        have zz1_ : o1.size ≤ 1000 := by have := ZZ1.out; omega
        go_wp2_with fail
        have ZZ2 : Aside0 ((o1 ++ ⟨#[84]⟩).size ≤ 71) := ⟨by have := ZZ1.out; simp only [ByteArray.size_append, mk_size, List.length_cons, List.length_nil]; omega⟩
        refine (when_Span.put_calls (n % 86400 / 3600) ⟨#[72]⟩ (o1 ++ ⟨#[84]⟩) w.heap.size _ (by omega) (by omega) (itoaB_size _ (by omega) (by omega)) (by decide) (by have := ZZ2.out; omega) (one_setCell HB1.out) (Laid.below HLD.out (Below.setCell (p := ⟨w.heap.size, 0, none⟩) BB1.out (Nat.le_refl _) _)) hg).mono ?_
        rintro e w2 ⟨rfl, hb2, hB2, -⟩
        have BB2 : Aside0 (Below w.heap.size w w2) := ⟨Below.trans (Below.setCell (p := ⟨w.heap.size, 0, none⟩) BB1.out (Nat.le_refl _) _) hB2⟩
        have SZ2 := put_size (o1 ++ ⟨#[84]⟩) ⟨#[72]⟩ (n % 86400 / 3600) (by omega) (by omega) (by decide)
        obtain ⟨o2, ho2⟩ : ∃ o : ByteArray, when_Span.put (o1 ++ ⟨#[84]⟩) (n % 86400 / 3600) ⟨#[72]⟩ = o := ⟨_, rfl⟩
        rw [ho2] at hb2 SZ2
        have HO2 := Aside0.mk ho2
        have HB2 := Aside0.mk hb2
        have ZZ3 : Aside0 (o2.size ≤ 131) := ⟨by have := ZZ2.out; omega⟩
        have c2_ := cell_of_one hb2
        have f2_ := free_of_one hb2
        clear hb2 hB2 ho2 SZ2
        have zz2_ : o2.size ≤ 1000 := by have := ZZ3.out; omega
        go_wp2_with fail
        refine (when_Span.put_calls (n % 86400 / 60 % 60) ⟨#[77]⟩ o2 w.heap.size _ (by omega) (by omega) (itoaB_size _ (by omega) (by omega)) (by decide) (by have := ZZ3.out; omega) HB2.out (Laid.below HLD.out BB2.out) hg).mono ?_
        rintro e w3 ⟨rfl, hb3, hB3, -⟩
        have BB3 : Aside0 (Below w.heap.size w w3) := ⟨Below.trans BB2.out hB3⟩
        have SZ3 := put_size o2 ⟨#[77]⟩ (n % 86400 / 60 % 60) (by omega) (by omega) (by decide)
        obtain ⟨o3, ho3⟩ : ∃ o : ByteArray, when_Span.put o2 (n % 86400 / 60 % 60) ⟨#[77]⟩ = o := ⟨_, rfl⟩
        rw [ho3] at hb3 SZ3
        have HO3 := Aside0.mk ho3
        have HB3 := Aside0.mk hb3
        have ZZ4 : Aside0 (o3.size ≤ 191) := ⟨by have := ZZ3.out; omega⟩
        have c3_ := cell_of_one hb3
        have f3_ := free_of_one hb3
        clear hb3 hB3 ho3 SZ3
        have zz3_ : o3.size ≤ 1000 := by have := ZZ4.out; omega
        go_wp2_with fail
        refine (when_Span.put_calls (n % 60) ⟨#[83]⟩ o3 w.heap.size _ (by omega) (by omega) (itoaB_size _ (by omega) (by omega)) (by decide) (by have := ZZ4.out; omega) HB3.out (Laid.below HLD.out BB3.out) hg).mono ?_
        rintro e w4 ⟨rfl, hb4, hB4, -⟩
        have BB4 : Aside0 (Below w.heap.size w w4) := ⟨Below.trans BB3.out hB4⟩
        have SZ4 := put_size o3 ⟨#[83]⟩ (n % 60) (by omega) (by omega) (by decide)
        obtain ⟨o4, ho4⟩ : ∃ o : ByteArray, when_Span.put o3 (n % 60) ⟨#[83]⟩ = o := ⟨_, rfl⟩
        rw [ho4] at hb4 SZ4
        have HO4 := Aside0.mk ho4
        have HB4 := Aside0.mk hb4
        have ZZ5 : Aside0 (o4.size ≤ 251) := ⟨by have := ZZ4.out; omega⟩
        have c4_ := cell_of_one hb4
        have f4_ := free_of_one hb4
        clear hb4 hB4 ho4 SZ4
        have zz4_ : o4.size ≤ 1000 := by have := ZZ5.out; omega
        go_wp2_with fail
        go_ret2
        exact ⟨by rw [← HH.out]; simp only [if_pos (show 0 < n % 86400 by omega), if_neg (show ¬ ((3600 ≤ n % 86400 ∧ 0 < n % 60) ∧ n % 86400 / 60 % 60 = 0) from fun e => by omega), HO1.out, HO2.out, HO3.out, HO4.out] <;> (first | done | rfl), BB4.out⟩
    · have c6' : ¬ 3600 ≤ n % 86400 := by omega
      go_enter Tryd.func21, Tryd.ntmps21
      have ZZ0 : Aside0 ((⟨#[45, 80]⟩ : ByteArray).size ≤ 10) := ⟨by decide⟩
      go_wp2_with fail
      refine (when_Span.put_calls (n / 86400) ⟨#[68]⟩ (⟨#[45, 80]⟩ : ByteArray) w.heap.size _ (by omega) (by omega) (itoaB_size _ (by omega) (by omega)) (by decide) (by have := ZZ0.out; omega) (heap_new w (Obj.cells #[Value.string ⟨#[45, 80]⟩] 9)) (Laid.below HLD.out (below_new w (Obj.cells #[Value.string ⟨#[45, 80]⟩] 9))) hg).mono ?_
      rintro e w1 ⟨rfl, hb1, hB1, -⟩
      have BB1 : Aside0 (Below w.heap.size w w1) := ⟨Below.trans (below_new w (Obj.cells #[Value.string ⟨#[45, 80]⟩] 9)) hB1⟩
      have SZ1 := put_size (⟨#[45, 80]⟩ : ByteArray) ⟨#[68]⟩ (n / 86400) (by omega) (by omega) (by decide)
      obtain ⟨o1, ho1⟩ : ∃ o : ByteArray, when_Span.put (⟨#[45, 80]⟩ : ByteArray) (n / 86400) ⟨#[68]⟩ = o := ⟨_, rfl⟩
      rw [ho1] at hb1 SZ1
      have HO1 := Aside0.mk ho1
      have HB1 := Aside0.mk hb1
      have ZZ1 : Aside0 (o1.size ≤ 70) := ⟨by have := ZZ0.out; omega⟩
      have c1_ := cell_of_one hb1
      have f1_ := free_of_one hb1
      clear hb1 hB1 ho1 SZ1
      have zz1_ : o1.size ≤ 1000 := by have := ZZ1.out; omega
      go_wp2_with fail
      refine (when_Span.put_calls (n % 86400 / 3600) ⟨#[72]⟩ o1 w.heap.size _ (by omega) (by omega) (itoaB_size _ (by omega) (by omega)) (by decide) (by have := ZZ1.out; omega) HB1.out (Laid.below HLD.out BB1.out) hg).mono ?_
      rintro e w2 ⟨rfl, hb2, hB2, -⟩
      have BB2 : Aside0 (Below w.heap.size w w2) := ⟨Below.trans BB1.out hB2⟩
      have SZ2 := put_size o1 ⟨#[72]⟩ (n % 86400 / 3600) (by omega) (by omega) (by decide)
      obtain ⟨o2, ho2⟩ : ∃ o : ByteArray, when_Span.put o1 (n % 86400 / 3600) ⟨#[72]⟩ = o := ⟨_, rfl⟩
      rw [ho2] at hb2 SZ2
      have HO2 := Aside0.mk ho2
      have HB2 := Aside0.mk hb2
      have ZZ2 : Aside0 (o2.size ≤ 130) := ⟨by have := ZZ1.out; omega⟩
      have c2_ := cell_of_one hb2
      have f2_ := free_of_one hb2
      clear hb2 hB2 ho2 SZ2
      have zz2_ : o2.size ≤ 1000 := by have := ZZ2.out; omega
      go_wp2_with fail
      refine (when_Span.put_calls (n % 86400 / 60 % 60) ⟨#[77]⟩ o2 w.heap.size _ (by omega) (by omega) (itoaB_size _ (by omega) (by omega)) (by decide) (by have := ZZ2.out; omega) HB2.out (Laid.below HLD.out BB2.out) hg).mono ?_
      rintro e w3 ⟨rfl, hb3, hB3, -⟩
      have BB3 : Aside0 (Below w.heap.size w w3) := ⟨Below.trans BB2.out hB3⟩
      have SZ3 := put_size o2 ⟨#[77]⟩ (n % 86400 / 60 % 60) (by omega) (by omega) (by decide)
      obtain ⟨o3, ho3⟩ : ∃ o : ByteArray, when_Span.put o2 (n % 86400 / 60 % 60) ⟨#[77]⟩ = o := ⟨_, rfl⟩
      rw [ho3] at hb3 SZ3
      have HO3 := Aside0.mk ho3
      have HB3 := Aside0.mk hb3
      have ZZ3 : Aside0 (o3.size ≤ 190) := ⟨by have := ZZ2.out; omega⟩
      have c3_ := cell_of_one hb3
      have f3_ := free_of_one hb3
      clear hb3 hB3 ho3 SZ3
      have zz3_ : o3.size ≤ 1000 := by have := ZZ3.out; omega
      go_wp2_with fail
      refine (when_Span.put_calls (n % 60) ⟨#[83]⟩ o3 w.heap.size _ (by omega) (by omega) (itoaB_size _ (by omega) (by omega)) (by decide) (by have := ZZ3.out; omega) HB3.out (Laid.below HLD.out BB3.out) hg).mono ?_
      rintro e w4 ⟨rfl, hb4, hB4, -⟩
      have BB4 : Aside0 (Below w.heap.size w w4) := ⟨Below.trans BB3.out hB4⟩
      have SZ4 := put_size o3 ⟨#[83]⟩ (n % 60) (by omega) (by omega) (by decide)
      obtain ⟨o4, ho4⟩ : ∃ o : ByteArray, when_Span.put o3 (n % 60) ⟨#[83]⟩ = o := ⟨_, rfl⟩
      rw [ho4] at hb4 SZ4
      have HO4 := Aside0.mk ho4
      have HB4 := Aside0.mk hb4
      have ZZ4 : Aside0 (o4.size ≤ 250) := ⟨by have := ZZ3.out; omega⟩
      have c4_ := cell_of_one hb4
      have f4_ := free_of_one hb4
      clear hb4 hB4 ho4 SZ4
      have zz4_ : o4.size ≤ 1000 := by have := ZZ4.out; omega
      go_wp2_with fail
      go_ret2
      exact ⟨by rw [← HH.out]; simp only [if_neg (show ¬ 0 < n % 86400 by omega), if_neg (show ¬ ((3600 ≤ n % 86400 ∧ 0 < n % 60) ∧ n % 86400 / 60 % 60 = 0) from fun e => by omega), HO1.out, HO2.out, HO3.out, HO4.out] <;> (first | done | rfl), BB4.out⟩
end Go.Proofs.YtiffbkfgimifbaaDoor.Print

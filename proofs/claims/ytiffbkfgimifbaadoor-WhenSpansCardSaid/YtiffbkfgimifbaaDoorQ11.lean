/- Lengths: a time behind its T, and the whole. -/
import Derived.Test.YtiffbkfgimifbaaDoorPrint0
import Derived.Test.YtiffbkfgimifbaaDoorPrint6
import Derived.Test.YtiffbkfgimifbaaDoorQ10
namespace Go.Proofs.YtiffbkfgimifbaaDoor.Print
open Go.RowKit Go.Proofs.YtiffbkfgimifbaaDoorW.PrintWords Go.Proofs.YtiffbkfgimifbaaDoorW.PrintLast Go.Proofs.YtiffbkfgimifbaaDoorW.PrintMore

/-- What a reading is good for: the value, or nothing. -/
def Told (M v : Int) (ok : Bool) : Prop := (ok = true → v = M ∧ 0 ≤ M) ∧ (ok = false → M = -1)
def ClockIs (s : ByteArray) (all last count i M : Int) : Prop := ∃ v ok, Ev (fun k => when_clock.l0 k s all last count i) (v, ok) ∧ Told M v ok

theorem empty_iff (s : ByteArray) : s.toList.isEmpty = decide (bl s = []) := by rw [bl_toList]; cases bl s <;> rfl
theorem clock3 (s : ByteArray) (all last count M : Int) (h0 : 0 ≤ all) (h : M = if 0 < count ∧ bl s = [] then all else -1) : ClockIs s all last count 3 M := by
  refine ⟨all, decide (0 < count) && s.toList.isEmpty, Ev.step (fun k => by rw [when_clock.l0]) (Ev.ite_neg (by omega) (Ev.now _)), ?_, ?_⟩
  · intro q
    rw [empty_iff] at q
    simp only [Bool.and_eq_true, decide_eq_true_eq] at q
    rw [if_pos q] at h
    omega
  · intro q
    rw [empty_iff] at q
    simp only [Bool.and_eq_false_iff, decide_eq_false_iff_not] at q
    rw [if_neg (fun x => q.elim (fun y => y x.1) (fun y => y x.2))] at h
    exact h
/-- One round: the unit stands there, or not. -/
theorem clock_take {s r : ByteArray} {u : UInt8} {n all last count i M : Int} (hi : i < 3) (hu : when_clock.unit i = (u.toNat : Int)) (hn : 0 ≤ n) (hp : Ev (fun k => when_piece.f k s (u.toNat : Int)) (n, r)) (hl : ¬ (0 ≤ last ∧ last ≠ i - 1))
    (h : ClockIs r (wrap64 (all + wrap64 (n * when_clock.worth i))) i (count + 1) (i + 1) M) : ClockIs s all last count i M := by
  obtain ⟨v, ok, h1, h2⟩ := h
  refine ⟨v, ok, Ev.step (fun k => by rw [when_clock.l0]) (Ev.ite_pos hi ?_), h2⟩
  rw [hu]
  exact Ev.bind hp (Ev.ite_neg (by show ¬ n < 0; omega) (Ev.ite_neg hl h1))
theorem clock_out {s r : ByteArray} {u : UInt8} {n all last count i : Int} (hi : i < 3) (hu : when_clock.unit i = (u.toNat : Int)) (hn : 0 ≤ n) (hp : Ev (fun k => when_piece.f k s (u.toNat : Int)) (n, r)) (hl : 0 ≤ last ∧ last ≠ i - 1) : ClockIs s all last count i (-1) := by
  refine ⟨0, false, Ev.step (fun k => by rw [when_clock.l0]) (Ev.ite_pos hi ?_), (fun q => by cases q), fun _ => rfl⟩
  rw [hu]
  exact Ev.bind hp (Ev.ite_neg (by show ¬ n < 0; omega) (Ev.ite_pos hl (Ev.now _)))
theorem clock_skip {s : ByteArray} {u : UInt8} {all last count i M : Int} (hi : i < 3) (hu : when_clock.unit i = (u.toNat : Int)) (hp : Ev (fun k => when_piece.f k s (u.toNat : Int)) (-1, s)) (h : ClockIs s all last count (i + 1) M) : ClockIs s all last count i M := by
  obtain ⟨v, ok, h1, h2⟩ := h
  refine ⟨v, ok, Ev.step (fun k => by rw [when_clock.l0]) (Ev.ite_pos hi ?_), h2⟩
  rw [hu]
  exact Ev.bind hp (Ev.ite_pos (by show (-1 : Int) < 0; omega) h1)

theorem clock2_1 (s : ByteArray) (hs : (bl s).length ≤ 400) (all : Int) (h0 : 0 ≤ all) (h1 : all ≤ 900000000000000) : ClockIs s all 1 2 2 (rn 3 all (bl s)) := by
  rcases whenPiece_ev s 83 rfl hs with ⟨n, r, hh, n0, n1, hr, hp⟩ | ⟨hh, hp⟩
  · refine clock_take (u := 83) (by omega) rfl n0 hp (by omega) ?_
    rw [rn_take hh (by decide) (by decide), show ordR ((83 : UInt8).toNat : Int) = 4 from rfl, show worR ((83 : UInt8).toNat : Int) = 1 from rfl, show when_clock.worth 2 = 1 from rfl, w64 (n * 1) (by omega) (by omega), w64 _ (by omega) (by omega)]
    exact clock3 r _ _ _ _ (by omega) (by rw [rn_4]; by_cases c : bl r = [] <;> simp [c])
  · refine clock_skip (u := 83) (by omega) rfl hp (clock3 s _ _ _ _ h0 ?_)
    rw [rn_3 hh]; by_cases c : bl s = [] <;> simp [c]
theorem clock2_0 (s : ByteArray) (hs : (bl s).length ≤ 400) (all : Int) (h0 : 0 ≤ all) (h77 : hv (bl s) 77 = none) : ClockIs s all 0 1 2 (rn 2 all (bl s)) := by
  rcases whenPiece_ev s 83 rfl hs with ⟨n, r, hh, n0, n1, hr, hp⟩ | ⟨hh, hp⟩
  · rw [rn_bad hh (by decide) (by decide)]
    exact clock_out (u := 83) (by omega) rfl n0 hp (by omega)
  · refine clock_skip (u := 83) (by omega) rfl hp (clock3 s _ _ _ _ h0 ?_)
    rw [rn_2 h77]; by_cases c : bl s = [] <;> simp [c]
theorem clock2_n (s : ByteArray) (hs : (bl s).length ≤ 400) (h72 : hv (bl s) 72 = none) (h77 : hv (bl s) 77 = none) : ClockIs s 0 (-1) 0 2 (rn 1 0 (bl s)) := by
  rcases whenPiece_ev s 83 rfl hs with ⟨n, r, hh, n0, n1, hr, hp⟩ | ⟨hh, hp⟩
  · refine clock_take (u := 83) (by omega) rfl n0 hp (by omega) ?_
    rw [rn_take hh (by decide) (by decide), show ordR ((83 : UInt8).toNat : Int) = 4 from rfl, show worR ((83 : UInt8).toNat : Int) = 1 from rfl, show when_clock.worth 2 = 1 from rfl, w64 (n * 1) (by omega) (by omega), w64 _ (by omega) (by omega)]
    exact clock3 r _ _ _ _ (by omega) (by rw [rn_4]; by_cases c : bl r = [] <;> simp [c])
  · refine clock_skip (u := 83) (by omega) rfl hp (clock3 s _ _ _ _ (by omega) ?_)
    rw [rn_1 h72 h77 hh]; simp
theorem clock1_0 (s : ByteArray) (hs : (bl s).length ≤ 400) (all : Int) (h0 : 0 ≤ all) (h1 : all ≤ 100000000000000) : ClockIs s all 0 1 1 (rn 2 all (bl s)) := by
  rcases whenPiece_ev s 77 rfl hs with ⟨n, r, hh, n0, n1, hr, hp⟩ | ⟨hh, hp⟩
  · refine clock_take (u := 77) (by omega) rfl n0 hp (by omega) ?_
    rw [rn_take hh (by decide) (by decide), show ordR ((77 : UInt8).toNat : Int) = 3 from rfl, show worR ((77 : UInt8).toNat : Int) = 60 from rfl, show when_clock.worth 1 = 60 from rfl, w64 (n * 60) (by omega) (by omega), w64 _ (by omega) (by omega)]
    exact clock2_1 r (by omega) _ (by omega) (by omega)
  · exact clock_skip (u := 77) (by omega) rfl hp (clock2_0 s hs all h0 hh)
theorem clock1_n (s : ByteArray) (hs : (bl s).length ≤ 400) (h72 : hv (bl s) 72 = none) : ClockIs s 0 (-1) 0 1 (rn 1 0 (bl s)) := by
  rcases whenPiece_ev s 77 rfl hs with ⟨n, r, hh, n0, n1, hr, hp⟩ | ⟨hh, hp⟩
  · refine clock_take (u := 77) (by omega) rfl n0 hp (by omega) ?_
    rw [rn_take hh (by decide) (by decide), show ordR ((77 : UInt8).toNat : Int) = 3 from rfl, show worR ((77 : UInt8).toNat : Int) = 60 from rfl, show when_clock.worth 1 = 60 from rfl, w64 (n * 60) (by omega) (by omega), w64 _ (by omega) (by omega)]
    rcases whenPiece_ev r 83 rfl (by omega) with ⟨n', r', hh', m0, m1, hr', hp'⟩ | ⟨hh', hp'⟩
    · refine clock_take (u := 83) (by omega) rfl m0 hp' (by omega) ?_
      rw [rn_take hh' (by decide) (by decide), show ordR ((83 : UInt8).toNat : Int) = 4 from rfl, show worR ((83 : UInt8).toNat : Int) = 1 from rfl, show when_clock.worth (1 + 1) = 1 from rfl, w64 (n' * 1) (by omega) (by omega), w64 _ (by omega) (by omega)]
      exact clock3 r' _ _ _ _ (by omega) (by rw [rn_4]; by_cases c : bl r' = [] <;> simp [c])
    · refine clock_skip (u := 83) (by omega) rfl hp' (clock3 r _ _ _ _ (by omega) ?_)
      rw [rn_3 hh']; by_cases c : bl r = [] <;> simp [c]
  · exact clock_skip (u := 77) (by omega) rfl hp (clock2_n s hs h72 hh)
theorem clock_ev (s : ByteArray) (hs : (bl s).length ≤ 400) : ∃ v ok, Ev (fun k => when_clock.f k s) (v, ok) ∧ Told (rn 1 0 (bl s)) v ok := by
  have : ClockIs s 0 (-1) 0 0 (rn 1 0 (bl s)) := by
    rcases whenPiece_ev s 72 rfl hs with ⟨n, r, hh, n0, n1, hr, hp⟩ | ⟨hh, hp⟩
    · refine clock_take (u := 72) (by omega) rfl n0 hp (by omega) ?_
      rw [rn_take hh (by decide) (by decide), show ordR ((72 : UInt8).toNat : Int) = 2 from rfl, show worR ((72 : UInt8).toNat : Int) = 3600 from rfl, show when_clock.worth 0 = 3600 from rfl, w64 (n * 3600) (by omega) (by omega), w64 _ (by omega) (by omega)]
      exact clock1_0 r (by omega) _ (by omega) (by omega)
    · exact clock_skip (u := 72) (by omega) rfl hp (clock1_n s hs hh)
  exact this
end Go.Proofs.YtiffbkfgimifbaaDoor.Print

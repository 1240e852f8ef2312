/- when.month: the array of its days, and the leap year's February. -/
import Derived.Test.YtiffbkfgimifbaaDoorPrint0
import Derived.Test.YtiffbkfgimifbaaDoorPrint1
namespace Go.Proofs.YtiffbkfgimifbaaDoor.Print
open Go.RowKit Go.Proofs.YtiffbkfgimifbaaDoorW.PrintWords Go.Proofs.YtiffbkfgimifbaaDoorW.PrintLast Go.Proofs.YtiffbkfgimifbaaDoorW.PrintMore

def when_month.tab (a1 : Int) : Int := [0, 31, 28, 31, 30, 31, 30, 31, 31, 30, 31, 30, 31].getD a1.toNat 0
def when_month.f (a0 a1 : Int) : Option (Int) := if 0 ≤ a1 ∧ a1 < 13 then (if a1 = 2 then (when_leap.f a0).bind fun t => some (if t = true then 29 else 28) else some (when_month.tab a1)) else none
set_option maxHeartbeats 4000000 in
theorem when_month.calls (a0 a1 : Int) (r : Int) (w : World) (h : when_month.f a0 a1 = some r) :
    Calls Tryd.prog 25 #[.int .i64 a0, .int .i64 a1] w fun e w' => e = .returned (.int .i64 r) ∧ Below w.heap.size w w' := by
  unfold when_month.f at h
  split at h
  · rename_i hb
    split at h
    · rename_i h2
      subst h2
      obtain ⟨t, ht, hr⟩ := Option.bind_eq_some_iff.mp h
      have HT := Aside0.mk ht
      clear ht h hb
      cases t with
      | true =>
        obtain rfl := Option.some.inj hr
        go_enter Tryd.func25, Tryd.ntmps25
        go_wp2_with (go_at_call 42; refine (when_leap.calls a0 true _ HT.out).mono ?_; rintro e w' ⟨rfl, ⟨nd, rfl⟩⟩)
        go_ret
        exact ⟨rfl, by repeat (first | exact Below.refl _ _ | apply below_alloc | apply pw_below_drewN | apply below_drew1)⟩
      | false =>
        obtain rfl := Option.some.inj hr
        go_enter Tryd.func25, Tryd.ntmps25
        go_wp2_with (go_at_call 42; refine (when_leap.calls a0 false _ HT.out).mono ?_; rintro e w' ⟨rfl, ⟨nd, rfl⟩⟩)
        go_ret
        exact ⟨rfl, by repeat (first | exact Below.refl _ _ | apply below_alloc | apply pw_below_drewN | apply below_drew1)⟩
    · rename_i h2
      obtain rfl := Option.some.inj h
      clear h
      obtain ⟨h0, h1⟩ := hb
      have hc : a1 = 0 ∨ a1 = 1 ∨ a1 = 3 ∨ a1 = 4 ∨ a1 = 5 ∨ a1 = 6 ∨ a1 = 7 ∨ a1 = 8 ∨ a1 = 9 ∨ a1 = 10 ∨ a1 = 11 ∨ a1 = 12 := by omega
      clear h0 h1 h2
      rcases hc with rfl | rfl | rfl | rfl | rfl | rfl | rfl | rfl | rfl | rfl | rfl | rfl
      all_goals
        go_enter Tryd.func25, Tryd.ntmps25
        go_wp2_with fail
        go_ret
        exact ⟨rfl, by repeat (first | exact Below.refl _ _ | apply below_alloc | apply pw_below_drewN | apply below_drew1)⟩
  · cases h
end Go.Proofs.YtiffbkfgimifbaaDoor.Print

/- The law WordRight of layer 6, walked. -/
import Derived.Test.YtnabpdengfmeaaaWordRef
namespace Go.Proofs.Ytnabpdengfmeaaa
open Go.RowKit

theorem same_int (a : Int) : (a == a) = true := by simp

set_option maxHeartbeats 1000000 in
set_option maxRecDepth 100000 in
theorem wordRight (st s c : Int) (want clear : Bool) (w : World) :
    Calls Try.prog 15 #[.int .i64 st, .int .i64 s, .int .i64 c, .bool want, .bool clear] w fun e w' => e = .returned (.bool true) ∧ Below w.heap.size w w' := by
  go_enter Try.func15, Try.ntmps15
  go_wp2_with fail
  refine (awake06 _).mono ?_
  rintro e w' ⟨rfl, rfl⟩
  go_wp2_with fail
  refine (wstate_any _ _).mono ?_
  rintro e w' ⟨rfl, rfl⟩
  go_wp2_with fail
  refine (rstate_any _ _).mono ?_
  rintro e w' ⟨rfl, rfl⟩
  generalize stateN st = y1
  go_wp2_with fail
  refine (wstatus_any _ _).mono ?_
  rintro e w' ⟨rfl, rfl⟩
  go_wp2_with fail
  refine (rstatus_any _ _).mono ?_
  rintro e w' ⟨rfl, rfl⟩
  generalize statusN s = y2
  go_wp2_with fail
  refine (wcontrol_any _ _ _ _).mono ?_
  rintro e w' ⟨rfl, rfl⟩
  go_wp2_with fail
  refine (rcontrol_any _ _ _ _).mono ?_
  rintro e w' ⟨rfl, rfl⟩
  generalize controlN s want clear = y3
  go_wp2_with fail
  refine (wnext_any _ _ _).mono ?_
  rintro e w' ⟨rfl, rfl⟩
  go_wp2_with fail
  refine (rnext_any _ _ _).mono ?_
  rintro e w' ⟨rfl, rfl⟩
  generalize nextN s c = y4
  go_wp2
  go_ret
  exact ⟨rfl, Below.refl _ _⟩
end Go.Proofs.Ytnabpdengfmeaaa

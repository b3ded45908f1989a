import Derived.Test.YtinlaokblnhgoaaDoorA1
import Derived.Handy
namespace Go.Proofs.YtinlaokblnhgoaaDoor
set_option linter.unusedVariables false
set_option linter.unusedSimpArgs false
open Go.ChangeShapes Go.WideShapes Go.ChangeAt Go.RowKit

def storeB (lo hi now i o : Int) : Bool := decide (0 ≤ lo) && decide (lo < hi) && decide (hi ≤ 1000000000) && inB now lo hi && inB i 0 30000 && inB o 0 30000

abbrev stV (lo hi now i o : Int) : Value := .agg #[.int .i64 lo, .int .i64 hi, .int .i64 now, .int .i64 i, .int .i64 o]



set_option maxHeartbeats 400000 in
theorem impl_IsStore (lo hi now i o : Int) (w : World) :
    Calls Tryd.prog 11 #[stV lo hi now i o] w fun e w' => e = .returned (.bool (storeB lo hi now i o)) ∧ Below w.heap.size w w' := by
  go_enter Tryd.func11, Tryd.ntmps11
  go_wp2_with ((go_at_call 30; refine (within_any _ _ _ _).mono ?_; rintro e w' ⟨rfl, rfl⟩))
  all_goals go_ret
  all_goals refine ⟨rb ?_, by go_grown⟩
  all_goals simp [storeB, inB] at *
  all_goals omega

set_option maxHeartbeats 400000 in
theorem spec_IsStore (lo hi now i o : Int) (w : World) :
    Calls Tryd.prog 20 #[stV lo hi now i o] w fun e w' => e = .returned (.bool (storeB lo hi now i o)) ∧ Below w.heap.size w w' := by
  go_enter Tryd.func20, Tryd.ntmps20
  go_wp2_with ((go_at_call 31; refine (l01In_any _ _ _ _).mono ?_; rintro e w' ⟨rfl, rfl⟩))
  all_goals go_ret
  all_goals refine ⟨rb ?_, by go_grown⟩
  all_goals simp [storeB, inB] at *
  all_goals omega

def limI (rate room whole : Int) : Int := min room ((rate * room + whole - 1) / whole)
theorem store_of {lo hi now i o : Int} (h : storeB lo hi now i o = true) : 0 ≤ lo ∧ lo < hi ∧ hi ≤ 1000000000 ∧ lo ≤ now ∧ now ≤ hi ∧ 0 ≤ i ∧ i ≤ 30000 ∧ 0 ≤ o ∧ o ≤ 30000 := by
  simp [storeB, inB] at h; omega

theorem mul_bd {a b A B : Int} (h0 : 0 ≤ a) (h1 : a ≤ A) (h2 : 0 ≤ b) (h3 : b ≤ B) : 0 ≤ a * b ∧ a * b ≤ A * B :=
  ⟨Int.mul_nonneg h0 h2, Int.mul_le_mul h1 h3 h2 (by omega)⟩

set_option maxHeartbeats 400000 in
theorem impl_storeLimits (lo hi now i o : Int) (w : World) (h : storeB lo hi now i o = true) :
    Calls Tryd.prog 18 #[stV lo hi now i o] w fun e w' => e = .returned (.tuple #[.int .i64 (limI i (hi - now) (hi - lo)), .int .i64 (limI o (now - lo) (hi - lo))]) ∧ Below w.heap.size w w' := by
  obtain ⟨h1, h2, h3, h4, h5, h6, h7, h8, h9⟩ := store_of h
  obtain ⟨p1, p2⟩ := mul_bd (a := i) (b := hi - now) h6 h7 (by omega) (show _ ≤ 1000000000 by omega)
  obtain ⟨p3, p4⟩ := mul_bd (a := o) (b := now - lo) h8 h9 (by omega) (show _ ≤ 1000000000 by omega)
  clear h
  go_enter Tryd.func18, Tryd.ntmps18
  go_wp2
  go_region
  go_wp2
  all_goals go_ret2
  all_goals refine ⟨ri2 ?_ ?_, by go_grown⟩
  all_goals (unfold limI; omega)

set_option maxHeartbeats 400000 in
theorem spec_l17Limit (rate room whole : Int) (w : World) (h0 : 0 ≤ rate) (h1 : rate ≤ 30000) (h2 : 0 ≤ room) (h3 : room ≤ 1000000000) (h4 : 0 < whole) (h5 : whole ≤ 1000000000) :
    Calls Tryd.prog 32 #[.int .i64 rate, .int .i64 room, .int .i64 whole] w fun e w' => e = .returned (.int .i64 (limI rate room whole)) ∧ w = w' := by
  obtain ⟨p1, p2⟩ := mul_bd (a := rate) (b := room) h0 h1 h2 h3
  go_enter Tryd.func32, Tryd.ntmps32
  go_wp2
  all_goals go_ret
  all_goals refine ⟨ri ?_, rfl⟩
  all_goals (unfold limI; omega)

set_option maxHeartbeats 400000 in
theorem spec_l17In (lo hi now i o : Int) (w : World) (h : storeB lo hi now i o = true) :
    Calls Tryd.prog 23 #[stV lo hi now i o] w fun e w' => e = .returned (.int .i64 (limI i (hi - now) (hi - lo))) ∧ Below w.heap.size w w' := by
  obtain ⟨h1, h2, h3, h4, h5, h6, h7, h8, h9⟩ := store_of h
  clear h
  go_enter Tryd.func23, Tryd.ntmps23
  go_wp2_with ((go_at_call 32; refine (spec_l17Limit _ _ _ _ (by omega) (by omega) (by omega) (by omega) (by omega) (by omega)).mono ?_; rintro e w' ⟨rfl, rfl⟩))
  go_ret
  exact ⟨rfl, by go_grown⟩

set_option maxHeartbeats 400000 in
theorem spec_l17Out (lo hi now i o : Int) (w : World) (h : storeB lo hi now i o = true) :
    Calls Tryd.prog 22 #[stV lo hi now i o] w fun e w' => e = .returned (.int .i64 (limI o (now - lo) (hi - lo))) ∧ Below w.heap.size w w' := by
  obtain ⟨h1, h2, h3, h4, h5, h6, h7, h8, h9⟩ := store_of h
  clear h
  go_enter Tryd.func22, Tryd.ntmps22
  go_wp2_with ((go_at_call 32; refine (spec_l17Limit _ _ _ _ (by omega) (by omega) (by omega) (by omega) (by omega) (by omega)).mono ?_; rintro e w' ⟨rfl, rfl⟩))
  go_ret
  exact ⟨rfl, by go_grown⟩

set_option maxHeartbeats 400000 in
theorem spec_l17Move (lo hi now i o a : Int) (w : World) (h1 : -9223372036854775808 ≤ now + a) (h2 : now + a ≤ 9223372036854775807) :
    Calls Tryd.prog 25 #[stV lo hi now i o, .int .i64 a] w fun e w' => e = .returned (stV lo hi (now + a) i o) ∧ Below w.heap.size w w' := by
  go_enter Tryd.func25, Tryd.ntmps25
  go_wp2
  go_returns
  exact ⟨rfl, by go_grown⟩

end Go.Proofs.YtinlaokblnhgoaaDoor

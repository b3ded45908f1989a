import Derived.Test.YtinlaokblnhgoaaDoorA2
namespace Go.Proofs.YtinlaokblnhgoaaDoor
set_option linter.unusedVariables false
set_option linter.unusedSimpArgs false
open Go.ChangeShapes Go.WideShapes Go.ChangeAt Go.RowKit

/-- which way a move goes: 1 not valid, 3 over the limit, 0 moved -/
def moveC (lo hi now i o a : Int) : Int :=
  if storeB lo hi now i o = false then 1 else if a ≤ limI i (hi - now) (hi - lo) ∧ - limI o (now - lo) (hi - lo) ≤ a then 0 else 3
def moveV (lo hi now i o a : Int) : Value :=
  if moveC lo hi now i o a = 0 then stV lo hi (now + a) i o else stV 0 0 0 0 0

theorem limI_bd {rate room whole : Int} (h0 : 0 ≤ rate) (h2 : 0 ≤ room) (h4 : 0 < whole) : 0 ≤ limI rate room whole ∧ limI rate room whole ≤ room := by
  have h := Int.ediv_nonneg (a := rate * room + whole - 1) (b := whole) (by have := Int.mul_nonneg h0 h2; omega) (by omega)
  unfold limI; omega

theorem move_ret {lo hi now i o a x y : Int} (n : Int) (h : moveC lo hi now i o a = n) (hx : n = y) (hy : n = 0 → x = now + a) :
   Ending.returned (.tuple #[if n = 0 then stV lo hi x i o else stV 0 0 0 0 0, .int .i64 y]) = .returned (.tuple #[moveV lo hi now i o a, .int .i64 (moveC lo hi now i o a)]) := by
  subst hx
  unfold moveV
  rw [h]
  by_cases h0 : n = 0
  · rw [if_pos h0, if_pos h0, hy h0]
  · rw [if_neg h0, if_neg h0]

end Go.Proofs.YtinlaokblnhgoaaDoor

/- The draws of a book's laws. -/
import Derived.Test.YtlbidcblpmdgaaaDcb
namespace Go.Proofs.Ytlbidcblpmdgaaa
set_option linter.unusedVariables false
set_option linter.unusedSimpArgs false
open Go.RowKit
set_option maxRecDepth 100000 in
set_option maxHeartbeats 8000000 in
theorem spec_l20DrawHour (p : Nat) (w : World) (h : Src w p) :
    Calls Try.prog 51 #[.pointer (some ⟨p, 0, none⟩)] w fun e w' => ∃ x : Int, e = .returned (.int .i64 x) ∧ Src w' p ∧ Keep (· = p) w w' := by
  have hp := h.lt
  have HS := Lib.hid h
  clear h
  go_enter Try.func51, Try.ntmps51
  go_wp2_with fail
  refine (spec_l01Next p _ _ HS.out (by omega)).mono ?_
  rintro e w1 ⟨z, rfl, za, _, zb, hs1, hk1⟩
  have HS1 := Lib.hid hs1
  have HK1 := Lib.hid hk1
  have hz1 := hk1.size
  clear hs1 hk1 zb HS
  by_cases e0 : z = 0
  · subst e0
    go_wp2_with fail
    refine (spec_l01Next p _ _ (HS1.out.below (by (repeat' (first | (with_reducible exact Below.refl _ _) | (with_reducible assumption) | (with_reducible refine Below.alloc ?_ ?_ _) | (with_reducible refine Below.drew ?_) | (with_reducible refine Below.drewN' ?_ _) | (with_reducible refine Below.setCell ?_ ?_ _) | (refine Below.via ?_ (by with_reducible assumption) ?_) | (with_reducible refine Below.via ?_ (Wd.h _) ?_) | go_size)))) (by omega)).mono ?_
    rintro e w4 ⟨r, rfl, ra, _, rb, hs4, hk4⟩
    have rc := rb (by omega)
    have rn : r.toNat < 3 := by omega
    have hld := (hk4.cell w1.heap.size r.toNat (by simp) (by omega)).trans (litC3 w1 2 (-1) 47 48 r.toNat rn)
    have hz4 := hk4.size
    simp at hz4
    have HS4 := Lib.hid hs4
    have HK4 := Lib.hid ((HK1.out.trans (Keep.of_below _ (Below.alloc (Below.refl _ w1) (Nat.le_refl _) _))).trans hk4)
    clear hs4 hk4 rb HS1 HK1
    go_wp2
    go_ret
    exact ⟨_, rfl, HS4.out, HK4.out⟩
  · have b0 : (z == 0) = false := by simpa using e0
    go_wp2_with fail
    refine (spec_l01Next p _ _ HS1.out (by omega)).mono ?_
    rintro e w4 ⟨r, rfl, ra, _, rb, hs4, hk4⟩
    have HS4 := Lib.hid hs4
    have HK4 := Lib.hid (HK1.out.trans hk4)
    clear hs4 hk4 rb HS1 HK1
    go_wp2
    go_ret
    exact ⟨_, rfl, HS4.out, HK4.out⟩
end Go.Proofs.Ytlbidcblpmdgaaa

/- The law FnExactReadContract. -/
import Derived.Test.YtfjmceiahampoaaDoorTrk
import Derived.Test.YtfjmceiahampoaaDoorLContract
namespace Go.Proofs.YtfjmceiahampoaaDoor
set_option linter.unusedVariables false
set_option linter.unusedSimpArgs false
open Go.RowKit
set_option maxRecDepth 100000 in
set_option maxHeartbeats 4000000 in
theorem walk_FnExactReadContract (w : World) (s : ByteArray) (hs : s.size ≤ 9223372036854775807) (ht : Tabs w) :
    Calls Tryd.prog 3 #[.string s] w fun e w' => e = .returned (.bool true) ∧ Below w.heap.size w w' := by
  have HT := Lib.hid ht
  clear ht
  by_cases hbig : s.size ≤ 1048576
  · have HM := Lib.hid (show Mod s by unfold Mod; omega)
    have HE := Lib.hid (trivial)
    go_enter Tryd.func3, Tryd.ntmps3
    go_wp2_with fail
    refine (spec_ReadContract s _ HM.out).mono ?_
    rintro e w1 ⟨rfl, hb1⟩
    have HI := Lib.hid (impl_ReadContract s)
    generalize rcL (mapO rdV (spl 32 (bl s))) = oo at *
    cases oo with
    | none =>
      rw [show rcV (none) = .tuple #[.agg #[Value.int .i64 (0), Value.int .i64 (0), Value.int .i64 (0), Value.int .i64 (0), Value.int .i64 (0), Value.int .i64 (0), Value.int .i64 (0), Value.int .i64 (0)], .bool false] from rfl]
      have HI2 := HI.out
      rw [show rcV (none) = .tuple #[.agg #[Value.int .i64 (0), Value.int .i64 (0), Value.int .i64 (0), Value.int .i64 (0), Value.int .i64 (0), Value.int .i64 (0), Value.int .i64 (0), Value.int .i64 (0)], .bool false] from rfl] at HI2
      have HII := Lib.hid HI2
      clear HI2
      go_wp2_with fail
      have hxw2 : Bx (World.alloc w1 (.cells #[Value.int .i64 (0), Value.int .i64 (0), Value.int .i64 (0), Value.int .i64 (0), Value.int .i64 (0), Value.int .i64 (0), Value.int .i64 (0), Value.int .i64 (0)] 23)) w1.heap.size [Value.int .i64 (0), Value.int .i64 (0), Value.int .i64 (0), Value.int .i64 (0), Value.int .i64 (0), Value.int .i64 (0), Value.int .i64 (0), Value.int .i64 (0)] := bx8c (by simp) (by simp) (by simp) (by simp) (by simp) (by simp) (by simp) (by simp) (by simp) (by simp) (by simp) (by simp) (by simp) (by simp) (by simp) (by simp) (by simp)
      have hBw2 := Below.alloc (Below.refl w1.heap.size w1) (Nat.le_refl _) (.cells #[Value.int .i64 (0), Value.int .i64 (0), Value.int .i64 (0), Value.int .i64 (0), Value.int .i64 (0), Value.int .i64 (0), Value.int .i64 (0), Value.int .i64 (0)] 23)
      revert hxw2 hBw2
      generalize World.alloc w1 _ = w2
      intro hxw2 hBw2
      have hB2 := hb1.trans (hBw2.mono hb1.size)
      have HB2 := Lib.hid hB2
      have HX2 := Lib.hid hxw2
      clear hBw2 hxw2 hB2 hb1
      refine (HII.out _ HM.out (HT.out.below HB2.out)).mono ?_
      rintro e w3 ⟨rfl, hb3⟩
      have hB3 := HB2.out.trans (hb3.mono HB2.out.size)
      have hx3 := HX2.out.below hb3 HX2.out.lt
      have HX3 := Lib.hid hx3
      have m0 := hx3.cell 0 rfl
      have m1 := hx3.cell 1 rfl
      have m2 := hx3.cell 2 rfl
      have m3 := hx3.cell 3 rfl
      have m4 := hx3.cell 4 rfl
      have m5 := hx3.cell 5 rfl
      have m6 := hx3.cell 6 rfl
      have m7 := hx3.cell 7 rfl
      have hy3 : w1.heap.size < w3.heap.size := hx3.lt
      have HB3 := Lib.hid hB3
      clear hb3 hx3 hB3
      go_wp2_with fail
      refine (laws_eqContract _ _ _ _ _ _ _ _ _).mono ?_
      rintro e w5 ⟨rfl, hb5⟩
      have hB4 := Below.alloc HB3.out HB3.out.size (.cells #[Value.int .i64 (0), Value.int .i64 (0), Value.int .i64 (0), Value.int .i64 (0), Value.int .i64 (0), Value.int .i64 (0), Value.int .i64 (0), Value.int .i64 (0)] 23)
      have HB5 := Lib.hid (hB4.trans (hb5.mono hB4.size))
      clear hb5 hB4
      go_wp2
      go_ret
      exact ⟨rfl, HB5.out⟩
    | some x =>
      obtain ⟨xa, xb, xc, xd, xe, xf, xg, xi⟩ := x
      rw [show rcV (some ⟨xa, xb, xc, xd, xe, xf, xg, xi⟩) = .tuple #[.agg #[Value.int .i64 (xa), Value.int .i64 (xb), Value.int .i64 (xc), Value.int .i64 (xd), Value.int .i64 (xe), Value.int .i64 (xf), Value.int .i64 (xg), Value.int .i64 (xi)], .bool true] from rfl]
      have HI2 := HI.out
      rw [show rcV (some ⟨xa, xb, xc, xd, xe, xf, xg, xi⟩) = .tuple #[.agg #[Value.int .i64 (xa), Value.int .i64 (xb), Value.int .i64 (xc), Value.int .i64 (xd), Value.int .i64 (xe), Value.int .i64 (xf), Value.int .i64 (xg), Value.int .i64 (xi)], .bool true] from rfl] at HI2
      have HII := Lib.hid HI2
      clear HI2
      go_wp2_with fail
      have hxw2 : Bx (World.alloc w1 (.cells #[Value.int .i64 (xa), Value.int .i64 (xb), Value.int .i64 (xc), Value.int .i64 (xd), Value.int .i64 (xe), Value.int .i64 (xf), Value.int .i64 (xg), Value.int .i64 (xi)] 23)) w1.heap.size [Value.int .i64 (xa), Value.int .i64 (xb), Value.int .i64 (xc), Value.int .i64 (xd), Value.int .i64 (xe), Value.int .i64 (xf), Value.int .i64 (xg), Value.int .i64 (xi)] := bx8c (by simp) (by simp) (by simp) (by simp) (by simp) (by simp) (by simp) (by simp) (by simp) (by simp) (by simp) (by simp) (by simp) (by simp) (by simp) (by simp) (by simp)
      have hBw2 := Below.alloc (Below.refl w1.heap.size w1) (Nat.le_refl _) (.cells #[Value.int .i64 (xa), Value.int .i64 (xb), Value.int .i64 (xc), Value.int .i64 (xd), Value.int .i64 (xe), Value.int .i64 (xf), Value.int .i64 (xg), Value.int .i64 (xi)] 23)
      revert hxw2 hBw2
      generalize World.alloc w1 _ = w2
      intro hxw2 hBw2
      have hB2 := hb1.trans (hBw2.mono hb1.size)
      have HB2 := Lib.hid hB2
      have HX2 := Lib.hid hxw2
      clear hBw2 hxw2 hB2 hb1
      refine (HII.out _ HM.out (HT.out.below HB2.out)).mono ?_
      rintro e w3 ⟨rfl, hb3⟩
      have hB3 := HB2.out.trans (hb3.mono HB2.out.size)
      have hx3 := HX2.out.below hb3 HX2.out.lt
      have HX3 := Lib.hid hx3
      have m0 := hx3.cell 0 rfl
      have m1 := hx3.cell 1 rfl
      have m2 := hx3.cell 2 rfl
      have m3 := hx3.cell 3 rfl
      have m4 := hx3.cell 4 rfl
      have m5 := hx3.cell 5 rfl
      have m6 := hx3.cell 6 rfl
      have m7 := hx3.cell 7 rfl
      have hy3 : w1.heap.size < w3.heap.size := hx3.lt
      have HB3 := Lib.hid hB3
      clear hb3 hx3 hB3
      go_wp2_with fail
      refine (laws_eqContract _ _ _ _ _ _ _ _ _).mono ?_
      rintro e w5 ⟨rfl, hb5⟩
      have hB4 := Below.alloc HB3.out HB3.out.size (.cells #[Value.int .i64 (xa), Value.int .i64 (xb), Value.int .i64 (xc), Value.int .i64 (xd), Value.int .i64 (xe), Value.int .i64 (xf), Value.int .i64 (xg), Value.int .i64 (xi)] 23)
      have HB5 := Lib.hid (hB4.trans (hb5.mono hB4.size))
      clear hb5 hB4
      go_wp2
      go_ret
      exact ⟨rfl, HB5.out⟩
  · go_enter Tryd.func3, Tryd.ntmps3
    go_wp2
    go_ret
    exact ⟨rfl, by (repeat' (first | (with_reducible exact Below.refl _ _) | (with_reducible assumption) | (with_reducible refine Below.alloc ?_ ?_ _) | (with_reducible refine Below.drew ?_) | (with_reducible refine Below.drewN' ?_ _) | (with_reducible refine Below.setCell ?_ ?_ _) | (refine Below.via ?_ (by with_reducible assumption) ?_) | (with_reducible refine Below.via ?_ (Wd.h _) ?_) | go_size))⟩
end Go.Proofs.YtfjmceiahampoaaDoor

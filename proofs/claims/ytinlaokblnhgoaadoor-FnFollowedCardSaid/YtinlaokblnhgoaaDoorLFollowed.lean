/- The walk of the law FnFollowed. -/
import Derived.Test.YtinlaokblnhgoaaDoorDfp
import Derived.Test.YtinlaokblnhgoaaDoorFol
import Derived.Test.YtinlaokblnhgoaaDoorLlk
namespace Go.Proofs.YtinlaokblnhgoaaDoor
set_option linter.unusedVariables false
set_option linter.unusedSimpArgs false
open Go.RowKit
theorem laws_big (A : Option Addr) (n c : Nat) (w : World) : Calls Tryd.prog 4 #[.slice A n c] w fun e w' => e = .returned (.bool (decide (4096 < n))) ∧ w = w' := by
  go_enter Tryd.func4, Tryd.ntmps4
  go_wp2
  go_ret
  refine ⟨rb ?_, rfl⟩
  simp; omega
set_option maxRecDepth 100000 in
theorem laws_size (x z : Int) (w : World) (h : -1000000000000 ≤ x ∧ x ≤ 1000000000000) (hz : z = max x (-x)) :
    Calls Tryd.prog 12 #[.int .i64 x] w fun e w' => e = .returned (.int .i64 z) ∧ w = w' := by
  go_enter Tryd.func12, Tryd.ntmps12
  go_wp2
  go_ret
  exact ⟨ri (by omega), rfl⟩
/-- the store's text and what is read from it -/
structure StT (lo hi now i o : Int) (ok : Bool) (T : ByteArray) (y : Sto) : Prop where
  eq : stT (lo, hi, now, i, o) = T
  md : Mod T
  bk : rsV (rsL (mapO rdN (spl 47 (bl T)))) = .tuple #[stV y.lo y.hi y.now y.i y.o, .bool ok]
  ne : (T.toList == (⟨#[]⟩ : ByteArray).toList) = !ok
  so : storeB lo hi now i o = ok
  yy : ok = true → y = ⟨lo, hi, now, i, o⟩
theorem stt_yes {lo hi now i o : Int} (h : storeB lo hi now i o = true) : StT lo hi now i o true (joinN [lo, hi, now, i, o] sls) ⟨lo, hi, now, i, o⟩ := by
  have e : stT (lo, hi, now, i, o) = joinN [lo, hi, now, i, o] sls := by simp [stT, h]
  have hs := store_of h
  refine ⟨e, joinN_mod (fun x hx => ?_) (by simp) (by decide), ?_, sbeq_f joinN_ne, h, fun _ => rfl⟩
  · simp only [List.mem_cons, List.not_mem_nil, or_false] at hx
    rcases hx with rfl | rfl | rfl | rfl | rfl <;> omega
  · have hb := st_back h
    rw [e] at hb; rw [hb]; rfl
theorem stt_no {lo hi now i o : Int} (h : storeB lo hi now i o = false) : StT lo hi now i o false ⟨#[]⟩ ⟨0, 0, 0, 0, 0⟩ :=
  ⟨by simp [stT, h], by unfold Mod; decide, by rw [st_none]; rfl, by simp, h, fun q => by cases q⟩
set_option maxRecDepth 100000 in
set_option maxHeartbeats 8000000 in
theorem walk_FnFollowed (w : World) (A0 : Option Addr) (c0 : Nat) (l0 : List Int) (h0 : BytesIn w A0 l0) (ht : Tabs w) :
    Calls Tryd.prog 3 #[.slice A0 l0.length c0] w fun e w' => e = .returned (.bool true) ∧ Below w.heap.size w w' := by
  have HI := Lib.hid h0
  have HT := Lib.hid ht
  clear h0 ht
  by_cases hbig : 4096 < l0.length
  · have b0 : decide (4096 < l0.length) = true := by simpa using hbig
    (go_enter Tryd.func3, Tryd.ntmps3; go_wp2_with (first | (go_at_call 4; ((with_reducible refine (laws_big _ _ _ _).mono ?_)); rintro e wn ⟨rfl, rfl⟩) | (go_at_call 4; ((with_reducible refine (laws_big _ _ _ _).mono ?_)); rintro e wn ⟨rfl, rfl⟩) | (go_at_call 4; ((with_reducible refine (laws_bigT _ _ _ _).mono ?_)); rintro e wn ⟨rfl, rfl⟩)))
    go_ret
    exact ⟨rfl, by (repeat' (first | (with_reducible exact Below.refl _ _) | (with_reducible assumption) | (with_reducible refine Below.alloc ?_ ?_ _) | (with_reducible refine Below.drew ?_) | (with_reducible refine Below.drewN' ?_ _) | (with_reducible refine Below.setCell ?_ ?_ _) | (refine Below.via ?_ (by with_reducible assumption) ?_) | (with_reducible refine Below.via ?_ (Wd.h _) ?_) | go_size))⟩
  have b0 : decide (4096 < l0.length) = false := by simpa using hbig
  (go_enter Tryd.func3, Tryd.ntmps3; go_wp2_with (first | (go_at_call 4; ((with_reducible refine (laws_big _ _ _ _).mono ?_)); rintro e wn ⟨rfl, rfl⟩) | (go_at_call 4; ((with_reducible refine (laws_big _ _ _ _).mono ?_)); rintro e wn ⟨rfl, rfl⟩) | (go_at_call 4; ((with_reducible refine (laws_bigT _ _ _ _).mono ?_)); rintro e wn ⟨rfl, rfl⟩)))
  refine (spec_DrawFollowPlan A0 c0 l0 _ (HI.out.below (by (repeat' (first | (with_reducible exact Below.refl _ _) | (with_reducible assumption) | (with_reducible refine Below.alloc ?_ ?_ _) | (with_reducible refine Below.drew ?_) | (with_reducible refine Below.drewN' ?_ _) | (with_reducible refine Below.setCell ?_ ?_ _) | (refine Below.via ?_ (by with_reducible assumption) ?_) | (with_reducible refine Below.via ?_ (Wd.h _) ?_) | go_size)))) (by omega)).mono ?_
  rintro e w1 ⟨⟨lo, hi, now, i, o⟩, B, d, q, rfl, hsm, hR, hq, hbd, hb1⟩
  obtain ⟨⟨lo1, lo2⟩, ⟨hi1, hi2⟩, ⟨nw1, nw2⟩, ⟨i1, i2⟩, ⟨o1, o2⟩⟩ := hsm
  dsimp only at lo1 lo2 hi1 hi2 nw1 nw2 i1 i2 o1 o2
  obtain ⟨x0, x1, x2, x3, x4, lf, cd, hfr⟩ : ∃ x0 x1 x2 x3 x4 lf cd, folR lo hi now i o q = ⟨x0, x1, x2, x3, x4, lf, cd⟩ := ⟨_, _, _, _, _, _, _, rfl⟩
  have HFR := Lib.hid hfr
  have HFV := Lib.hid (show folV (folR lo hi now i o q) = .tuple #[stV x0 x1 x2 x3 x4, .int .i64 lf, .int .i64 cd] by rw [hfr])
  have HBD := Lib.hid hbd
  obtain ⟨ok, T, ⟨y0, y1, y2, y3, y4⟩, hT⟩ : ∃ ok T y, StT lo hi now i o ok T y := by
    cases hs : storeB lo hi now i o
    · exact ⟨_, _, _, stt_no hs⟩
    · exact ⟨_, _, _, stt_yes hs⟩
  have HTT := Lib.hid hT
  have HQ1 := Lib.hid hR
  have HB1 := Lib.hid hb1
  clear hfr hbd hT hR hb1
  go_wp2_with fail
  have hx : Bx (World.alloc w1 (.cells #[Value.int .i64 lo, Value.int .i64 hi, Value.int .i64 now, Value.int .i64 i, Value.int .i64 o] 25)) w1.heap.size [Value.int .i64 lo, Value.int .i64 hi, Value.int .i64 now, Value.int .i64 i, Value.int .i64 o] := bx5 (by simp) (by simp) (by simp) (by simp) (by simp) (by simp) (by simp) (by simp) (by simp) (by simp) (by simp)
  have hB := Below.alloc (Below.refl w1.heap.size w1) (Nat.le_refl _) (.cells #[Value.int .i64 lo, Value.int .i64 hi, Value.int .i64 now, Value.int .i64 i, Value.int .i64 o] 25)
  revert hx hB
  generalize World.alloc w1 _ = w2
  intro hx hB
  have HB2 := Lib.hid (HB1.out.trans (hB.mono HB1.out.size))
  have HQ2 := Lib.hid (HQ1.out.below hB)
  clear HB1 HQ1 
  have HXaw2 := Lib.hid hx
  clear hx hB
  refine (impl_FollowPlan lo hi now i o B d q w2 HQ2.out (by omega)).mono ?_
  rintro e w3 ⟨rfl, hb3⟩
  rw [HFV.out]
  have HB3 := Lib.hid (HB2.out.trans (hb3.mono HB2.out.size))
  have HQ3 := Lib.hid (HQ2.out.below hb3)
  have HXaw3 := Lib.hid (HXaw2.out.below hb3 HXaw2.out.lt)
  clear HB2 HQ2 HXaw2
  clear hb3
  have fa0 := HXaw3.out.cell 0 rfl
  have fa1 := HXaw3.out.cell 1 rfl
  have fa2 := HXaw3.out.cell 2 rfl
  have fa3 := HXaw3.out.cell 3 rfl
  have fa4 := HXaw3.out.cell 4 rfl
  have ya := HXaw3.out.lt
  go_wp2_with fail
  clear fa0 fa1 fa2 fa3 fa4 ya
  have hx : Bx (World.alloc w3 (.cells #[Value.int .i64 x0, Value.int .i64 x1, Value.int .i64 x2, Value.int .i64 x3, Value.int .i64 x4] 25)) w3.heap.size [Value.int .i64 x0, Value.int .i64 x1, Value.int .i64 x2, Value.int .i64 x3, Value.int .i64 x4] := bx5 (by simp) (by simp) (by simp) (by simp) (by simp) (by simp) (by simp) (by simp) (by simp) (by simp) (by simp)
  have hB := Below.alloc (Below.refl w3.heap.size w3) (Nat.le_refl _) (.cells #[Value.int .i64 x0, Value.int .i64 x1, Value.int .i64 x2, Value.int .i64 x3, Value.int .i64 x4] 25)
  revert hx hB
  generalize World.alloc w3 _ = w4
  intro hx hB
  have HB4 := Lib.hid (HB3.out.trans (hB.mono HB3.out.size))
  have HQ4 := Lib.hid (HQ3.out.below hB)
  have HXaw4 := Lib.hid (HXaw3.out.below hB HXaw3.out.lt)
  clear HB3 HQ3 HXaw3
  have HXbw4 := Lib.hid hx
  clear hx hB
  refine (spec_FollowPlan lo hi now i o B d q w4 HQ4.out (by omega)).mono ?_
  rintro e w5 ⟨rfl, hb5⟩
  rw [HFV.out]
  have HB5 := Lib.hid (HB4.out.trans (hb5.mono HB4.out.size))
  have HQ5 := Lib.hid (HQ4.out.below hb5)
  have HXaw5 := Lib.hid (HXaw4.out.below hb5 HXaw4.out.lt)
  have HXbw5 := Lib.hid (HXbw4.out.below hb5 HXbw4.out.lt)
  clear HB4 HQ4 HXaw4 HXbw4
  clear hb5
  have fa0 := HXaw5.out.cell 0 rfl
  have fa1 := HXaw5.out.cell 1 rfl
  have fa2 := HXaw5.out.cell 2 rfl
  have fa3 := HXaw5.out.cell 3 rfl
  have fa4 := HXaw5.out.cell 4 rfl
  have ya := HXaw5.out.lt
  have fb0 := HXbw5.out.cell 0 rfl
  have fb1 := HXbw5.out.cell 1 rfl
  have fb2 := HXbw5.out.cell 2 rfl
  have fb3 := HXbw5.out.cell 3 rfl
  have fb4 := HXbw5.out.cell 4 rfl
  have yb := HXbw5.out.lt
  go_wp2_with fail
  clear fa0 fa1 fa2 fa3 fa4 ya fb0 fb1 fb2 fb3 fb4 yb
  have hx : Bx (World.alloc w5 (.cells #[Value.int .i64 x0, Value.int .i64 x1, Value.int .i64 x2, Value.int .i64 x3, Value.int .i64 x4] 25)) w5.heap.size [Value.int .i64 x0, Value.int .i64 x1, Value.int .i64 x2, Value.int .i64 x3, Value.int .i64 x4] := bx5 (by simp) (by simp) (by simp) (by simp) (by simp) (by simp) (by simp) (by simp) (by simp) (by simp) (by simp)
  have hB := Below.alloc (Below.refl w5.heap.size w5) (Nat.le_refl _) (.cells #[Value.int .i64 x0, Value.int .i64 x1, Value.int .i64 x2, Value.int .i64 x3, Value.int .i64 x4] 25)
  revert hx hB
  generalize World.alloc w5 _ = w6
  intro hx hB
  have HB6 := Lib.hid (HB5.out.trans (hB.mono HB5.out.size))
  have HQ6 := Lib.hid (HQ5.out.below hB)
  have HXaw6 := Lib.hid (HXaw5.out.below hB HXaw5.out.lt)
  have HXbw6 := Lib.hid (HXbw5.out.below hB HXbw5.out.lt)
  clear HB5 HQ5 HXaw5 HXbw5
  have HXcw6 := Lib.hid hx
  clear hx hB
  refine (impl_StoreText lo hi now i o w6 (HT.out.below HB6.out).pow).mono ?_
  rintro e w7 ⟨rfl, hb7⟩
  rw [HTT.out.eq]
  have HB7 := Lib.hid (HB6.out.trans (hb7.mono HB6.out.size))
  have HQ7 := Lib.hid (HQ6.out.below hb7)
  have HXaw7 := Lib.hid (HXaw6.out.below hb7 HXaw6.out.lt)
  have HXbw7 := Lib.hid (HXbw6.out.below hb7 HXbw6.out.lt)
  have HXcw7 := Lib.hid (HXcw6.out.below hb7 HXcw6.out.lt)
  clear HB6 HQ6 HXaw6 HXbw6 HXcw6
  clear hb7
  go_wp2_with fail
  refine (impl_ReadStore T w7 HTT.out.md (HT.out.below HB7.out)).mono ?_
  rintro e w8 ⟨rfl, hb8⟩
  rw [HTT.out.bk]
  have HB8 := Lib.hid (HB7.out.trans (hb8.mono HB7.out.size))
  have HQ8 := Lib.hid (HQ7.out.below hb8)
  have HXaw8 := Lib.hid (HXaw7.out.below hb8 HXaw7.out.lt)
  have HXbw8 := Lib.hid (HXbw7.out.below hb8 HXbw7.out.lt)
  have HXcw8 := Lib.hid (HXcw7.out.below hb8 HXcw7.out.lt)
  clear HB7 HQ7 HXaw7 HXbw7 HXcw7
  clear hb8
  have fa0 := HXaw8.out.cell 0 rfl
  have fa1 := HXaw8.out.cell 1 rfl
  have fa2 := HXaw8.out.cell 2 rfl
  have fa3 := HXaw8.out.cell 3 rfl
  have fa4 := HXaw8.out.cell 4 rfl
  have ya := HXaw8.out.lt
  go_wp2_with fail
  clear fa0 fa1 fa2 fa3 fa4 ya
  have hx : Bx (World.alloc w8 (.cells #[Value.int .i64 y0, Value.int .i64 y1, Value.int .i64 y2, Value.int .i64 y3, Value.int .i64 y4] 25)) w8.heap.size [Value.int .i64 y0, Value.int .i64 y1, Value.int .i64 y2, Value.int .i64 y3, Value.int .i64 y4] := bx5 (by simp) (by simp) (by simp) (by simp) (by simp) (by simp) (by simp) (by simp) (by simp) (by simp) (by simp)
  have hB := Below.alloc (Below.refl w8.heap.size w8) (Nat.le_refl _) (.cells #[Value.int .i64 y0, Value.int .i64 y1, Value.int .i64 y2, Value.int .i64 y3, Value.int .i64 y4] 25)
  revert hx hB
  generalize World.alloc w8 _ = w9
  intro hx hB
  have HB9 := Lib.hid (HB8.out.trans (hB.mono HB8.out.size))
  have HQ9 := Lib.hid (HQ8.out.below hB)
  have HXaw9 := Lib.hid (HXaw8.out.below hB HXaw8.out.lt)
  have HXbw9 := Lib.hid (HXbw8.out.below hB HXbw8.out.lt)
  have HXcw9 := Lib.hid (HXcw8.out.below hB HXcw8.out.lt)
  clear HB8 HQ8 HXaw8 HXbw8 HXcw8
  have HXdw9 := Lib.hid hx
  clear hx hB
  refine (spec_StoreText lo hi now i o w9).mono ?_
  rintro e w10 ⟨rfl, hb10⟩
  rw [HTT.out.eq]
  have HB10 := Lib.hid (HB9.out.trans (hb10.mono HB9.out.size))
  have HQ10 := Lib.hid (HQ9.out.below hb10)
  have HXaw10 := Lib.hid (HXaw9.out.below hb10 HXaw9.out.lt)
  have HXbw10 := Lib.hid (HXbw9.out.below hb10 HXbw9.out.lt)
  have HXcw10 := Lib.hid (HXcw9.out.below hb10 HXcw9.out.lt)
  have HXdw10 := Lib.hid (HXdw9.out.below hb10 HXdw9.out.lt)
  clear HB9 HQ9 HXaw9 HXbw9 HXcw9 HXdw9
  clear hb10
  have fa0 := HXaw10.out.cell 0 rfl
  have fa1 := HXaw10.out.cell 1 rfl
  have fa2 := HXaw10.out.cell 2 rfl
  have fa3 := HXaw10.out.cell 3 rfl
  have fa4 := HXaw10.out.cell 4 rfl
  have ya := HXaw10.out.lt
  have fd0 := HXdw10.out.cell 0 rfl
  have fd1 := HXdw10.out.cell 1 rfl
  have fd2 := HXdw10.out.cell 2 rfl
  have fd3 := HXdw10.out.cell 3 rfl
  have fd4 := HXdw10.out.cell 4 rfl
  have yd := HXdw10.out.lt
  have hne := HTT.out.ne
  have hso := HTT.out.so
  have hyy := HTT.out.yy
  have htt : (T.toList == T.toList) = true := by simp
  cases ok
  · have hnl : T.toList.isEmpty = true := by simpa using hne
    clear hyy hne
    have hcd : ¬ cd = 0 := fun q => by
      subst q
      have := (fol_zero HFR.out).2.2.2.2
      rw [hso] at this; cases this
    have bcd : (cd != 0) = true := by simp [hcd]
    clear hso
    go_wp2_with fail
    go_ret
    exact ⟨rfl, HB10.out⟩
  · injection (hyy rfl).symm with q0 q1 q2 q3 q4
    subst q0 q1 q2 q3 q4
    have hnl : T.toList.isEmpty = false := by simpa using hne
    clear hyy hne
    have fb0 := HXbw10.out.cell 0 rfl
    have fb1 := HXbw10.out.cell 1 rfl
    have fb2 := HXbw10.out.cell 2 rfl
    have fb3 := HXbw10.out.cell 3 rfl
    have fb4 := HXbw10.out.cell 4 rfl
    have yb := HXbw10.out.lt
    by_cases hcd : cd = 0
    · subst hcd
      obtain ⟨z1, z2, z3, z4, z5⟩ := fol_zero HFR.out
      obtain ⟨s1, s2, s3, s4, s5, -, -, -, -⟩ := store_of z1
      obtain ⟨u1, u2, u3, u4, u5, -, -, -, -⟩ := store_of z5
      obtain ⟨b1, b2⟩ := sumF_bd q HBD.out
      have HSML := Lib.hid (show Sml q from fun x hx => by have := HBD.out x hx; omega)
      obtain ⟨sq, hsq⟩ : ∃ sq, sumF q = sq := ⟨_, rfl⟩
      rw [hsq] at z3 z4 b1 b2
      obtain ⟨z, hz⟩ : ∃ z : Int, z = max (x2 - now - sq) (-(x2 - now - sq)) := ⟨_, rfl⟩
      have hzl : z ≤ lf := by omega
      have HIS := Lib.hid (show ∀ wx : World, Calls Tryd.prog 11 #[stV x0 x1 x2 x3 x4] wx (fun e w' => e = .returned (.bool true) ∧ Below wx.heap.size wx w') from fun wx => by have h5 := impl_IsStore x0 x1 x2 x3 x4 wx; rw [z1] at h5; exact h5)
      have HSM := Lib.hid (show ∀ wx : Wd w10, Calls Tryd.prog 13 #[.slice B q.length d] wx.w (fun e w' => e = .returned (.int .i64 sq) ∧ wx.w = w') from fun wx => by have h5 := laws_sum B d _ q wx.w (HQ10.out.below wx.h) rfl (by omega) HSML.out; rw [hsq] at h5; exact h5)
      have HSZ := Lib.hid (show ∀ wx : World, Calls Tryd.prog 12 #[.int .i64 (x2 - now - sq)] wx (fun e w' => e = .returned (.int .i64 z) ∧ wx = w') from fun wx => laws_size _ z wx (by omega) hz)
      have hx2 : 0 ≤ x2 ∧ x2 ≤ 1000000000 := by omega
      have hnw : 0 ≤ now ∧ now ≤ 1000000000 := by omega
      have hsqb : -50000000 ≤ sq ∧ sq ≤ 50000000 := by omega
      have hpos : 0 < lf ∨ (lf = 0 ∧ x2 = now + sq) := by omega
      obtain ⟨x21, x22⟩ := hx2
      obtain ⟨nw3, nw4⟩ := hnw
      obtain ⟨sq1, sq2⟩ := hsqb
      clear z1 z3 z4 z5 s1 s2 s3 s4 s5 u1 u2 u3 u4 u5 b1 b2 hz hsq
      rcases hpos with hp | ⟨hp, hpe⟩
      · go_wp2_with fail
        (have qk0 := Wd.cell (by first | assumption | omega | (simp; omega)) fa0; have qk1 := Wd.cell (by first | assumption | omega | (simp; omega)) fa1; have qk2 := Wd.cell (by first | assumption | omega | (simp; omega)) fa2; have qk3 := Wd.cell (by first | assumption | omega | (simp; omega)) fa3; have qk4 := Wd.cell (by first | assumption | omega | (simp; omega)) fa4; have qk5 := Wd.cell (by first | assumption | omega | (simp; omega)) fb0; have qk6 := Wd.cell (by first | assumption | omega | (simp; omega)) fb1; have qk7 := Wd.cell (by first | assumption | omega | (simp; omega)) fb2; have qk8 := Wd.cell (by first | assumption | omega | (simp; omega)) fb3; have qk9 := Wd.cell (by first | assumption | omega | (simp; omega)) fb4; (refine wp_region_wd (by kernel_rfl) (by kernel_rfl) ?_); (repeat (go_big_quiet_step ((first | fail | (go_at_call 11; apply wd_below; with_reducible exact HIS.out _) | (go_at_call 13; apply wd_pure; with_reducible exact HSM.out _) | (go_at_call 12; apply wd_pure; with_reducible exact HSZ.out _))))); (refine wpQuiet_nil ?_); rintro w11 ⟨⟨w'', hbw11⟩, hw''⟩; obtain rfl : w11 = w'' := hw''; clear qk0 qk1 qk2 qk3 qk4 qk5 qk6 qk7 qk8 qk9; have hzw11 := hbw11.size; (try simp at hzw11))
        go_wp2
        go_ret
        exact ⟨rfl, HB10.out.trans (hbw11.mono HB10.out.size)⟩
      · subst hp
        subst hpe
        go_wp2_with fail
        (have qk0 := Wd.cell (by first | assumption | omega | (simp; omega)) fa0; have qk1 := Wd.cell (by first | assumption | omega | (simp; omega)) fa1; have qk2 := Wd.cell (by first | assumption | omega | (simp; omega)) fa2; have qk3 := Wd.cell (by first | assumption | omega | (simp; omega)) fa3; have qk4 := Wd.cell (by first | assumption | omega | (simp; omega)) fa4; have qk5 := Wd.cell (by first | assumption | omega | (simp; omega)) fb0; have qk6 := Wd.cell (by first | assumption | omega | (simp; omega)) fb1; have qk7 := Wd.cell (by first | assumption | omega | (simp; omega)) fb2; have qk8 := Wd.cell (by first | assumption | omega | (simp; omega)) fb3; have qk9 := Wd.cell (by first | assumption | omega | (simp; omega)) fb4; (refine wp_region_wd (by kernel_rfl) (by kernel_rfl) ?_); (repeat (go_big_quiet_step ((first | fail | (go_at_call 11; apply wd_below; with_reducible exact HIS.out _) | (go_at_call 13; apply wd_pure; with_reducible exact HSM.out _) | (go_at_call 12; apply wd_pure; with_reducible exact HSZ.out _))))); (refine wpQuiet_nil ?_); rintro w11 ⟨⟨w'', hbw11⟩, hw''⟩; obtain rfl : w11 = w'' := hw''; clear qk0 qk1 qk2 qk3 qk4 qk5 qk6 qk7 qk8 qk9; have hzw11 := hbw11.size; (try simp at hzw11))
        go_wp2
        go_ret
        exact ⟨rfl, HB10.out.trans (hbw11.mono HB10.out.size)⟩
    · have bcd : (cd != 0) = true := by simp [hcd]
      go_wp2_with fail
      go_ret
      exact ⟨rfl, HB10.out⟩
end Go.Proofs.YtinlaokblnhgoaaDoor

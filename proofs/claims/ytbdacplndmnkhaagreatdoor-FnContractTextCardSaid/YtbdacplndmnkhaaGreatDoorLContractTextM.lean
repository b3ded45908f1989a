/- The walk of the law FnContractText. -/
import Derived.Test.YtbdacplndmnkhaaGreatDoorMxT4
import Derived.Test.YtbdacplndmnkhaaGreatDoorSu
import Derived.Test.YtbdacplndmnkhaaGreatDoorAc
namespace Go.Proofs.YtbdacplndmnkhaaGreatDoor
set_option linter.unusedVariables false
set_option linter.unusedSimpArgs false
open Go.RowKit
set_option maxRecDepth 100000 in
set_option maxHeartbeats 1500000 in
theorem spec_DrawContractText (A0 : Option Addr) (c0 : Nat) (l0 : List Int) (w : World) (h : BytesIn w A0 l0) (hl : l0.length ≤ 4096) :
    Calls Tryz.prog 5 #[.slice A0 l0.length c0] w fun e w' => ∃ (y : Ctr), e = .returned y.val ∧ y.sm ∧ Below w.heap.size w w' := by
  have HI := Lib.hid h
  clear h
  go_enter Tryz.func5, Tryz.ntmps5
  go_wp2_with fail
  refine (spec_DrawIsContract A0 c0 l0 _ (HI.out.below (by (repeat' (first | (with_reducible exact Below.refl _ _) | (with_reducible assumption) | (with_reducible refine Below.alloc ?_ ?_ _) | (with_reducible refine Below.drew ?_) | (with_reducible refine Below.drewN' ?_ _) | (with_reducible refine Below.setCell ?_ ?_ _) | (refine Below.via ?_ (by with_reducible assumption) ?_) | (with_reducible refine Below.via ?_ (Wd.h _) ?_) | go_size)))) hl).mono ?_
  rintro e w1 ⟨x0, x1, ⟨y0, y1, y2, y3, y4, y5, y6, y7⟩, rfl, ⟨a1, n1, c1, rfl⟩, ⟨a2, n2, c2, rfl⟩, hsm, hb1⟩
  (obtain ⟨hcn, hfn⟩ := bcell hb1; have hz1 := hb1.size; (try simp at hz1); have Ncw0_0 := hcn (w.heap.size) (0) (by first | omega | (simp; done) | (simp; omega)); have Nfw0_0 := hfn (w.heap.size) (0) (by first | omega | (simp; done) | (simp; omega)); have Nhy0 : w.heap.size < w1.heap.size := (by omega); have Ncw0_1 := hcn (w.heap.size) (1) (by first | omega | (simp; done) | (simp; omega)); have Nfw0_1 := hfn (w.heap.size) (1) (by first | omega | (simp; done) | (simp; omega)); have Ncw0_2 := hcn (w.heap.size) (2) (by first | omega | (simp; done) | (simp; omega)); have Nfw0_2 := hfn (w.heap.size) (2) (by first | omega | (simp; done) | (simp; omega)); have Ncw0_3 := hcn (w.heap.size) (3) (by first | omega | (simp; done) | (simp; omega)); have Nfw0_3 := hfn (w.heap.size) (3) (by first | omega | (simp; done) | (simp; omega)); have Ncw0_4 := hcn (w.heap.size) (4) (by first | omega | (simp; done) | (simp; omega)); have Nfw0_4 := hfn (w.heap.size) (4) (by first | omega | (simp; done) | (simp; omega)); have Ncw0_5 := hcn (w.heap.size) (5) (by first | omega | (simp; done) | (simp; omega)); have Nfw0_5 := hfn (w.heap.size) (5) (by first | omega | (simp; done) | (simp; omega)); have Ncw0_6 := hcn (w.heap.size) (6) (by first | omega | (simp; done) | (simp; omega)); have Nfw0_6 := hfn (w.heap.size) (6) (by first | omega | (simp; done) | (simp; omega)); have Ncw0_7 := hcn (w.heap.size) (7) (by first | omega | (simp; done) | (simp; omega)); have Nfw0_7 := hfn (w.heap.size) (7) (by first | omega | (simp; done) | (simp; omega)); simp [go_sem] at Ncw0_0 Nfw0_0 Ncw0_1 Nfw0_1 Ncw0_2 Nfw0_2 Ncw0_3 Nfw0_3 Ncw0_4 Nfw0_4 Ncw0_5 Nfw0_5 Ncw0_6 Nfw0_6 Ncw0_7 Nfw0_7; clear hcn hfn; have cw0_0 := Ncw0_0; have fw0_0 := Nfw0_0; have cw0_1 := Ncw0_1; have fw0_1 := Nfw0_1; have cw0_2 := Ncw0_2; have fw0_2 := Nfw0_2; have cw0_3 := Ncw0_3; have fw0_3 := Nfw0_3; have cw0_4 := Ncw0_4; have fw0_4 := Nfw0_4; have cw0_5 := Ncw0_5; have fw0_5 := Nfw0_5; have cw0_6 := Ncw0_6; have fw0_6 := Nfw0_6; have cw0_7 := Ncw0_7; have fw0_7 := Nfw0_7; have hy0 := Nhy0; clear Ncw0_0 Nfw0_0 Ncw0_1 Nfw0_1 Ncw0_2 Nfw0_2 Ncw0_3 Nfw0_3 Ncw0_4 Nfw0_4 Ncw0_5 Nfw0_5 Ncw0_6 Nfw0_6 Ncw0_7 Nfw0_7 Nhy0)
  have HSM := Lib.hid hsm
  have HB := Lib.hid (show Below w.heap.size w w1 by (repeat' (first | (with_reducible exact Below.refl _ _) | (with_reducible assumption) | (with_reducible refine Below.alloc ?_ ?_ _) | (with_reducible refine Below.drew ?_) | (with_reducible refine Below.drewN' ?_ _) | (with_reducible refine Below.setCell ?_ ?_ _) | (refine Below.via ?_ (by with_reducible assumption) ?_) | (with_reducible refine Below.via ?_ (Wd.h _) ?_) | go_size)))
  have X0 := Lib.hid (show Bx w1 w.heap.size [.int .i64 0, .int .i64 0, .int .i64 0, .int .i64 0, .int .i64 0, .int .i64 0, .int .i64 0, .int .i64 0] from bx8 hy0 cw0_0 fw0_0 cw0_1 fw0_1 cw0_2 fw0_2 cw0_3 fw0_3 cw0_4 fw0_4 cw0_5 fw0_5 cw0_6 fw0_6 cw0_7 fw0_7)
  clear hsm hb1 hy0 cw0_0 cw0_1 cw0_2 cw0_3 cw0_4 cw0_5 cw0_6 cw0_7 fw0_0 fw0_1 fw0_2 fw0_3 fw0_4 fw0_5 fw0_6 fw0_7
  go_upto_region 2 with (fail)
  generalize hW : World.alloc (World.alloc w1 _) _ = w3
  have hb3 : Below w1.heap.size w1 w3 := by rw [← hW]; (repeat' (first | (with_reducible exact Below.refl _ _) | (with_reducible assumption) | (with_reducible refine Below.alloc ?_ ?_ _) | (with_reducible refine Below.drew ?_) | (with_reducible refine Below.drewN' ?_ _) | (with_reducible refine Below.setCell ?_ ?_ _) | (refine Below.via ?_ (by with_reducible assumption) ?_) | (with_reducible refine Below.via ?_ (Wd.h _) ?_) | go_size))
  have X4 := Lib.hid (show Bx w3 (w1.heap.size + 1) [.int .i64 y0, .int .i64 y1, .int .i64 y2, .int .i64 y3, .int .i64 y4, .int .i64 y5, .int .i64 y6, .int .i64 y7] by rw [← hW]; exact bx8 (by simp) (by simp) (by simp) (by simp) (by simp) (by simp) (by simp) (by simp) (by simp) (by simp) (by simp) (by simp) (by simp) (by simp) (by simp) (by simp) (by simp))
  have HBF := Lib.hid (fill8D (HB.out.trans (hb3.mono HB.out.size)) (Nat.le_refl _) (X0.out.below hb3 X0.out.lt) (.int .i64 y0) (.int .i64 y1) (.int .i64 y2) (.int .i64 y3) (.int .i64 y4) (.int .i64 y5) (.int .i64 y6) (.int .i64 y7))
  have Z0 := Lib.hid (X0.out.below hb3 X0.out.lt)
  clear hW hb3 X0
  have cx_0 := X4.out.cell 0 rfl
  have cx_1 := X4.out.cell 1 rfl
  have cx_2 := X4.out.cell 2 rfl
  have cx_3 := X4.out.cell 3 rfl
  have cx_4 := X4.out.cell 4 rfl
  have cx_5 := X4.out.cell 5 rfl
  have cx_6 := X4.out.cell 6 rfl
  have cx_7 := X4.out.cell 7 rfl
  have cz_0 := Z0.out.cell 0 rfl
  have fz_0 := Z0.out.frozen 0 rfl
  have cz_1 := Z0.out.cell 1 rfl
  have fz_1 := Z0.out.frozen 1 rfl
  have cz_2 := Z0.out.cell 2 rfl
  have fz_2 := Z0.out.frozen 2 rfl
  have cz_3 := Z0.out.cell 3 rfl
  have fz_3 := Z0.out.frozen 3 rfl
  have cz_4 := Z0.out.cell 4 rfl
  have fz_4 := Z0.out.frozen 4 rfl
  have cz_5 := Z0.out.cell 5 rfl
  have fz_5 := Z0.out.frozen 5 rfl
  have cz_6 := Z0.out.cell 6 rfl
  have fz_6 := Z0.out.frozen 6 rfl
  have cz_7 := Z0.out.cell 7 rfl
  have fz_7 := Z0.out.frozen 7 rfl
  have hy0 := Z0.out.lt
  have hy4 := X4.out.lt
  go_wp2
  clear cx_0 cz_0 fz_0 cx_1 cz_1 fz_1 cx_2 cz_2 fz_2 cx_3 cz_3 fz_3 cx_4 cz_4 fz_4 cx_5 cz_5 fz_5 cx_6 cz_6 fz_6 cx_7 cz_7 fz_7
  have hbf := HBF.out
  clear HBF
  revert hbf
  generalize World.setCell _ _ _ = w9
  rintro ⟨hbf, hbel⟩
  have k0 := hbf.cell 0 rfl
  have k1 := hbf.cell 1 rfl
  have k2 := hbf.cell 2 rfl
  have k3 := hbf.cell 3 rfl
  have k4 := hbf.cell 4 rfl
  have k5 := hbf.cell 5 rfl
  have k6 := hbf.cell 6 rfl
  have k7 := hbf.cell 7 rfl
  refine bodyPost_ret (v := Ctr.val ⟨y0, y1, y2, y3, y4, y5, y6, y7⟩) (by simp [results, Tryz.results5, go_sem, k0, k1, k2, k3, k4, k5, k6, k7]; try rfl) rfl ?_
  exact ⟨⟨y0, y1, y2, y3, y4, y5, y6, y7⟩, rfl, HSM.out, hbel⟩
theorem ctOkD {c : Ctr} (h : c.sm) : c.ok := by
  obtain ⟨⟨a1, a2⟩, ⟨b1, b2⟩, ⟨c1, c2⟩, ⟨d1, d2⟩, ⟨e1, e2⟩, ⟨f1, f2⟩, ⟨g1, g2⟩, ⟨i1, i2⟩⟩ := h
  unfold Ctr.ok i64B
  refine ⟨?_, ?_, ?_, ?_, ?_, ?_, ?_, ?_⟩ <;> constructor <;> omega
set_option maxRecDepth 100000 in
set_option maxHeartbeats 8000000 in
theorem spec_DrawReadContract (A0 : Option Addr) (c0 : Nat) (l0 : List Int) (w : World) (h : BytesIn w A0 l0) (hl : l0.length ≤ 4096) :
    Calls Tryz.prog 8 #[.slice A0 l0.length c0] w fun e w' => ∃ (u : ByteArray), e = .returned (.string u) ∧ Mod u ∧ Below w.heap.size w w' := by
  have HI := Lib.hid h
  clear h
  go_enter Tryz.func8, Tryz.ntmps8
  go_wp2_with fail
  refine (spec_l01From A0 c0 l0 _ (HI.out.below (by (repeat' (first | (with_reducible exact Below.refl _ _) | (with_reducible assumption) | (with_reducible refine Below.alloc ?_ ?_ _) | (with_reducible refine Below.drew ?_) | (with_reducible refine Below.drewN' ?_ _) | (with_reducible refine Below.setCell ?_ ?_ _) | (refine Below.via ?_ (by with_reducible assumption) ?_) | (with_reducible refine Below.via ?_ (Wd.h _) ?_) | go_size)))) hl).mono ?_
  rintro e w1 ⟨rfl, hs1, hb1⟩
  have HS1 := Lib.hid hs1
  have HB1 := Lib.hid hb1
  have hp1 := hs1.lt
  clear hs1 hb1
  go_wp2_with fail
  refine (spec_DrawContractText A0 c0 l0 _ (HI.out.below HB1.out) hl).mono ?_
  rintro e w2 ⟨y, rfl, hsm, hb2⟩
  have HB2 := Lib.hid (HB1.out.trans (hb2.mono HB1.out.size))
  have HS2 := Lib.hid (HS1.out.below hb2)
  have HOK := Lib.hid (ctOkD hsm)
  have hle := ctT_le hsm
  clear hsm hb2 HB1 HS1
  go_wp2_with fail
  refine (spec_ContractText y _ HOK.out).mono ?_
  rintro e w3 ⟨rfl, hb3⟩
  obtain ⟨T, hT⟩ : ∃ T, ctT y = T := ⟨_, rfl⟩
  rw [hT] at hle ⊢
  have HB3 := Lib.hid (HB2.out.trans (hb3.mono HB2.out.size))
  have HS3 := Lib.hid (HS2.out.below hb3)
  clear hb3 HB2 HS2 hT
  go_wp2_with fail
  refine (spec_l01Next w.heap.size _ _ HS3.out (by omega)).mono ?_
  rintro e w4 ⟨z, rfl, za, _, zb, hs4, hk4⟩
  have HS4 := Lib.hid hs4
  have HB4 := Lib.hid (hk4.below HB3.out HB3.out.size (by intro k q; omega))
  clear hs4 hk4 zb HB3 HS3
  by_cases e0 : z = 0
  · subst e0
    go_wp2_with fail
    refine (spec_l01Damage w.heap.size T _ HS4.out (by omega)).mono ?_
    rintro e w5 ⟨u, rfl, hu, hs5, hk5⟩
    have HB5 := Lib.hid (hk5.below HB4.out HB4.out.size (by intro k q; omega))
    clear hk5 hs5
    go_wp2
    go_ret
    exact ⟨u, rfl, by unfold Mod; omega, HB5.out⟩
  · have b0 : (z == 0) = false := by simpa using e0
    go_wp2
    go_ret
    exact ⟨T, rfl, by unfold Mod; omega, HB4.out⟩
end Go.Proofs.YtbdacplndmnkhaaGreatDoor
namespace Go.Proofs.YtbdacplndmnkhaaGreatDoor
set_option linter.unusedVariables false
set_option linter.unusedSimpArgs false
open Go.RowKit
set_option maxRecDepth 100000 in
set_option maxHeartbeats 1000000 in
theorem laws_likeInts (A B : Option Addr) (c d n m : Nat) (l : List Int) (w : World) (h : Rd w A (l.map iV)) (h' : Rd w B (l.map iV)) (hn : n = l.length) (hm : m = l.length) (hl : l.length ≤ 1048576) :
    Calls Tryz.prog 14 #[.slice A n c, .slice B m d] w fun e w' => e = .returned (.bool true) ∧ Below w.heap.size w w' := by
  subst hn hm
  have H := Lib.hid h
  have H' := Lib.hid h'
  clear h h'
  go_enter Tryz.func14, Tryz.ntmps14
  go_wp2
  go_loopw [5] (fun v wr => ∃ k : Nat, k ≤ l.length ∧ v = .int .i64 k ∧ Below w.heap.size w wr) (fun v _ => l.length - (intOf v).toNat)
  case atStart => exact ⟨0, by omega, rfl, Below.refl _ _⟩
  case round =>
    obtain ⟨k, hk, rfl, hbw⟩ := hrel
    have hbH := Lib.hid hbw
    by_cases hlt : k < l.length
    · obtain ⟨n, hn⟩ := get_some hlt
      obtain ⟨b, off, rfl, hb, hat⟩ := H.out.opened (k := k) (by simpa using hlt)
      obtain ⟨b', off', rfl, hb', hat'⟩ := H'.out.opened (k := k) (by simpa using hlt)
      have t0 := ints_at (hat.below hbw hb) hn
      have t1 := ints_at (hat'.below hbw hb') hn
      clear hn hat hat' hbw
      go_wp2
      go_quiet (fail)
      go_wp2
      go_roundw
      case rel => exact ⟨k + 1, by omega, by go_num, Below.drewN' hbH.out _⟩
      case measure => simp [intOf]; omega
    · clear hbw
      go_wp2
      go_ret
      exact ⟨rfl, hbH.out⟩
end Go.Proofs.YtbdacplndmnkhaaGreatDoor
namespace Go.Proofs.YtbdacplndmnkhaaGreatDoor
set_option linter.unusedVariables false
set_option linter.unusedSimpArgs false
open Go.RowKit
theorem laws_bigT (A : Option Addr) (n c : Nat) (w : World) : Calls Tryz.prog 4 #[.slice A n c] w fun e w' => e = .returned (.bool (decide (4096 < n))) ∧ w = w' := by
  go_enter Tryz.func4, Tryz.ntmps4
  go_wp2
  go_ret
  refine ⟨rb ?_, rfl⟩
  simp; omega
/-- the contract's text and what is read from it -/
structure CtT (c : Ctr) (ok : Bool) (T : ByteArray) (y : Ctr) : Prop where
  eq : ctT c = T
  md : Mod T
  bk : rcV (rcL (mapO rdV (spl 32 (bl T)))) = .tuple #[y.val, .bool ok]
  ne : (T.toList == (⟨#[]⟩ : ByteArray).toList) = !ok
  yy : ok = true → y = c
theorem ctOk {c : Ctr} (h : c.sm) : c.ok := by
  obtain ⟨⟨a1, a2⟩, ⟨b1, b2⟩, ⟨c1, c2⟩, ⟨d1, d2⟩, ⟨e1, e2⟩, ⟨f1, f2⟩, ⟨g1, g2⟩, ⟨i1, i2⟩⟩ := h
  unfold Ctr.ok i64B
  refine ⟨?_, ?_, ?_, ?_, ?_, ?_, ?_, ?_⟩ <;> constructor <;> omega
theorem ctt_of {c : Ctr} (h : c.sm) : ∃ ok T y, CtT c ok T y := by
  cases hn : (ctN c).any (fun x => decide (x < 0))
  · have hb := ct_back h hn
    refine ⟨true, ctT c, c, rfl, ?_, by rw [hb]; rfl, ?_, fun _ => rfl⟩
    · rw [ct_pos hn]
      exact joinN_mod (ctN_i64 (ctOk h)) (by simp [ctN]) (by decide)
    · rw [ct_pos hn]
      exact sbeq_f joinN_ne
  · refine ⟨false, ⟨#[]⟩, ⟨0, 0, 0, 0, 0, 0, 0, 0⟩, ct_neg hn, by unfold Mod; decide, by rw [ct_none]; rfl, by simp, fun q => by cases q⟩
set_option maxRecDepth 100000 in
set_option maxHeartbeats 8000000 in
theorem walk_FnContractText (w : World) (A0 : Option Addr) (c0 : Nat) (l0 : List Int) (h0 : BytesIn w A0 l0) (ht : Tabs w) :
    Calls Tryz.prog 3 #[.slice A0 l0.length c0] w fun e w' => e = .returned (.bool true) ∧ Below w.heap.size w w' := by
  have HI := Lib.hid h0
  have HT := Lib.hid ht
  clear h0 ht
  by_cases hbig : 4096 < l0.length
  · have b0 : decide (4096 < l0.length) = true := by simpa using hbig
    (go_enter Tryz.func3, Tryz.ntmps3; go_wp2_with (first | (go_at_call 4; ((with_reducible refine (laws_big _ _ _ _).mono ?_)); rintro e wn ⟨rfl, rfl⟩) | (go_at_call 4; ((with_reducible refine (laws_big _ _ _ _).mono ?_)); rintro e wn ⟨rfl, rfl⟩) | (go_at_call 4; ((with_reducible refine (laws_bigT _ _ _ _).mono ?_)); rintro e wn ⟨rfl, rfl⟩)))
    go_ret
    exact ⟨rfl, by (repeat' (first | (with_reducible exact Below.refl _ _) | (with_reducible assumption) | (with_reducible refine Below.alloc ?_ ?_ _) | (with_reducible refine Below.drew ?_) | (with_reducible refine Below.drewN' ?_ _) | (with_reducible refine Below.setCell ?_ ?_ _) | (refine Below.via ?_ (by with_reducible assumption) ?_) | (with_reducible refine Below.via ?_ (Wd.h _) ?_) | go_size))⟩
  have b0 : decide (4096 < l0.length) = false := by simpa using hbig
  (go_enter Tryz.func3, Tryz.ntmps3; go_wp2_with (first | (go_at_call 4; ((with_reducible refine (laws_big _ _ _ _).mono ?_)); rintro e wn ⟨rfl, rfl⟩) | (go_at_call 4; ((with_reducible refine (laws_big _ _ _ _).mono ?_)); rintro e wn ⟨rfl, rfl⟩) | (go_at_call 4; ((with_reducible refine (laws_bigT _ _ _ _).mono ?_)); rintro e wn ⟨rfl, rfl⟩)))
  refine (spec_DrawContractText A0 c0 l0 _ (HI.out.below (by (repeat' (first | (with_reducible exact Below.refl _ _) | (with_reducible assumption) | (with_reducible refine Below.alloc ?_ ?_ _) | (with_reducible refine Below.drew ?_) | (with_reducible refine Below.drewN' ?_ _) | (with_reducible refine Below.setCell ?_ ?_ _) | (refine Below.via ?_ (by with_reducible assumption) ?_) | (with_reducible refine Below.via ?_ (Wd.h _) ?_) | go_size)))) (by omega)).mono ?_
  rintro e w1 ⟨y, rfl, hsm, hb1⟩
  have HOK := Lib.hid (ctOk hsm)
  obtain ⟨ok, T, x, hT⟩ := ctt_of hsm
  have HTT := Lib.hid hT
  have HB1 := Lib.hid hb1
  clear hT hb1 hsm
  obtain ⟨y0, y1, y2, y3, y4, y5, y6, y7⟩ := y
  obtain ⟨x0, x1, x2, x3, x4, x5, x6, x7⟩ := x
  go_wp2_with fail
  have hx : Bx (World.alloc w1 (.cells #[Value.int .i64 y0, Value.int .i64 y1, Value.int .i64 y2, Value.int .i64 y3, Value.int .i64 y4, Value.int .i64 y5, Value.int .i64 y6, Value.int .i64 y7] 25)) w1.heap.size [Value.int .i64 y0, Value.int .i64 y1, Value.int .i64 y2, Value.int .i64 y3, Value.int .i64 y4, Value.int .i64 y5, Value.int .i64 y6, Value.int .i64 y7] := bx8 (by simp) (by simp) (by simp) (by simp) (by simp) (by simp) (by simp) (by simp) (by simp) (by simp) (by simp) (by simp) (by simp) (by simp) (by simp) (by simp) (by simp)
  have hB := Below.alloc (Below.refl w1.heap.size w1) (Nat.le_refl _) (.cells #[Value.int .i64 y0, Value.int .i64 y1, Value.int .i64 y2, Value.int .i64 y3, Value.int .i64 y4, Value.int .i64 y5, Value.int .i64 y6, Value.int .i64 y7] 25)
  revert hx hB
  generalize World.alloc w1 _ = w2
  intro hx hB
  have HB2 := Lib.hid (HB1.out.trans (hB.mono HB1.out.size))
  clear HB1
  have HXaw2 := Lib.hid hx
  clear hx hB
  refine (impl_ContractText ⟨y0, y1, y2, y3, y4, y5, y6, y7⟩ w2 HOK.out (HT.out.below HB2.out).pow).mono ?_
  rintro e w3 ⟨rfl, hb3⟩
  rw [HTT.out.eq]
  have HB3 := Lib.hid (HB2.out.trans (hb3.mono HB2.out.size))
  have HXaw3 := Lib.hid (HXaw2.out.below hb3 HXaw2.out.lt)
  clear HB2 HXaw2
  clear hb3
  go_wp2_with fail
  refine (impl_ReadContract T w3 HTT.out.md (HT.out.below HB3.out)).mono ?_
  rintro e w4 ⟨rfl, hb4⟩
  rw [HTT.out.bk]
  have HB4 := Lib.hid (HB3.out.trans (hb4.mono HB3.out.size))
  have HXaw4 := Lib.hid (HXaw3.out.below hb4 HXaw3.out.lt)
  clear HB3 HXaw3
  clear hb4
  go_wp2_with fail
  have hx : Bx (World.alloc w4 (.cells #[Value.int .i64 x0, Value.int .i64 x1, Value.int .i64 x2, Value.int .i64 x3, Value.int .i64 x4, Value.int .i64 x5, Value.int .i64 x6, Value.int .i64 x7] 25)) w4.heap.size [Value.int .i64 x0, Value.int .i64 x1, Value.int .i64 x2, Value.int .i64 x3, Value.int .i64 x4, Value.int .i64 x5, Value.int .i64 x6, Value.int .i64 x7] := bx8 (by simp) (by simp) (by simp) (by simp) (by simp) (by simp) (by simp) (by simp) (by simp) (by simp) (by simp) (by simp) (by simp) (by simp) (by simp) (by simp) (by simp)
  have hB := Below.alloc (Below.refl w4.heap.size w4) (Nat.le_refl _) (.cells #[Value.int .i64 x0, Value.int .i64 x1, Value.int .i64 x2, Value.int .i64 x3, Value.int .i64 x4, Value.int .i64 x5, Value.int .i64 x6, Value.int .i64 x7] 25)
  revert hx hB
  generalize World.alloc w4 _ = w5
  intro hx hB
  have HB5 := Lib.hid (HB4.out.trans (hB.mono HB4.out.size))
  have HXaw5 := Lib.hid (HXaw4.out.below hB HXaw4.out.lt)
  clear HB4 HXaw4
  have HXbw5 := Lib.hid hx
  clear hx hB
  refine (spec_DrawReadContract A0 c0 l0 w5 (HI.out.below HB5.out) (by omega)).mono ?_
  rintro e w6 ⟨U, rfl, hMU, hb6⟩
  have HB6 := Lib.hid (HB5.out.trans (hb6.mono HB5.out.size))
  have HXaw6 := Lib.hid (HXaw5.out.below hb6 HXaw5.out.lt)
  have HXbw6 := Lib.hid (HXbw5.out.below hb6 HXbw5.out.lt)
  clear HB5 HXaw5 HXbw5
  clear hb6
  have HMU := Lib.hid hMU
  clear hMU
  obtain ⟨⟨z0, z1, z2, z3, z4, z5, z6, z7⟩, okz, hU⟩ : ∃ (z : Ctr) (okz : Bool), rcV (rcL (mapO rdV (spl 32 (bl U)))) = .tuple #[z.val, .bool okz] := by
    cases rcL (mapO rdV (spl 32 (bl U))) with
    | none => exact ⟨_, _, rfl⟩
    | some z => exact ⟨z, true, rfl⟩
  have HU := Lib.hid hU
  clear hU
  go_wp2_with fail
  refine (impl_ReadContract U w6 HMU.out (HT.out.below HB6.out)).mono ?_
  rintro e w7 ⟨rfl, hb7⟩
  rw [HU.out]
  have HB7 := Lib.hid (HB6.out.trans (hb7.mono HB6.out.size))
  have HXaw7 := Lib.hid (HXaw6.out.below hb7 HXaw6.out.lt)
  have HXbw7 := Lib.hid (HXbw6.out.below hb7 HXbw6.out.lt)
  clear HB6 HXaw6 HXbw6
  clear hb7
  go_wp2_with fail
  have hx : Bx (World.alloc w7 (.cells #[Value.int .i64 z0, Value.int .i64 z1, Value.int .i64 z2, Value.int .i64 z3, Value.int .i64 z4, Value.int .i64 z5, Value.int .i64 z6, Value.int .i64 z7] 25)) w7.heap.size [Value.int .i64 z0, Value.int .i64 z1, Value.int .i64 z2, Value.int .i64 z3, Value.int .i64 z4, Value.int .i64 z5, Value.int .i64 z6, Value.int .i64 z7] := bx8 (by simp) (by simp) (by simp) (by simp) (by simp) (by simp) (by simp) (by simp) (by simp) (by simp) (by simp) (by simp) (by simp) (by simp) (by simp) (by simp) (by simp)
  have hB := Below.alloc (Below.refl w7.heap.size w7) (Nat.le_refl _) (.cells #[Value.int .i64 z0, Value.int .i64 z1, Value.int .i64 z2, Value.int .i64 z3, Value.int .i64 z4, Value.int .i64 z5, Value.int .i64 z6, Value.int .i64 z7] 25)
  revert hx hB
  generalize World.alloc w7 _ = w8
  intro hx hB
  have HB8 := Lib.hid (HB7.out.trans (hB.mono HB7.out.size))
  have HXaw8 := Lib.hid (HXaw7.out.below hB HXaw7.out.lt)
  have HXbw8 := Lib.hid (HXbw7.out.below hB HXbw7.out.lt)
  clear HB7 HXaw7 HXbw7
  have HXdw8 := Lib.hid hx
  clear hx hB
  refine (spec_ReadContract U w8 HMU.out).mono ?_
  rintro e w9 ⟨rfl, hb9⟩
  rw [HU.out]
  have HB9 := Lib.hid (HB8.out.trans (hb9.mono HB8.out.size))
  have HXaw9 := Lib.hid (HXaw8.out.below hb9 HXaw8.out.lt)
  have HXbw9 := Lib.hid (HXbw8.out.below hb9 HXbw8.out.lt)
  have HXdw9 := Lib.hid (HXdw8.out.below hb9 HXdw8.out.lt)
  clear HB8 HXaw8 HXbw8 HXdw8
  clear hb9
  go_wp2_with fail
  have hx : Bx (World.alloc w9 (.cells #[Value.int .i64 z0, Value.int .i64 z1, Value.int .i64 z2, Value.int .i64 z3, Value.int .i64 z4, Value.int .i64 z5, Value.int .i64 z6, Value.int .i64 z7] 25)) w9.heap.size [Value.int .i64 z0, Value.int .i64 z1, Value.int .i64 z2, Value.int .i64 z3, Value.int .i64 z4, Value.int .i64 z5, Value.int .i64 z6, Value.int .i64 z7] := bx8 (by simp) (by simp) (by simp) (by simp) (by simp) (by simp) (by simp) (by simp) (by simp) (by simp) (by simp) (by simp) (by simp) (by simp) (by simp) (by simp) (by simp)
  have hB := Below.alloc (Below.refl w9.heap.size w9) (Nat.le_refl _) (.cells #[Value.int .i64 z0, Value.int .i64 z1, Value.int .i64 z2, Value.int .i64 z3, Value.int .i64 z4, Value.int .i64 z5, Value.int .i64 z6, Value.int .i64 z7] 25)
  revert hx hB
  generalize World.alloc w9 _ = w10
  intro hx hB
  have HB10 := Lib.hid (HB9.out.trans (hB.mono HB9.out.size))
  have HXaw10 := Lib.hid (HXaw9.out.below hB HXaw9.out.lt)
  have HXbw10 := Lib.hid (HXbw9.out.below hB HXbw9.out.lt)
  have HXdw10 := Lib.hid (HXdw9.out.below hB HXdw9.out.lt)
  clear HB9 HXaw9 HXbw9 HXdw9
  have HXgw10 := Lib.hid hx
  clear hx hB
  refine (spec_DrawActiveContracts A0 c0 l0 w10 (HI.out.below HB10.out) (by omega)).mono ?_
  rintro e w11 ⟨A, Bq, Al, c, d, cl, N, lb, sh, hr, rfl, hnc, hN, hL, hl33, hcs, hb11, -, -, -⟩
  have HB11 := Lib.hid (HB10.out.trans (hb11.mono HB10.out.size))
  have HXaw11 := Lib.hid (HXaw10.out.below hb11 HXaw10.out.lt)
  have HXbw11 := Lib.hid (HXbw10.out.below hb11 HXbw10.out.lt)
  have HXdw11 := Lib.hid (HXdw10.out.below hb11 HXdw10.out.lt)
  have HXgw11 := Lib.hid (HXgw10.out.below hb11 HXgw10.out.lt)
  clear HB10 HXaw10 HXbw10 HXdw10 HXgw10
  clear hb11
  have HNw11 := Lib.hid hN
  have HLw11 := Lib.hid hL
  clear hN hL hcs
  obtain ⟨R, code, hR⟩ : ∃ R code, actR N lb sh hr = (R, code) := ⟨_, _, rfl⟩
  have HR := Lib.hid hR
  have hRl : R.length ≤ 1048576 := by have := actR_len (N := N) (lb := lb) (sh := sh) (hr := hr); rw [hR] at this; exact this
  clear hR
  go_wp2_with fail
  have hx : Bx (World.alloc w11 (.cells #[.slice A N.nodes.length c, .slice Bq N.pipes.length d] 34)) w11.heap.size [.slice A N.nodes.length c, .slice Bq N.pipes.length d] := bx2 (by simp) (by simp) (by simp) (by simp) (by simp)
  have hB := Below.alloc (Below.refl w11.heap.size w11) (Nat.le_refl _) (.cells #[.slice A N.nodes.length c, .slice Bq N.pipes.length d] 34)
  revert hx hB
  generalize World.alloc w11 _ = w12
  intro hx hB
  have HB12 := Lib.hid (HB11.out.trans (hB.mono HB11.out.size))
  have HXaw12 := Lib.hid (HXaw11.out.below hB HXaw11.out.lt)
  have HXbw12 := Lib.hid (HXbw11.out.below hB HXbw11.out.lt)
  have HXdw12 := Lib.hid (HXdw11.out.below hB HXdw11.out.lt)
  have HXgw12 := Lib.hid (HXgw11.out.below hB HXgw11.out.lt)
  have HNw12 := Lib.hid (HNw11.out.below hB)
  have HLw12 := Lib.hid (HLw11.out.below hB)
  clear HB11 HXaw11 HXbw11 HXdw11 HXgw11 HNw11 HLw11
  have HXnw12 := Lib.hid hx
  clear hx hB
  refine ((impl_ActiveContracts A Bq Al _ c _ d cl N lb sh hr w12 HNw12.out rfl rfl hnc HLw12.out (by omega)).made HR.out).mono ?_
  rintro e w13 ⟨A2, c2, rfl, hc2, hW2, hb13⟩
  have hR2 := hW2.rd
  clear hW2
  have HB13 := Lib.hid (HB12.out.trans (hb13.mono HB12.out.size))
  have HXaw13 := Lib.hid (HXaw12.out.below hb13 HXaw12.out.lt)
  have HXbw13 := Lib.hid (HXbw12.out.below hb13 HXbw12.out.lt)
  have HXdw13 := Lib.hid (HXdw12.out.below hb13 HXdw12.out.lt)
  have HXgw13 := Lib.hid (HXgw12.out.below hb13 HXgw12.out.lt)
  have HXnw13 := Lib.hid (HXnw12.out.below hb13 HXnw12.out.lt)
  have HNw13 := Lib.hid (HNw12.out.below hb13)
  have HLw13 := Lib.hid (HLw12.out.below hb13)
  clear HB12 HXaw12 HXbw12 HXdw12 HXgw12 HXnw12 HNw12 HLw12
  clear hb13
  have HR2w13 := Lib.hid hR2
  clear hR2
  have fn0 := HXnw13.out.cell 0 rfl
  have fn1 := HXnw13.out.cell 1 rfl
  have ynl := HXnw13.out.lt
  go_wp2_with fail
  clear fn0 fn1 ynl
  refine ((spec_ActiveContracts A Bq Al _ c _ d cl N lb sh hr w13 HNw13.out rfl rfl HLw13.out (by omega)).made HR.out).mono ?_
  rintro e w14 ⟨A3, c3, rfl, hc3, hW3, hb14⟩
  have hR3 := hW3.rd
  clear hW3
  have HB14 := Lib.hid (HB13.out.trans (hb14.mono HB13.out.size))
  have HXaw14 := Lib.hid (HXaw13.out.below hb14 HXaw13.out.lt)
  have HXbw14 := Lib.hid (HXbw13.out.below hb14 HXbw13.out.lt)
  have HXdw14 := Lib.hid (HXdw13.out.below hb14 HXdw13.out.lt)
  have HXgw14 := Lib.hid (HXgw13.out.below hb14 HXgw13.out.lt)
  have HXnw14 := Lib.hid (HXnw13.out.below hb14 HXnw13.out.lt)
  have HNw14 := Lib.hid (HNw13.out.below hb14)
  have HLw14 := Lib.hid (HLw13.out.below hb14)
  have HR2w14 := Lib.hid (HR2w13.out.below hb14)
  clear HB13 HXaw13 HXbw13 HXdw13 HXgw13 HXnw13 HNw13 HLw13 HR2w13
  clear hb14
  have HR3w14 := Lib.hid hR3
  clear hR3
  have fa0 := HXaw14.out.cell 0 rfl
  have fa1 := HXaw14.out.cell 1 rfl
  have fa2 := HXaw14.out.cell 2 rfl
  have fa3 := HXaw14.out.cell 3 rfl
  have fa4 := HXaw14.out.cell 4 rfl
  have fa5 := HXaw14.out.cell 5 rfl
  have fa6 := HXaw14.out.cell 6 rfl
  have fa7 := HXaw14.out.cell 7 rfl
  have yal := HXaw14.out.lt
  go_wp2_with fail
  clear fa0 fa1 fa2 fa3 fa4 fa5 fa6 fa7 yal
  refine (spec_ContractText ⟨y0, y1, y2, y3, y4, y5, y6, y7⟩ w14 HOK.out).mono ?_
  rintro e w15 ⟨rfl, hb15⟩
  rw [HTT.out.eq]
  have HB15 := Lib.hid (HB14.out.trans (hb15.mono HB14.out.size))
  have HXaw15 := Lib.hid (HXaw14.out.below hb15 HXaw14.out.lt)
  have HXbw15 := Lib.hid (HXbw14.out.below hb15 HXbw14.out.lt)
  have HXdw15 := Lib.hid (HXdw14.out.below hb15 HXdw14.out.lt)
  have HXgw15 := Lib.hid (HXgw14.out.below hb15 HXgw14.out.lt)
  have HXnw15 := Lib.hid (HXnw14.out.below hb15 HXnw14.out.lt)
  have HNw15 := Lib.hid (HNw14.out.below hb15)
  have HLw15 := Lib.hid (HLw14.out.below hb15)
  have HR2w15 := Lib.hid (HR2w14.out.below hb15)
  have HR3w15 := Lib.hid (HR3w14.out.below hb15)
  clear HB14 HXaw14 HXbw14 HXdw14 HXgw14 HXnw14 HNw14 HLw14 HR2w14 HR3w14
  clear hb15
  have hne := HTT.out.ne
  have hyy := HTT.out.yy
  have htt : (T.toList == T.toList) = true := by simp
  have fa0 := HXaw15.out.cell 0 rfl
  have fa1 := HXaw15.out.cell 1 rfl
  have fa2 := HXaw15.out.cell 2 rfl
  have fa3 := HXaw15.out.cell 3 rfl
  have fa4 := HXaw15.out.cell 4 rfl
  have fa5 := HXaw15.out.cell 5 rfl
  have fa6 := HXaw15.out.cell 6 rfl
  have fa7 := HXaw15.out.cell 7 rfl
  have yal := HXaw15.out.lt
  have fb0 := HXbw15.out.cell 0 rfl
  have fb1 := HXbw15.out.cell 1 rfl
  have fb2 := HXbw15.out.cell 2 rfl
  have fb3 := HXbw15.out.cell 3 rfl
  have fb4 := HXbw15.out.cell 4 rfl
  have fb5 := HXbw15.out.cell 5 rfl
  have fb6 := HXbw15.out.cell 6 rfl
  have fb7 := HXbw15.out.cell 7 rfl
  have ybl := HXbw15.out.lt
  have fd0 := HXdw15.out.cell 0 rfl
  have fd1 := HXdw15.out.cell 1 rfl
  have fd2 := HXdw15.out.cell 2 rfl
  have fd3 := HXdw15.out.cell 3 rfl
  have fd4 := HXdw15.out.cell 4 rfl
  have fd5 := HXdw15.out.cell 5 rfl
  have fd6 := HXdw15.out.cell 6 rfl
  have fd7 := HXdw15.out.cell 7 rfl
  have ydl := HXdw15.out.lt
  have fg0 := HXgw15.out.cell 0 rfl
  have fg1 := HXgw15.out.cell 1 rfl
  have fg2 := HXgw15.out.cell 2 rfl
  have fg3 := HXgw15.out.cell 3 rfl
  have fg4 := HXgw15.out.cell 4 rfl
  have fg5 := HXgw15.out.cell 5 rfl
  have fg6 := HXgw15.out.cell 6 rfl
  have fg7 := HXgw15.out.cell 7 rfl
  have ygl := HXgw15.out.lt
  cases ok
  · have hnl : T.toList.isEmpty = true := by simpa using hne
    clear hyy hne
    go_wp2_with fail
    refine (laws_likeInts A2 A3 c2 c3 _ _ R w15 HR2w15.out HR3w15.out rfl rfl hRl).mono ?_
    rintro e w16 ⟨rfl, hb16⟩
    go_wp2
    go_ret
    exact ⟨rfl, HB15.out.trans (hb16.mono HB15.out.size)⟩
  · injection (hyy rfl).symm with q0 q1 q2 q3 q4 q5 q6 q7
    subst q0 q1 q2 q3 q4 q5 q6 q7
    have hnl : T.toList.isEmpty = false := by simpa using hne
    clear hyy hne
    go_wp2_with fail
    refine (laws_likeInts A2 A3 c2 c3 _ _ R w15 HR2w15.out HR3w15.out rfl rfl hRl).mono ?_
    rintro e w16 ⟨rfl, hb16⟩
    go_wp2
    go_ret
    exact ⟨rfl, HB15.out.trans (hb16.mono HB15.out.size)⟩
end Go.Proofs.YtbdacplndmnkhaaGreatDoor

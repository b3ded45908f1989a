/- The walk of the law FnFilled: for all bytes it returns true and writes nothing that was there. -/
import Derived.Test.YtioboahhiklolaaDf
import Derived.Test.YtioboahhiklolaaFf
import Derived.Test.YtioboahhiklolaaFw
namespace Go.Proofs.Ytioboahhiklolaa
set_option linter.unusedVariables false
set_option linter.unusedSimpArgs false
open Go.RowKit
theorem laws_big' (A : Option Addr) (n c : Nat) (w : World) : Calls Try.prog 5 #[.slice A n c] w fun e w' => e = .returned (.bool (decide (4096 < n))) ∧ w = w' := by
  go_enter Try.func5, Try.ntmps5
  go_wp2
  go_ret
  refine ⟨rb ?_, rfl⟩
  simp; omega
theorem impl_FollowPlanN (lo hi now i o : Int) (A : Option Addr) (c n : Nat) (l : List Int) (w : World) (h : Rd w A (l.map iV)) (hl : l.length ≤ 1048576) (e : n = l.length) :
    Calls Try.prog 16 #[stV lo hi now i o, .slice A n c] w fun e w' => e = .returned (folV (folR lo hi now i o l)) ∧ Below w.heap.size w w' := by
  subst e; exact impl_FollowPlan lo hi now i o A c l w h hl
theorem rep_snoc (j : Nat) : ((List.replicate j (30000 : Int)).map iV) ++ [iV 30000] = (List.replicate (j + 1) (30000 : Int)).map iV := by
  rw [List.replicate_succ', List.map_append]; rfl
set_option maxRecDepth 100000 in
set_option maxHeartbeats 8000000 in
theorem walk_FnFilled (w : World) (A0 : Option Addr) (c0 : Nat) (l0 : List Int) (h0 : BytesIn w A0 l0) :
    Calls Try.prog 4 #[.slice A0 l0.length c0] w fun e w' => e = .returned (.bool true) ∧ Below w.heap.size w w' := by
  have HI := Lib.hid h0
  clear h0
  by_cases hbig : 4096 < l0.length
  · have b0 : decide (4096 < l0.length) = true := by simpa using hbig
    go_enter Try.func4, Try.ntmps4
    go_wp2_with ((go_at_call 5; refine (laws_big' _ _ _ _).mono ?_; rintro e w' ⟨rfl, rfl⟩))
    go_ret
    exact ⟨rfl, by (repeat' (first | (with_reducible exact Below.refl _ _) | (with_reducible assumption) | (with_reducible refine Below.alloc ?_ ?_ _) | (with_reducible refine Below.drew ?_) | (with_reducible refine Below.drewN' ?_ _) | (with_reducible refine Below.setCell ?_ ?_ _) | (refine Below.via ?_ (by with_reducible assumption) ?_) | (with_reducible refine Below.via ?_ (Wd.h _) ?_) | go_size))⟩
  have b0 : decide (4096 < l0.length) = false := by simpa using hbig
  go_enter Try.func4, Try.ntmps4
  go_wp2_with ((go_at_call 5; refine (laws_big' _ _ _ _).mono ?_; rintro e w' ⟨rfl, rfl⟩))
  
  refine (spec_DrawFillHours A0 c0 l0 _ (HI.out.below (by (repeat' (first | (with_reducible exact Below.refl _ _) | (with_reducible assumption) | (with_reducible refine Below.alloc ?_ ?_ _) | (with_reducible refine Below.drew ?_) | (with_reducible refine Below.drewN' ?_ _) | (with_reducible refine Below.setCell ?_ ?_ _) | (refine Below.via ?_ (by with_reducible assumption) ?_) | (with_reducible refine Below.via ?_ (Wd.h _) ?_) | go_size)))) (by omega)).mono ?_
  rintro e w1 ⟨⟨lo, hi, now, i, o⟩, level, rfl, hsm, ha1, ha2, hb1⟩
  have hz1 := hb1.size
  clear hsm
  obtain ⟨h, bad, hfr⟩ : ∃ h bad, fillR lo hi now i o level = (h, bad) := ⟨_, _, rfl⟩
  have HFR := Lib.hid hfr
  clear hfr
  go_wp2_with fail
  
  refine (impl_FillHours _ _ _ _ _ _ _).mono ?_
  rintro e w2 ⟨rfl, hb2⟩
  rw [HFR.out]
  (obtain ⟨hcn, hfn⟩ := bcell hb2; have hz2 := hb2.size; (try simp at hz2); have Na_0 := hcn (w1.heap.size) (0) (by first | omega | (simp; done) | (simp; omega)); have Na_0f := hfn (w1.heap.size) (0) (by first | omega | (simp; done) | (simp; omega)); have Nhy_a : w1.heap.size < w2.heap.size := (by omega); have Na_1 := hcn (w1.heap.size) (1) (by first | omega | (simp; done) | (simp; omega)); have Na_1f := hfn (w1.heap.size) (1) (by first | omega | (simp; done) | (simp; omega)); have Na_2 := hcn (w1.heap.size) (2) (by first | omega | (simp; done) | (simp; omega)); have Na_2f := hfn (w1.heap.size) (2) (by first | omega | (simp; done) | (simp; omega)); have Na_3 := hcn (w1.heap.size) (3) (by first | omega | (simp; done) | (simp; omega)); have Na_3f := hfn (w1.heap.size) (3) (by first | omega | (simp; done) | (simp; omega)); have Na_4 := hcn (w1.heap.size) (4) (by first | omega | (simp; done) | (simp; omega)); have Na_4f := hfn (w1.heap.size) (4) (by first | omega | (simp; done) | (simp; omega)); simp [go_sem] at Na_0 Na_0f Na_1 Na_1f Na_2 Na_2f Na_3 Na_3f Na_4 Na_4f; clear hcn hfn; have a_0 := Na_0; have a_0f := Na_0f; have a_1 := Na_1; have a_1f := Na_1f; have a_2 := Na_2; have a_2f := Na_2f; have a_3 := Na_3; have a_3f := Na_3f; have a_4 := Na_4; have a_4f := Na_4f; have hy_a := Nhy_a; clear Na_0 Na_0f Na_1 Na_1f Na_2 Na_2f Na_3 Na_3f Na_4 Na_4f Nhy_a)
  go_wp2_with fail
  refine (spec_FillHours _ _ _ _ _ _ _).mono ?_
  rintro e w3 ⟨rfl, hb3⟩
  rw [HFR.out]
  (obtain ⟨hcn, hfn⟩ := bcell hb3; have hz3 := hb3.size; (try simp at hz3); have Na_0 := hcn (w1.heap.size) (0) (by first | omega | (simp; done) | (simp; omega)); have Na_0f := hfn (w1.heap.size) (0) (by first | omega | (simp; done) | (simp; omega)); have Nhy_a : w1.heap.size < w3.heap.size := (by omega); have Na_1 := hcn (w1.heap.size) (1) (by first | omega | (simp; done) | (simp; omega)); have Na_1f := hfn (w1.heap.size) (1) (by first | omega | (simp; done) | (simp; omega)); have Na_2 := hcn (w1.heap.size) (2) (by first | omega | (simp; done) | (simp; omega)); have Na_2f := hfn (w1.heap.size) (2) (by first | omega | (simp; done) | (simp; omega)); have Na_3 := hcn (w1.heap.size) (3) (by first | omega | (simp; done) | (simp; omega)); have Na_3f := hfn (w1.heap.size) (3) (by first | omega | (simp; done) | (simp; omega)); have Na_4 := hcn (w1.heap.size) (4) (by first | omega | (simp; done) | (simp; omega)); have Na_4f := hfn (w1.heap.size) (4) (by first | omega | (simp; done) | (simp; omega)); simp [go_sem, a_0, a_0f, a_1, a_1f, a_2, a_2f, a_3, a_3f, a_4, a_4f, hy_a] at Na_0 Na_0f Na_1 Na_1f Na_2 Na_2f Na_3 Na_3f Na_4 Na_4f; clear a_0 a_0f a_1 a_1f a_2 a_2f a_3 a_3f a_4 a_4f hy_a; clear hcn hfn; have a_0 := Na_0; have a_0f := Na_0f; have a_1 := Na_1; have a_1f := Na_1f; have a_2 := Na_2; have a_2f := Na_2f; have a_3 := Na_3; have a_3f := Na_3f; have a_4 := Na_4; have a_4f := Na_4f; have hy_a := Nhy_a; clear Na_0 Na_0f Na_1 Na_1f Na_2 Na_2f Na_3 Na_3f Na_4 Na_4f Nhy_a)
  by_cases e0 : bad = 0
  · subst e0
    by_cases e1 : h < 1
    · go_wp2
      go_ret
      exact ⟨rfl, by (repeat' (first | (with_reducible exact Below.refl _ _) | (with_reducible assumption) | (with_reducible refine Below.alloc ?_ ?_ _) | (with_reducible refine Below.drew ?_) | (with_reducible refine Below.drewN' ?_ _) | (with_reducible refine Below.setCell ?_ ?_ _) | (refine Below.via ?_ (by with_reducible assumption) ?_) | (with_reducible refine Below.via ?_ (Wd.h _) ?_) | go_size))⟩
    by_cases e2 : 48 < h
    · go_wp2
      go_ret
      exact ⟨rfl, by (repeat' (first | (with_reducible exact Below.refl _ _) | (with_reducible assumption) | (with_reducible refine Below.alloc ?_ ?_ _) | (with_reducible refine Below.drew ?_) | (with_reducible refine Below.drewN' ?_ _) | (with_reducible refine Below.setCell ?_ ?_ _) | (refine Below.via ?_ (by with_reducible assumption) ?_) | (with_reducible refine Below.via ?_ (Wd.h _) ?_) | go_size))⟩
    obtain ⟨m, rfl, hm, X, Y, L1, L2, hX, hY, hr1, hr2⟩ := filled HFR.out (by omega) (by omega)
    have HR1 := Lib.hid hr1
    have HR2 := Lib.hid hr2
    have HBX := Lib.hid (show Bx w3 w1.heap.size [.int .i64 lo, .int .i64 hi, .int .i64 now, .int .i64 i, .int .i64 o] from bx5 hy_a a_0 a_0f a_1 a_1f a_2 a_2f a_3 a_3f a_4 a_4f)
    have HB3 := Lib.hid (show Below w.heap.size w w3 by (repeat' (first | (with_reducible exact Below.refl _ _) | (with_reducible assumption) | (with_reducible refine Below.alloc ?_ ?_ _) | (with_reducible refine Below.drew ?_) | (with_reducible refine Below.drewN' ?_ _) | (with_reducible refine Below.setCell ?_ ?_ _) | (refine Below.via ?_ (by with_reducible assumption) ?_) | (with_reducible refine Below.via ?_ (Wd.h _) ?_) | go_size)))
    clear hr1 hr2 e1 e2 hy_a a_0 a_0f a_1 a_1f a_2 a_2f a_3 a_3f a_4 a_4f hb1 hb2 hb3
    
    have hlt1 := HBX.out.lt
    go_wp2_with fail
    go_loopw [9, 10] (fun u v wr => ∃ j : Nat, j ≤ m ∧ v = .int .i64 ((j : Int) + 1) ∧ Own wr w3.heap.size 2 1 u j ((List.replicate j (30000 : Int)).map iV) ∧ Bx wr w1.heap.size [.int .i64 lo, .int .i64 hi, .int .i64 now, .int .i64 i, .int .i64 o] ∧ Below w3.heap.size w3 wr) (fun _ v _ => m + 1 - (intOf v).toNat)
    case atStart => exact ⟨0, by omega, rfl, by simpa using Own.lit0 w3 w3.heap.size 2 1 (Nat.le_refl _), HBX.out.below (by (repeat' (first | (with_reducible exact Below.refl _ _) | (with_reducible assumption) | (with_reducible refine Below.alloc ?_ ?_ _) | (with_reducible refine Below.drew ?_) | (with_reducible refine Below.drewN' ?_ _) | (with_reducible refine Below.setCell ?_ ?_ _) | (refine Below.via ?_ (by with_reducible assumption) ?_) | (with_reducible refine Below.via ?_ (Wd.h _) ?_) | go_size))) HBX.out.lt, by (repeat' (first | (with_reducible exact Below.refl _ _) | (with_reducible assumption) | (with_reducible refine Below.alloc ?_ ?_ _) | (with_reducible refine Below.drew ?_) | (with_reducible refine Below.drewN' ?_ _) | (with_reducible refine Below.setCell ?_ ?_ _) | (refine Below.via ?_ (by with_reducible assumption) ?_) | (with_reducible refine Below.via ?_ (Wd.h _) ?_) | go_size))⟩
    case round =>
      obtain ⟨j, hj, rfl, hO, hB, hbw⟩ := hrel
      have hbH := Lib.hid hbw
      have HOW := Lib.hid hO
      have HBR := Lib.hid hB
      have hzw := hbw.size
      clear hO hB hbw
      by_cases hlt : j < m
      · have g1 : (j : Int) + 1 < (m : Int) + 1 := by omega
        go_wp2_with ((at_builtin; refine wp_app1 _ rfl (.tmp 60) (.tmp 61) 34 rfl (w3.heap.size) info_i64 Try.underlying34 rfl (by omega) (by omega) _ (j) _ rfl (HOW.out.alloc _) wr.heap.size 1 1 [iV (30000)] rfl rfl (by intro j u hu; match j, hu with | 0, hu => (simp at hu; subst hu; simp) | j + 1, hu => simp at hu) (by simp [Value.oneCell']) (by omega) (by simp; omega) ?_; intro v' wn hO' hbn))
        go_roundw
        case rel =>
          refine ⟨j + 1, by omega, by go_num, ?_, HBR.out.below (show Below w3.heap.size wr wn by (repeat' (first | (with_reducible exact Below.refl _ _) | (with_reducible assumption) | (with_reducible refine Below.alloc ?_ ?_ _) | (with_reducible refine Below.drew ?_) | (with_reducible refine Below.drewN' ?_ _) | (with_reducible refine Below.setCell ?_ ?_ _) | (refine Below.via ?_ (by with_reducible assumption) ?_) | (with_reducible refine Below.via ?_ (Wd.h _) ?_) | go_size))) (by omega), by have h1 := hbH.out; (repeat' (first | (with_reducible exact Below.refl _ _) | (with_reducible assumption) | (with_reducible refine Below.alloc ?_ ?_ _) | (with_reducible refine Below.drew ?_) | (with_reducible refine Below.drewN' ?_ _) | (with_reducible refine Below.setCell ?_ ?_ _) | (refine Below.via ?_ (by with_reducible assumption) ?_) | (with_reducible refine Below.via ?_ (Wd.h _) ?_) | go_size))⟩
          rw [rep_snoc] at hO'
          exact hO'
        case measure => simp [intOf]; omega
      · obtain rfl : j = m := by omega
        have g1 : ¬ ((j : Int) + 1 < (j : Int) + 1) := by omega
        obtain ⟨B, c, rfl, hnc, hRd, _⟩ := HOW.out.val
        have HRd := Lib.hid hRd
        clear hRd
        have hB := HBR.out
        have hy9 := hB.lt; have cw9_0 := hB.cell 0 rfl; have fw9_0 := hB.frozen 0 rfl; have cw9_1 := hB.cell 1 rfl; have fw9_1 := hB.frozen 1 rfl; have cw9_2 := hB.cell 2 rfl; have fw9_2 := hB.frozen 2 rfl; have cw9_3 := hB.cell 3 rfl; have fw9_3 := hB.frozen 3 rfl; have cw9_4 := hB.cell 4 rfl; have fw9_4 := hB.frozen 4 rfl
        clear hB
        go_wp2_with fail
        
        refine (impl_FollowPlanN lo hi now i o B c j (List.replicate j 30000) _ (HRd.out.below (by (repeat' (first | (with_reducible exact Below.refl _ _) | (with_reducible assumption) | (with_reducible refine Below.alloc ?_ ?_ _) | (with_reducible refine Below.drew ?_) | (with_reducible refine Below.drewN' ?_ _) | (with_reducible refine Below.setCell ?_ ?_ _) | (refine Below.via ?_ (by with_reducible assumption) ?_) | (with_reducible refine Below.via ?_ (Wd.h _) ?_) | go_size)))) (by simp; omega) (by simp)).mono ?_
        rintro e w5 ⟨rfl, hb5⟩
        rw [HR1.out]
        
        have hB := HBR.out.below hb5 (by omega)
        have HOW5 := Lib.hid (HOW.out.below hb5 (Nat.le_refl _))
        have HB5 := Lib.hid (show Below w3.heap.size w3 w5 by have h1 := hbH.out; (repeat' (first | (with_reducible exact Below.refl _ _) | (with_reducible assumption) | (with_reducible refine Below.alloc ?_ ?_ _) | (with_reducible refine Below.drew ?_) | (with_reducible refine Below.drewN' ?_ _) | (with_reducible refine Below.setCell ?_ ?_ _) | (refine Below.via ?_ (by with_reducible assumption) ?_) | (with_reducible refine Below.via ?_ (Wd.h _) ?_) | go_size)))
        have HNE := Lib.hid (HOW5.out.ne (b := w5.heap.size) (Or.inr (Nat.le_refl _)))
        have hz5 := hb5.size
        clear cw9_0 fw9_0 cw9_1 fw9_1 cw9_2 fw9_2 cw9_3 fw9_3 cw9_4 fw9_4 hy9
        have hy9 := hB.lt; have cw9_0 := hB.cell 0 rfl; have fw9_0 := hB.frozen 0 rfl; have cw9_1 := hB.cell 1 rfl; have fw9_1 := hB.frozen 1 rfl; have cw9_2 := hB.cell 2 rfl; have fw9_2 := hB.frozen 2 rfl; have cw9_3 := hB.cell 3 rfl; have fw9_3 := hB.frozen 3 rfl; have cw9_4 := hB.cell 4 rfl; have fw9_4 := hB.frozen 4 rfl
        clear hB hb5
        go_wp2_with fail
        generalize hW : World.alloc w5 _ = w6
        have hb6 : Below w5.heap.size w5 w6 := by rw [← hW]; (repeat' (first | (with_reducible exact Below.refl _ _) | (with_reducible assumption) | (with_reducible refine Below.alloc ?_ ?_ _) | (with_reducible refine Below.drew ?_) | (with_reducible refine Below.drewN' ?_ _) | (with_reducible refine Below.setCell ?_ ?_ _) | (refine Below.via ?_ (by with_reducible assumption) ?_) | (with_reducible refine Below.via ?_ (Wd.h _) ?_) | go_size))
        have hz6 : w5.heap.size + 1 = w6.heap.size := by rw [← hW]; simp
        have HX11 := Lib.hid (show Bx w6 w5.heap.size [.int .i64 (lo), .int .i64 (hi), .int .i64 (X), .int .i64 (i), .int .i64 (o)] by rw [← hW]; exact bx5 (by simp) (by simp) (by simp) (by simp) (by simp) (by simp) (by simp) (by simp) (by simp) (by simp) (by simp))
        clear hW
        have HB1 := Lib.hid ((show Bx w5 w1.heap.size [.int .i64 (lo), .int .i64 (hi), .int .i64 (now), .int .i64 (i), .int .i64 (o)] from bx5 hy9 cw9_0 fw9_0 cw9_1 fw9_1 cw9_2 fw9_2 cw9_3 fw9_3 cw9_4 fw9_4).below hb6 (by omega))
        have HOW6 := Lib.hid (HOW5.out.below hb6 (Nat.le_refl _))
        have HB6 := Lib.hid (show Below w.heap.size w w6 by have h1 := HB3.out; have h2 := HB5.out; (repeat' (first | (with_reducible exact Below.refl _ _) | (with_reducible assumption) | (with_reducible refine Below.alloc ?_ ?_ _) | (with_reducible refine Below.drew ?_) | (with_reducible refine Below.drewN' ?_ _) | (with_reducible refine Below.setCell ?_ ?_ _) | (refine Below.via ?_ (by with_reducible assumption) ?_) | (with_reducible refine Below.via ?_ (Wd.h _) ?_) | go_size)))
        clear hy9 cw9_0 fw9_0 cw9_1 fw9_1 cw9_2 fw9_2 cw9_3 fw9_3 cw9_4 fw9_4 hb6
        have hz63 : w3.heap.size ≤ w6.heap.size := by omega
        refine wp_region_tab (R := Nat × Value × Nat) (fun u => ⟨#[.slice A0 l0.length c0, undef, .bool (false), .pointer (some ⟨w1.heap.size, 0, none⟩), .int .i64 (level), .int .i64 ((j : Int) + 1), .int .i64 (0), .int .i64 ((j : Int) + 1), .int .i64 (0), .slice B j c, .int .i64 ((j : Int) + 1), .pointer (some ⟨w5.heap.size, 0, none⟩), .int .i64 (L1), .int .i64 (0), u 9, u 11, u 12, .slice A0 l0.length c0, .bool (false), .tuple #[stV lo hi now i o, .int .i64 level], .slice A0 l0.length c0, .tuple #[stV lo hi now i o, .int .i64 level], stV lo hi now i o, .int .i64 (level), .tuple #[.int .i64 ((j : Int) + 1), .int .i64 0], .agg #[.int .i64 (lo), .int .i64 (hi), .int .i64 (now), .int .i64 (i), .int .i64 (o)], .int .i64 (level), .tuple #[.int .i64 ((j : Int) + 1), .int .i64 0], .int .i64 ((j : Int) + 1), .int .i64 (0), .tuple #[.int .i64 ((j : Int) + 1), .int .i64 0], .agg #[.int .i64 (lo), .int .i64 (hi), .int .i64 (now), .int .i64 (i), .int .i64 (o)], .int .i64 (level), .tuple #[.int .i64 ((j : Int) + 1), .int .i64 0], .int .i64 ((j : Int) + 1), .int .i64 (0), .int .i64 (0), .int .i64 (0), .bool (false), .bool (false), .int .i64 ((j : Int) + 1), .int .i64 ((j : Int) + 1), .bool (false), .bool (false), .int .i64 (0), .bool (false), .bool (false), .int .i64 ((j : Int) + 1), .bool (decide ((j : Int) + 1 < 1)), .bool (decide ((j : Int) + 1 < 1)), .bool (decide ((j : Int) + 1 < 1)), .int .i64 ((j : Int) + 1), .bool (decide (48 < (j : Int) + 1)), .bool (decide ((j : Int) + 1 < 1) || decide (48 < (j : Int) + 1)), .slice (some ⟨w3.heap.size, 0, none⟩) 0 0, .int .i64 ((j : Int) + 1), .int .i64 ((j : Int) + 1), .bool (false), u58, u59, u60, u61, u62, folV ⟨lo, hi, X, i, o, L1, 0⟩, .agg #[.int .i64 (lo), .int .i64 (hi), .int .i64 (now), .int .i64 (i), .int .i64 (o)], .slice B j c, folV ⟨lo, hi, X, i, o, L1, 0⟩, stV lo hi X i o, .int .i64 (L1), .int .i64 (0), u 5, u 0, u 1, u 2, u 3, u 4, u 6, u 7, u 8, undef, undef, undef, undef, undef, undef, undef, undef, undef, undef, undef, undef, undef, undef, undef, undef, undef, undef], []⟩) (fun ρ q => ([.agg #[.int .i64 (lo), .int .i64 (hi), .int .i64 (now), .int .i64 (i), .int .i64 (o)], .slice B j c, .slice (some ⟨ρ.1, 0, none⟩) 1 1, ρ.2.1, folV ⟨lo, hi, Y, i, o, L2, 0⟩, folV ⟨lo, hi, Y, i, o, L2, 0⟩, stV lo hi Y i o, .int .i64 (L2), .int .i64 (0), .pointer (some ⟨ρ.2.2, 0, none⟩), undef, .int .i64 (L2), .int .i64 (0)] : List Value).getD q undef) (WG w3.heap.size w5.heap.size [.int .i64 (lo), .int .i64 (hi), .int .i64 (X), .int .i64 (i), .int .i64 (o)] (.slice B j c) j ((List.replicate j (30000 : Int)).map iV) [.int .i64 (lo), .int .i64 (hi), .int .i64 (Y), .int .i64 (i), .int .i64 (o)] w6) (by kernel_rfl) (by kernel_rfl) (fun _ => undef) rfl (0, undef, 0) (WG.start (Below.drew (Below.refl _ _)) (HX11.out.below (Below.drew (Below.refl w6.heap.size _)) (by omega)) HOW6.out.drew) ?_ ?_
        · intro ii hii L ρ u wx hl hp hc hu hW
          have hii : ii < 13 := hii
          have hbl := hW.bl
          have hzx := hbl.size
          have hzb : w3.heap.size ≤ wx.heap.size := by omega
          have hii : ii = 0 ∨ ii = 1 ∨ ii = 2 ∨ ii = 3 ∨ ii = 4 ∨ ii = 5 ∨ ii = 6 ∨ ii = 7 ∨ ii = 8 ∨ ii = 9 ∨ ii = 10 ∨ ii = 11 ∨ ii = 12 := by omega
          rcases hii with rfl | rfl | rfl | rfl | rfl | rfl | rfl | rfl | rfl | rfl | rfl | rfl | rfl
          · have hb1 := HB1.out.below hbl (by omega)
            have yy0 := hb1.cell 0 rfl
            have yy1 := hb1.cell 1 rfl
            have yy2 := hb1.cell 2 rfl
            have yy3 := hb1.cell 3 rfl
            have yy4 := hb1.cell 4 rfl
            refine wpOp_go (E := True) rfl rfl (fun K' hK => ?_)
            go_simp
            refine hK.out _ _ ⟨ρ, (by simp only [put]; rfl), fun _ _ => rfl, hW.pure (by omega) (by omega) (by omega) (by omega)⟩
          · refine wpOp_go (E := True) rfl rfl (fun K' hK => ?_)
            go_simp
            refine hK.out _ _ ⟨ρ, (by simp only [put]; rfl), fun _ _ => rfl, hW.pure (by omega) (by omega) (by omega) (by omega)⟩
          · refine wpOp_go (E := True) rfl rfl (fun K' hK => ?_)
            go_simp
            refine hK.out _ _ ⟨(wx.heap.size, ρ.2.1, ρ.2.2), (by simp only [put]; rfl), fun q hj => by
                  match q, hj with
                  | 0, _ => rfl
                  | 1, _ => rfl
                  | 2, hj => rw [hl] at hj; cases hj
                  | 3, _ => rfl
                  | 4, _ => rfl
                  | 5, _ => rfl
                  | 6, _ => rfl
                  | 7, _ => rfl
                  | 8, _ => rfl
                  | 9, _ => rfl
                  | 10, _ => rfl
                  | 11, _ => rfl
                  | 12, _ => rfl
                  | _ + 13, _ => rfl, hW.made hzb (by (repeat' (first | (with_reducible exact Below.refl _ _) | (with_reducible assumption) | (with_reducible refine Below.alloc ?_ ?_ _) | (with_reducible refine Below.drew ?_) | (with_reducible refine Below.drewN' ?_ _) | (with_reducible refine Below.setCell ?_ ?_ _) | (refine Below.via ?_ (by with_reducible assumption) ?_) | (with_reducible refine Below.via ?_ (Wd.h _) ?_) | go_size))) (bx1 (by simp) (by simp) (by simp))⟩
          · have e1 : u 1 = .slice B j c := hu 1 (all_of hp (by kernel_rfl))
            have e2 : u 2 = .slice (some ⟨ρ.1, 0, none⟩) 1 1 := hu 2 (all_of hp (by kernel_rfl))
            have n4 : L 4 = false := no_later hc hl (by kernel_rfl)
            have n10 : L 10 = false := no_later hc n4 (by kernel_rfl)
            refine wpOp_go (E := True) rfl rfl (fun K' hK => ?_)
            refine step_of rfl (app1x _ (.tmp 72) (.tmp 73) 34 rfl w3.heap.size info_i64 Try.underlying34 rfl (by omega) (by omega) (.slice B j c) j _ e1 (hW.own hl) ρ.1 1 1 [iV 30000] e2 rfl (fun jj u hu => (hW.lit hl (all_of hp (by kernel_rfl))).2.cell jj hu) (by simp [Value.oneCell']) (by omega) (by omega) hzb ?_)
            intro v' w' hO' hb' hf'
            refine hK.out _ _ ⟨(ρ.1, v', ρ.2.2), (by simp only [put]; rfl), fun q hj => by
                  match q, hj with
                  | 0, _ => rfl
                  | 1, _ => rfl
                  | 2, _ => rfl
                  | 3, hj => rw [hl] at hj; cases hj
                  | 4, _ => rfl
                  | 5, _ => rfl
                  | 6, _ => rfl
                  | 7, _ => rfl
                  | 8, _ => rfl
                  | 9, _ => rfl
                  | 10, _ => rfl
                  | 11, _ => rfl
                  | 12, _ => rfl
                  | _ + 13, _ => rfl, hW.app n10 hz63 HOW6.out HNE.out hO' hb' hf'⟩
          · have e0 : u 0 = .agg #[.int .i64 (lo), .int .i64 (hi), .int .i64 (now), .int .i64 (i), .int .i64 (o)] := hu 0 (all_of hp (by kernel_rfl))
            have e3 : u 3 = ρ.2.1 := hu 3 (all_of hp (by kernel_rfl))
            have n10 : L 10 = false := no_later hc hl (by kernel_rfl)
            obtain ⟨B2, c2', hv, _, hRd2, _⟩ := (hW.own2 n10 (all_of hp (by kernel_rfl))).val
            rw [rep_snoc] at hRd2
            rw [hv] at e3
            refine wpOp_go (E := True) rfl rfl (fun K' hK => ?_)
            go_simp
            go_at_call 16
            refine (impl_FollowPlanN lo hi now i o B2 c2' (j + 1) (List.replicate (j + 1) 30000) _ hRd2 (by simp; omega) (by simp)).mono ?_
            rintro e' w7 ⟨rfl, hb7⟩
            rw [HR2.out]
            refine hK.out _ _ ⟨ρ, (by simp only [put, e0, e3]; rfl), fun _ _ => rfl, (hW.below hzb hb7).pure (by omega) (by omega) (by omega) (by omega)⟩
          · have e4 : u 4 = folV ⟨lo, hi, Y, i, o, L2, 0⟩ := hu 4 (all_of hp (by kernel_rfl))
            refine wpOp_go (E := True) rfl rfl (fun K' hK => ?_)
            go_simp
            refine hK.out _ _ ⟨ρ, (by simp only [put, e4]; rfl), fun _ _ => rfl, hW.pure (by omega) (by omega) (by omega) (by omega)⟩
          · have e5 : u 5 = folV ⟨lo, hi, Y, i, o, L2, 0⟩ := hu 5 (all_of hp (by kernel_rfl))
            refine wpOp_go (E := True) rfl rfl (fun K' hK => ?_)
            go_simp
            refine hK.out _ _ ⟨ρ, (by simp only [put, e5]; rfl), fun _ _ => rfl, hW.pure (by omega) (by omega) (by omega) (by omega)⟩
          · have e5 : u 5 = folV ⟨lo, hi, Y, i, o, L2, 0⟩ := hu 5 (all_of hp (by kernel_rfl))
            refine wpOp_go (E := True) rfl rfl (fun K' hK => ?_)
            go_simp
            refine hK.out _ _ ⟨ρ, (by simp only [put, e5]; rfl), fun _ _ => rfl, hW.pure (by omega) (by omega) (by omega) (by omega)⟩
          · have e5 : u 5 = folV ⟨lo, hi, Y, i, o, L2, 0⟩ := hu 5 (all_of hp (by kernel_rfl))
            refine wpOp_go (E := True) rfl rfl (fun K' hK => ?_)
            go_simp
            refine hK.out _ _ ⟨ρ, (by simp only [put, e5]; rfl), fun _ _ => rfl, hW.pure (by omega) (by omega) (by omega) (by omega)⟩
          · have n10 : L 10 = false := no_later hc hl (by kernel_rfl)
            refine wpOp_go (E := True) rfl rfl (fun K' hK => ?_)
            go_simp
            refine hK.out _ _ ⟨(ρ.1, ρ.2.1, wx.heap.size), (by simp only [put]; rfl), fun q hj => by
                  match q, hj with
                  | 0, _ => rfl
                  | 1, _ => rfl
                  | 2, _ => rfl
                  | 3, _ => rfl
                  | 4, _ => rfl
                  | 5, _ => rfl
                  | 6, _ => rfl
                  | 7, _ => rfl
                  | 8, _ => rfl
                  | 9, hj => rw [hl] at hj; cases hj
                  | 10, _ => rfl
                  | 11, _ => rfl
                  | 12, _ => rfl
                  | _ + 13, _ => rfl, hW.boxed (y0 := .int .i64 0) (y1 := .int .i64 0) (y2 := .int .i64 0) (y3 := .int .i64 0) (y4 := .int .i64 0) hzb n10 (by (repeat' (first | (with_reducible exact Below.refl _ _) | (with_reducible assumption) | (with_reducible refine Below.alloc ?_ ?_ _) | (with_reducible refine Below.drew ?_) | (with_reducible refine Below.drewN' ?_ _) | (with_reducible refine Below.setCell ?_ ?_ _) | (refine Below.via ?_ (by with_reducible assumption) ?_) | (with_reducible refine Below.via ?_ (Wd.h _) ?_) | go_size))) (bx5 (by simp) (by simp) (by simp) (by simp) (by simp) (by simp) (by simp) (by simp) (by simp) (by simp) (by simp))⟩
          · have e9 : u 9 = .pointer (some ⟨ρ.2.2, 0, none⟩) := hu 9 (all_of hp (by kernel_rfl))
            have e6 : u 6 = stV lo hi Y i o := hu 6 (all_of hp (by kernel_rfl))
            have h9 : L 9 = true := all_of hp (by kernel_rfl)
            obtain ⟨hg2, y0, y1, y2, y3, y4, hby⟩ := hW.box h9
            have hyX := hby.lt
            have xx0 := hby.cell 0 rfl
            have xf0 := hby.frozen 0 rfl
            have xx1 := hby.cell 1 rfl
            have xf1 := hby.frozen 1 rfl
            have xx2 := hby.cell 2 rfl
            have xf2 := hby.frozen 2 rfl
            have xx3 := hby.cell 3 rfl
            have xf3 := hby.frozen 3 rfl
            have xx4 := hby.cell 4 rfl
            have xf4 := hby.frozen 4 rfl
            refine wpOp_go (E := True) rfl rfl (fun K' hK => ?_)
            go_simp
            refine hK.out _ _ ⟨ρ, (by simp only [put, e9, e6]; rfl), fun _ _ => rfl, hW.store h9 (all_of (hc 4 (all_of hp (by kernel_rfl))) (by kernel_rfl)) (by omega) hz63 ((((((Keep.refl _ _).one _).one _).one _).one _).one _) rfl (bx5 (by simp; omega) (by simp [go_sem, xx0, xx1, xx2, xx3, xx4]) (by simp [go_sem, xf0]) (by simp [go_sem, xx0, xx1, xx2, xx3, xx4]) (by simp [go_sem, xf1]) (by simp [go_sem, xx0, xx1, xx2, xx3, xx4]) (by simp [go_sem, xf2]) (by simp [go_sem, xx0, xx1, xx2, xx3, xx4]) (by simp [go_sem, xf3]) (by simp [go_sem, xx0, xx1, xx2, xx3, xx4]) (by simp [go_sem, xf4]))⟩
          · have e7 : u 7 = .int .i64 (L2) := hu 7 (all_of hp (by kernel_rfl))
            refine wpOp_go (E := True) rfl rfl (fun K' hK => ?_)
            go_simp
            refine hK.out _ _ ⟨ρ, (by simp only [put, e7]; rfl), fun _ _ => rfl, hW.pure (by omega) (by omega) (by omega) (by omega)⟩
          · have e8 : u 8 = .int .i64 (0) := hu 8 (all_of hp (by kernel_rfl))
            refine wpOp_go (E := True) rfl rfl (fun K' hK => ?_)
            go_simp
            refine hK.out _ _ ⟨ρ, (by simp only [put, e8]; rfl), fun _ _ => rfl, hW.pure (by omega) (by omega) (by omega) (by omega)⟩
        · intro L ρ u wx hall hu hW
          have hbx := hW.b11
          have hby := hW.box2 (hall 10 (by show 10 < 13; omega))
          have e9 : u 9 = .pointer (some ⟨ρ.2.2, 0, none⟩) := hu 9 (by show 9 < 13; omega)
          have e12 : u 12 = .int .i64 (0) := hu 12 (by show 12 < 13; omega)
          have hB8 : Below w.heap.size w wx := HB6.out.trans (hW.bl.mono (by omega))
          have x2 := hbx.cell 2 rfl
          have x3 := hby.cell 2 rfl
          clear hW hall hu hbx hby HI HFR HBX HB3 hbH HOW HBR HRd HOW5 HB5 HNE HB1 HX11 HOW6 HB6
          have d1 : decide (X < level) = true := by simpa using hX
          have d2 : decide (level ≤ Y) = true := by simpa using hY
          go_wp2
          go_ret
          exact ⟨rfl, hB8⟩
  · have b1 : (bad != 0) = true := by simp [e0]
    go_wp2
    go_ret
    exact ⟨rfl, by (repeat' (first | (with_reducible exact Below.refl _ _) | (with_reducible assumption) | (with_reducible refine Below.alloc ?_ ?_ _) | (with_reducible refine Below.drew ?_) | (with_reducible refine Below.drewN' ?_ _) | (with_reducible refine Below.setCell ?_ ?_ _) | (refine Below.via ?_ (by with_reducible assumption) ?_) | (with_reducible refine Below.via ?_ (Wd.h _) ?_) | go_size))⟩
end Go.Proofs.Ytioboahhiklolaa

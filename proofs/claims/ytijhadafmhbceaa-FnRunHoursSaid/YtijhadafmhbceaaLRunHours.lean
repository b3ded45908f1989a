/- The walk of the law FnRunHours: for all bytes it returns true and writes nothing that was there. -/
import Derived.Test.YtijhadafmhbceaaMxR2
import Derived.Test.YtijhadafmhbceaaMxR3
import Derived.Test.YtijhadafmhbceaaMxR4
import Derived.Test.YtijhadafmhbceaaMxR5
namespace Go.Proofs.Ytijhadafmhbceaa
set_option linter.unusedVariables false
set_option linter.unusedSimpArgs false
open Go.RowKit
theorem laws_bigR (A : Option Addr) (n c : Nat) (w : World) : Calls Try.prog 5 #[.slice A n c] w fun e w' => e = .returned (.bool (decide (4096 < n))) ∧ w = w' := by
  go_enter Try.func5, Try.ntmps5
  go_wp2
  go_ret
  refine ⟨rb ?_, rfl⟩
  simp; omega
theorem BufW.seeR {base : Nat} {w : World} {A1 A2 A3 : Option Addr} {l1 l2 l3 : List Int} (h : BufW base w A1 A2 A3 l1 l2 l3) (s1 : l1.length ≤ 1048576) (s2 : l2.length ≤ 1048576) (s3 : l3.length ≤ 1048576) : BufAt w A1 A2 A3 l1 l2 l3 :=
  ⟨h.r1.rd, h.r2.rd, h.r3.rd, s1, s2, s3⟩
set_option maxRecDepth 100000 in
set_option maxHeartbeats 20000000 in
theorem walk_FnRunHours (w : World) (A0 : Option Addr) (c0 : Nat) (l0 : List Int) (h0 : BytesIn w A0 l0) :
    Calls Try.prog 3 #[.slice A0 l0.length c0] w fun e w' => e = .returned (.bool true) ∧ Below w.heap.size w w' := by
  have HI := Lib.hid h0
  clear h0
  by_cases hbig : 4096 < l0.length
  · have b0 : decide (4096 < l0.length) = true := by simpa using hbig
    go_enter Try.func3, Try.ntmps3
    go_wp2_with ((go_at_call 5; refine (laws_bigR _ _ _ _).mono ?_; rintro e w' ⟨rfl, rfl⟩))
    go_ret
    exact ⟨rfl, by (repeat' (first | (with_reducible exact Below.refl _ _) | (with_reducible assumption) | (with_reducible refine Below.alloc ?_ ?_ _) | (with_reducible refine Below.drew ?_) | (with_reducible refine Below.drewN' ?_ _) | (with_reducible refine Below.setCell ?_ ?_ _) | (refine Below.via ?_ (by with_reducible assumption) ?_) | (with_reducible refine Below.via ?_ (Wd.h _) ?_) | go_size))⟩
  have b0 : decide (4096 < l0.length) = false := by simpa using hbig
  go_enter Try.func3, Try.ntmps3
  go_wp2_with ((go_at_call 5; refine (laws_bigR _ _ _ _).mono ?_; rintro e w' ⟨rfl, rfl⟩))
  
  refine (spec_DrawRunHours A0 c0 l0 _ (HI.out.below (by (repeat' (first | (with_reducible exact Below.refl _ _) | (with_reducible assumption) | (with_reducible refine Below.alloc ?_ ?_ _) | (with_reducible refine Below.drew ?_) | (with_reducible refine Below.drewN' ?_ _) | (with_reducible refine Below.setCell ?_ ?_ _) | (refine Below.via ?_ (by with_reducible assumption) ?_) | (with_reducible refine Below.via ?_ (Wd.h _) ?_) | go_size)))) (by omega)).mono ?_
  rintro e w1 ⟨A, Bq, Al, Ah, An, Ha, c, d, cl, ch, cn, ce, N, ll, lh, ln, ys, rfl, hnc, hN, r1, r2, r3, ⟨l1, l2, l3⟩, rH, hat, hyl, hb1⟩
  have hz1 := hb1.size
  have HN := Lib.hid hN
  have HB := Lib.hid (show BufAt w1 Al Ah An ll lh ln from ⟨r1, r2, r3, by omega, by omega, by omega⟩)
  have HH := Lib.hid rH
  have HAT := Lib.hid hat
  obtain ⟨R, rk, code, hR⟩ : ∃ R rk code, rhR N ll lh ln (ys.map Hr.q) = (R, rk, code) := ⟨_, _, _, rfl⟩
  have hRL : R.lo.length ≤ 24 ∧ R.hi.length ≤ 24 ∧ R.nw.length ≤ 24 := by have := rhR_len N ll lh ln (ys.map Hr.q); rw [hR] at this; exact this
  have HR := Lib.hid hR
  clear hN r1 r2 r3 rH hat hR
  go_wp2_with fail
  
  refine (impl_RunHours _ _ _ _ _ _ _ _ _ _ _ _ _ _ _ _ _ N ll lh ln ys _ (HN.out.below (by (repeat' (first | (with_reducible exact Below.refl _ _) | (with_reducible assumption) | (with_reducible refine Below.alloc ?_ ?_ _) | (with_reducible refine Below.drew ?_) | (with_reducible refine Below.drewN' ?_ _) | (with_reducible refine Below.setCell ?_ ?_ _) | (refine Below.via ?_ (by with_reducible assumption) ?_) | (with_reducible refine Below.via ?_ (Wd.h _) ?_) | go_size)))) rfl rfl hnc (HB.out.below (by (repeat' (first | (with_reducible exact Below.refl _ _) | (with_reducible assumption) | (with_reducible refine Below.alloc ?_ ?_ _) | (with_reducible refine Below.drew ?_) | (with_reducible refine Below.drewN' ?_ _) | (with_reducible refine Below.setCell ?_ ?_ _) | (refine Below.via ?_ (by with_reducible assumption) ?_) | (with_reducible refine Below.via ?_ (Wd.h _) ?_) | go_size)))) rfl rfl rfl (HH.out.below (by (repeat' (first | (with_reducible exact Below.refl _ _) | (with_reducible assumption) | (with_reducible refine Below.alloc ?_ ?_ _) | (with_reducible refine Below.drew ?_) | (with_reducible refine Below.drewN' ?_ _) | (with_reducible refine Below.setCell ?_ ?_ _) | (refine Below.via ?_ (by with_reducible assumption) ?_) | (with_reducible refine Below.via ?_ (Wd.h _) ?_) | go_size)))) (fun x hx => (HAT.out x hx).below (by (repeat' (first | (with_reducible exact Below.refl _ _) | (with_reducible assumption) | (with_reducible refine Below.alloc ?_ ?_ _) | (with_reducible refine Below.drew ?_) | (with_reducible refine Below.drewN' ?_ _) | (with_reducible refine Below.setCell ?_ ?_ _) | (refine Below.via ?_ (by with_reducible assumption) ?_) | (with_reducible refine Below.via ?_ (Wd.h _) ?_) | go_size)))) (by omega)).mono ?_
  rw [HR.out]
  rintro e w2 ⟨G1, G2, G3, k1, k2, k3, rfl, hW2, hb2⟩
  have HG := Lib.hid (show BufAt w2 G1 G2 G3 R.lo R.hi R.nw from BufW.seeR (l1 := R.lo) (l2 := R.hi) (l3 := R.nw) hW2 (by omega) (by omega) (by omega))
  clear hW2
  (obtain ⟨hcn, hfn⟩ := bcell hb2; have hz2 := hb2.size; (try simp at hz2); have Na_0 := hcn (w1.heap.size) (0) (by first | omega | (simp; done) | (simp; omega)); have Na_0f := hfn (w1.heap.size) (0) (by first | omega | (simp; done) | (simp; omega)); have Nhy_a : w1.heap.size < w2.heap.size := (by omega); have Na_1 := hcn (w1.heap.size) (1) (by first | omega | (simp; done) | (simp; omega)); have Na_1f := hfn (w1.heap.size) (1) (by first | omega | (simp; done) | (simp; omega)); have Nb_0 := hcn (w1.heap.size + 1) (0) (by first | omega | (simp; done) | (simp; omega)); have Nb_0f := hfn (w1.heap.size + 1) (0) (by first | omega | (simp; done) | (simp; omega)); have Nhy_b : w1.heap.size + 1 < w2.heap.size := (by omega); have Nb_1 := hcn (w1.heap.size + 1) (1) (by first | omega | (simp; done) | (simp; omega)); have Nb_1f := hfn (w1.heap.size + 1) (1) (by first | omega | (simp; done) | (simp; omega)); have Nb_2 := hcn (w1.heap.size + 1) (2) (by first | omega | (simp; done) | (simp; omega)); have Nb_2f := hfn (w1.heap.size + 1) (2) (by first | omega | (simp; done) | (simp; omega)); simp [go_sem] at Na_0 Na_0f Na_1 Na_1f Nb_0 Nb_0f Nb_1 Nb_1f Nb_2 Nb_2f; clear hcn hfn; have a_0 := Na_0; have a_0f := Na_0f; have a_1 := Na_1; have a_1f := Na_1f; have b_0 := Nb_0; have b_0f := Nb_0f; have b_1 := Nb_1; have b_1f := Nb_1f; have b_2 := Nb_2; have b_2f := Nb_2f; have hy_a := Nhy_a; have hy_b := Nhy_b; clear Na_0 Na_0f Na_1 Na_1f Nb_0 Nb_0f Nb_1 Nb_1f Nb_2 Nb_2f Nhy_a Nhy_b)
  go_wp2_with fail
  
  refine (spec_RunHours _ _ _ _ _ _ _ _ _ _ _ _ _ _ _ _ _ N ll lh ln ys _ (HN.out.below (by (repeat' (first | (with_reducible exact Below.refl _ _) | (with_reducible assumption) | (with_reducible refine Below.alloc ?_ ?_ _) | (with_reducible refine Below.drew ?_) | (with_reducible refine Below.drewN' ?_ _) | (with_reducible refine Below.setCell ?_ ?_ _) | (refine Below.via ?_ (by with_reducible assumption) ?_) | (with_reducible refine Below.via ?_ (Wd.h _) ?_) | go_size)))) rfl rfl (HB.out.below (by (repeat' (first | (with_reducible exact Below.refl _ _) | (with_reducible assumption) | (with_reducible refine Below.alloc ?_ ?_ _) | (with_reducible refine Below.drew ?_) | (with_reducible refine Below.drewN' ?_ _) | (with_reducible refine Below.setCell ?_ ?_ _) | (refine Below.via ?_ (by with_reducible assumption) ?_) | (with_reducible refine Below.via ?_ (Wd.h _) ?_) | go_size)))) rfl rfl rfl (HH.out.below (by (repeat' (first | (with_reducible exact Below.refl _ _) | (with_reducible assumption) | (with_reducible refine Below.alloc ?_ ?_ _) | (with_reducible refine Below.drew ?_) | (with_reducible refine Below.drewN' ?_ _) | (with_reducible refine Below.setCell ?_ ?_ _) | (refine Below.via ?_ (by with_reducible assumption) ?_) | (with_reducible refine Below.via ?_ (Wd.h _) ?_) | go_size)))) (fun x hx => (HAT.out x hx).below (by (repeat' (first | (with_reducible exact Below.refl _ _) | (with_reducible assumption) | (with_reducible refine Below.alloc ?_ ?_ _) | (with_reducible refine Below.drew ?_) | (with_reducible refine Below.drewN' ?_ _) | (with_reducible refine Below.setCell ?_ ?_ _) | (refine Below.via ?_ (by with_reducible assumption) ?_) | (with_reducible refine Below.via ?_ (Wd.h _) ?_) | go_size)))) (by omega)).mono ?_
  rw [HR.out]
  rintro e w3 ⟨E1, E2, E3, j1, j2, j3, rfl, hW3, hb3⟩
  have HE := Lib.hid (show BufAt w3 E1 E2 E3 R.lo R.hi R.nw from BufW.seeR (l1 := R.lo) (l2 := R.hi) (l3 := R.nw) hW3 (by omega) (by omega) (by omega))
  clear hW3
  (obtain ⟨hcn, hfn⟩ := bcell hb3; have hz3 := hb3.size; (try simp at hz3); have Na_0 := hcn (w1.heap.size) (0) (by first | omega | (simp; done) | (simp; omega)); have Na_0f := hfn (w1.heap.size) (0) (by first | omega | (simp; done) | (simp; omega)); have Nhy_a : w1.heap.size < w3.heap.size := (by omega); have Na_1 := hcn (w1.heap.size) (1) (by first | omega | (simp; done) | (simp; omega)); have Na_1f := hfn (w1.heap.size) (1) (by first | omega | (simp; done) | (simp; omega)); have Nb_0 := hcn (w1.heap.size + 1) (0) (by first | omega | (simp; done) | (simp; omega)); have Nb_0f := hfn (w1.heap.size + 1) (0) (by first | omega | (simp; done) | (simp; omega)); have Nhy_b : w1.heap.size + 1 < w3.heap.size := (by omega); have Nb_1 := hcn (w1.heap.size + 1) (1) (by first | omega | (simp; done) | (simp; omega)); have Nb_1f := hfn (w1.heap.size + 1) (1) (by first | omega | (simp; done) | (simp; omega)); have Nb_2 := hcn (w1.heap.size + 1) (2) (by first | omega | (simp; done) | (simp; omega)); have Nb_2f := hfn (w1.heap.size + 1) (2) (by first | omega | (simp; done) | (simp; omega)); have Ng_0 := hcn (w2.heap.size) (0) (by first | omega | (simp; done) | (simp; omega)); have Ng_0f := hfn (w2.heap.size) (0) (by first | omega | (simp; done) | (simp; omega)); have Nhy_g : w2.heap.size < w3.heap.size := (by omega); have Ng_1 := hcn (w2.heap.size) (1) (by first | omega | (simp; done) | (simp; omega)); have Ng_1f := hfn (w2.heap.size) (1) (by first | omega | (simp; done) | (simp; omega)); have Ng_2 := hcn (w2.heap.size) (2) (by first | omega | (simp; done) | (simp; omega)); have Ng_2f := hfn (w2.heap.size) (2) (by first | omega | (simp; done) | (simp; omega)); simp [go_sem, a_0, a_0f, a_1, a_1f, b_0, b_0f, b_1, b_1f, b_2, b_2f, hy_a, hy_b] at Na_0 Na_0f Na_1 Na_1f Nb_0 Nb_0f Nb_1 Nb_1f Nb_2 Nb_2f Ng_0 Ng_0f Ng_1 Ng_1f Ng_2 Ng_2f; clear a_0 a_0f a_1 a_1f b_0 b_0f b_1 b_1f b_2 b_2f hy_a hy_b; clear hcn hfn; have a_0 := Na_0; have a_0f := Na_0f; have a_1 := Na_1; have a_1f := Na_1f; have b_0 := Nb_0; have b_0f := Nb_0f; have b_1 := Nb_1; have b_1f := Nb_1f; have b_2 := Nb_2; have b_2f := Nb_2f; have g_0 := Ng_0; have g_0f := Ng_0f; have g_1 := Ng_1; have g_1f := Ng_1f; have g_2 := Ng_2; have g_2f := Ng_2f; have hy_a := Nhy_a; have hy_b := Nhy_b; have hy_g := Nhy_g; clear Na_0 Na_0f Na_1 Na_1f Nb_0 Nb_0f Nb_1 Nb_1f Nb_2 Nb_2f Ng_0 Ng_0f Ng_1 Ng_1f Ng_2 Ng_2f Nhy_a Nhy_b Nhy_g)
  go_wp2_with fail
  
  refine (laws_likeInts G3 E3 k3 j3 _ _ R.nw _ (HG.out.r3.below (by (repeat' (first | (with_reducible exact Below.refl _ _) | (with_reducible assumption) | (with_reducible refine Below.alloc ?_ ?_ _) | (with_reducible refine Below.drew ?_) | (with_reducible refine Below.drewN' ?_ _) | (with_reducible refine Below.setCell ?_ ?_ _) | (refine Below.via ?_ (by with_reducible assumption) ?_) | (with_reducible refine Below.via ?_ (Wd.h _) ?_) | go_size)))) (HE.out.r3.below (by (repeat' (first | (with_reducible exact Below.refl _ _) | (with_reducible assumption) | (with_reducible refine Below.alloc ?_ ?_ _) | (with_reducible refine Below.drew ?_) | (with_reducible refine Below.drewN' ?_ _) | (with_reducible refine Below.setCell ?_ ?_ _) | (refine Below.via ?_ (by with_reducible assumption) ?_) | (with_reducible refine Below.via ?_ (Wd.h _) ?_) | go_size)))) rfl rfl (by omega)).mono ?_
  rintro e w4 ⟨rfl, hb4⟩
  (obtain ⟨hcn, hfn⟩ := bcell hb4; have hz4 := hb4.size; (try simp at hz4); have Na_0 := hcn (w1.heap.size) (0) (by first | omega | (simp; done) | (simp; omega)); have Na_0f := hfn (w1.heap.size) (0) (by first | omega | (simp; done) | (simp; omega)); have Nhy_a : w1.heap.size < w4.heap.size := (by omega); have Na_1 := hcn (w1.heap.size) (1) (by first | omega | (simp; done) | (simp; omega)); have Na_1f := hfn (w1.heap.size) (1) (by first | omega | (simp; done) | (simp; omega)); have Nb_0 := hcn (w1.heap.size + 1) (0) (by first | omega | (simp; done) | (simp; omega)); have Nb_0f := hfn (w1.heap.size + 1) (0) (by first | omega | (simp; done) | (simp; omega)); have Nhy_b : w1.heap.size + 1 < w4.heap.size := (by omega); have Nb_1 := hcn (w1.heap.size + 1) (1) (by first | omega | (simp; done) | (simp; omega)); have Nb_1f := hfn (w1.heap.size + 1) (1) (by first | omega | (simp; done) | (simp; omega)); have Nb_2 := hcn (w1.heap.size + 1) (2) (by first | omega | (simp; done) | (simp; omega)); have Nb_2f := hfn (w1.heap.size + 1) (2) (by first | omega | (simp; done) | (simp; omega)); have Ng_0 := hcn (w2.heap.size) (0) (by first | omega | (simp; done) | (simp; omega)); have Ng_0f := hfn (w2.heap.size) (0) (by first | omega | (simp; done) | (simp; omega)); have Nhy_g : w2.heap.size < w4.heap.size := (by omega); have Ng_1 := hcn (w2.heap.size) (1) (by first | omega | (simp; done) | (simp; omega)); have Ng_1f := hfn (w2.heap.size) (1) (by first | omega | (simp; done) | (simp; omega)); have Ng_2 := hcn (w2.heap.size) (2) (by first | omega | (simp; done) | (simp; omega)); have Ng_2f := hfn (w2.heap.size) (2) (by first | omega | (simp; done) | (simp; omega)); have Nf_0 := hcn (w3.heap.size) (0) (by first | omega | (simp; done) | (simp; omega)); have Nf_0f := hfn (w3.heap.size) (0) (by first | omega | (simp; done) | (simp; omega)); have Nhy_f : w3.heap.size < w4.heap.size := (by omega); have Nf_1 := hcn (w3.heap.size) (1) (by first | omega | (simp; done) | (simp; omega)); have Nf_1f := hfn (w3.heap.size) (1) (by first | omega | (simp; done) | (simp; omega)); have Nf_2 := hcn (w3.heap.size) (2) (by first | omega | (simp; done) | (simp; omega)); have Nf_2f := hfn (w3.heap.size) (2) (by first | omega | (simp; done) | (simp; omega)); simp [go_sem, a_0, a_0f, a_1, a_1f, b_0, b_0f, b_1, b_1f, b_2, b_2f, g_0, g_0f, g_1, g_1f, g_2, g_2f, hy_a, hy_b, hy_g] at Na_0 Na_0f Na_1 Na_1f Nb_0 Nb_0f Nb_1 Nb_1f Nb_2 Nb_2f Ng_0 Ng_0f Ng_1 Ng_1f Ng_2 Ng_2f Nf_0 Nf_0f Nf_1 Nf_1f Nf_2 Nf_2f; clear a_0 a_0f a_1 a_1f b_0 b_0f b_1 b_1f b_2 b_2f g_0 g_0f g_1 g_1f g_2 g_2f hy_a hy_b hy_g; clear hcn hfn; have a_0 := Na_0; have a_0f := Na_0f; have a_1 := Na_1; have a_1f := Na_1f; have b_0 := Nb_0; have b_0f := Nb_0f; have b_1 := Nb_1; have b_1f := Nb_1f; have b_2 := Nb_2; have b_2f := Nb_2f; have g_0 := Ng_0; have g_0f := Ng_0f; have g_1 := Ng_1; have g_1f := Ng_1f; have g_2 := Ng_2; have g_2f := Ng_2f; have f_0 := Nf_0; have f_0f := Nf_0f; have f_1 := Nf_1; have f_1f := Nf_1f; have f_2 := Nf_2; have f_2f := Nf_2f; have hy_a := Nhy_a; have hy_b := Nhy_b; have hy_g := Nhy_g; have hy_f := Nhy_f; clear Na_0 Na_0f Na_1 Na_1f Nb_0 Nb_0f Nb_1 Nb_1f Nb_2 Nb_2f Ng_0 Ng_0f Ng_1 Ng_1f Ng_2 Ng_2f Nf_0 Nf_0f Nf_1 Nf_1f Nf_2 Nf_2f Nhy_a Nhy_b Nhy_g Nhy_f)
  by_cases e0 : code = 0
  case neg =>
    have b1 : (code != 0) = true := by simp [e0]
    go_wp2
    go_ret
    exact ⟨rfl, by (repeat' (first | (with_reducible exact Below.refl _ _) | (with_reducible assumption) | (with_reducible refine Below.alloc ?_ ?_ _) | (with_reducible refine Below.drew ?_) | (with_reducible refine Below.drewN' ?_ _) | (with_reducible refine Below.setCell ?_ ?_ _) | (refine Below.via ?_ (by with_reducible assumption) ?_) | (with_reducible refine Below.via ?_ (Wd.h _) ?_) | go_size))⟩
  subst e0
  obtain ⟨m, rfl, hI0, hO, hq, hl48, hml⟩ := rl_start HR.out
  have HI0 := Lib.hid hI0
  have HO := Lib.hid hO
  have HQ := Lib.hid hq
  have hml : m ≤ ys.length := by simpa using hml
  have HBW := Lib.hid (show Below w.heap.size w w4 by (repeat' (first | (with_reducible exact Below.refl _ _) | (with_reducible assumption) | (with_reducible refine Below.alloc ?_ ?_ _) | (with_reducible refine Below.drew ?_) | (with_reducible refine Below.drewN' ?_ _) | (with_reducible refine Below.setCell ?_ ?_ _) | (refine Below.via ?_ (by with_reducible assumption) ?_) | (with_reducible refine Below.via ?_ (Wd.h _) ?_) | go_size)))
  have HN4 := Lib.hid (HN.out.below (show Below w1.heap.size w1 w4 by (repeat' (first | (with_reducible exact Below.refl _ _) | (with_reducible assumption) | (with_reducible refine Below.alloc ?_ ?_ _) | (with_reducible refine Below.drew ?_) | (with_reducible refine Below.drewN' ?_ _) | (with_reducible refine Below.setCell ?_ ?_ _) | (refine Below.via ?_ (by with_reducible assumption) ?_) | (with_reducible refine Below.via ?_ (Wd.h _) ?_) | go_size))))
  have HB4 := Lib.hid (HB.out.below (show Below w1.heap.size w1 w4 by (repeat' (first | (with_reducible exact Below.refl _ _) | (with_reducible assumption) | (with_reducible refine Below.alloc ?_ ?_ _) | (with_reducible refine Below.drew ?_) | (with_reducible refine Below.drewN' ?_ _) | (with_reducible refine Below.setCell ?_ ?_ _) | (refine Below.via ?_ (by with_reducible assumption) ?_) | (with_reducible refine Below.via ?_ (Wd.h _) ?_) | go_size))))
  have HH4 := Lib.hid (HH.out.below (show Below w1.heap.size w1 w4 by (repeat' (first | (with_reducible exact Below.refl _ _) | (with_reducible assumption) | (with_reducible refine Below.alloc ?_ ?_ _) | (with_reducible refine Below.drew ?_) | (with_reducible refine Below.drewN' ?_ _) | (with_reducible refine Below.setCell ?_ ?_ _) | (refine Below.via ?_ (by with_reducible assumption) ?_) | (with_reducible refine Below.via ?_ (Wd.h _) ?_) | go_size))))
  have HAT4 := Lib.hid (show ∀ x ∈ ys, HrAt w4 x from fun x hx => (HAT.out x hx).below (show Below w1.heap.size w1 w4 by (repeat' (first | (with_reducible exact Below.refl _ _) | (with_reducible assumption) | (with_reducible refine Below.alloc ?_ ?_ _) | (with_reducible refine Below.drew ?_) | (with_reducible refine Below.drewN' ?_ _) | (with_reducible refine Below.setCell ?_ ?_ _) | (refine Below.via ?_ (by with_reducible assumption) ?_) | (with_reducible refine Below.via ?_ (Wd.h _) ?_) | go_size))))
  have HG4 := Lib.hid (HG.out.below (show Below w2.heap.size w2 w4 by (repeat' (first | (with_reducible exact Below.refl _ _) | (with_reducible assumption) | (with_reducible refine Below.alloc ?_ ?_ _) | (with_reducible refine Below.drew ?_) | (with_reducible refine Below.drewN' ?_ _) | (with_reducible refine Below.setCell ?_ ?_ _) | (refine Below.via ?_ (by with_reducible assumption) ?_) | (with_reducible refine Below.via ?_ (Wd.h _) ?_) | go_size))))
  have XA := Lib.hid (show Bx w4 w1.heap.size [.slice A N.nodes.length c, .slice Bq N.pipes.length d] from bx2 hy_a a_0 a_0f a_1 a_1f)
  have XG := Lib.hid (show Bx w4 w2.heap.size [.slice G1 R.lo.length k1, .slice G2 R.hi.length k2, .slice G3 R.nw.length k3] from bx3 hy_g g_0 g_0f g_1 g_1f g_2 g_2f)
  clear hI0 hO hq hy_a a_0 a_0f a_1 a_1f hy_g g_0 g_0f g_1 g_1f g_2 g_2f hy_f f_0 f_0f f_1 f_1f f_2 f_2f HN HB HH HAT HG HE hb1 hb2 hb3 hb4
  go_wp2_with fail
  clear hy_b b_0 b_0f b_1 b_1f b_2 b_2f
  generalize hW : World.alloc w4 _ = w5
  have hb5 : Below w4.heap.size w4 w5 := by rw [← hW]; (repeat' (first | (with_reducible exact Below.refl _ _) | (with_reducible assumption) | (with_reducible refine Below.alloc ?_ ?_ _) | (with_reducible refine Below.drew ?_) | (with_reducible refine Below.drewN' ?_ _) | (with_reducible refine Below.setCell ?_ ?_ _) | (refine Below.via ?_ (by with_reducible assumption) ?_) | (with_reducible refine Below.via ?_ (Wd.h _) ?_) | go_size))
  have XY := Lib.hid (show Bx w5 w4.heap.size [.slice Al ll.length cl, .slice Ah lh.length ch, .slice An ln.length cn] by rw [← hW]; exact bx3 (by go_size) (by simp [go_sem]) (by simp [go_sem]) (by simp [go_sem]) (by simp [go_sem]) (by simp [go_sem]) (by simp [go_sem]))
  have HB5 := Lib.hid hb5
  have hz5 := hb5.size
  clear hW hb5
  go_wp2_with fail
  go_loopw [13] (fun t wr => ∃ (i : Nat) (y : Bfs) (Y1 Y2 Y3 : Option Addr) (d1 d2 d3 : Nat), t = .int .i64 i ∧ RlI N (ys.map Hr.q) R m i y ∧ BufAt wr Y1 Y2 Y3 y.lo y.hi y.nw ∧ Bx wr w4.heap.size [.slice Y1 y.lo.length d1, .slice Y2 y.hi.length d2, .slice Y3 y.nw.length d3] ∧ Below w4.heap.size w4 wr) (fun t _ => m - (intOf t).toNat)
  case atStart => exact ⟨0, ⟨ll, lh, ln⟩, Al, Ah, An, cl, ch, cn, rfl, HI0.out, HB4.out.below HB5.out, XY.out, HB5.out⟩
  case round =>
    clear HI0 XY HB5 hz5
    obtain ⟨i, y, Y1, Y2, Y3, d1, d2, d3, rfl, hI, hYB, hYX, hbw⟩ := hrel
    have HI := Lib.hid hI
    have HYB := Lib.hid hYB
    have HYX := Lib.hid hYX
    have hbH := Lib.hid hbw
    have hzw := hbw.size
    have him := hI.le
    have hyx := hYX.lt
    have HNW := Lib.hid (HN4.out.below hbw)
    have XAW := Lib.hid (XA.out.below hbw XA.out.lt)
    have XGW := Lib.hid (XG.out.below hbw XG.out.lt)
    have hxa := XAW.out.lt
    have hxg := XG.out.lt
    clear hI hYB hYX
    by_cases hlt : i < m
    · have g1 : (i : Int) < m := by omega
      have hily : i < ys.length := by omega
      have g2 : (i : Int) < ys.length := by omega
      obtain ⟨x, hx⟩ := get_some hily
      have HX := Lib.hid hx
      obtain ⟨bx, offx, rfl, hbx, hatx⟩ := HH4.out.opened (k := i) (by rw [flat_len Hr.len]; omega)
      have t0 := (hatx.below hbw hbx).elem0 Hr.len hx rfl
      have t1 := (hatx.below hbw hbx).elem Hr.len hx 1 rfl
      have hybx : bx < wr.heap.size := Nat.lt_of_lt_of_le hbx hzw
      have HAX := Lib.hid ((HAT4.out x (List.mem_of_getElem? hx)).below hbw)
      obtain ⟨z, hsh, hIz⟩ := rl_step HI.out HO.out HQ.out hlt (q_at hx)
      have HSH := Lib.hid hsh
      have HIZ := Lib.hid hIz
      have hzL : z.lo.length ≤ 24 ∧ z.hi.length ≤ 24 ∧ z.nw.length ≤ 24 := by have := shQ_len N y.lo y.hi y.nw x.fl x.su; rw [hsh] at this; exact this
      clear hx hatx hsh hIz hbw
      go_wp2_with fail
      refine wp_region_tb (R := Rz) [some 67, some 68, some 69, some 70, some 71, some 72, some 73, some 66, some 74, some 75, some 14, none, some 15] _ (by intro u; simp only [frs, Act.put, List.setIfInBounds_toArray, List.set_cons_zero, List.set_cons_succ, Nat.reduceAdd]; exact rfl) (fun ρ j => ([.agg #[.slice A N.nodes.length c, .slice Bq N.pipes.length d], .agg #[.slice Y1 y.lo.length d1, .slice Y2 y.hi.length d2, .slice Y3 y.nw.length d3], .slice (some ⟨bx, offx, none⟩) ys.length ce, .int .i64 (i : Nat), .pointer (some ⟨bx, offx + i * 2, none⟩), .agg #[.slice x.A x.fl.length x.c, .slice x.B x.su.length x.d], .tuple #[.agg #[.slice (ρ.a 0) z.lo.length (ρ.c 0), .slice (ρ.a 1) z.hi.length (ρ.c 1), .slice (ρ.a 2) z.nw.length (ρ.c 2)], .int .i64 0], .tuple #[.agg #[.slice (ρ.a 0) z.lo.length (ρ.c 0), .slice (ρ.a 1) z.hi.length (ρ.c 1), .slice (ρ.a 2) z.nw.length (ρ.c 2)], .int .i64 0], .agg #[.slice (ρ.a 0) z.lo.length (ρ.c 0), .slice (ρ.a 1) z.hi.length (ρ.c 1), .slice (ρ.a 2) z.nw.length (ρ.c 2)], .int .i64 0, .pointer (some ⟨ρ.b, 0, none⟩), undef, .int .i64 0] : List Value).getD j undef) (WB wr [(6, 0, z.lo), (6, 1, z.hi), (6, 2, z.nw)] 10 11 [.slice none 0 0, .slice none 0 0, .slice none 0 0] (fun ρ => [.slice (ρ.a 0) z.lo.length (ρ.c 0), .slice (ρ.a 1) z.hi.length (ρ.c 1), .slice (ρ.a 2) z.nw.length (ρ.c 2)])) (by kernel_rfl) (by kernel_rfl) Rz.zero (WB.start (Below.drew (Below.refl _ _))) ?_ ?_
      · intro ii hii L ρ u wx hl hp hc hu hn hW
        have hii : ii < 13 := hii
        have HNo := Lib.hid hn
        clear hn
        have hii : ii = 0 ∨ ii = 1 ∨ ii = 2 ∨ ii = 3 ∨ ii = 4 ∨ ii = 5 ∨ ii = 6 ∨ ii = 7 ∨ ii = 8 ∨ ii = 9 ∨ ii = 10 ∨ ii = 11 ∨ ii = 12 := by omega
        rcases hii with rfl | rfl | rfl | rfl | rfl | rfl | rfl | rfl | rfl | rfl | rfl | rfl | rfl
        · have z0 := XAW.out.below hW.bl XAW.out.lt
          have z00 := z0.cell 0 rfl
          have z01 := z0.cell 1 rfl
          refine wpOp_go (E := True) rfl rfl (fun K' hK => ?_)
          go_simp
          refine hK.out _ _ ⟨ρ, (by simp only [put]; rfl), fun _ _ => rfl, hW.pure rfl (by omega) (by omega)⟩
        · have z1 := HYX.out.below hW.bl HYX.out.lt
          have z10 := z1.cell 0 rfl
          have z11 := z1.cell 1 rfl
          have z12 := z1.cell 2 rfl
          refine wpOp_go (E := True) rfl rfl (fun K' hK => ?_)
          go_simp
          refine hK.out _ _ ⟨ρ, (by simp only [put]; rfl), fun _ _ => rfl, hW.pure rfl (by omega) (by omega)⟩
        · refine wpOp_go (E := True) rfl rfl (fun K' hK => ?_)
          go_simp
          refine hK.out _ _ ⟨ρ, (by simp only [put]; rfl), fun _ _ => rfl, hW.pure rfl (by omega) (by omega)⟩
        · refine wpOp_go (E := True) rfl rfl (fun K' hK => ?_)
          go_simp
          refine hK.out _ _ ⟨ρ, (by simp only [put]; rfl), fun _ _ => rfl, hW.pure rfl (by omega) (by omega)⟩
        · have e2 : u 2 = .slice (some ⟨bx, offx, none⟩) ys.length ce := hu 2 (all_of hp (by kernel_rfl))
          have e3 : u 3 = .int .i64 (i : Nat) := hu 3 (all_of hp (by kernel_rfl))
          refine wpOp_go (E := True) rfl rfl (fun K' hK => ?_)
          go_simp
          refine hK.out _ _ ⟨ρ, (by simp only [put, e2, e3]; rfl), fun _ _ => rfl, hW.pure rfl (by omega) (by omega)⟩
        · have e4 : u 4 = .pointer (some ⟨bx, offx + i * 2, none⟩) := hu 4 (all_of hp (by kernel_rfl))
          have y0 := ((bcell hW.bl).1 bx (offx + i * 2) hybx).trans t0
          have y1 := ((bcell hW.bl).1 bx (offx + i * 2 + 1) hybx).trans t1
          refine wpOp_go (E := True) rfl rfl (fun K' hK => ?_)
          go_simp
          refine hK.out _ _ ⟨ρ, (by simp only [put, e4]; rfl), fun _ _ => rfl, hW.pure rfl (by omega) (by omega)⟩
        · have e0 : u 0 = .agg #[.slice A N.nodes.length c, .slice Bq N.pipes.length d] := hu 0 (all_of hp (by kernel_rfl))
          have e1 : u 1 = .agg #[.slice Y1 y.lo.length d1, .slice Y2 y.hi.length d2, .slice Y3 y.nw.length d3] := hu 1 (all_of hp (by kernel_rfl))
          have e5 : u 5 = .agg #[.slice x.A x.fl.length x.c, .slice x.B x.su.length x.d] := hu 5 (all_of hp (by kernel_rfl))
          have nks : L 11 = false := no_later hc hl (by kernel_rfl)
          refine wpOp_go (E := True) rfl rfl (fun K' hK => ?_)
          go_simp
          go_at_call 10
          refine (impl_StepHourL _ _ _ _ _ x.A x.B _ _ _ _ _ _ _ _ _ _ x.c x.d N y.lo y.hi y.nw x.fl x.su _ (HNW.out.below hW.bl) rfl rfl hnc (HYB.out.below hW.bl) rfl rfl rfl ⟨(HAX.out.below hW.bl).r1, (HAX.out.below hW.bl).r2, HAX.out.s1, HAX.out.s2⟩).mono ?_
          rw [HSH.out]
          rintro e' w5 ⟨A4, A5, A6, c4, c5, c6, rfl, hW5, hb5⟩
          refine hK.out _ _ ⟨((ρ.list 0 A4 c4).list 1 A5 c5).list 2 A6 c6, (by simp only [put, e0, e1, e5]; rfl), fun j hj => by
              have n7 : L 7 = false := no_later hc hl (by kernel_rfl)
              have n8 : L 8 = false := no_later hc n7 (by kernel_rfl)
              have n9 : L 9 = false := no_later hc n7 (by kernel_rfl)
              have n11 : L 11 = false := no_later hc n8 (by kernel_rfl)
              have n12 : L 12 = false := no_later hc n9 (by kernel_rfl)
              match j, hj with
              | 0, _ => rfl
              | 1, _ => rfl
              | 2, _ => rfl
              | 3, _ => rfl
              | 4, _ => rfl
              | 5, _ => rfl
              | 6, hj => rw [hl] at hj; cases hj
              | 7, hj => rw [n7] at hj; cases hj
              | 8, hj => rw [n8] at hj; cases hj
              | 9, hj => rw [n9] at hj; cases hj
              | 10, _ => rfl
              | 11, hj => rw [n11] at hj; cases hj
              | 12, hj => rw [n12] at hj; cases hj
              | _ + 13, _ => rfl, hW.three (by omega) (by omega) nks hb5 hW5⟩
        · have e6 : u 6 = .tuple #[.agg #[.slice (ρ.a 0) z.lo.length (ρ.c 0), .slice (ρ.a 1) z.hi.length (ρ.c 1), .slice (ρ.a 2) z.nw.length (ρ.c 2)], .int .i64 0] := hu 6 (all_of hp (by kernel_rfl))
          refine wpOp_go (E := True) rfl rfl (fun K' hK => ?_)
          go_simp
          refine hK.out _ _ ⟨ρ, (by simp only [put, e6]; rfl), fun _ _ => rfl, hW.pure rfl (by omega) (by omega)⟩
        · have e7 : u 7 = .tuple #[.agg #[.slice (ρ.a 0) z.lo.length (ρ.c 0), .slice (ρ.a 1) z.hi.length (ρ.c 1), .slice (ρ.a 2) z.nw.length (ρ.c 2)], .int .i64 0] := hu 7 (all_of hp (by kernel_rfl))
          refine wpOp_go (E := True) rfl rfl (fun K' hK => ?_)
          go_simp
          refine hK.out _ _ ⟨ρ, (by simp only [put, e7]; rfl), fun _ _ => rfl, hW.pure rfl (by omega) (by omega)⟩
        · have e7 : u 7 = .tuple #[.agg #[.slice (ρ.a 0) z.lo.length (ρ.c 0), .slice (ρ.a 1) z.hi.length (ρ.c 1), .slice (ρ.a 2) z.nw.length (ρ.c 2)], .int .i64 0] := hu 7 (all_of hp (by kernel_rfl))
          refine wpOp_go (E := True) rfl rfl (fun K' hK => ?_)
          go_simp
          refine hK.out _ _ ⟨ρ, (by simp only [put, e7]; rfl), fun _ _ => rfl, hW.pure rfl (by omega) (by omega)⟩
        · have nks : L 11 = false := no_later hc hl (by kernel_rfl)
          refine wpOp_go (E := True) rfl rfl (fun K' hK => ?_)
          go_simp
          generalize hW5 : World.alloc wx _ = w5
          have hb5 : Below wx.heap.size wx w5 := by rw [← hW5]; (repeat' (first | (with_reducible exact Below.refl _ _) | (with_reducible assumption) | (with_reducible refine Below.alloc ?_ ?_ _) | (with_reducible refine Below.drew ?_) | (with_reducible refine Below.drewN' ?_ _) | (with_reducible refine Below.setCell ?_ ?_ _) | (refine Below.via ?_ (by with_reducible assumption) ?_) | (with_reducible refine Below.via ?_ (Wd.h _) ?_) | go_size))
          have hx5 : Bx w5 wx.heap.size [.slice none 0 0, .slice none 0 0, .slice none 0 0] := by rw [← hW5]; exact bx3 (by simp) (by simp) (by simp) (by simp) (by simp) (by simp) (by simp)
          clear hW5
          refine hK.out _ _ ⟨ρ.box wx.heap.size, (by simp only [put]; rfl), fun j hj => by
              have n11 : L 11 = false := no_later hc hl (by kernel_rfl)
              match j, hj with
              | 0, _ => rfl
              | 1, _ => rfl
              | 2, _ => rfl
              | 3, _ => rfl
              | 4, _ => rfl
              | 5, _ => rfl
              | 6, _ => rfl
              | 7, _ => rfl
              | 8, _ => rfl
              | 9, _ => rfl
              | 10, hj => rw [hl] at hj; cases hj
              | 11, hj => rw [n11] at hj; cases hj
              | 12, _ => rfl
              | _ + 13, _ => rfl, hW.boxed rfl (by omega) nks hb5 hx5⟩
        · have e10 : u 10 = .pointer (some ⟨ρ.b, 0, none⟩) := hu 10 (all_of hp (by kernel_rfl))
          have e8 : u 8 = .agg #[.slice (ρ.a 0) z.lo.length (ρ.c 0), .slice (ρ.a 1) z.hi.length (ρ.c 1), .slice (ρ.a 2) z.nw.length (ρ.c 2)] := hu 8 (all_of hp (by kernel_rfl))
          have hL10 := all_of hp (show (before _ 11).contains 10 = true by kernel_rfl)
          have hq := hW.b1 hL10 hl
          have hq0 := hq.cell 0 rfl
          have hq1 := hq.cell 1 rfl
          have hq2 := hq.cell 2 rfl
          have hf0 := hq.frozen 0 rfl
          have hf1 := hq.frozen 1 rfl
          have hf2 := hq.frozen 2 rfl
          refine wpOp_go (E := True) rfl rfl (fun K' hK => ?_)
          go_simp
          refine hK.out _ _ ⟨ρ, (by simp only [put, e10, e8]; rfl), fun _ _ => rfl, hW.store rfl (by omega) hL10 (keep3 _ _ _) (bx_fill3 hq _ _ _)⟩
        · have e9 : u 9 = .int .i64 0 := hu 9 (all_of hp (by kernel_rfl))
          refine wpOp_go (E := True) rfl rfl (fun K' hK => ?_)
          go_simp
          refine hK.out _ _ ⟨ρ, (by simp only [put, e9]; rfl), fun _ _ => rfl, hW.pure rfl (by omega) (by omega)⟩
      · intro L ρ u wx hall hu hW
        have e10 : u 10 = .pointer (some ⟨ρ.b, 0, none⟩) := hu 10 (by show 10 < 13; omega)
        have e12 : u 12 = .int .i64 0 := hu 12 (by show 12 < 13; omega)
        rw [e10, e12]
        have hL (i : Nat) (hi : i < 13) : L i = true := hall i hi
        obtain ⟨ga, gb, gc⟩ := hW.b0 (hL 10 (by omega))
        have hbx := hW.b2 (hL 11 (by omega))
        have HZ1 := Lib.hid (hW.md 6 0 z.lo (by simp) (hL 6 (by omega)))
        have HZ2 := Lib.hid (hW.md 6 1 z.hi (by simp) (hL 6 (by omega)))
        have HZ3 := Lib.hid (hW.md 6 2 z.nw (by simp) (hL 6 (by omega)))
        have hbl := hW.bl
        have HWX := Lib.hid (hbH.out.trans (hbl.mono hzw))
        have HYX2 := HYX.out.below hbl HYX.out.lt
        have HGX := Lib.hid (XGW.out.below hbl XGW.out.lt)
        have hwx := HWX.out.size
        clear hu hall hW e10 e12 hL gc
        generalize ρ.b = F at *
        generalize ρ.a 0 = A4 at *
        generalize ρ.a 1 = A5 at *
        generalize ρ.a 2 = A6 at *
        generalize ρ.c 0 = c4 at *
        generalize ρ.c 1 = c5 at *
        generalize ρ.c 2 = c6 at *
        have hy1 := HYX2.lt; have cw1_0 := HYX2.cell 0 rfl; have fw1_0 := HYX2.frozen 0 rfl; have cw1_1 := HYX2.cell 1 rfl; have fw1_1 := HYX2.frozen 1 rfl; have cw1_2 := HYX2.cell 2 rfl; have fw1_2 := HYX2.frozen 2 rfl
        have hy2 := hbx.lt; have cw2_0 := hbx.cell 0 rfl; have fw2_0 := hbx.frozen 0 rfl; have cw2_1 := hbx.cell 1 rfl; have fw2_1 := hbx.frozen 1 rfl; have cw2_2 := hbx.cell 2 rfl; have fw2_2 := hbx.frozen 2 rfl
        have HYX3 := Lib.hid HYX2
        clear hbx HYX2
        go_wp2_with fail
        have hkk := keep3 (w := wx) (b := w4.heap.size) (.slice A4 z.lo.length c4) (.slice A5 z.hi.length c5) (.slice A6 z.nw.length c6)
        have hbf := bx_fill3 HYX3.out (.slice A4 z.lo.length c4) (.slice A5 z.hi.length c5) (.slice A6 z.nw.length c6)
        have hzb := HZ1.out.rd.keep hkk (fun b off e q => by have := HZ1.out.lo b ⟨off, e⟩; omega)
        have hzc := HZ2.out.rd.keep hkk (fun b off e q => by have := HZ2.out.lo b ⟨off, e⟩; omega)
        have hzd := HZ3.out.rd.keep hkk (fun b off e q => by have := HZ3.out.lo b ⟨off, e⟩; omega)
        have hbe := hkk.below HWX.out (by omega) (fun k q => by omega)
        revert hbf hzb hzc hzd hbe
        clear hkk
        generalize World.setCell _ _ _ = w9
        intro hbf hzb hzc hzd hbe
        go_roundw
        case rel => exact ⟨i + 1, z, A4, A5, A6, c4, c5, c6, by go_num, HIZ.out, ⟨hzb, hzc, hzd, by omega, by omega, by omega⟩, hbf, hbe⟩
        case measure => simp [intOf]; omega
    · have g1 : ¬ (i : Int) < m := by omega
      obtain rfl : i = m := by omega
      obtain ⟨hyR, hend⟩ := rl_end HI.out HO.out HQ.out
      have hGR := HG4.out.r3.below hbw
      have HGR := Lib.hid hGR
      by_cases hly : i < ys.length
      · have g2 : (i : Int) < ys.length := by omega
        obtain ⟨x, hx⟩ := get_some hly
        obtain ⟨bx, offx, rfl, hbx, hatx⟩ := HH4.out.opened (k := i) (by rw [flat_len Hr.len]; omega)
        have t0 := (hatx.below hbw hbx).elem0 Hr.len hx rfl
        have t1 := (hatx.below hbw hbx).elem Hr.len hx 1 rfl
        have hybx : bx < wr.heap.size := Nat.lt_of_lt_of_le hbx hzw
        have HAX := Lib.hid ((HAT4.out x (List.mem_of_getElem? hx)).below hbw)
        obtain ⟨z, hsh⟩ := hend _ (q_at hx)
        have HSH := Lib.hid hsh
        have HYR := Lib.hid hyR
        clear hx hatx hsh hbw hend hyR hGR
        go_wp2_with fail
        refine wp_region_tb (R := Rz) [some 84, some 85, some 86, some 87, some 88, some 89, some 90, some 83, some 91, some 92, some 16, none, some 17] _ (by intro u; simp only [frs, Act.put, List.setIfInBounds_toArray, List.set_cons_zero, List.set_cons_succ, Nat.reduceAdd]; exact rfl) (fun ρ j => ([.agg #[.slice A N.nodes.length c, .slice Bq N.pipes.length d], .agg #[.slice Y1 y.lo.length d1, .slice Y2 y.hi.length d2, .slice Y3 y.nw.length d3], .slice (some ⟨bx, offx, none⟩) ys.length ce, .int .i64 (i : Nat), .pointer (some ⟨bx, offx + i * 2, none⟩), .agg #[.slice x.A x.fl.length x.c, .slice x.B x.su.length x.d], .tuple #[.agg #[.slice (ρ.a 0) z.lo.length (ρ.c 0), .slice (ρ.a 1) z.hi.length (ρ.c 1), .slice (ρ.a 2) z.nw.length (ρ.c 2)], .int .i64 7], .tuple #[.agg #[.slice (ρ.a 0) z.lo.length (ρ.c 0), .slice (ρ.a 1) z.hi.length (ρ.c 1), .slice (ρ.a 2) z.nw.length (ρ.c 2)], .int .i64 7], .agg #[.slice (ρ.a 0) z.lo.length (ρ.c 0), .slice (ρ.a 1) z.hi.length (ρ.c 1), .slice (ρ.a 2) z.nw.length (ρ.c 2)], .int .i64 7, .pointer (some ⟨ρ.b, 0, none⟩), undef, .int .i64 7] : List Value).getD j undef) (WB wr [(6, 0, z.lo), (6, 1, z.hi), (6, 2, z.nw)] 10 11 [.slice none 0 0, .slice none 0 0, .slice none 0 0] (fun ρ => [.slice (ρ.a 0) z.lo.length (ρ.c 0), .slice (ρ.a 1) z.hi.length (ρ.c 1), .slice (ρ.a 2) z.nw.length (ρ.c 2)])) (by kernel_rfl) (by kernel_rfl) Rz.zero (WB.start (Below.drew (Below.refl _ _))) ?_ ?_
        · intro ii hii L ρ u wx hl hp hc hu hn hW
          have hii : ii < 13 := hii
          have HNo := Lib.hid hn
          clear hn
          have hii : ii = 0 ∨ ii = 1 ∨ ii = 2 ∨ ii = 3 ∨ ii = 4 ∨ ii = 5 ∨ ii = 6 ∨ ii = 7 ∨ ii = 8 ∨ ii = 9 ∨ ii = 10 ∨ ii = 11 ∨ ii = 12 := by omega
          rcases hii with rfl | rfl | rfl | rfl | rfl | rfl | rfl | rfl | rfl | rfl | rfl | rfl | rfl
          · have z0 := XAW.out.below hW.bl XAW.out.lt
            have z00 := z0.cell 0 rfl
            have z01 := z0.cell 1 rfl
            refine wpOp_go (E := True) rfl rfl (fun K' hK => ?_)
            go_simp
            refine hK.out _ _ ⟨ρ, (by simp only [put]; rfl), fun _ _ => rfl, hW.pure rfl (by omega) (by omega)⟩
          · have z1 := HYX.out.below hW.bl HYX.out.lt
            have z10 := z1.cell 0 rfl
            have z11 := z1.cell 1 rfl
            have z12 := z1.cell 2 rfl
            refine wpOp_go (E := True) rfl rfl (fun K' hK => ?_)
            go_simp
            refine hK.out _ _ ⟨ρ, (by simp only [put]; rfl), fun _ _ => rfl, hW.pure rfl (by omega) (by omega)⟩
          · refine wpOp_go (E := True) rfl rfl (fun K' hK => ?_)
            go_simp
            refine hK.out _ _ ⟨ρ, (by simp only [put]; rfl), fun _ _ => rfl, hW.pure rfl (by omega) (by omega)⟩
          · refine wpOp_go (E := True) rfl rfl (fun K' hK => ?_)
            go_simp
            refine hK.out _ _ ⟨ρ, (by simp only [put]; rfl), fun _ _ => rfl, hW.pure rfl (by omega) (by omega)⟩
          · have e2 : u 2 = .slice (some ⟨bx, offx, none⟩) ys.length ce := hu 2 (all_of hp (by kernel_rfl))
            have e3 : u 3 = .int .i64 (i : Nat) := hu 3 (all_of hp (by kernel_rfl))
            refine wpOp_go (E := True) rfl rfl (fun K' hK => ?_)
            go_simp
            refine hK.out _ _ ⟨ρ, (by simp only [put, e2, e3]; rfl), fun _ _ => rfl, hW.pure rfl (by omega) (by omega)⟩
          · have e4 : u 4 = .pointer (some ⟨bx, offx + i * 2, none⟩) := hu 4 (all_of hp (by kernel_rfl))
            have y0 := ((bcell hW.bl).1 bx (offx + i * 2) hybx).trans t0
            have y1 := ((bcell hW.bl).1 bx (offx + i * 2 + 1) hybx).trans t1
            refine wpOp_go (E := True) rfl rfl (fun K' hK => ?_)
            go_simp
            refine hK.out _ _ ⟨ρ, (by simp only [put, e4]; rfl), fun _ _ => rfl, hW.pure rfl (by omega) (by omega)⟩
          · have e0 : u 0 = .agg #[.slice A N.nodes.length c, .slice Bq N.pipes.length d] := hu 0 (all_of hp (by kernel_rfl))
            have e1 : u 1 = .agg #[.slice Y1 y.lo.length d1, .slice Y2 y.hi.length d2, .slice Y3 y.nw.length d3] := hu 1 (all_of hp (by kernel_rfl))
            have e5 : u 5 = .agg #[.slice x.A x.fl.length x.c, .slice x.B x.su.length x.d] := hu 5 (all_of hp (by kernel_rfl))
            have nks : L 11 = false := no_later hc hl (by kernel_rfl)
            refine wpOp_go (E := True) rfl rfl (fun K' hK => ?_)
            go_simp
            go_at_call 10
            refine (impl_StepHourL _ _ _ _ _ x.A x.B _ _ _ _ _ _ _ _ _ _ x.c x.d N y.lo y.hi y.nw x.fl x.su _ (HNW.out.below hW.bl) rfl rfl hnc (HYB.out.below hW.bl) rfl rfl rfl ⟨(HAX.out.below hW.bl).r1, (HAX.out.below hW.bl).r2, HAX.out.s1, HAX.out.s2⟩).mono ?_
            rw [HSH.out]
            rintro e' w5 ⟨A4, A5, A6, c4, c5, c6, rfl, hW5, hb5⟩
            refine hK.out _ _ ⟨((ρ.list 0 A4 c4).list 1 A5 c5).list 2 A6 c6, (by simp only [put, e0, e1, e5]; rfl), fun j hj => by
                have n7 : L 7 = false := no_later hc hl (by kernel_rfl)
                have n8 : L 8 = false := no_later hc n7 (by kernel_rfl)
                have n9 : L 9 = false := no_later hc n7 (by kernel_rfl)
                have n11 : L 11 = false := no_later hc n8 (by kernel_rfl)
                have n12 : L 12 = false := no_later hc n9 (by kernel_rfl)
                match j, hj with
                | 0, _ => rfl
                | 1, _ => rfl
                | 2, _ => rfl
                | 3, _ => rfl
                | 4, _ => rfl
                | 5, _ => rfl
                | 6, hj => rw [hl] at hj; cases hj
                | 7, hj => rw [n7] at hj; cases hj
                | 8, hj => rw [n8] at hj; cases hj
                | 9, hj => rw [n9] at hj; cases hj
                | 10, _ => rfl
                | 11, hj => rw [n11] at hj; cases hj
                | 12, hj => rw [n12] at hj; cases hj
                | _ + 13, _ => rfl, hW.three (by omega) (by omega) nks hb5 hW5⟩
          · have e6 : u 6 = .tuple #[.agg #[.slice (ρ.a 0) z.lo.length (ρ.c 0), .slice (ρ.a 1) z.hi.length (ρ.c 1), .slice (ρ.a 2) z.nw.length (ρ.c 2)], .int .i64 7] := hu 6 (all_of hp (by kernel_rfl))
            refine wpOp_go (E := True) rfl rfl (fun K' hK => ?_)
            go_simp
            refine hK.out _ _ ⟨ρ, (by simp only [put, e6]; rfl), fun _ _ => rfl, hW.pure rfl (by omega) (by omega)⟩
          · have e7 : u 7 = .tuple #[.agg #[.slice (ρ.a 0) z.lo.length (ρ.c 0), .slice (ρ.a 1) z.hi.length (ρ.c 1), .slice (ρ.a 2) z.nw.length (ρ.c 2)], .int .i64 7] := hu 7 (all_of hp (by kernel_rfl))
            refine wpOp_go (E := True) rfl rfl (fun K' hK => ?_)
            go_simp
            refine hK.out _ _ ⟨ρ, (by simp only [put, e7]; rfl), fun _ _ => rfl, hW.pure rfl (by omega) (by omega)⟩
          · have e7 : u 7 = .tuple #[.agg #[.slice (ρ.a 0) z.lo.length (ρ.c 0), .slice (ρ.a 1) z.hi.length (ρ.c 1), .slice (ρ.a 2) z.nw.length (ρ.c 2)], .int .i64 7] := hu 7 (all_of hp (by kernel_rfl))
            refine wpOp_go (E := True) rfl rfl (fun K' hK => ?_)
            go_simp
            refine hK.out _ _ ⟨ρ, (by simp only [put, e7]; rfl), fun _ _ => rfl, hW.pure rfl (by omega) (by omega)⟩
          · have nks : L 11 = false := no_later hc hl (by kernel_rfl)
            refine wpOp_go (E := True) rfl rfl (fun K' hK => ?_)
            go_simp
            generalize hW5 : World.alloc wx _ = w5
            have hb5 : Below wx.heap.size wx w5 := by rw [← hW5]; (repeat' (first | (with_reducible exact Below.refl _ _) | (with_reducible assumption) | (with_reducible refine Below.alloc ?_ ?_ _) | (with_reducible refine Below.drew ?_) | (with_reducible refine Below.drewN' ?_ _) | (with_reducible refine Below.setCell ?_ ?_ _) | (refine Below.via ?_ (by with_reducible assumption) ?_) | (with_reducible refine Below.via ?_ (Wd.h _) ?_) | go_size))
            have hx5 : Bx w5 wx.heap.size [.slice none 0 0, .slice none 0 0, .slice none 0 0] := by rw [← hW5]; exact bx3 (by simp) (by simp) (by simp) (by simp) (by simp) (by simp) (by simp)
            clear hW5
            refine hK.out _ _ ⟨ρ.box wx.heap.size, (by simp only [put]; rfl), fun j hj => by
                have n11 : L 11 = false := no_later hc hl (by kernel_rfl)
                match j, hj with
                | 0, _ => rfl
                | 1, _ => rfl
                | 2, _ => rfl
                | 3, _ => rfl
                | 4, _ => rfl
                | 5, _ => rfl
                | 6, _ => rfl
                | 7, _ => rfl
                | 8, _ => rfl
                | 9, _ => rfl
                | 10, hj => rw [hl] at hj; cases hj
                | 11, hj => rw [n11] at hj; cases hj
                | 12, _ => rfl
                | _ + 13, _ => rfl, hW.boxed rfl (by omega) nks hb5 hx5⟩
          · have e10 : u 10 = .pointer (some ⟨ρ.b, 0, none⟩) := hu 10 (all_of hp (by kernel_rfl))
            have e8 : u 8 = .agg #[.slice (ρ.a 0) z.lo.length (ρ.c 0), .slice (ρ.a 1) z.hi.length (ρ.c 1), .slice (ρ.a 2) z.nw.length (ρ.c 2)] := hu 8 (all_of hp (by kernel_rfl))
            have hL10 := all_of hp (show (before _ 11).contains 10 = true by kernel_rfl)
            have hq := hW.b1 hL10 hl
            have hq0 := hq.cell 0 rfl
            have hq1 := hq.cell 1 rfl
            have hq2 := hq.cell 2 rfl
            have hf0 := hq.frozen 0 rfl
            have hf1 := hq.frozen 1 rfl
            have hf2 := hq.frozen 2 rfl
            refine wpOp_go (E := True) rfl rfl (fun K' hK => ?_)
            go_simp
            refine hK.out _ _ ⟨ρ, (by simp only [put, e10, e8]; rfl), fun _ _ => rfl, hW.store rfl (by omega) hL10 (keep3 _ _ _) (bx_fill3 hq _ _ _)⟩
          · have e9 : u 9 = .int .i64 7 := hu 9 (all_of hp (by kernel_rfl))
            refine wpOp_go (E := True) rfl rfl (fun K' hK => ?_)
            go_simp
            refine hK.out _ _ ⟨ρ, (by simp only [put, e9]; rfl), fun _ _ => rfl, hW.pure rfl (by omega) (by omega)⟩
        · intro L ρ u wx hall hu hW
          have e10 : u 10 = .pointer (some ⟨ρ.b, 0, none⟩) := hu 10 (by show 10 < 13; omega)
          have e12 : u 12 = .int .i64 7 := hu 12 (by show 12 < 13; omega)
          rw [e10, e12]
          have hL (i : Nat) (hi : i < 13) : L i = true := hall i hi
          obtain ⟨ga, gb, gc⟩ := hW.b0 (hL 10 (by omega))
          have hbx := hW.b2 (hL 11 (by omega))
          have HZ1 := Lib.hid (hW.md 6 0 z.lo (by simp) (hL 6 (by omega)))
          have HZ2 := Lib.hid (hW.md 6 1 z.hi (by simp) (hL 6 (by omega)))
          have HZ3 := Lib.hid (hW.md 6 2 z.nw (by simp) (hL 6 (by omega)))
          have hbl := hW.bl
          have HWX := Lib.hid (hbH.out.trans (hbl.mono hzw))
          have HYX2 := HYX.out.below hbl HYX.out.lt
          have HGX := Lib.hid (XGW.out.below hbl XGW.out.lt)
          have hwx := HWX.out.size
          clear hu hall hW e10 e12 hL gc
          generalize ρ.b = F at *
          generalize ρ.a 0 = A4 at *
          generalize ρ.a 1 = A5 at *
          generalize ρ.a 2 = A6 at *
          generalize ρ.c 0 = c4 at *
          generalize ρ.c 1 = c5 at *
          generalize ρ.c 2 = c6 at *
          have hgx := HGX.out
          have hy1 := HYX2.lt; have cw1_0 := HYX2.cell 0 rfl; have fw1_0 := HYX2.frozen 0 rfl; have cw1_1 := HYX2.cell 1 rfl; have fw1_1 := HYX2.frozen 1 rfl; have cw1_2 := HYX2.cell 2 rfl; have fw1_2 := HYX2.frozen 2 rfl
          have hy2 := hgx.lt; have cw2_0 := hgx.cell 0 rfl; have fw2_0 := hgx.frozen 0 rfl; have cw2_1 := hgx.cell 1 rfl; have fw2_1 := hgx.frozen 1 rfl; have cw2_2 := hgx.cell 2 rfl; have fw2_2 := hgx.frozen 2 rfl
          clear hbx HYX2 hgx
          go_wp2_with fail
          have HGW := Lib.hid (HGR.out.below hbl)
          have HY3 := Lib.hid (show Rd wx Y3 (R.nw.map iV) from by have h9 := HYB.out.r3.below hbl; rw [HYR.out] at h9; exact h9)
          have hyl3 : y.nw.length = R.nw.length := by rw [HYR.out]
          refine (laws_likeInts Y3 G3 d3 k3 _ _ R.nw _ HY3.out HGW.out hyl3 rfl (by omega)).mono ?_
          rintro e w9 ⟨rfl, hb9⟩
          go_wp2
          go_ret
          exact ⟨rfl, HBW.out.trans ((HWX.out.trans (hb9.mono hwx)).mono HBW.out.size)⟩
      · have g2 : ¬ (i : Int) < ys.length := by omega
        have HYR := Lib.hid hyR
        have hyb2 := HYX.out
        have hgx := XGW.out
        have hy1 := hyb2.lt; have cw1_0 := hyb2.cell 0 rfl; have fw1_0 := hyb2.frozen 0 rfl; have cw1_1 := hyb2.cell 1 rfl; have fw1_1 := hyb2.frozen 1 rfl; have cw1_2 := hyb2.cell 2 rfl; have fw1_2 := hyb2.frozen 2 rfl
        have hy2 := hgx.lt; have cw2_0 := hgx.cell 0 rfl; have fw2_0 := hgx.frozen 0 rfl; have cw2_1 := hgx.cell 1 rfl; have fw2_1 := hgx.frozen 1 rfl; have cw2_2 := hgx.cell 2 rfl; have fw2_2 := hgx.frozen 2 rfl
        clear hyb2 hgx hyR hend hGR hbw
        go_wp2_with fail
        have HGW := Lib.hid (HGR.out.below (Below.refl _ _))
        have HY3 := Lib.hid (show Rd wr Y3 (R.nw.map iV) from by have h9 := HYB.out.r3.below (Below.refl _ _); rw [HYR.out] at h9; exact h9)
        have hyl3 : y.nw.length = R.nw.length := by rw [HYR.out]
        refine (laws_likeInts Y3 G3 d3 k3 _ _ R.nw _ HY3.out HGW.out hyl3 rfl (by omega)).mono ?_
        rintro e w9 ⟨rfl, hb9⟩
        go_wp2
        go_ret
        exact ⟨rfl, HBW.out.trans ((hbH.out.trans (hb9.mono hzw)).mono HBW.out.size)⟩
end Go.Proofs.Ytijhadafmhbceaa

/- The laws' helpers on Hour. -/
import Derived.Test.YtapdcndagnlmaaaHo
import Derived.Test.YtapdcndagnlmaaaOpenN
import Derived.Test.YtapdcndagnlmaaaLI
import Derived.Deep.RegionHeld3
namespace Go.Proofs.Ytapdcndagnlmaaa
set_option linter.unusedVariables false
set_option linter.unusedSimpArgs false
open Go.RowKit
structure MadeHour (w w' : World) (ga gb : Nat) (la lb : List Int) : Prop where
  ara : Arr w' ga la.length (la.map iV)
  gea : w.heap.size ≤ ga
  arb : Arr w' gb lb.length (lb.map iV)
  geb : w.heap.size ≤ gb
  neab : ga ≠ gb
  sza : la.length ≤ 1048576
  szb : lb.length ≤ 1048576
theorem MadeHour.at_ {w w' : World} {ga gb : Nat} {la lb : List Int} (h : MadeHour w w' ga gb la lb) : HouAt w' (some ⟨ga, 0, none⟩) (some ⟨gb, 0, none⟩) la lb :=
  ⟨h.ara.rd, h.arb.rd, h.sza, h.szb⟩
set_option maxRecDepth 100000 in
set_option maxHeartbeats 2000000 in
theorem laws_toHour (Aa Ab : Option Addr) (ca cb : Nat) (la lb : List Int) (w : World) (ha : Rd w Aa (la.map iV)) (hb : Rd w Ab (lb.map iV)) (sa : la.length ≤ 1048576) (sb : lb.length ≤ 1048576) :
    Calls Try.prog 11 #[.agg #[.slice Aa la.length ca, .slice Ab lb.length cb]] w fun e w' => ∃ ga gb : Nat, e = .returned (.agg #[.slice (some ⟨ga, 0, none⟩) la.length la.length, .slice (some ⟨gb, 0, none⟩) lb.length lb.length]) ∧ MadeHour w w' ga gb la lb ∧ Below w.heap.size w w' := by
  have Ha := Lib.hid ha
  clear ha
  have Hb := Lib.hid hb
  clear hb
  go_enter Try.func11, Try.ntmps11
  
  go_wp2_with fail
  refine (laws_toInt64S _ _ la _ (Ha.out.below (by (repeat' (first | (with_reducible exact Below.refl _ _) | (with_reducible assumption) | (with_reducible refine Below.alloc ?_ ?_ _) | (with_reducible refine Below.drew ?_) | (with_reducible refine Below.drewN' ?_ _) | (with_reducible refine Below.setCell ?_ ?_ _) | (refine Below.via ?_ (by with_reducible assumption) ?_) | (with_reducible refine Below.via ?_ (Wd.h _) ?_) | go_size)))) sa).mono ?_
  rintro e w1 ⟨ga, rfl, hga, hAa, hb1⟩
  simp at hga
  have hlta := hAa.lt
  (obtain ⟨hcn, hfn⟩ := bcell hb1; have hz1 := hb1.size; (try simp at hz1); have Ncw0_0 := hcn (w.heap.size) (0) (by first | omega | (simp; done) | (simp; omega)); have Nfw0_0 := hfn (w.heap.size) (0) (by first | omega | (simp; done) | (simp; omega)); have Nhy0 : w.heap.size < w1.heap.size := (by omega); have Ncw0_1 := hcn (w.heap.size) (1) (by first | omega | (simp; done) | (simp; omega)); have Nfw0_1 := hfn (w.heap.size) (1) (by first | omega | (simp; done) | (simp; omega)); have Ncw1_0 := hcn (w.heap.size + 1) (0) (by first | omega | (simp; done) | (simp; omega)); have Nfw1_0 := hfn (w.heap.size + 1) (0) (by first | omega | (simp; done) | (simp; omega)); have Nhy1 : w.heap.size + 1 < w1.heap.size := (by omega); have Ncw1_1 := hcn (w.heap.size + 1) (1) (by first | omega | (simp; done) | (simp; omega)); have Nfw1_1 := hfn (w.heap.size + 1) (1) (by first | omega | (simp; done) | (simp; omega)); have Ncx_0 := hcn (w.heap.size + 2) (0) (by first | omega | (simp; done) | (simp; omega)); have Ncx_0f := hfn (w.heap.size + 2) (0) (by first | omega | (simp; done) | (simp; omega)); have Nhy_cx : w.heap.size + 2 < w1.heap.size := (by omega); have Ncx_1 := hcn (w.heap.size + 2) (1) (by first | omega | (simp; done) | (simp; omega)); have Ncx_1f := hfn (w.heap.size + 2) (1) (by first | omega | (simp; done) | (simp; omega)); simp [go_sem] at Ncw0_0 Nfw0_0 Ncw0_1 Nfw0_1 Ncw1_0 Nfw1_0 Ncw1_1 Nfw1_1 Ncx_0 Ncx_0f Ncx_1 Ncx_1f; clear hcn hfn; have cw0_0 := Ncw0_0; have fw0_0 := Nfw0_0; have cw0_1 := Ncw0_1; have fw0_1 := Nfw0_1; have cw1_0 := Ncw1_0; have fw1_0 := Nfw1_0; have cw1_1 := Ncw1_1; have fw1_1 := Nfw1_1; have cx_0 := Ncx_0; have cx_0f := Ncx_0f; have cx_1 := Ncx_1; have cx_1f := Ncx_1f; have hy0 := Nhy0; have hy1 := Nhy1; have hy_cx := Nhy_cx; clear Ncw0_0 Nfw0_0 Ncw0_1 Nfw0_1 Ncw1_0 Nfw1_0 Ncw1_1 Nfw1_1 Ncx_0 Ncx_0f Ncx_1 Ncx_1f Nhy0 Nhy1 Nhy_cx)
  go_wp2_with fail
  refine (laws_toInt64S _ _ lb _ (Hb.out.below (by (repeat' (first | (with_reducible exact Below.refl _ _) | (with_reducible assumption) | (with_reducible refine Below.alloc ?_ ?_ _) | (with_reducible refine Below.drew ?_) | (with_reducible refine Below.drewN' ?_ _) | (with_reducible refine Below.setCell ?_ ?_ _) | (refine Below.via ?_ (by with_reducible assumption) ?_) | (with_reducible refine Below.via ?_ (Wd.h _) ?_) | go_size)))) sb).mono ?_
  rintro e w2 ⟨gb, rfl, hgb, hAb, hb2⟩
  simp at hgb
  have hAa := (hAa.far (p := ⟨w.heap.size + 2, 0, none⟩) (by simp; omega) (.slice (some ⟨ga, 0, none⟩) la.length la.length)).below hb2 (by simp; omega)
  have hltb := hAb.lt
  (obtain ⟨hcn, hfn⟩ := bcell hb2; have hz2 := hb2.size; (try simp at hz2); have Ncw0_0 := hcn (w.heap.size) (0) (by first | omega | (simp; done) | (simp; omega)); have Nfw0_0 := hfn (w.heap.size) (0) (by first | omega | (simp; done) | (simp; omega)); have Nhy0 : w.heap.size < w2.heap.size := (by omega); have Ncw0_1 := hcn (w.heap.size) (1) (by first | omega | (simp; done) | (simp; omega)); have Nfw0_1 := hfn (w.heap.size) (1) (by first | omega | (simp; done) | (simp; omega)); have Ncw1_0 := hcn (w.heap.size + 1) (0) (by first | omega | (simp; done) | (simp; omega)); have Nfw1_0 := hfn (w.heap.size + 1) (0) (by first | omega | (simp; done) | (simp; omega)); have Nhy1 : w.heap.size + 1 < w2.heap.size := (by omega); have Ncw1_1 := hcn (w.heap.size + 1) (1) (by first | omega | (simp; done) | (simp; omega)); have Nfw1_1 := hfn (w.heap.size + 1) (1) (by first | omega | (simp; done) | (simp; omega)); have Ncx_0 := hcn (w.heap.size + 2) (0) (by first | omega | (simp; done) | (simp; omega)); have Ncx_0f := hfn (w.heap.size + 2) (0) (by first | omega | (simp; done) | (simp; omega)); have Nhy_cx : w.heap.size + 2 < w2.heap.size := (by omega); have Ncx_1 := hcn (w.heap.size + 2) (1) (by first | omega | (simp; done) | (simp; omega)); have Ncx_1f := hfn (w.heap.size + 2) (1) (by first | omega | (simp; done) | (simp; omega)); simp [go_sem, cw0_0, fw0_0, cw0_1, fw0_1, cw1_0, fw1_0, cw1_1, fw1_1, cx_0, cx_0f, cx_1, cx_1f, hy0, hy1, hy_cx] at Ncw0_0 Nfw0_0 Ncw0_1 Nfw0_1 Ncw1_0 Nfw1_0 Ncw1_1 Nfw1_1 Ncx_0 Ncx_0f Ncx_1 Ncx_1f; clear cw0_0 fw0_0 cw0_1 fw0_1 cw1_0 fw1_0 cw1_1 fw1_1 cx_0 cx_0f cx_1 cx_1f hy0 hy1 hy_cx; clear hcn hfn; have cw0_0 := Ncw0_0; have fw0_0 := Nfw0_0; have cw0_1 := Ncw0_1; have fw0_1 := Nfw0_1; have cw1_0 := Ncw1_0; have fw1_0 := Nfw1_0; have cw1_1 := Ncw1_1; have fw1_1 := Nfw1_1; have cx_0 := Ncx_0; have cx_0f := Ncx_0f; have cx_1 := Ncx_1; have cx_1f := Ncx_1f; have hy0 := Nhy0; have hy1 := Nhy1; have hy_cx := Nhy_cx; clear Ncw0_0 Nfw0_0 Ncw0_1 Nfw0_1 Ncw1_0 Nfw1_0 Ncw1_1 Nfw1_1 Ncx_0 Ncx_0f Ncx_1 Ncx_1f Nhy0 Nhy1 Nhy_cx)
  have HAa := Lib.hid hAa; have HAb := Lib.hid hAb
  clear hAa hAb
  go_wp2
  (first | (refine bodyPost_ret (by simp [results, Try.results11, go_sem, cw0_0, cw0_1, cw1_0, cw1_1]; try rfl) rfl ?_) | (refine bodyPost_ret (by simp [results, Try.results11, go_sem]; try rfl) rfl ?_))
  refine ⟨ga, gb, rfl, ⟨?_, ?_, ?_, ?_, ?_, ?_, ?_⟩, by (repeat' (first | (with_reducible exact Below.refl _ _) | (with_reducible assumption) | (with_reducible refine Below.alloc ?_ ?_ _) | (with_reducible refine Below.drew ?_) | (with_reducible refine Below.drewN' ?_ _) | (with_reducible refine Below.setCell ?_ ?_ _) | (refine Below.via ?_ (by with_reducible assumption) ?_) | (with_reducible refine Below.via ?_ (Wd.h _) ?_) | go_size))⟩
  · exact (((HAa.out.far (by simp; omega) _).far (by simp; omega) _).far (by simp; omega) _)
  · omega
  · exact (((HAb.out.far (by simp; omega) _).far (by simp; omega) _).far (by simp; omega) _)
  · omega
  · omega
  · exact sa
  · exact sb
set_option maxRecDepth 100000 in
set_option maxHeartbeats 2000000 in
theorem laws_szHour (Aa Ab : Option Addr) (ca cb : Nat) (la lb : List Int) (left : Int) (w : World) (h0 : 0 ≤ left) (h1 : left ≤ 1048576) (sa : la.length ≤ 9223372036854775807) (sb : lb.length ≤ 9223372036854775807) :
    Calls Try.prog 7 #[.agg #[.slice Aa la.length ca, .slice Ab lb.length cb], .int .i64 left] w (SzPost w left (la.length + lb.length)) := by
  by_cases hra : szN left la.length < 0
  · (go_enter Try.func7, Try.ntmps7; go_wp2_with (first | (go_at_call 28; ((with_reducible refine (laws_szInt64S _ _ _ _ _ (by omega) (by omega) (by omega)).mono ?_)); rintro e wn ⟨rfl, rfl⟩)))
    all_goals first | (go_ret; exact ⟨-1, rfl, .inl rfl, by (repeat' (first | (with_reducible exact Below.refl _ _) | (with_reducible assumption) | (with_reducible refine Below.alloc ?_ ?_ _) | (with_reducible refine Below.drew ?_) | (with_reducible refine Below.drewN' ?_ _) | (with_reducible refine Below.setCell ?_ ?_ _) | (refine Below.via ?_ (by with_reducible assumption) ?_) | (with_reducible refine Below.via ?_ (Wd.h _) ?_) | go_size))⟩) | (exfalso; omega)
  have ea : szN (left) la.length = left - la.length := by unfold szN at hra ⊢; split at hra <;> (first | omega | (split <;> omega))
  have fa : 0 ≤ szN (left) la.length := by omega
  by_cases hrb : szN (szN (left) la.length) lb.length < 0
  · have Ea := Lib.hid ea; clear ea
    have hlea : szN (left) la.length ≤ 1048576 := by have := Ea.out; omega
    (go_enter Try.func7, Try.ntmps7; go_wp2_with (first | (go_at_call 28; ((with_reducible refine (laws_szInt64S _ _ _ _ _ (by omega) (by omega) (by omega)).mono ?_)); rintro e wn ⟨rfl, rfl⟩)))
    all_goals first | (go_ret; exact ⟨-1, rfl, .inl rfl, by (repeat' (first | (with_reducible exact Below.refl _ _) | (with_reducible assumption) | (with_reducible refine Below.alloc ?_ ?_ _) | (with_reducible refine Below.drew ?_) | (with_reducible refine Below.drewN' ?_ _) | (with_reducible refine Below.setCell ?_ ?_ _) | (refine Below.via ?_ (by with_reducible assumption) ?_) | (with_reducible refine Below.via ?_ (Wd.h _) ?_) | go_size))⟩) | (exfalso; omega)
  have eb : szN (szN (left) la.length) lb.length = szN (left) la.length - lb.length := by unfold szN at hrb ⊢; split at hrb <;> (first | omega | (split <;> omega))
  have fb : 0 ≤ szN (szN (left) la.length) lb.length := by omega
  have Ea := Lib.hid ea; clear ea; have Eb := Lib.hid eb; clear eb
  have lea : szN (left) la.length ≤ 1048576 := by have := Ea.out; omega
  have leb : szN (szN (left) la.length) lb.length ≤ 1048576 := by have := Ea.out; have := Eb.out; omega
  (go_enter Try.func7, Try.ntmps7; go_wp2_with (first | (go_at_call 28; ((with_reducible refine (laws_szInt64S _ _ _ _ _ (by omega) (by omega) (by omega)).mono ?_)); rintro e wn ⟨rfl, rfl⟩)))
  all_goals first | (go_ret; exact ⟨_, rfl, .inr ⟨by omega, by have := Ea.out; have := Eb.out; omega⟩, by (repeat' (first | (with_reducible exact Below.refl _ _) | (with_reducible assumption) | (with_reducible refine Below.alloc ?_ ?_ _) | (with_reducible refine Below.drew ?_) | (with_reducible refine Below.drewN' ?_ _) | (with_reducible refine Below.setCell ?_ ?_ _) | (refine Below.via ?_ (by with_reducible assumption) ?_) | (with_reducible refine Below.via ?_ (Wd.h _) ?_) | go_size))⟩) | (exfalso; omega)
set_option maxRecDepth 100000 in
set_option maxHeartbeats 2000000 in
theorem laws_eqHour (Aa Ab Ba Bb : Option Addr) (ca cb da db : Nat) (la lb : List Int) (w : World) (h : HouAt w Aa Ab la lb) (h' : HouAt w Ba Bb la lb) :
    Calls Try.prog 15 #[.agg #[.slice Aa la.length ca, .slice Ab lb.length cb], .agg #[.slice Ba la.length da, .slice Bb lb.length db]] w fun e w' => e = .returned (.bool true) ∧ Below w.heap.size w w' := by
  have H := Lib.hid h
  have H' := Lib.hid h'
  clear h h'
  go_enter Try.func15, Try.ntmps15
  go_wp2_with fail
  refine (laws_eqInt64S _ _ _ _ la _ (H.out.r1.below (by (repeat' (first | (with_reducible exact Below.refl _ _) | (with_reducible assumption) | (with_reducible refine Below.alloc ?_ ?_ _) | (with_reducible refine Below.drew ?_) | (with_reducible refine Below.drewN' ?_ _) | (with_reducible refine Below.setCell ?_ ?_ _) | (refine Below.via ?_ (by with_reducible assumption) ?_) | (with_reducible refine Below.via ?_ (Wd.h _) ?_) | go_size)))) (H'.out.r1.below (by (repeat' (first | (with_reducible exact Below.refl _ _) | (with_reducible assumption) | (with_reducible refine Below.alloc ?_ ?_ _) | (with_reducible refine Below.drew ?_) | (with_reducible refine Below.drewN' ?_ _) | (with_reducible refine Below.setCell ?_ ?_ _) | (refine Below.via ?_ (by with_reducible assumption) ?_) | (with_reducible refine Below.via ?_ (Wd.h _) ?_) | go_size)))) H.out.s1).mono ?_
  rintro e wn ⟨rfl, hbn⟩
  (obtain ⟨hcn, hfn⟩ := bcell hbn; have hzn := hbn.size; (try simp at hzn); have Ncw0_0 := hcn (w.heap.size) (0) (by first | omega | (simp; done) | (simp; omega)); have Nfw0_0 := hfn (w.heap.size) (0) (by first | omega | (simp; done) | (simp; omega)); have Nhy0 : w.heap.size < wn.heap.size := (by omega); have Ncw0_1 := hcn (w.heap.size) (1) (by first | omega | (simp; done) | (simp; omega)); have Nfw0_1 := hfn (w.heap.size) (1) (by first | omega | (simp; done) | (simp; omega)); have Ncw1_0 := hcn (w.heap.size + 1) (0) (by first | omega | (simp; done) | (simp; omega)); have Nfw1_0 := hfn (w.heap.size + 1) (0) (by first | omega | (simp; done) | (simp; omega)); have Nhy1 : w.heap.size + 1 < wn.heap.size := (by omega); have Ncw1_1 := hcn (w.heap.size + 1) (1) (by first | omega | (simp; done) | (simp; omega)); have Nfw1_1 := hfn (w.heap.size + 1) (1) (by first | omega | (simp; done) | (simp; omega)); (first | (simp [go_sem, cw0_0, fw0_0, cw0_1, fw0_1, cw1_0, fw1_0, cw1_1, fw1_1, hy0, hy1] at Ncw0_0 Nfw0_0 Ncw0_1 Nfw0_1 Ncw1_0 Nfw1_0 Ncw1_1 Nfw1_1; clear cw0_0 fw0_0 cw0_1 fw0_1 cw1_0 fw1_0 cw1_1 fw1_1) | (simp [go_sem] at Ncw0_0 Nfw0_0 Ncw0_1 Nfw0_1 Ncw1_0 Nfw1_0 Ncw1_1 Nfw1_1)); clear hcn hfn; have cw0_0 := Ncw0_0; have fw0_0 := Nfw0_0; have cw0_1 := Ncw0_1; have fw0_1 := Nfw0_1; have cw1_0 := Ncw1_0; have fw1_0 := Nfw1_0; have cw1_1 := Ncw1_1; have fw1_1 := Nfw1_1; have hy0 := Nhy0; have hy1 := Nhy1; clear Ncw0_0 Nfw0_0 Ncw0_1 Nfw0_1 Ncw1_0 Nfw1_0 Ncw1_1 Nfw1_1 Nhy0 Nhy1)
  go_wp2_with fail
  refine (laws_eqInt64S _ _ _ _ lb _ (H.out.r2.below (by (repeat' (first | (with_reducible exact Below.refl _ _) | (with_reducible assumption) | (with_reducible refine Below.alloc ?_ ?_ _) | (with_reducible refine Below.drew ?_) | (with_reducible refine Below.drewN' ?_ _) | (with_reducible refine Below.setCell ?_ ?_ _) | (refine Below.via ?_ (by with_reducible assumption) ?_) | (with_reducible refine Below.via ?_ (Wd.h _) ?_) | go_size)))) (H'.out.r2.below (by (repeat' (first | (with_reducible exact Below.refl _ _) | (with_reducible assumption) | (with_reducible refine Below.alloc ?_ ?_ _) | (with_reducible refine Below.drew ?_) | (with_reducible refine Below.drewN' ?_ _) | (with_reducible refine Below.setCell ?_ ?_ _) | (refine Below.via ?_ (by with_reducible assumption) ?_) | (with_reducible refine Below.via ?_ (Wd.h _) ?_) | go_size)))) H.out.s2).mono ?_
  rintro e wn ⟨rfl, hbn⟩
  (obtain ⟨hcn, hfn⟩ := bcell hbn; have hzn := hbn.size; (try simp at hzn); have Ncw0_0 := hcn (w.heap.size) (0) (by first | omega | (simp; done) | (simp; omega)); have Nfw0_0 := hfn (w.heap.size) (0) (by first | omega | (simp; done) | (simp; omega)); have Nhy0 : w.heap.size < wn.heap.size := (by omega); have Ncw0_1 := hcn (w.heap.size) (1) (by first | omega | (simp; done) | (simp; omega)); have Nfw0_1 := hfn (w.heap.size) (1) (by first | omega | (simp; done) | (simp; omega)); have Ncw1_0 := hcn (w.heap.size + 1) (0) (by first | omega | (simp; done) | (simp; omega)); have Nfw1_0 := hfn (w.heap.size + 1) (0) (by first | omega | (simp; done) | (simp; omega)); have Nhy1 : w.heap.size + 1 < wn.heap.size := (by omega); have Ncw1_1 := hcn (w.heap.size + 1) (1) (by first | omega | (simp; done) | (simp; omega)); have Nfw1_1 := hfn (w.heap.size + 1) (1) (by first | omega | (simp; done) | (simp; omega)); (first | (simp [go_sem, cw0_0, fw0_0, cw0_1, fw0_1, cw1_0, fw1_0, cw1_1, fw1_1, hy0, hy1] at Ncw0_0 Nfw0_0 Ncw0_1 Nfw0_1 Ncw1_0 Nfw1_0 Ncw1_1 Nfw1_1; clear cw0_0 fw0_0 cw0_1 fw0_1 cw1_0 fw1_0 cw1_1 fw1_1) | (simp [go_sem] at Ncw0_0 Nfw0_0 Ncw0_1 Nfw0_1 Ncw1_0 Nfw1_0 Ncw1_1 Nfw1_1)); clear hcn hfn; have cw0_0 := Ncw0_0; have fw0_0 := Nfw0_0; have cw0_1 := Ncw0_1; have fw0_1 := Nfw0_1; have cw1_0 := Ncw1_0; have fw1_0 := Nfw1_0; have cw1_1 := Ncw1_1; have fw1_1 := Nfw1_1; have hy0 := Nhy0; have hy1 := Nhy1; clear Ncw0_0 Nfw0_0 Ncw0_1 Nfw0_1 Ncw1_0 Nfw1_0 Ncw1_1 Nfw1_1 Nhy0 Nhy1)
  go_wp2
  go_ret
  exact ⟨rfl, by (repeat' (first | (with_reducible exact Below.refl _ _) | (with_reducible assumption) | (with_reducible refine Below.alloc ?_ ?_ _) | (with_reducible refine Below.drew ?_) | (with_reducible refine Below.drewN' ?_ _) | (with_reducible refine Below.setCell ?_ ?_ _) | (refine Below.via ?_ (by with_reducible assumption) ?_) | (with_reducible refine Below.via ?_ (Wd.h _) ?_) | go_size))⟩
set_option maxRecDepth 100000
section
open Go.Joins Go.ChangeShapes Go.WideShapes Go.ChangeAt Go.Deep
variable {H : Type} {enc : TypeId × Value → H} {w : World}
theorem cells_Hour : Try.prog.cellsOf 30 = 2 := by kernel_rfl
theorem open_hour' {r : Reach} {b0 : Nat} {v : Value} {d : DataW H} {p : List MemPlace} (hv : Value.okWide Try.prog w r b0 30 v) (h : DataW.Trod enc Try.prog w 0 (fun _ => true) true 30 v d p) :
    ∃ Aa ca la Ab cb lb, v = .agg #[.slice Aa la.length ca, .slice Ab lb.length cb] ∧ IntsIn w Aa la ∧ IntsIn w Ab lb := by
  obtain ⟨cs, n, rfl, hl, hf⟩ := agg_list Try.underlying30 (by kernel_rfl) cells_Hour hv h
  obtain ⟨u0, y0, c0, t0⟩ := hf 0 _ rfl
  obtain ⟨u1, y1, c1, t1⟩ := hf 1 _ rfl
  obtain ⟨Aa, ca, la, rfl, aa⟩ := trod_ints t0
  obtain ⟨Ab, cb, lb, rfl, ab⟩ := trod_ints t1
  match cs, hl with
  | [z0, z1], _ =>
    simp at c0 c1
    subst c0 c1
    exact ⟨Aa, ca, la, Ab, cb, lb, rfl, aa, ab⟩
end
end Go.Proofs.Ytapdcndagnlmaaa

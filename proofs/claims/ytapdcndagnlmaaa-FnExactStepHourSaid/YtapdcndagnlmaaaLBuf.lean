/- The laws' helpers on Buffers. -/
import Derived.Test.YtapdcndagnlmaaaBf
import Derived.Test.YtapdcndagnlmaaaOpenN
import Derived.Test.YtapdcndagnlmaaaLI
import Derived.Deep.RegionHeld3
namespace Go.Proofs.Ytapdcndagnlmaaa
set_option linter.unusedVariables false
set_option linter.unusedSimpArgs false
open Go.RowKit
structure MadeBuffers (w w' : World) (ga gb gc : Nat) (la lb lc : List Int) : Prop where
  ara : Arr w' ga la.length (la.map iV)
  gea : w.heap.size ≤ ga
  arb : Arr w' gb lb.length (lb.map iV)
  geb : w.heap.size ≤ gb
  arc : Arr w' gc lc.length (lc.map iV)
  gec : w.heap.size ≤ gc
  neab : ga ≠ gb
  neac : ga ≠ gc
  nebc : gb ≠ gc
  sza : la.length ≤ 1048576
  szb : lb.length ≤ 1048576
  szc : lc.length ≤ 1048576
theorem MadeBuffers.at_ {w w' : World} {ga gb gc : Nat} {la lb lc : List Int} (h : MadeBuffers w w' ga gb gc la lb lc) : BufAt w' (some ⟨ga, 0, none⟩) (some ⟨gb, 0, none⟩) (some ⟨gc, 0, none⟩) la lb lc :=
  ⟨h.ara.rd, h.arb.rd, h.arc.rd, h.sza, h.szb, h.szc⟩
set_option maxRecDepth 100000 in
set_option maxHeartbeats 2000000 in
theorem laws_toBuffers (Aa Ab Ac : Option Addr) (ca cb cc : Nat) (la lb lc : List Int) (w : World) (ha : Rd w Aa (la.map iV)) (hb : Rd w Ab (lb.map iV)) (hc : Rd w Ac (lc.map iV)) (sa : la.length ≤ 1048576) (sb : lb.length ≤ 1048576) (sc : lc.length ≤ 1048576) :
    Calls Try.prog 10 #[.agg #[.slice Aa la.length ca, .slice Ab lb.length cb, .slice Ac lc.length cc]] w fun e w' => ∃ ga gb gc : Nat, e = .returned (.agg #[.slice (some ⟨ga, 0, none⟩) la.length la.length, .slice (some ⟨gb, 0, none⟩) lb.length lb.length, .slice (some ⟨gc, 0, none⟩) lc.length lc.length]) ∧ MadeBuffers w w' ga gb gc la lb lc ∧ Below w.heap.size w w' := by
  have Ha := Lib.hid ha
  clear ha
  have Hb := Lib.hid hb
  clear hb
  have Hc := Lib.hid hc
  clear hc
  go_enter Try.func10, Try.ntmps10
  
  go_wp2_with fail
  refine (laws_toInt64S _ _ la _ (Ha.out.below (by (repeat' (first | (with_reducible exact Below.refl _ _) | (with_reducible assumption) | (with_reducible refine Below.alloc ?_ ?_ _) | (with_reducible refine Below.drew ?_) | (with_reducible refine Below.drewN' ?_ _) | (with_reducible refine Below.setCell ?_ ?_ _) | (refine Below.via ?_ (by with_reducible assumption) ?_) | (with_reducible refine Below.via ?_ (Wd.h _) ?_) | go_size)))) sa).mono ?_
  rintro e w1 ⟨ga, rfl, hga, hAa, hb1⟩
  simp at hga
  have hlta := hAa.lt
  (obtain ⟨hcn, hfn⟩ := bcell hb1; have hz1 := hb1.size; (try simp at hz1); have Ncw0_0 := hcn (w.heap.size) (0) (by first | omega | (simp; done) | (simp; omega)); have Nfw0_0 := hfn (w.heap.size) (0) (by first | omega | (simp; done) | (simp; omega)); have Nhy0 : w.heap.size < w1.heap.size := (by omega); have Ncw0_1 := hcn (w.heap.size) (1) (by first | omega | (simp; done) | (simp; omega)); have Nfw0_1 := hfn (w.heap.size) (1) (by first | omega | (simp; done) | (simp; omega)); have Ncw0_2 := hcn (w.heap.size) (2) (by first | omega | (simp; done) | (simp; omega)); have Nfw0_2 := hfn (w.heap.size) (2) (by first | omega | (simp; done) | (simp; omega)); have Ncw1_0 := hcn (w.heap.size + 1) (0) (by first | omega | (simp; done) | (simp; omega)); have Nfw1_0 := hfn (w.heap.size + 1) (0) (by first | omega | (simp; done) | (simp; omega)); have Nhy1 : w.heap.size + 1 < w1.heap.size := (by omega); have Ncw1_1 := hcn (w.heap.size + 1) (1) (by first | omega | (simp; done) | (simp; omega)); have Nfw1_1 := hfn (w.heap.size + 1) (1) (by first | omega | (simp; done) | (simp; omega)); have Ncw1_2 := hcn (w.heap.size + 1) (2) (by first | omega | (simp; done) | (simp; omega)); have Nfw1_2 := hfn (w.heap.size + 1) (2) (by first | omega | (simp; done) | (simp; omega)); have Ncx_0 := hcn (w.heap.size + 2) (0) (by first | omega | (simp; done) | (simp; omega)); have Ncx_0f := hfn (w.heap.size + 2) (0) (by first | omega | (simp; done) | (simp; omega)); have Nhy_cx : w.heap.size + 2 < w1.heap.size := (by omega); have Ncx_1 := hcn (w.heap.size + 2) (1) (by first | omega | (simp; done) | (simp; omega)); have Ncx_1f := hfn (w.heap.size + 2) (1) (by first | omega | (simp; done) | (simp; omega)); have Ncx_2 := hcn (w.heap.size + 2) (2) (by first | omega | (simp; done) | (simp; omega)); have Ncx_2f := hfn (w.heap.size + 2) (2) (by first | omega | (simp; done) | (simp; omega)); simp [go_sem] at Ncw0_0 Nfw0_0 Ncw0_1 Nfw0_1 Ncw0_2 Nfw0_2 Ncw1_0 Nfw1_0 Ncw1_1 Nfw1_1 Ncw1_2 Nfw1_2 Ncx_0 Ncx_0f Ncx_1 Ncx_1f Ncx_2 Ncx_2f; clear hcn hfn; have cw0_0 := Ncw0_0; have fw0_0 := Nfw0_0; have cw0_1 := Ncw0_1; have fw0_1 := Nfw0_1; have cw0_2 := Ncw0_2; have fw0_2 := Nfw0_2; have cw1_0 := Ncw1_0; have fw1_0 := Nfw1_0; have cw1_1 := Ncw1_1; have fw1_1 := Nfw1_1; have cw1_2 := Ncw1_2; have fw1_2 := Nfw1_2; have cx_0 := Ncx_0; have cx_0f := Ncx_0f; have cx_1 := Ncx_1; have cx_1f := Ncx_1f; have cx_2 := Ncx_2; have cx_2f := Ncx_2f; have hy0 := Nhy0; have hy1 := Nhy1; have hy_cx := Nhy_cx; clear Ncw0_0 Nfw0_0 Ncw0_1 Nfw0_1 Ncw0_2 Nfw0_2 Ncw1_0 Nfw1_0 Ncw1_1 Nfw1_1 Ncw1_2 Nfw1_2 Ncx_0 Ncx_0f Ncx_1 Ncx_1f Ncx_2 Ncx_2f Nhy0 Nhy1 Nhy_cx)
  go_wp2_with fail
  refine (laws_toInt64S _ _ lb _ (Hb.out.below (by (repeat' (first | (with_reducible exact Below.refl _ _) | (with_reducible assumption) | (with_reducible refine Below.alloc ?_ ?_ _) | (with_reducible refine Below.drew ?_) | (with_reducible refine Below.drewN' ?_ _) | (with_reducible refine Below.setCell ?_ ?_ _) | (refine Below.via ?_ (by with_reducible assumption) ?_) | (with_reducible refine Below.via ?_ (Wd.h _) ?_) | go_size)))) sb).mono ?_
  rintro e w2 ⟨gb, rfl, hgb, hAb, hb2⟩
  simp at hgb
  have hAa := (hAa.far (p := ⟨w.heap.size + 2, 0, none⟩) (by simp; omega) (.slice (some ⟨ga, 0, none⟩) la.length la.length)).below hb2 (by simp; omega)
  have hltb := hAb.lt
  (obtain ⟨hcn, hfn⟩ := bcell hb2; have hz2 := hb2.size; (try simp at hz2); have Ncw0_0 := hcn (w.heap.size) (0) (by first | omega | (simp; done) | (simp; omega)); have Nfw0_0 := hfn (w.heap.size) (0) (by first | omega | (simp; done) | (simp; omega)); have Nhy0 : w.heap.size < w2.heap.size := (by omega); have Ncw0_1 := hcn (w.heap.size) (1) (by first | omega | (simp; done) | (simp; omega)); have Nfw0_1 := hfn (w.heap.size) (1) (by first | omega | (simp; done) | (simp; omega)); have Ncw0_2 := hcn (w.heap.size) (2) (by first | omega | (simp; done) | (simp; omega)); have Nfw0_2 := hfn (w.heap.size) (2) (by first | omega | (simp; done) | (simp; omega)); have Ncw1_0 := hcn (w.heap.size + 1) (0) (by first | omega | (simp; done) | (simp; omega)); have Nfw1_0 := hfn (w.heap.size + 1) (0) (by first | omega | (simp; done) | (simp; omega)); have Nhy1 : w.heap.size + 1 < w2.heap.size := (by omega); have Ncw1_1 := hcn (w.heap.size + 1) (1) (by first | omega | (simp; done) | (simp; omega)); have Nfw1_1 := hfn (w.heap.size + 1) (1) (by first | omega | (simp; done) | (simp; omega)); have Ncw1_2 := hcn (w.heap.size + 1) (2) (by first | omega | (simp; done) | (simp; omega)); have Nfw1_2 := hfn (w.heap.size + 1) (2) (by first | omega | (simp; done) | (simp; omega)); have Ncx_0 := hcn (w.heap.size + 2) (0) (by first | omega | (simp; done) | (simp; omega)); have Ncx_0f := hfn (w.heap.size + 2) (0) (by first | omega | (simp; done) | (simp; omega)); have Nhy_cx : w.heap.size + 2 < w2.heap.size := (by omega); have Ncx_1 := hcn (w.heap.size + 2) (1) (by first | omega | (simp; done) | (simp; omega)); have Ncx_1f := hfn (w.heap.size + 2) (1) (by first | omega | (simp; done) | (simp; omega)); have Ncx_2 := hcn (w.heap.size + 2) (2) (by first | omega | (simp; done) | (simp; omega)); have Ncx_2f := hfn (w.heap.size + 2) (2) (by first | omega | (simp; done) | (simp; omega)); simp [go_sem, cw0_0, fw0_0, cw0_1, fw0_1, cw0_2, fw0_2, cw1_0, fw1_0, cw1_1, fw1_1, cw1_2, fw1_2, cx_0, cx_0f, cx_1, cx_1f, cx_2, cx_2f, hy0, hy1, hy_cx] at Ncw0_0 Nfw0_0 Ncw0_1 Nfw0_1 Ncw0_2 Nfw0_2 Ncw1_0 Nfw1_0 Ncw1_1 Nfw1_1 Ncw1_2 Nfw1_2 Ncx_0 Ncx_0f Ncx_1 Ncx_1f Ncx_2 Ncx_2f; clear cw0_0 fw0_0 cw0_1 fw0_1 cw0_2 fw0_2 cw1_0 fw1_0 cw1_1 fw1_1 cw1_2 fw1_2 cx_0 cx_0f cx_1 cx_1f cx_2 cx_2f hy0 hy1 hy_cx; clear hcn hfn; have cw0_0 := Ncw0_0; have fw0_0 := Nfw0_0; have cw0_1 := Ncw0_1; have fw0_1 := Nfw0_1; have cw0_2 := Ncw0_2; have fw0_2 := Nfw0_2; have cw1_0 := Ncw1_0; have fw1_0 := Nfw1_0; have cw1_1 := Ncw1_1; have fw1_1 := Nfw1_1; have cw1_2 := Ncw1_2; have fw1_2 := Nfw1_2; have cx_0 := Ncx_0; have cx_0f := Ncx_0f; have cx_1 := Ncx_1; have cx_1f := Ncx_1f; have cx_2 := Ncx_2; have cx_2f := Ncx_2f; have hy0 := Nhy0; have hy1 := Nhy1; have hy_cx := Nhy_cx; clear Ncw0_0 Nfw0_0 Ncw0_1 Nfw0_1 Ncw0_2 Nfw0_2 Ncw1_0 Nfw1_0 Ncw1_1 Nfw1_1 Ncw1_2 Nfw1_2 Ncx_0 Ncx_0f Ncx_1 Ncx_1f Ncx_2 Ncx_2f Nhy0 Nhy1 Nhy_cx)
  go_wp2_with fail
  refine (laws_toInt64S _ _ lc _ (Hc.out.below (by (repeat' (first | (with_reducible exact Below.refl _ _) | (with_reducible assumption) | (with_reducible refine Below.alloc ?_ ?_ _) | (with_reducible refine Below.drew ?_) | (with_reducible refine Below.drewN' ?_ _) | (with_reducible refine Below.setCell ?_ ?_ _) | (refine Below.via ?_ (by with_reducible assumption) ?_) | (with_reducible refine Below.via ?_ (Wd.h _) ?_) | go_size)))) sc).mono ?_
  rintro e w3 ⟨gc, rfl, hgc, hAc, hb3⟩
  simp at hgc
  have hAa := (hAa.far (p := ⟨w.heap.size + 2, 1, none⟩) (by simp; omega) (.slice (some ⟨gb, 0, none⟩) lb.length lb.length)).below hb3 (by simp; omega)
  have hAb := (hAb.far (p := ⟨w.heap.size + 2, 1, none⟩) (by simp; omega) (.slice (some ⟨gb, 0, none⟩) lb.length lb.length)).below hb3 (by simp; omega)
  have hltc := hAc.lt
  (obtain ⟨hcn, hfn⟩ := bcell hb3; have hz3 := hb3.size; (try simp at hz3); have Ncw0_0 := hcn (w.heap.size) (0) (by first | omega | (simp; done) | (simp; omega)); have Nfw0_0 := hfn (w.heap.size) (0) (by first | omega | (simp; done) | (simp; omega)); have Nhy0 : w.heap.size < w3.heap.size := (by omega); have Ncw0_1 := hcn (w.heap.size) (1) (by first | omega | (simp; done) | (simp; omega)); have Nfw0_1 := hfn (w.heap.size) (1) (by first | omega | (simp; done) | (simp; omega)); have Ncw0_2 := hcn (w.heap.size) (2) (by first | omega | (simp; done) | (simp; omega)); have Nfw0_2 := hfn (w.heap.size) (2) (by first | omega | (simp; done) | (simp; omega)); have Ncw1_0 := hcn (w.heap.size + 1) (0) (by first | omega | (simp; done) | (simp; omega)); have Nfw1_0 := hfn (w.heap.size + 1) (0) (by first | omega | (simp; done) | (simp; omega)); have Nhy1 : w.heap.size + 1 < w3.heap.size := (by omega); have Ncw1_1 := hcn (w.heap.size + 1) (1) (by first | omega | (simp; done) | (simp; omega)); have Nfw1_1 := hfn (w.heap.size + 1) (1) (by first | omega | (simp; done) | (simp; omega)); have Ncw1_2 := hcn (w.heap.size + 1) (2) (by first | omega | (simp; done) | (simp; omega)); have Nfw1_2 := hfn (w.heap.size + 1) (2) (by first | omega | (simp; done) | (simp; omega)); have Ncx_0 := hcn (w.heap.size + 2) (0) (by first | omega | (simp; done) | (simp; omega)); have Ncx_0f := hfn (w.heap.size + 2) (0) (by first | omega | (simp; done) | (simp; omega)); have Nhy_cx : w.heap.size + 2 < w3.heap.size := (by omega); have Ncx_1 := hcn (w.heap.size + 2) (1) (by first | omega | (simp; done) | (simp; omega)); have Ncx_1f := hfn (w.heap.size + 2) (1) (by first | omega | (simp; done) | (simp; omega)); have Ncx_2 := hcn (w.heap.size + 2) (2) (by first | omega | (simp; done) | (simp; omega)); have Ncx_2f := hfn (w.heap.size + 2) (2) (by first | omega | (simp; done) | (simp; omega)); simp [go_sem, cw0_0, fw0_0, cw0_1, fw0_1, cw0_2, fw0_2, cw1_0, fw1_0, cw1_1, fw1_1, cw1_2, fw1_2, cx_0, cx_0f, cx_1, cx_1f, cx_2, cx_2f, hy0, hy1, hy_cx] at Ncw0_0 Nfw0_0 Ncw0_1 Nfw0_1 Ncw0_2 Nfw0_2 Ncw1_0 Nfw1_0 Ncw1_1 Nfw1_1 Ncw1_2 Nfw1_2 Ncx_0 Ncx_0f Ncx_1 Ncx_1f Ncx_2 Ncx_2f; clear cw0_0 fw0_0 cw0_1 fw0_1 cw0_2 fw0_2 cw1_0 fw1_0 cw1_1 fw1_1 cw1_2 fw1_2 cx_0 cx_0f cx_1 cx_1f cx_2 cx_2f hy0 hy1 hy_cx; clear hcn hfn; have cw0_0 := Ncw0_0; have fw0_0 := Nfw0_0; have cw0_1 := Ncw0_1; have fw0_1 := Nfw0_1; have cw0_2 := Ncw0_2; have fw0_2 := Nfw0_2; have cw1_0 := Ncw1_0; have fw1_0 := Nfw1_0; have cw1_1 := Ncw1_1; have fw1_1 := Nfw1_1; have cw1_2 := Ncw1_2; have fw1_2 := Nfw1_2; have cx_0 := Ncx_0; have cx_0f := Ncx_0f; have cx_1 := Ncx_1; have cx_1f := Ncx_1f; have cx_2 := Ncx_2; have cx_2f := Ncx_2f; have hy0 := Nhy0; have hy1 := Nhy1; have hy_cx := Nhy_cx; clear Ncw0_0 Nfw0_0 Ncw0_1 Nfw0_1 Ncw0_2 Nfw0_2 Ncw1_0 Nfw1_0 Ncw1_1 Nfw1_1 Ncw1_2 Nfw1_2 Ncx_0 Ncx_0f Ncx_1 Ncx_1f Ncx_2 Ncx_2f Nhy0 Nhy1 Nhy_cx)
  have HAa := Lib.hid hAa; have HAb := Lib.hid hAb; have HAc := Lib.hid hAc
  clear hAa hAb hAc
  go_wp2
  (first | (refine bodyPost_ret (by simp [results, Try.results10, go_sem, cw0_0, cw0_1, cw0_2, cw1_0, cw1_1, cw1_2]; try rfl) rfl ?_) | (refine bodyPost_ret (by simp [results, Try.results10, go_sem]; try rfl) rfl ?_))
  refine ⟨ga, gb, gc, rfl, ⟨?_, ?_, ?_, ?_, ?_, ?_, ?_, ?_, ?_, ?_, ?_, ?_⟩, by (repeat' (first | (with_reducible exact Below.refl _ _) | (with_reducible assumption) | (with_reducible refine Below.alloc ?_ ?_ _) | (with_reducible refine Below.drew ?_) | (with_reducible refine Below.drewN' ?_ _) | (with_reducible refine Below.setCell ?_ ?_ _) | (refine Below.via ?_ (by with_reducible assumption) ?_) | (with_reducible refine Below.via ?_ (Wd.h _) ?_) | go_size))⟩
  · exact ((((HAa.out.far (by simp; omega) _).far (by simp; omega) _).far (by simp; omega) _).far (by simp; omega) _)
  · omega
  · exact ((((HAb.out.far (by simp; omega) _).far (by simp; omega) _).far (by simp; omega) _).far (by simp; omega) _)
  · omega
  · exact ((((HAc.out.far (by simp; omega) _).far (by simp; omega) _).far (by simp; omega) _).far (by simp; omega) _)
  · omega
  · omega
  · omega
  · omega
  · exact sa
  · exact sb
  · exact sc
set_option maxRecDepth 100000 in
set_option maxHeartbeats 2000000 in
theorem laws_szBuffers (Aa Ab Ac : Option Addr) (ca cb cc : Nat) (la lb lc : List Int) (left : Int) (w : World) (h0 : 0 ≤ left) (h1 : left ≤ 1048576) (sa : la.length ≤ 9223372036854775807) (sb : lb.length ≤ 9223372036854775807) (sc : lc.length ≤ 9223372036854775807) :
    Calls Try.prog 6 #[.agg #[.slice Aa la.length ca, .slice Ab lb.length cb, .slice Ac lc.length cc], .int .i64 left] w (SzPost w left (la.length + lb.length + lc.length)) := by
  by_cases hra : szN left la.length < 0
  · (go_enter Try.func6, Try.ntmps6; go_wp2_with (first | (go_at_call 28; ((with_reducible refine (laws_szInt64S _ _ _ _ _ (by omega) (by omega) (by omega)).mono ?_)); rintro e wn ⟨rfl, rfl⟩)))
    all_goals first | (go_ret; exact ⟨-1, rfl, .inl rfl, by (repeat' (first | (with_reducible exact Below.refl _ _) | (with_reducible assumption) | (with_reducible refine Below.alloc ?_ ?_ _) | (with_reducible refine Below.drew ?_) | (with_reducible refine Below.drewN' ?_ _) | (with_reducible refine Below.setCell ?_ ?_ _) | (refine Below.via ?_ (by with_reducible assumption) ?_) | (with_reducible refine Below.via ?_ (Wd.h _) ?_) | go_size))⟩) | (exfalso; omega)
  have ea : szN (left) la.length = left - la.length := by unfold szN at hra ⊢; split at hra <;> (first | omega | (split <;> omega))
  have fa : 0 ≤ szN (left) la.length := by omega
  by_cases hrb : szN (szN (left) la.length) lb.length < 0
  · have Ea := Lib.hid ea; clear ea
    have hlea : szN (left) la.length ≤ 1048576 := by have := Ea.out; omega
    (go_enter Try.func6, Try.ntmps6; go_wp2_with (first | (go_at_call 28; ((with_reducible refine (laws_szInt64S _ _ _ _ _ (by omega) (by omega) (by omega)).mono ?_)); rintro e wn ⟨rfl, rfl⟩)))
    all_goals first | (go_ret; exact ⟨-1, rfl, .inl rfl, by (repeat' (first | (with_reducible exact Below.refl _ _) | (with_reducible assumption) | (with_reducible refine Below.alloc ?_ ?_ _) | (with_reducible refine Below.drew ?_) | (with_reducible refine Below.drewN' ?_ _) | (with_reducible refine Below.setCell ?_ ?_ _) | (refine Below.via ?_ (by with_reducible assumption) ?_) | (with_reducible refine Below.via ?_ (Wd.h _) ?_) | go_size))⟩) | (exfalso; omega)
  have eb : szN (szN (left) la.length) lb.length = szN (left) la.length - lb.length := by unfold szN at hrb ⊢; split at hrb <;> (first | omega | (split <;> omega))
  have fb : 0 ≤ szN (szN (left) la.length) lb.length := by omega
  by_cases hrc : szN (szN (szN (left) la.length) lb.length) lc.length < 0
  · have Ea := Lib.hid ea; clear ea; have Eb := Lib.hid eb; clear eb
    have hlea : szN (left) la.length ≤ 1048576 := by have := Ea.out; omega
    have hleb : szN (szN (left) la.length) lb.length ≤ 1048576 := by have := Ea.out; have := Eb.out; omega
    (go_enter Try.func6, Try.ntmps6; go_wp2_with (first | (go_at_call 28; ((with_reducible refine (laws_szInt64S _ _ _ _ _ (by omega) (by omega) (by omega)).mono ?_)); rintro e wn ⟨rfl, rfl⟩)))
    all_goals first | (go_ret; exact ⟨-1, rfl, .inl rfl, by (repeat' (first | (with_reducible exact Below.refl _ _) | (with_reducible assumption) | (with_reducible refine Below.alloc ?_ ?_ _) | (with_reducible refine Below.drew ?_) | (with_reducible refine Below.drewN' ?_ _) | (with_reducible refine Below.setCell ?_ ?_ _) | (refine Below.via ?_ (by with_reducible assumption) ?_) | (with_reducible refine Below.via ?_ (Wd.h _) ?_) | go_size))⟩) | (exfalso; omega)
  have ec : szN (szN (szN (left) la.length) lb.length) lc.length = szN (szN (left) la.length) lb.length - lc.length := by unfold szN at hrc ⊢; split at hrc <;> (first | omega | (split <;> omega))
  have fc : 0 ≤ szN (szN (szN (left) la.length) lb.length) lc.length := by omega
  have Ea := Lib.hid ea; clear ea; have Eb := Lib.hid eb; clear eb; have Ec := Lib.hid ec; clear ec
  have lea : szN (left) la.length ≤ 1048576 := by have := Ea.out; omega
  have leb : szN (szN (left) la.length) lb.length ≤ 1048576 := by have := Ea.out; have := Eb.out; omega
  have lec : szN (szN (szN (left) la.length) lb.length) lc.length ≤ 1048576 := by have := Ea.out; have := Eb.out; have := Ec.out; omega
  (go_enter Try.func6, Try.ntmps6; go_wp2_with (first | (go_at_call 28; ((with_reducible refine (laws_szInt64S _ _ _ _ _ (by omega) (by omega) (by omega)).mono ?_)); rintro e wn ⟨rfl, rfl⟩)))
  all_goals first | (go_ret; exact ⟨_, rfl, .inr ⟨by omega, by have := Ea.out; have := Eb.out; have := Ec.out; omega⟩, by (repeat' (first | (with_reducible exact Below.refl _ _) | (with_reducible assumption) | (with_reducible refine Below.alloc ?_ ?_ _) | (with_reducible refine Below.drew ?_) | (with_reducible refine Below.drewN' ?_ _) | (with_reducible refine Below.setCell ?_ ?_ _) | (refine Below.via ?_ (by with_reducible assumption) ?_) | (with_reducible refine Below.via ?_ (Wd.h _) ?_) | go_size))⟩) | (exfalso; omega)
set_option maxRecDepth 100000 in
set_option maxHeartbeats 2000000 in
theorem laws_eqBuffers (Aa Ab Ac Ba Bb Bc : Option Addr) (ca cb cc da db dc : Nat) (la lb lc : List Int) (w : World) (h : BufAt w Aa Ab Ac la lb lc) (h' : BufAt w Ba Bb Bc la lb lc) :
    Calls Try.prog 13 #[.agg #[.slice Aa la.length ca, .slice Ab lb.length cb, .slice Ac lc.length cc], .agg #[.slice Ba la.length da, .slice Bb lb.length db, .slice Bc lc.length dc]] w fun e w' => e = .returned (.bool true) ∧ Below w.heap.size w w' := by
  have H := Lib.hid h
  have H' := Lib.hid h'
  clear h h'
  go_enter Try.func13, Try.ntmps13
  go_wp2_with fail
  refine (laws_eqInt64S _ _ _ _ la _ (H.out.r1.below (by (repeat' (first | (with_reducible exact Below.refl _ _) | (with_reducible assumption) | (with_reducible refine Below.alloc ?_ ?_ _) | (with_reducible refine Below.drew ?_) | (with_reducible refine Below.drewN' ?_ _) | (with_reducible refine Below.setCell ?_ ?_ _) | (refine Below.via ?_ (by with_reducible assumption) ?_) | (with_reducible refine Below.via ?_ (Wd.h _) ?_) | go_size)))) (H'.out.r1.below (by (repeat' (first | (with_reducible exact Below.refl _ _) | (with_reducible assumption) | (with_reducible refine Below.alloc ?_ ?_ _) | (with_reducible refine Below.drew ?_) | (with_reducible refine Below.drewN' ?_ _) | (with_reducible refine Below.setCell ?_ ?_ _) | (refine Below.via ?_ (by with_reducible assumption) ?_) | (with_reducible refine Below.via ?_ (Wd.h _) ?_) | go_size)))) H.out.s1).mono ?_
  rintro e wn ⟨rfl, hbn⟩
  (obtain ⟨hcn, hfn⟩ := bcell hbn; have hzn := hbn.size; (try simp at hzn); have Ncw0_0 := hcn (w.heap.size) (0) (by first | omega | (simp; done) | (simp; omega)); have Nfw0_0 := hfn (w.heap.size) (0) (by first | omega | (simp; done) | (simp; omega)); have Nhy0 : w.heap.size < wn.heap.size := (by omega); have Ncw0_1 := hcn (w.heap.size) (1) (by first | omega | (simp; done) | (simp; omega)); have Nfw0_1 := hfn (w.heap.size) (1) (by first | omega | (simp; done) | (simp; omega)); have Ncw0_2 := hcn (w.heap.size) (2) (by first | omega | (simp; done) | (simp; omega)); have Nfw0_2 := hfn (w.heap.size) (2) (by first | omega | (simp; done) | (simp; omega)); have Ncw1_0 := hcn (w.heap.size + 1) (0) (by first | omega | (simp; done) | (simp; omega)); have Nfw1_0 := hfn (w.heap.size + 1) (0) (by first | omega | (simp; done) | (simp; omega)); have Nhy1 : w.heap.size + 1 < wn.heap.size := (by omega); have Ncw1_1 := hcn (w.heap.size + 1) (1) (by first | omega | (simp; done) | (simp; omega)); have Nfw1_1 := hfn (w.heap.size + 1) (1) (by first | omega | (simp; done) | (simp; omega)); have Ncw1_2 := hcn (w.heap.size + 1) (2) (by first | omega | (simp; done) | (simp; omega)); have Nfw1_2 := hfn (w.heap.size + 1) (2) (by first | omega | (simp; done) | (simp; omega)); (first | (simp [go_sem, cw0_0, fw0_0, cw0_1, fw0_1, cw0_2, fw0_2, cw1_0, fw1_0, cw1_1, fw1_1, cw1_2, fw1_2, hy0, hy1] at Ncw0_0 Nfw0_0 Ncw0_1 Nfw0_1 Ncw0_2 Nfw0_2 Ncw1_0 Nfw1_0 Ncw1_1 Nfw1_1 Ncw1_2 Nfw1_2; clear cw0_0 fw0_0 cw0_1 fw0_1 cw0_2 fw0_2 cw1_0 fw1_0 cw1_1 fw1_1 cw1_2 fw1_2) | (simp [go_sem] at Ncw0_0 Nfw0_0 Ncw0_1 Nfw0_1 Ncw0_2 Nfw0_2 Ncw1_0 Nfw1_0 Ncw1_1 Nfw1_1 Ncw1_2 Nfw1_2)); clear hcn hfn; have cw0_0 := Ncw0_0; have fw0_0 := Nfw0_0; have cw0_1 := Ncw0_1; have fw0_1 := Nfw0_1; have cw0_2 := Ncw0_2; have fw0_2 := Nfw0_2; have cw1_0 := Ncw1_0; have fw1_0 := Nfw1_0; have cw1_1 := Ncw1_1; have fw1_1 := Nfw1_1; have cw1_2 := Ncw1_2; have fw1_2 := Nfw1_2; have hy0 := Nhy0; have hy1 := Nhy1; clear Ncw0_0 Nfw0_0 Ncw0_1 Nfw0_1 Ncw0_2 Nfw0_2 Ncw1_0 Nfw1_0 Ncw1_1 Nfw1_1 Ncw1_2 Nfw1_2 Nhy0 Nhy1)
  go_wp2_with fail
  refine (laws_eqInt64S _ _ _ _ lb _ (H.out.r2.below (by (repeat' (first | (with_reducible exact Below.refl _ _) | (with_reducible assumption) | (with_reducible refine Below.alloc ?_ ?_ _) | (with_reducible refine Below.drew ?_) | (with_reducible refine Below.drewN' ?_ _) | (with_reducible refine Below.setCell ?_ ?_ _) | (refine Below.via ?_ (by with_reducible assumption) ?_) | (with_reducible refine Below.via ?_ (Wd.h _) ?_) | go_size)))) (H'.out.r2.below (by (repeat' (first | (with_reducible exact Below.refl _ _) | (with_reducible assumption) | (with_reducible refine Below.alloc ?_ ?_ _) | (with_reducible refine Below.drew ?_) | (with_reducible refine Below.drewN' ?_ _) | (with_reducible refine Below.setCell ?_ ?_ _) | (refine Below.via ?_ (by with_reducible assumption) ?_) | (with_reducible refine Below.via ?_ (Wd.h _) ?_) | go_size)))) H.out.s2).mono ?_
  rintro e wn ⟨rfl, hbn⟩
  (obtain ⟨hcn, hfn⟩ := bcell hbn; have hzn := hbn.size; (try simp at hzn); have Ncw0_0 := hcn (w.heap.size) (0) (by first | omega | (simp; done) | (simp; omega)); have Nfw0_0 := hfn (w.heap.size) (0) (by first | omega | (simp; done) | (simp; omega)); have Nhy0 : w.heap.size < wn.heap.size := (by omega); have Ncw0_1 := hcn (w.heap.size) (1) (by first | omega | (simp; done) | (simp; omega)); have Nfw0_1 := hfn (w.heap.size) (1) (by first | omega | (simp; done) | (simp; omega)); have Ncw0_2 := hcn (w.heap.size) (2) (by first | omega | (simp; done) | (simp; omega)); have Nfw0_2 := hfn (w.heap.size) (2) (by first | omega | (simp; done) | (simp; omega)); have Ncw1_0 := hcn (w.heap.size + 1) (0) (by first | omega | (simp; done) | (simp; omega)); have Nfw1_0 := hfn (w.heap.size + 1) (0) (by first | omega | (simp; done) | (simp; omega)); have Nhy1 : w.heap.size + 1 < wn.heap.size := (by omega); have Ncw1_1 := hcn (w.heap.size + 1) (1) (by first | omega | (simp; done) | (simp; omega)); have Nfw1_1 := hfn (w.heap.size + 1) (1) (by first | omega | (simp; done) | (simp; omega)); have Ncw1_2 := hcn (w.heap.size + 1) (2) (by first | omega | (simp; done) | (simp; omega)); have Nfw1_2 := hfn (w.heap.size + 1) (2) (by first | omega | (simp; done) | (simp; omega)); (first | (simp [go_sem, cw0_0, fw0_0, cw0_1, fw0_1, cw0_2, fw0_2, cw1_0, fw1_0, cw1_1, fw1_1, cw1_2, fw1_2, hy0, hy1] at Ncw0_0 Nfw0_0 Ncw0_1 Nfw0_1 Ncw0_2 Nfw0_2 Ncw1_0 Nfw1_0 Ncw1_1 Nfw1_1 Ncw1_2 Nfw1_2; clear cw0_0 fw0_0 cw0_1 fw0_1 cw0_2 fw0_2 cw1_0 fw1_0 cw1_1 fw1_1 cw1_2 fw1_2) | (simp [go_sem] at Ncw0_0 Nfw0_0 Ncw0_1 Nfw0_1 Ncw0_2 Nfw0_2 Ncw1_0 Nfw1_0 Ncw1_1 Nfw1_1 Ncw1_2 Nfw1_2)); clear hcn hfn; have cw0_0 := Ncw0_0; have fw0_0 := Nfw0_0; have cw0_1 := Ncw0_1; have fw0_1 := Nfw0_1; have cw0_2 := Ncw0_2; have fw0_2 := Nfw0_2; have cw1_0 := Ncw1_0; have fw1_0 := Nfw1_0; have cw1_1 := Ncw1_1; have fw1_1 := Nfw1_1; have cw1_2 := Ncw1_2; have fw1_2 := Nfw1_2; have hy0 := Nhy0; have hy1 := Nhy1; clear Ncw0_0 Nfw0_0 Ncw0_1 Nfw0_1 Ncw0_2 Nfw0_2 Ncw1_0 Nfw1_0 Ncw1_1 Nfw1_1 Ncw1_2 Nfw1_2 Nhy0 Nhy1)
  go_wp2_with fail
  refine (laws_eqInt64S _ _ _ _ lc _ (H.out.r3.below (by (repeat' (first | (with_reducible exact Below.refl _ _) | (with_reducible assumption) | (with_reducible refine Below.alloc ?_ ?_ _) | (with_reducible refine Below.drew ?_) | (with_reducible refine Below.drewN' ?_ _) | (with_reducible refine Below.setCell ?_ ?_ _) | (refine Below.via ?_ (by with_reducible assumption) ?_) | (with_reducible refine Below.via ?_ (Wd.h _) ?_) | go_size)))) (H'.out.r3.below (by (repeat' (first | (with_reducible exact Below.refl _ _) | (with_reducible assumption) | (with_reducible refine Below.alloc ?_ ?_ _) | (with_reducible refine Below.drew ?_) | (with_reducible refine Below.drewN' ?_ _) | (with_reducible refine Below.setCell ?_ ?_ _) | (refine Below.via ?_ (by with_reducible assumption) ?_) | (with_reducible refine Below.via ?_ (Wd.h _) ?_) | go_size)))) H.out.s3).mono ?_
  rintro e wn ⟨rfl, hbn⟩
  (obtain ⟨hcn, hfn⟩ := bcell hbn; have hzn := hbn.size; (try simp at hzn); have Ncw0_0 := hcn (w.heap.size) (0) (by first | omega | (simp; done) | (simp; omega)); have Nfw0_0 := hfn (w.heap.size) (0) (by first | omega | (simp; done) | (simp; omega)); have Nhy0 : w.heap.size < wn.heap.size := (by omega); have Ncw0_1 := hcn (w.heap.size) (1) (by first | omega | (simp; done) | (simp; omega)); have Nfw0_1 := hfn (w.heap.size) (1) (by first | omega | (simp; done) | (simp; omega)); have Ncw0_2 := hcn (w.heap.size) (2) (by first | omega | (simp; done) | (simp; omega)); have Nfw0_2 := hfn (w.heap.size) (2) (by first | omega | (simp; done) | (simp; omega)); have Ncw1_0 := hcn (w.heap.size + 1) (0) (by first | omega | (simp; done) | (simp; omega)); have Nfw1_0 := hfn (w.heap.size + 1) (0) (by first | omega | (simp; done) | (simp; omega)); have Nhy1 : w.heap.size + 1 < wn.heap.size := (by omega); have Ncw1_1 := hcn (w.heap.size + 1) (1) (by first | omega | (simp; done) | (simp; omega)); have Nfw1_1 := hfn (w.heap.size + 1) (1) (by first | omega | (simp; done) | (simp; omega)); have Ncw1_2 := hcn (w.heap.size + 1) (2) (by first | omega | (simp; done) | (simp; omega)); have Nfw1_2 := hfn (w.heap.size + 1) (2) (by first | omega | (simp; done) | (simp; omega)); (first | (simp [go_sem, cw0_0, fw0_0, cw0_1, fw0_1, cw0_2, fw0_2, cw1_0, fw1_0, cw1_1, fw1_1, cw1_2, fw1_2, hy0, hy1] at Ncw0_0 Nfw0_0 Ncw0_1 Nfw0_1 Ncw0_2 Nfw0_2 Ncw1_0 Nfw1_0 Ncw1_1 Nfw1_1 Ncw1_2 Nfw1_2; clear cw0_0 fw0_0 cw0_1 fw0_1 cw0_2 fw0_2 cw1_0 fw1_0 cw1_1 fw1_1 cw1_2 fw1_2) | (simp [go_sem] at Ncw0_0 Nfw0_0 Ncw0_1 Nfw0_1 Ncw0_2 Nfw0_2 Ncw1_0 Nfw1_0 Ncw1_1 Nfw1_1 Ncw1_2 Nfw1_2)); clear hcn hfn; have cw0_0 := Ncw0_0; have fw0_0 := Nfw0_0; have cw0_1 := Ncw0_1; have fw0_1 := Nfw0_1; have cw0_2 := Ncw0_2; have fw0_2 := Nfw0_2; have cw1_0 := Ncw1_0; have fw1_0 := Nfw1_0; have cw1_1 := Ncw1_1; have fw1_1 := Nfw1_1; have cw1_2 := Ncw1_2; have fw1_2 := Nfw1_2; have hy0 := Nhy0; have hy1 := Nhy1; clear Ncw0_0 Nfw0_0 Ncw0_1 Nfw0_1 Ncw0_2 Nfw0_2 Ncw1_0 Nfw1_0 Ncw1_1 Nfw1_1 Ncw1_2 Nfw1_2 Nhy0 Nhy1)
  go_wp2
  go_ret
  exact ⟨rfl, by (repeat' (first | (with_reducible exact Below.refl _ _) | (with_reducible assumption) | (with_reducible refine Below.alloc ?_ ?_ _) | (with_reducible refine Below.drew ?_) | (with_reducible refine Below.drewN' ?_ _) | (with_reducible refine Below.setCell ?_ ?_ _) | (refine Below.via ?_ (by with_reducible assumption) ?_) | (with_reducible refine Below.via ?_ (Wd.h _) ?_) | go_size))⟩
set_option maxRecDepth 100000
section
open Go.Joins Go.ChangeShapes Go.WideShapes Go.ChangeAt Go.Deep
variable {H : Type} {enc : TypeId × Value → H} {w : World}
theorem cells_Buffers : Try.prog.cellsOf 28 = 3 := by kernel_rfl
theorem open_buffers' {r : Reach} {b0 : Nat} {v : Value} {d : DataW H} {p : List MemPlace} (hv : Value.okWide Try.prog w r b0 28 v) (h : DataW.Trod enc Try.prog w 0 (fun _ => true) true 28 v d p) :
    ∃ Aa ca la Ab cb lb Ac cc lc, v = .agg #[.slice Aa la.length ca, .slice Ab lb.length cb, .slice Ac lc.length cc] ∧ IntsIn w Aa la ∧ IntsIn w Ab lb ∧ IntsIn w Ac lc := by
  obtain ⟨cs, n, rfl, hl, hf⟩ := agg_list Try.underlying28 (by kernel_rfl) cells_Buffers hv h
  obtain ⟨u0, y0, c0, t0⟩ := hf 0 _ rfl
  obtain ⟨u1, y1, c1, t1⟩ := hf 1 _ rfl
  obtain ⟨u2, y2, c2, t2⟩ := hf 2 _ rfl
  obtain ⟨Aa, ca, la, rfl, aa⟩ := trod_ints t0
  obtain ⟨Ab, cb, lb, rfl, ab⟩ := trod_ints t1
  obtain ⟨Ac, cc, lc, rfl, ac⟩ := trod_ints t2
  match cs, hl with
  | [z0, z1, z2], _ =>
    simp at c0 c1 c2
    subst c0 c1 c2
    exact ⟨Aa, ca, la, Ab, cb, lb, Ac, cc, lc, rfl, aa, ab, ac⟩
end
end Go.Proofs.Ytapdcndagnlmaaa

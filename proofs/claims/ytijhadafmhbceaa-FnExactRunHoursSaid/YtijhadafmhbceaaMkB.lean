/- Writing marks into buffers and hours that the law owns. -/
import Derived.Test.YtijhadafmhbceaaMkR
import Derived.Test.YtijhadafmhbceaaBf
namespace Go.Proofs.Ytijhadafmhbceaa
set_option linter.unusedVariables false
set_option linter.unusedSimpArgs false
open Go.RowKit
theorem onA_lt {base : Nat} {w : World} {A : Option Addr} {N : Nat} {xs : List Value} (h : Wr base w A N xs) {k : Nat} (hk : onA A k) : k < w.heap.size := h.hi k hk
set_option maxRecDepth 100000 in
set_option maxHeartbeats 4000000 in
theorem laws_markBuffers (base : Nat) (Aa Ab Ac : Option Addr) (na nb nc ca cb cc : Nat) (k0 : Int) (xa xb xc : List Value) (w : World) (ha : Wr base w Aa na xa) (hb : Wr base w Ab nb xb) (hc : Wr base w Ac nc xc) (dab : ∀ k, onA Aa k → ¬ onA Ab k) (dac : ∀ k, onA Aa k → ¬ onA Ac k) (dbc : ∀ k, onA Ab k → ¬ onA Ac k) (la : na ≤ 1048576) (lb : nb ≤ 1048576) (lc : nc ≤ 1048576) (h0 : 0 ≤ k0) (h1 : k0 ≤ 100000000000) :
    Calls Try.prog 21 #[.agg #[.slice Aa na ca, .slice Ab nb cb, .slice Ac nc cc], .int .i64 k0] w fun e w' => e = .returned (.int .i64 (k0 + na + nb + nc)) ∧ Wr base w' Aa na ((markL (k0) na).map iV) ∧ Wr base w' Ab nb ((markL (k0 + na) nb).map iV) ∧ Wr base w' Ac nc ((markL (k0 + na + nb) nc).map iV) ∧ Keep (fun k => onA Aa k ∨ onA Ab k ∨ onA Ac k) w w' := by
  have Ha := Lib.hid ha
  have Hb := Lib.hid hb
  have Hc := Lib.hid hc
  have Dab := Lib.hid dab
  have Dba := Lib.hid (show ∀ k, onA Ab k → ¬ onA Aa k from fun k a b => dab k b a)
  have Dac := Lib.hid dac
  have Dca := Lib.hid (show ∀ k, onA Ac k → ¬ onA Aa k from fun k a b => dac k b a)
  have Dbc := Lib.hid dbc
  have Dcb := Lib.hid (show ∀ k, onA Ac k → ¬ onA Ab k from fun k a b => dbc k b a)
  clear ha hb hc dab dac dbc
  go_enter Try.func21, Try.ntmps21
  go_wp2_with fail
  
  refine (laws_markInt64S base _ _ _ _ xa _ (Ha.out.below (by (repeat' (first | (with_reducible exact Below.refl _ _) | (with_reducible assumption) | (with_reducible refine Below.alloc ?_ ?_ _) | (with_reducible refine Below.drew ?_) | (with_reducible refine Below.drewN' ?_ _) | (with_reducible refine Below.setCell ?_ ?_ _) | (refine Below.via ?_ (by with_reducible assumption) ?_) | (with_reducible refine Below.via ?_ (Wd.h _) ?_) | go_size)))) la (by omega) (by omega)).mono ?_
  rintro e w1 ⟨rfl, hm1, hk1⟩
  have Na1 := Lib.hid hm1
  have Nb1 := Lib.hid ((Hb.out.below (w' := World.alloc w _) (by (repeat' (first | (with_reducible exact Below.refl _ _) | (with_reducible assumption) | (with_reducible refine Below.alloc ?_ ?_ _) | (with_reducible refine Below.drew ?_) | (with_reducible refine Below.drewN' ?_ _) | (with_reducible refine Below.setCell ?_ ?_ _) | (refine Below.via ?_ (by with_reducible assumption) ?_) | (with_reducible refine Below.via ?_ (Wd.h _) ?_) | go_size)))).keep hk1 Dba.out)
  have Nc1 := Lib.hid ((Hc.out.below (w' := World.alloc w _) (by (repeat' (first | (with_reducible exact Below.refl _ _) | (with_reducible assumption) | (with_reducible refine Below.alloc ?_ ?_ _) | (with_reducible refine Below.drew ?_) | (with_reducible refine Below.drewN' ?_ _) | (with_reducible refine Below.setCell ?_ ?_ _) | (refine Below.via ?_ (by with_reducible assumption) ?_) | (with_reducible refine Below.via ?_ (Wd.h _) ?_) | go_size)))).keep hk1 Dca.out)
  have K1 := Lib.hid hk1
  (have hz1 := hk1.size; (try simp at hz1); have Ncw0_0 := hk1.cell (w.heap.size) (0) (by first | omega | (simp; done) | (simp; omega)) (by intro hq; have := Ha.out.hi _ hq; omega); have Nfw0_0 := hk1.frozen (w.heap.size) (0) (by first | omega | (simp; done) | (simp; omega)) (by intro hq; have := Ha.out.hi _ hq; omega); have Nhy0 : w.heap.size < w1.heap.size := (by omega); have Ncw0_1 := hk1.cell (w.heap.size) (1) (by first | omega | (simp; done) | (simp; omega)) (by intro hq; have := Ha.out.hi _ hq; omega); have Nfw0_1 := hk1.frozen (w.heap.size) (1) (by first | omega | (simp; done) | (simp; omega)) (by intro hq; have := Ha.out.hi _ hq; omega); have Ncw0_2 := hk1.cell (w.heap.size) (2) (by first | omega | (simp; done) | (simp; omega)) (by intro hq; have := Ha.out.hi _ hq; omega); have Nfw0_2 := hk1.frozen (w.heap.size) (2) (by first | omega | (simp; done) | (simp; omega)) (by intro hq; have := Ha.out.hi _ hq; omega); simp [go_sem] at Ncw0_0 Nfw0_0 Ncw0_1 Nfw0_1 Ncw0_2 Nfw0_2; have cw0_0 := Ncw0_0; have fw0_0 := Nfw0_0; have cw0_1 := Ncw0_1; have fw0_1 := Nfw0_1; have cw0_2 := Ncw0_2; have fw0_2 := Nfw0_2; have hy0 := Nhy0; clear Ncw0_0 Nfw0_0 Ncw0_1 Nfw0_1 Ncw0_2 Nfw0_2 Nhy0)
  clear hk1 hm1
  go_wp2_with fail
  
  refine (laws_markInt64S base _ _ _ _ xb _ Nb1.out lb (by omega) (by omega)).mono ?_
  rintro e w2 ⟨rfl, hm2, hk2⟩
  have Na2 := Lib.hid (Na1.out.keep hk2 Dab.out)
  have Nb2 := Lib.hid hm2
  have Nc2 := Lib.hid (Nc1.out.keep hk2 Dcb.out)
  have K2 := Lib.hid hk2
  (have hz2 := hk2.size; (try simp at hz2); have Ncw0_0 := hk2.cell (w.heap.size) (0) (by first | omega | (simp; done) | (simp; omega)) (by intro hq; have := Hb.out.hi _ hq; omega); have Nfw0_0 := hk2.frozen (w.heap.size) (0) (by first | omega | (simp; done) | (simp; omega)) (by intro hq; have := Hb.out.hi _ hq; omega); have Nhy0 : w.heap.size < w2.heap.size := (by omega); have Ncw0_1 := hk2.cell (w.heap.size) (1) (by first | omega | (simp; done) | (simp; omega)) (by intro hq; have := Hb.out.hi _ hq; omega); have Nfw0_1 := hk2.frozen (w.heap.size) (1) (by first | omega | (simp; done) | (simp; omega)) (by intro hq; have := Hb.out.hi _ hq; omega); have Ncw0_2 := hk2.cell (w.heap.size) (2) (by first | omega | (simp; done) | (simp; omega)) (by intro hq; have := Hb.out.hi _ hq; omega); have Nfw0_2 := hk2.frozen (w.heap.size) (2) (by first | omega | (simp; done) | (simp; omega)) (by intro hq; have := Hb.out.hi _ hq; omega); simp [go_sem, cw0_0, fw0_0, cw0_1, fw0_1, cw0_2, fw0_2, hy0] at Ncw0_0 Nfw0_0 Ncw0_1 Nfw0_1 Ncw0_2 Nfw0_2; clear cw0_0 fw0_0 cw0_1 fw0_1 cw0_2 fw0_2 hy0; have cw0_0 := Ncw0_0; have fw0_0 := Nfw0_0; have cw0_1 := Ncw0_1; have fw0_1 := Nfw0_1; have cw0_2 := Ncw0_2; have fw0_2 := Nfw0_2; have hy0 := Nhy0; clear Ncw0_0 Nfw0_0 Ncw0_1 Nfw0_1 Ncw0_2 Nfw0_2 Nhy0)
  clear hk2 hm2
  go_wp2_with fail
  
  refine (laws_markInt64S base _ _ _ _ xc _ Nc2.out lc (by omega) (by omega)).mono ?_
  rintro e w3 ⟨rfl, hm3, hk3⟩
  have Na3 := Lib.hid (Na2.out.keep hk3 Dac.out)
  have Nb3 := Lib.hid (Nb2.out.keep hk3 Dbc.out)
  have Nc3 := Lib.hid hm3
  have K3 := Lib.hid hk3
  clear hk3 hm3
  go_wp2
  go_ret
  exact ⟨rfl, Na3.out, Nb3.out, Nc3.out, ((((Keep.of_below _ ((Below.refl _ _).alloc (Nat.le_refl _) _)).trans (K1.out.mono fun _ h => .inl h)).trans (K2.out.mono fun _ h => .inr (.inl h))).trans (K3.out.mono fun _ h => .inr (.inr h)))⟩
set_option maxRecDepth 100000 in
set_option maxHeartbeats 4000000 in
theorem laws_heldBuffers (Aa Ab Ac : Option Addr) (na nb nc ca cb cc : Nat) (k0 : Int) (w : World) (ha : Rd w Aa ((markL (k0) na).map iV)) (hb : Rd w Ab ((markL (k0 + na) nb).map iV)) (hc : Rd w Ac ((markL (k0 + na + nb) nc).map iV)) (la : na ≤ 1048576) (lb : nb ≤ 1048576) (lc : nc ≤ 1048576) (h0 : 0 ≤ k0) (h1 : k0 ≤ 100000000000) :
    Calls Try.prog 23 #[.agg #[.slice Aa na ca, .slice Ab nb cb, .slice Ac nc cc], .int .i64 k0] w fun e w' => e = .returned (.int .i64 (k0 + na + nb + nc)) ∧ Below w.heap.size w w' := by
  have Ha := Lib.hid ha
  clear ha
  have Hb := Lib.hid hb
  clear hb
  have Hc := Lib.hid hc
  clear hc
  go_enter Try.func23, Try.ntmps23
  go_wp2_with fail
  refine (laws_heldInt64S _ _ _ (k0) _ (Ha.out.below (by (repeat' (first | (with_reducible exact Below.refl _ _) | (with_reducible assumption) | (with_reducible refine Below.alloc ?_ ?_ _) | (with_reducible refine Below.drew ?_) | (with_reducible refine Below.drewN' ?_ _) | (with_reducible refine Below.setCell ?_ ?_ _) | (refine Below.via ?_ (by with_reducible assumption) ?_) | (with_reducible refine Below.via ?_ (Wd.h _) ?_) | go_size)))) la (by omega) (by omega)).mono ?_
  rintro e w1 ⟨rfl, rfl⟩
  go_wp2_with fail
  refine (laws_heldInt64S _ _ _ (k0 + na) _ (Hb.out.below (by (repeat' (first | (with_reducible exact Below.refl _ _) | (with_reducible assumption) | (with_reducible refine Below.alloc ?_ ?_ _) | (with_reducible refine Below.drew ?_) | (with_reducible refine Below.drewN' ?_ _) | (with_reducible refine Below.setCell ?_ ?_ _) | (refine Below.via ?_ (by with_reducible assumption) ?_) | (with_reducible refine Below.via ?_ (Wd.h _) ?_) | go_size)))) lb (by omega) (by omega)).mono ?_
  rintro e w2 ⟨rfl, rfl⟩
  go_wp2_with fail
  refine (laws_heldInt64S _ _ _ (k0 + na + nb) _ (Hc.out.below (by (repeat' (first | (with_reducible exact Below.refl _ _) | (with_reducible assumption) | (with_reducible refine Below.alloc ?_ ?_ _) | (with_reducible refine Below.drew ?_) | (with_reducible refine Below.drewN' ?_ _) | (with_reducible refine Below.setCell ?_ ?_ _) | (refine Below.via ?_ (by with_reducible assumption) ?_) | (with_reducible refine Below.via ?_ (Wd.h _) ?_) | go_size)))) lc (by omega) (by omega)).mono ?_
  rintro e w3 ⟨rfl, rfl⟩
  go_wp2
  go_ret
  exact ⟨rfl, by (repeat' (first | (with_reducible exact Below.refl _ _) | (with_reducible assumption) | (with_reducible refine Below.alloc ?_ ?_ _) | (with_reducible refine Below.drew ?_) | (with_reducible refine Below.drewN' ?_ _) | (with_reducible refine Below.setCell ?_ ?_ _) | (refine Below.via ?_ (by with_reducible assumption) ?_) | (with_reducible refine Below.via ?_ (Wd.h _) ?_) | go_size))⟩
end Go.Proofs.Ytijhadafmhbceaa

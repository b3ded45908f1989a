/- Rents. -/
import Derived.Test.YtmkecbnnanddkaaBk
namespace Go.Proofs.Ytmkecbnnanddkaa
set_option linter.unusedVariables false
set_option linter.unusedSimpArgs false
open Go.RowKit

theorem ctr_of {x : Ctr} {n : Int} (h : ctrB x n = true) : (0 ≤ x.sh ∧ x.sh ≤ 15) ∧ (0 ≤ x.en ∧ x.en ≤ n - 1) ∧ (0 ≤ x.ex ∧ x.ex ≤ n - 1) ∧ x.en ≠ x.ex ∧ (1 ≤ x.am ∧ x.am ≤ 30000) ∧ (0 ≤ x.cl ∧ x.cl ≤ 3) ∧ (0 ≤ x.fr ∧ x.fr ≤ x.to ∧ x.to < 48) ∧ (0 ≤ x.pr ∧ x.pr ≤ 1000000) := by
  simp [ctrB, inB] at h; omega
theorem book_of {N : Net} {l : List Ctr} (h : bookC N l = 0) : N.Ok ∧ l.length ≤ 32 ∧ ∀ x ∈ l, ctrB x N.nodes.length = true := by
  unfold bookC at h
  by_cases h1 : netB N = false
  · simp [h1] at h
  · by_cases h2 : bookB l N.nodes.length = false
    · simp [h1, h2] at h
    · have h1' : netB N = true := by simpa using h1
      have h2' : bookB l N.nodes.length = true := by simpa using h2
      simp [bookB] at h2'
      exact ⟨netB_ok h1', h2'.1, ctrsB_all.1 h2'.2⟩
theorem bookC_cases (N : Net) (l : List Ctr) : bookC N l = 0 ∨ bookC N l = 1 ∨ bookC N l = 3 := by
  unfold bookC; split <;> (try split) <;> simp
def rent1 (x : Ctr) : Int := x.am * x.pr * (x.to - x.fr + 1)
def rentF (sh : Int) : List Ctr → Int
  | [] => 0
  | x :: l => (if x.sh = sh then rent1 x else 0) + rentF sh l
noncomputable def rentR (N : Net) (l : List Ctr) (sh : Int) : Int × Int :=
  if bookC N l ≠ 0 then (0, bookC N l) else if inB sh 0 15 = false then (0, 2) else (rentF sh l, 0)
theorem rent1_bd {x : Ctr} {n : Int} (h : ctrB x n = true) : (0 ≤ x.am * x.pr ∧ x.am * x.pr ≤ 30000000000) ∧ (0 ≤ x.am * x.pr * (x.to - x.fr + 1) ∧ x.am * x.pr * (x.to - x.fr + 1) ≤ 1440000000000) := by
  have c := ctr_of h
  have h1 : 0 ≤ x.am * x.pr ∧ x.am * x.pr ≤ 30000 * 1000000 := ⟨Int.mul_nonneg (by omega) (by omega), Int.mul_le_mul (by omega) (by omega) (by omega) (by omega)⟩
  have h2 : 0 ≤ x.am * x.pr * (x.to - x.fr + 1) ∧ x.am * x.pr * (x.to - x.fr + 1) ≤ 30000000000 * 48 := ⟨Int.mul_nonneg (by omega) (by omega), Int.mul_le_mul (by omega) (by omega) (by omega) (by omega)⟩
  omega

set_option maxRecDepth 100000 in
set_option maxHeartbeats 4000000 in
theorem impl_RentOf (A B C : Option Addr) (n c m d e : Nat) (N : Net) (lb : List Ctr) (sh : Int) (w : World) (hN : NetAt w A B N) (hn : n = N.nodes.length) (hm : m = N.pipes.length) (hc : n ≤ c) (h : Rd w C (lb.flatMap Ctr.cells)) (hl : lb.length ≤ 1048576) :
    Calls Try.prog 11 #[netV A B n c m d, .slice C lb.length e, .int .i64 sh] w fun e w' => e = .returned (.tuple #[.int .i64 (rentR N lb sh).1, .int .i64 (rentR N lb sh).2]) ∧ Below w.heap.size w w' := by
  subst hn hm
  have HN := Lib.hid hN
  have HB := Lib.hid h
  have hln := hN.ln
  clear hN h
  by_cases h0 : bookC N lb = 0
  · have b0 : (bookC N lb != 0) = false := by simp [h0]
    have HO := Lib.hid (book_of h0)
    have h32 := (book_of h0).2.1
    have H0 := Lib.hid h0
    clear h0
    cases hs : inB sh 0 15
    · (go_enter Try.func11, Try.ntmps11; go_wp2_with (first | (go_at_call 36; ((with_reducible refine (impl_checkBook _ _ _ _ _ _ _ _ N lb _ (by exact HN.out.below (by (repeat' (first | (with_reducible exact Below.refl _ _) | (with_reducible assumption) | (with_reducible refine Below.alloc ?_ ?_ _) | (with_reducible refine Below.drew ?_) | (with_reducible refine Below.drewN' ?_ _) | (with_reducible refine Below.setCell ?_ ?_ _) | (refine Below.via ?_ (by with_reducible assumption) ?_) | (with_reducible refine Below.via ?_ (Wd.h _) ?_) | go_size)))) rfl rfl (by omega) (by exact HB.out.below (by (repeat' (first | (with_reducible exact Below.refl _ _) | (with_reducible assumption) | (with_reducible refine Below.alloc ?_ ?_ _) | (with_reducible refine Below.drew ?_) | (with_reducible refine Below.drewN' ?_ _) | (with_reducible refine Below.setCell ?_ ?_ _) | (refine Below.via ?_ (by with_reducible assumption) ?_) | (with_reducible refine Below.via ?_ (Wd.h _) ?_) | go_size)))) (by omega)).mono ?_)); rintro e wn ⟨rfl, hbn⟩; (obtain ⟨hcn, hfn⟩ := bcell hbn; have hzn := hbn.size; (try simp at hzn); have Ncw0_0 := hcn (w.heap.size) (0) (by first | omega | (simp; done) | (simp; omega)); have Nfw0_0 := hfn (w.heap.size) (0) (by first | omega | (simp; done) | (simp; omega)); have Nhy0 : w.heap.size < wn.heap.size := (by omega); have Ncw0_1 := hcn (w.heap.size) (1) (by first | omega | (simp; done) | (simp; omega)); have Nfw0_1 := hfn (w.heap.size) (1) (by first | omega | (simp; done) | (simp; omega)); (first | (simp [go_sem, cw0_0, fw0_0, cw0_1, fw0_1, hy0] at Ncw0_0 Nfw0_0 Ncw0_1 Nfw0_1; clear cw0_0 fw0_0 cw0_1 fw0_1) | (simp [go_sem] at Ncw0_0 Nfw0_0 Ncw0_1 Nfw0_1)); clear hcn hfn; have cw0_0 := Ncw0_0; have fw0_0 := Nfw0_0; have cw0_1 := Ncw0_1; have fw0_1 := Nfw0_1; have hy0 := Nhy0; clear Ncw0_0 Nfw0_0 Ncw0_1 Nfw0_1 Nhy0)) | (go_at_call 29; ((with_reducible refine (impl_isShipper _ _).mono ?_)); rintro e wn ⟨rfl, rfl⟩)))
      go_ret2
      exact ⟨ri2 (by simp [rentR, H0.out, hs]) (by simp [rentR, H0.out, hs]), by (repeat' (first | (with_reducible exact Below.refl _ _) | (with_reducible assumption) | (with_reducible refine Below.alloc ?_ ?_ _) | (with_reducible refine Below.drew ?_) | (with_reducible refine Below.drewN' ?_ _) | (with_reducible refine Below.setCell ?_ ?_ _) | (refine Below.via ?_ (by with_reducible assumption) ?_) | (with_reducible refine Below.via ?_ (Wd.h _) ?_) | go_size))⟩
    · have HR := Lib.hid (show rentR N lb sh = (rentF sh lb, 0) by simp [rentR, H0.out, hs])
      (go_enter Try.func11, Try.ntmps11; go_wp2_with (first | (go_at_call 36; ((with_reducible refine (impl_checkBook _ _ _ _ _ _ _ _ N lb _ (by exact HN.out.below (by (repeat' (first | (with_reducible exact Below.refl _ _) | (with_reducible assumption) | (with_reducible refine Below.alloc ?_ ?_ _) | (with_reducible refine Below.drew ?_) | (with_reducible refine Below.drewN' ?_ _) | (with_reducible refine Below.setCell ?_ ?_ _) | (refine Below.via ?_ (by with_reducible assumption) ?_) | (with_reducible refine Below.via ?_ (Wd.h _) ?_) | go_size)))) rfl rfl (by omega) (by exact HB.out.below (by (repeat' (first | (with_reducible exact Below.refl _ _) | (with_reducible assumption) | (with_reducible refine Below.alloc ?_ ?_ _) | (with_reducible refine Below.drew ?_) | (with_reducible refine Below.drewN' ?_ _) | (with_reducible refine Below.setCell ?_ ?_ _) | (refine Below.via ?_ (by with_reducible assumption) ?_) | (with_reducible refine Below.via ?_ (Wd.h _) ?_) | go_size)))) (by omega)).mono ?_)); rintro e wn ⟨rfl, hbn⟩; (obtain ⟨hcn, hfn⟩ := bcell hbn; have hzn := hbn.size; (try simp at hzn); have Ncw0_0 := hcn (w.heap.size) (0) (by first | omega | (simp; done) | (simp; omega)); have Nfw0_0 := hfn (w.heap.size) (0) (by first | omega | (simp; done) | (simp; omega)); have Nhy0 : w.heap.size < wn.heap.size := (by omega); have Ncw0_1 := hcn (w.heap.size) (1) (by first | omega | (simp; done) | (simp; omega)); have Nfw0_1 := hfn (w.heap.size) (1) (by first | omega | (simp; done) | (simp; omega)); (first | (simp [go_sem, cw0_0, fw0_0, cw0_1, fw0_1, hy0] at Ncw0_0 Nfw0_0 Ncw0_1 Nfw0_1; clear cw0_0 fw0_0 cw0_1 fw0_1) | (simp [go_sem] at Ncw0_0 Nfw0_0 Ncw0_1 Nfw0_1)); clear hcn hfn; have cw0_0 := Ncw0_0; have fw0_0 := Nfw0_0; have cw0_1 := Ncw0_1; have fw0_1 := Nfw0_1; have hy0 := Nhy0; clear Ncw0_0 Nfw0_0 Ncw0_1 Nfw0_1 Nhy0)) | (go_at_call 29; ((with_reducible refine (impl_isShipper _ _).mono ?_)); rintro e wn ⟨rfl, rfl⟩)))
      have hbn1 : Below w.heap.size w wn := by (repeat' (first | (with_reducible exact Below.refl _ _) | (with_reducible assumption) | (with_reducible refine Below.alloc ?_ ?_ _) | (with_reducible refine Below.drew ?_) | (with_reducible refine Below.drewN' ?_ _) | (with_reducible refine Below.setCell ?_ ?_ _) | (refine Below.via ?_ (by with_reducible assumption) ?_) | (with_reducible refine Below.via ?_ (Wd.h _) ?_) | go_size))
      have HBN := Lib.hid hbn1
      clear hy0 cw0_0 fw0_0 cw0_1 fw0_1
      clear hbn hbn1
      go_loopw [9, 23] (fun u v wr => ∃ (k : Nat) (r : Int), k ≤ lb.length ∧ v = .int .i64 k ∧ u = .int .i64 r ∧ 0 ≤ r ∧ r ≤ k * 1440000000000 ∧ r + rentF sh (lb.drop k) = rentF sh lb ∧ Below w.heap.size w wr) (fun _ v _ => lb.length - (intOf v).toNat)
      case atStart => exact ⟨0, 0, by omega, rfl, rfl, by omega, by omega, by simp, HBN.out⟩
      case round =>
        obtain ⟨k, r, hk, rfl, rfl, hr0, hr1, hF, hbw⟩ := hrel
        have hbH := Lib.hid hbw
        have HF := Lib.hid hF
        clear hF
        by_cases hlt : k < lb.length
        · obtain ⟨x, hx⟩ := get_some hlt; obtain ⟨bx, offx, rfl, hbx, hat⟩ := HB.out.opened (k := k) (by rw [flat_len Ctr.len]; omega); have hat' := hat.below hbw hbx; have hybx : bx < wr.heap.size := Nat.lt_of_lt_of_le hbx hbw.size; have hzw := hbw.size; have t0 := hat'.elem0 Ctr.len hx rfl; have t1 := hat'.elem Ctr.len hx 1 rfl; have t2 := hat'.elem Ctr.len hx 2 rfl; have t3 := hat'.elem Ctr.len hx 3 rfl; have t4 := hat'.elem Ctr.len hx 4 rfl; have t5 := hat'.elem Ctr.len hx 5 rfl; have t6 := hat'.elem Ctr.len hx 6 rfl; have t7 := hat'.elem Ctr.len hx 7 rfl; have HX := Lib.hid hx; have HD := Lib.hid (drop_cons hx); have gx : (k : Int) < _ := Int.ofNat_lt.2 hlt; clear hx hat hat'
          have hx := HO.out.2.2 x (List.mem_of_getElem? HX.out)
          obtain ⟨⟨p1, p2⟩, p3, p4⟩ := rent1_bd hx
          have cc := ctr_of hx
          obtain ⟨_, _, _, _, _, _, ⟨p5, p6, p7⟩, _⟩ := cc
          clear hbw hx
          by_cases hsh : x.sh = sh
          · have e1 : (x.sh == sh) = true := by simpa using hsh
            have HS := Lib.hid hsh
            clear hsh
            go_wp2
            go_roundw
            case rel =>
              refine ⟨k + 1, _, by omega, by go_num, rfl, by omega, by omega, ?_, by have h1 := hbH.out; (repeat' (first | (with_reducible exact Below.refl _ _) | (with_reducible assumption) | (with_reducible refine Below.alloc ?_ ?_ _) | (with_reducible refine Below.drew ?_) | (with_reducible refine Below.drewN' ?_ _) | (with_reducible refine Below.setCell ?_ ?_ _) | (refine Below.via ?_ (by with_reducible assumption) ?_) | (with_reducible refine Below.via ?_ (Wd.h _) ?_) | go_size))⟩
              rw [← HF.out, HD.out, rentF, if_pos HS.out, rent1]; omega
            case measure => simp [intOf]; omega
          · have e1 : (x.sh == sh) = false := by simpa using hsh
            have HS := Lib.hid hsh
            clear hsh
            go_wp2
            go_roundw
            case rel =>
              refine ⟨k + 1, _, by omega, by go_num, rfl, by omega, by omega, ?_, by have h1 := hbH.out; (repeat' (first | (with_reducible exact Below.refl _ _) | (with_reducible assumption) | (with_reducible refine Below.alloc ?_ ?_ _) | (with_reducible refine Below.drew ?_) | (with_reducible refine Below.drewN' ?_ _) | (with_reducible refine Below.setCell ?_ ?_ _) | (refine Below.via ?_ (by with_reducible assumption) ?_) | (with_reducible refine Below.via ?_ (Wd.h _) ?_) | go_size))⟩
              rw [← HF.out, HD.out, rentF, if_neg HS.out]; omega
            case measure => simp [intOf]; omega
        · clear hbw
          go_wp2
          go_ret2
          refine ⟨ri2 ?_ (by rw [HR.out]), hbH.out⟩
          have := HF.out
          rw [drop_end hlt, rentF] at this
          rw [HR.out]; show r = rentF sh lb; omega
  · have b0 : (bookC N lb != 0) = true := by simp [h0]
    (go_enter Try.func11, Try.ntmps11; go_wp2_with (first | (go_at_call 36; ((with_reducible refine (impl_checkBook _ _ _ _ _ _ _ _ N lb _ (by exact HN.out.below (by (repeat' (first | (with_reducible exact Below.refl _ _) | (with_reducible assumption) | (with_reducible refine Below.alloc ?_ ?_ _) | (with_reducible refine Below.drew ?_) | (with_reducible refine Below.drewN' ?_ _) | (with_reducible refine Below.setCell ?_ ?_ _) | (refine Below.via ?_ (by with_reducible assumption) ?_) | (with_reducible refine Below.via ?_ (Wd.h _) ?_) | go_size)))) rfl rfl (by omega) (by exact HB.out.below (by (repeat' (first | (with_reducible exact Below.refl _ _) | (with_reducible assumption) | (with_reducible refine Below.alloc ?_ ?_ _) | (with_reducible refine Below.drew ?_) | (with_reducible refine Below.drewN' ?_ _) | (with_reducible refine Below.setCell ?_ ?_ _) | (refine Below.via ?_ (by with_reducible assumption) ?_) | (with_reducible refine Below.via ?_ (Wd.h _) ?_) | go_size)))) (by omega)).mono ?_)); rintro e wn ⟨rfl, hbn⟩; (obtain ⟨hcn, hfn⟩ := bcell hbn; have hzn := hbn.size; (try simp at hzn); have Ncw0_0 := hcn (w.heap.size) (0) (by first | omega | (simp; done) | (simp; omega)); have Nfw0_0 := hfn (w.heap.size) (0) (by first | omega | (simp; done) | (simp; omega)); have Nhy0 : w.heap.size < wn.heap.size := (by omega); have Ncw0_1 := hcn (w.heap.size) (1) (by first | omega | (simp; done) | (simp; omega)); have Nfw0_1 := hfn (w.heap.size) (1) (by first | omega | (simp; done) | (simp; omega)); (first | (simp [go_sem, cw0_0, fw0_0, cw0_1, fw0_1, hy0] at Ncw0_0 Nfw0_0 Ncw0_1 Nfw0_1; clear cw0_0 fw0_0 cw0_1 fw0_1) | (simp [go_sem] at Ncw0_0 Nfw0_0 Ncw0_1 Nfw0_1)); clear hcn hfn; have cw0_0 := Ncw0_0; have fw0_0 := Nfw0_0; have cw0_1 := Ncw0_1; have fw0_1 := Nfw0_1; have hy0 := Nhy0; clear Ncw0_0 Nfw0_0 Ncw0_1 Nfw0_1 Nhy0)) | (go_at_call 29; ((with_reducible refine (impl_isShipper _ _).mono ?_)); rintro e wn ⟨rfl, rfl⟩)))
    go_ret2
    exact ⟨ri2 (by simp [rentR, h0]) (by simp [rentR, h0]), by (repeat' (first | (with_reducible exact Below.refl _ _) | (with_reducible assumption) | (with_reducible refine Below.alloc ?_ ?_ _) | (with_reducible refine Below.drew ?_) | (with_reducible refine Below.drewN' ?_ _) | (with_reducible refine Below.setCell ?_ ?_ _) | (refine Below.via ?_ (by with_reducible assumption) ?_) | (with_reducible refine Below.via ?_ (Wd.h _) ?_) | go_size))⟩
set_option maxRecDepth 100000 in
set_option maxHeartbeats 4000000 in
theorem spec_RentOf (A B C : Option Addr) (n c m d e : Nat) (N : Net) (lb : List Ctr) (sh : Int) (w : World) (hN : NetAt w A B N) (hn : n = N.nodes.length) (hm : m = N.pipes.length) (h : Rd w C (lb.flatMap Ctr.cells)) (hl : lb.length ≤ 1048576) :
    Calls Try.prog 12 #[netV A B n c m d, .slice C lb.length e, .int .i64 sh] w fun e w' => e = .returned (.tuple #[.int .i64 (rentR N lb sh).1, .int .i64 (rentR N lb sh).2]) ∧ Below w.heap.size w w' := by
  subst hn hm
  have HN := Lib.hid hN
  have HB := Lib.hid h
  have hln := hN.ln
  clear hN h
  by_cases h0 : bookC N lb = 0
  · have b0 : (bookC N lb == 0) = true := by simp [h0]
    have b1 : (bookC N lb != 0) = false := by simp [h0]
    have HO := Lib.hid (book_of h0)
    have h32 := (book_of h0).2.1
    have H0 := Lib.hid h0
    clear h0
    cases hs : inB sh 0 15
    · (go_enter Try.func12, Try.ntmps12; go_wp2_with (first | (go_at_call 37; ((with_reducible refine (spec_l20Code _ _ _ _ _ _ _ _ N lb _ (by exact HN.out.below (by (repeat' (first | (with_reducible exact Below.refl _ _) | (with_reducible assumption) | (with_reducible refine Below.alloc ?_ ?_ _) | (with_reducible refine Below.drew ?_) | (with_reducible refine Below.drewN' ?_ _) | (with_reducible refine Below.setCell ?_ ?_ _) | (refine Below.via ?_ (by with_reducible assumption) ?_) | (with_reducible refine Below.via ?_ (Wd.h _) ?_) | go_size)))) rfl rfl (by exact HB.out.below (by (repeat' (first | (with_reducible exact Below.refl _ _) | (with_reducible assumption) | (with_reducible refine Below.alloc ?_ ?_ _) | (with_reducible refine Below.drew ?_) | (with_reducible refine Below.drewN' ?_ _) | (with_reducible refine Below.setCell ?_ ?_ _) | (refine Below.via ?_ (by with_reducible assumption) ?_) | (with_reducible refine Below.via ?_ (Wd.h _) ?_) | go_size)))) (by omega)).mono ?_)); rintro e wn ⟨rfl, hbn⟩; (obtain ⟨hcn, hfn⟩ := bcell hbn; have hzn := hbn.size; (try simp at hzn); have Ncw0_0 := hcn (w.heap.size) (0) (by first | omega | (simp; done) | (simp; omega)); have Nfw0_0 := hfn (w.heap.size) (0) (by first | omega | (simp; done) | (simp; omega)); have Nhy0 : w.heap.size < wn.heap.size := (by omega); have Ncw0_1 := hcn (w.heap.size) (1) (by first | omega | (simp; done) | (simp; omega)); have Nfw0_1 := hfn (w.heap.size) (1) (by first | omega | (simp; done) | (simp; omega)); (first | (simp [go_sem, cw0_0, fw0_0, cw0_1, fw0_1, hy0] at Ncw0_0 Nfw0_0 Ncw0_1 Nfw0_1; clear cw0_0 fw0_0 cw0_1 fw0_1) | (simp [go_sem] at Ncw0_0 Nfw0_0 Ncw0_1 Nfw0_1)); clear hcn hfn; have cw0_0 := Ncw0_0; have fw0_0 := Nfw0_0; have cw0_1 := Ncw0_1; have fw0_1 := Nfw0_1; have hy0 := Nhy0; clear Ncw0_0 Nfw0_0 Ncw0_1 Nfw0_1 Nhy0)) | (go_at_call 32; ((with_reducible refine (spec_l20Shipper _ _).mono ?_)); rintro e wn ⟨rfl, rfl⟩)))
      go_ret2
      exact ⟨ri2 (by simp [rentR, H0.out, hs]) (by simp [rentR, H0.out, hs]), by (repeat' (first | (with_reducible exact Below.refl _ _) | (with_reducible assumption) | (with_reducible refine Below.alloc ?_ ?_ _) | (with_reducible refine Below.drew ?_) | (with_reducible refine Below.drewN' ?_ _) | (with_reducible refine Below.setCell ?_ ?_ _) | (refine Below.via ?_ (by with_reducible assumption) ?_) | (with_reducible refine Below.via ?_ (Wd.h _) ?_) | go_size))⟩
    · have HR := Lib.hid (show rentR N lb sh = (rentF sh lb, 0) by simp [rentR, H0.out, hs])
      (go_enter Try.func12, Try.ntmps12; go_wp2_with (first | (go_at_call 37; ((with_reducible refine (spec_l20Code _ _ _ _ _ _ _ _ N lb _ (by exact HN.out.below (by (repeat' (first | (with_reducible exact Below.refl _ _) | (with_reducible assumption) | (with_reducible refine Below.alloc ?_ ?_ _) | (with_reducible refine Below.drew ?_) | (with_reducible refine Below.drewN' ?_ _) | (with_reducible refine Below.setCell ?_ ?_ _) | (refine Below.via ?_ (by with_reducible assumption) ?_) | (with_reducible refine Below.via ?_ (Wd.h _) ?_) | go_size)))) rfl rfl (by exact HB.out.below (by (repeat' (first | (with_reducible exact Below.refl _ _) | (with_reducible assumption) | (with_reducible refine Below.alloc ?_ ?_ _) | (with_reducible refine Below.drew ?_) | (with_reducible refine Below.drewN' ?_ _) | (with_reducible refine Below.setCell ?_ ?_ _) | (refine Below.via ?_ (by with_reducible assumption) ?_) | (with_reducible refine Below.via ?_ (Wd.h _) ?_) | go_size)))) (by omega)).mono ?_)); rintro e wn ⟨rfl, hbn⟩; (obtain ⟨hcn, hfn⟩ := bcell hbn; have hzn := hbn.size; (try simp at hzn); have Ncw0_0 := hcn (w.heap.size) (0) (by first | omega | (simp; done) | (simp; omega)); have Nfw0_0 := hfn (w.heap.size) (0) (by first | omega | (simp; done) | (simp; omega)); have Nhy0 : w.heap.size < wn.heap.size := (by omega); have Ncw0_1 := hcn (w.heap.size) (1) (by first | omega | (simp; done) | (simp; omega)); have Nfw0_1 := hfn (w.heap.size) (1) (by first | omega | (simp; done) | (simp; omega)); (first | (simp [go_sem, cw0_0, fw0_0, cw0_1, fw0_1, hy0] at Ncw0_0 Nfw0_0 Ncw0_1 Nfw0_1; clear cw0_0 fw0_0 cw0_1 fw0_1) | (simp [go_sem] at Ncw0_0 Nfw0_0 Ncw0_1 Nfw0_1)); clear hcn hfn; have cw0_0 := Ncw0_0; have fw0_0 := Nfw0_0; have cw0_1 := Ncw0_1; have fw0_1 := Nfw0_1; have hy0 := Nhy0; clear Ncw0_0 Nfw0_0 Ncw0_1 Nfw0_1 Nhy0)) | (go_at_call 32; ((with_reducible refine (spec_l20Shipper _ _).mono ?_)); rintro e wn ⟨rfl, rfl⟩)))
      have hbn1 : Below w.heap.size w wn := by (repeat' (first | (with_reducible exact Below.refl _ _) | (with_reducible assumption) | (with_reducible refine Below.alloc ?_ ?_ _) | (with_reducible refine Below.drew ?_) | (with_reducible refine Below.drewN' ?_ _) | (with_reducible refine Below.setCell ?_ ?_ _) | (refine Below.via ?_ (by with_reducible assumption) ?_) | (with_reducible refine Below.via ?_ (Wd.h _) ?_) | go_size))
      have HBN := Lib.hid hbn1
      clear hy0 cw0_0 fw0_0 cw0_1 fw0_1
      clear hbn hbn1
      go_loopw [9, 10] (fun u v wr => ∃ (k : Nat) (r : Int), k ≤ lb.length ∧ v = .int .i64 k ∧ u = .int .i64 r ∧ 0 ≤ r ∧ r ≤ k * 1440000000000 ∧ r + rentF sh (lb.drop k) = rentF sh lb ∧ Below w.heap.size w wr) (fun _ v _ => lb.length - (intOf v).toNat)
      case atStart => exact ⟨0, 0, by omega, rfl, rfl, by omega, by omega, by simp, HBN.out⟩
      case round =>
        obtain ⟨k, r, hk, rfl, rfl, hr0, hr1, hF, hbw⟩ := hrel
        have hbH := Lib.hid hbw
        have HF := Lib.hid hF
        clear hF
        by_cases hlt : k < lb.length
        · obtain ⟨x, hx⟩ := get_some hlt; obtain ⟨bx, offx, rfl, hbx, hat⟩ := HB.out.opened (k := k) (by rw [flat_len Ctr.len]; omega); have hat' := hat.below hbw hbx; have hybx : bx < wr.heap.size := Nat.lt_of_lt_of_le hbx hbw.size; have hzw := hbw.size; have t0 := hat'.elem0 Ctr.len hx rfl; have t1 := hat'.elem Ctr.len hx 1 rfl; have t2 := hat'.elem Ctr.len hx 2 rfl; have t3 := hat'.elem Ctr.len hx 3 rfl; have t4 := hat'.elem Ctr.len hx 4 rfl; have t5 := hat'.elem Ctr.len hx 5 rfl; have t6 := hat'.elem Ctr.len hx 6 rfl; have t7 := hat'.elem Ctr.len hx 7 rfl; have HX := Lib.hid hx; have HD := Lib.hid (drop_cons hx); have gx : (k : Int) < _ := Int.ofNat_lt.2 hlt; clear hx hat hat'
          have hx := HO.out.2.2 x (List.mem_of_getElem? HX.out)
          obtain ⟨⟨p1, p2⟩, p3, p4⟩ := rent1_bd hx
          have cc := ctr_of hx
          obtain ⟨_, _, _, _, _, _, ⟨p5, p6, p7⟩, _⟩ := cc
          clear hbw hx
          by_cases hsh : x.sh = sh
          · have e1 : (x.sh == sh) = true := by simpa using hsh
            have HS := Lib.hid hsh
            clear hsh
            go_wp2
            go_quiet (fail)
            go_wp2
            go_roundw
            case rel =>
              refine ⟨k + 1, r + x.am * x.pr * (x.to - x.fr + 1), by omega, by go_num, ?_, by omega, by omega, ?_, by have h1 := hbH.out; (repeat' (first | (with_reducible exact Below.refl _ _) | (with_reducible assumption) | (with_reducible refine Below.alloc ?_ ?_ _) | (with_reducible refine Below.drew ?_) | (with_reducible refine Below.drewN' ?_ _) | (with_reducible refine Below.setCell ?_ ?_ _) | (refine Below.via ?_ (by with_reducible assumption) ?_) | (with_reducible refine Below.via ?_ (Wd.h _) ?_) | go_size))⟩
              · first | rfl | (congr 1; omega) | (simp; omega)
              · rw [← HF.out, HD.out, rentF, if_pos HS.out, rent1]; omega
            case measure => simp [intOf]; omega
          · have e1 : (x.sh == sh) = false := by simpa using hsh
            have HS := Lib.hid hsh
            clear hsh
            go_wp2
            go_roundw
            case rel =>
              refine ⟨k + 1, _, by omega, by go_num, rfl, by omega, by omega, ?_, by have h1 := hbH.out; (repeat' (first | (with_reducible exact Below.refl _ _) | (with_reducible assumption) | (with_reducible refine Below.alloc ?_ ?_ _) | (with_reducible refine Below.drew ?_) | (with_reducible refine Below.drewN' ?_ _) | (with_reducible refine Below.setCell ?_ ?_ _) | (refine Below.via ?_ (by with_reducible assumption) ?_) | (with_reducible refine Below.via ?_ (Wd.h _) ?_) | go_size))⟩
              rw [← HF.out, HD.out, rentF, if_neg HS.out]; omega
            case measure => simp [intOf]; omega
        · clear hbw
          go_wp2
          go_ret2
          refine ⟨ri2 ?_ (by rw [HR.out]), hbH.out⟩
          have := HF.out
          rw [drop_end hlt, rentF] at this
          rw [HR.out]; show r = rentF sh lb; omega
  · have b0 : (bookC N lb == 0) = false := by simp [h0]
    have b1 : (bookC N lb != 0) = true := by simp [h0]
    (go_enter Try.func12, Try.ntmps12; go_wp2_with (first | (go_at_call 37; ((with_reducible refine (spec_l20Code _ _ _ _ _ _ _ _ N lb _ (by exact HN.out.below (by (repeat' (first | (with_reducible exact Below.refl _ _) | (with_reducible assumption) | (with_reducible refine Below.alloc ?_ ?_ _) | (with_reducible refine Below.drew ?_) | (with_reducible refine Below.drewN' ?_ _) | (with_reducible refine Below.setCell ?_ ?_ _) | (refine Below.via ?_ (by with_reducible assumption) ?_) | (with_reducible refine Below.via ?_ (Wd.h _) ?_) | go_size)))) rfl rfl (by exact HB.out.below (by (repeat' (first | (with_reducible exact Below.refl _ _) | (with_reducible assumption) | (with_reducible refine Below.alloc ?_ ?_ _) | (with_reducible refine Below.drew ?_) | (with_reducible refine Below.drewN' ?_ _) | (with_reducible refine Below.setCell ?_ ?_ _) | (refine Below.via ?_ (by with_reducible assumption) ?_) | (with_reducible refine Below.via ?_ (Wd.h _) ?_) | go_size)))) (by omega)).mono ?_)); rintro e wn ⟨rfl, hbn⟩; (obtain ⟨hcn, hfn⟩ := bcell hbn; have hzn := hbn.size; (try simp at hzn); have Ncw0_0 := hcn (w.heap.size) (0) (by first | omega | (simp; done) | (simp; omega)); have Nfw0_0 := hfn (w.heap.size) (0) (by first | omega | (simp; done) | (simp; omega)); have Nhy0 : w.heap.size < wn.heap.size := (by omega); have Ncw0_1 := hcn (w.heap.size) (1) (by first | omega | (simp; done) | (simp; omega)); have Nfw0_1 := hfn (w.heap.size) (1) (by first | omega | (simp; done) | (simp; omega)); (first | (simp [go_sem, cw0_0, fw0_0, cw0_1, fw0_1, hy0] at Ncw0_0 Nfw0_0 Ncw0_1 Nfw0_1; clear cw0_0 fw0_0 cw0_1 fw0_1) | (simp [go_sem] at Ncw0_0 Nfw0_0 Ncw0_1 Nfw0_1)); clear hcn hfn; have cw0_0 := Ncw0_0; have fw0_0 := Nfw0_0; have cw0_1 := Ncw0_1; have fw0_1 := Nfw0_1; have hy0 := Nhy0; clear Ncw0_0 Nfw0_0 Ncw0_1 Nfw0_1 Nhy0)) | (go_at_call 32; ((with_reducible refine (spec_l20Shipper _ _).mono ?_)); rintro e wn ⟨rfl, rfl⟩)))
    go_ret2
    exact ⟨ri2 (by simp [rentR, h0]) (by simp [rentR, h0]), by (repeat' (first | (with_reducible exact Below.refl _ _) | (with_reducible assumption) | (with_reducible refine Below.alloc ?_ ?_ _) | (with_reducible refine Below.drew ?_) | (with_reducible refine Below.drewN' ?_ _) | (with_reducible refine Below.setCell ?_ ?_ _) | (refine Below.via ?_ (by with_reducible assumption) ?_) | (with_reducible refine Below.via ?_ (Wd.h _) ?_) | go_size))⟩
end Go.Proofs.Ytmkecbnnanddkaa

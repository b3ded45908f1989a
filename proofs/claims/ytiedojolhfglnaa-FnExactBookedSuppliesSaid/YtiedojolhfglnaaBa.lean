/- BookedAt: what is booked at a node in an hour. -/
import Derived.Test.YtiedojolhfglnaaNm
namespace Go.Proofs.Ytiedojolhfglnaa
set_option linter.unusedVariables false
set_option linter.unusedSimpArgs false
open Go.RowKit
def bkI (nd hr : Int) : List Ctr → Int
  | [] => 0
  | x :: l => (if (inB hr x.fr x.to && (x.en == nd)) = true then x.am else 0) + bkI nd hr l
def bkO (nd hr : Int) : List Ctr → Int
  | [] => 0
  | x :: l => (if (inB hr x.fr x.to && (x.ex == nd)) = true then x.am else 0) + bkO nd hr l
noncomputable def bkR (N : Net) (lb : List Ctr) (nd hr : Int) : Int × Int × Int :=
  if bookC N lb ≠ 0 then (0, 0, bookC N lb) else if inB nd 0 ((N.nodes.length : Int) - 1) = false then (0, 0, 2) else if inB hr 0 47 = false then (0, 0, 2) else (bkI nd hr lb, bkO nd hr lb, 0)
theorem bk_fin {N : Net} {lb : List Ctr} {nd hr : Int} (h0 : bookC N lb = 0) (h1 : inB nd 0 ((N.nodes.length : Int) - 1) = true) (h2 : inB hr 0 47 = true) : bkR N lb nd hr = (bkI nd hr lb, bkO nd hr lb, 0) := by
  simp [bkR, h0, h1, h2]
theorem bk_out {N : Net} {lb : List Ctr} {nd hr : Int} (h0 : bookC N lb = 0) (h1 : inB nd 0 ((N.nodes.length : Int) - 1) = false) : bkR N lb nd hr = (0, 0, 2) := by
  simp [bkR, h0, h1]
theorem bk_out2 {N : Net} {lb : List Ctr} {nd hr : Int} (h0 : bookC N lb = 0) (h1 : inB nd 0 ((N.nodes.length : Int) - 1) = true) (h2 : inB hr 0 47 = false) : bkR N lb nd hr = (0, 0, 2) := by
  simp [bkR, h0, h1, h2]
set_option maxRecDepth 100000 in
set_option maxHeartbeats 4000000 in
theorem spec_l20Booked (C : Option Addr) (e : Nat) (lb : List Ctr) (nd hr : Int) (w : World) (h : Rd w C (lb.flatMap Ctr.cells)) (hl : lb.length ≤ 1048576) (hk : CtrsOk lb) :
    Calls Try.prog 116 #[.slice C lb.length e, .int .i64 nd, .int .i64 hr] w fun e w' => e = .returned (.tuple #[.int .i64 (bkI nd hr lb), .int .i64 (bkO nd hr lb)]) ∧ Below w.heap.size w w' := by
  have HB := Lib.hid h
  have HKK := Lib.hid hk
  clear h hk
  go_enter Try.func116, Try.ntmps116
  go_wp2
  go_loopw [8, 9, 10] (fun u u' v wr => ∃ (k : Nat) (r s : Int), k ≤ lb.length ∧ v = .int .i64 k ∧ u = .int .i64 r ∧ u' = .int .i64 s ∧ 0 ≤ r ∧ r ≤ k * 30000 ∧ 0 ≤ s ∧ s ≤ k * 30000 ∧ r + bkI nd hr (lb.drop k) = bkI nd hr lb ∧ s + bkO nd hr (lb.drop k) = bkO nd hr lb ∧ Below w.heap.size w wr) (fun _ _ v _ => lb.length - (intOf v).toNat)
  case atStart => exact ⟨0, 0, 0, by omega, rfl, rfl, rfl, by omega, by omega, by omega, by omega, by simp, by simp, by (repeat' (first | (with_reducible exact Below.refl _ _) | (with_reducible assumption) | (with_reducible refine Below.alloc ?_ ?_ _) | (with_reducible refine Below.drew ?_) | (with_reducible refine Below.drewN' ?_ _) | (with_reducible refine Below.setCell ?_ ?_ _) | (refine Below.via ?_ (by with_reducible assumption) ?_) | (with_reducible refine Below.via ?_ (Wd.h _) ?_) | go_size))⟩
  case round =>
    obtain ⟨k, r, s, hk, rfl, rfl, rfl, hr0, hr1, hs0, hs1, hF, hG, hbw⟩ := hrel
    have hbH := Lib.hid hbw
    have HF := Lib.hid hF
    have HG := Lib.hid hG
    clear hF hG
    by_cases hlt : k < lb.length
    · obtain ⟨x, hx⟩ := get_some hlt; obtain ⟨bx, offx, rfl, hbx, hat⟩ := HB.out.opened (k := k) (by rw [flat_len Ctr.len]; omega); have hat' := hat.below hbw hbx; have hybx : bx < wr.heap.size := Nat.lt_of_lt_of_le hbx hbw.size; have hzw := hbw.size; have t0 := hat'.elem0 Ctr.len hx rfl; have t1 := hat'.elem Ctr.len hx 1 rfl; have t2 := hat'.elem Ctr.len hx 2 rfl; have t3 := hat'.elem Ctr.len hx 3 rfl; have t4 := hat'.elem Ctr.len hx 4 rfl; have t5 := hat'.elem Ctr.len hx 5 rfl; have t6 := hat'.elem Ctr.len hx 6 rfl; have t7 := hat'.elem Ctr.len hx 7 rfl; have HX := Lib.hid hx; have HD := Lib.hid (drop_cons hx); have gx : (k : Int) < _ := Int.ofNat_lt.2 hlt; clear hx hat hat'
      obtain ⟨nn, hkk⟩ := HKK.out
      have cc := ctr_of (hkk x (List.mem_of_getElem? HX.out))
      obtain ⟨_, _, _, _, ⟨p5, p6⟩, _, _, _⟩ := cc
      clear hbw hkk
      
      cases hh : inB hr x.fr x.to
      · go_wp2_with ((go_at_call 90; refine (spec_l20Holds x _ _).mono ?_; rintro e wn ⟨rfl, hbn⟩))
        go_roundw
        case rel =>
          refine ⟨k + 1, r, s, by omega, by go_num, rfl, rfl, by omega, by omega, by omega, by omega, ?_, ?_, by have h1 := hbH.out; (repeat' (first | (with_reducible exact Below.refl _ _) | (with_reducible assumption) | (with_reducible refine Below.alloc ?_ ?_ _) | (with_reducible refine Below.drew ?_) | (with_reducible refine Below.drewN' ?_ _) | (with_reducible refine Below.setCell ?_ ?_ _) | (refine Below.via ?_ (by with_reducible assumption) ?_) | (with_reducible refine Below.via ?_ (Wd.h _) ?_) | go_size))⟩
          · rw [← HF.out, HD.out, bkI, hh]; simp
          · rw [← HG.out, HD.out, bkO, hh]; simp
        case measure => simp [intOf]; omega
      · cases he : (x.en == nd) <;> cases hx : (x.ex == nd)
        all_goals
          have HE := Lib.hid he
          have HX2 := Lib.hid hx
          go_wp2_with ((go_at_call 90; refine (spec_l20Holds x _ _).mono ?_; rintro e wn ⟨rfl, hbn⟩; have s1 := (hbn.cell (p := ⟨bx, offx + k * 8 + 1, none⟩) hybx).trans t1; have s2 := (hbn.cell (p := ⟨bx, offx + k * 8 + 2, none⟩) hybx).trans t2; have s3 := (hbn.cell (p := ⟨bx, offx + k * 8 + 3, none⟩) hybx).trans t3; clear t0 t1 t2 t3 t4 t5 t6 t7))
          go_roundw
          case rel =>
            refine ⟨k + 1, _, _, by omega, by go_num, rfl, rfl, by omega, by omega, by omega, by omega, ?_, ?_, by have h1 := hbH.out; (repeat' (first | (with_reducible exact Below.refl _ _) | (with_reducible assumption) | (with_reducible refine Below.alloc ?_ ?_ _) | (with_reducible refine Below.drew ?_) | (with_reducible refine Below.drewN' ?_ _) | (with_reducible refine Below.setCell ?_ ?_ _) | (refine Below.via ?_ (by with_reducible assumption) ?_) | (with_reducible refine Below.via ?_ (Wd.h _) ?_) | go_size))⟩
            · rw [← HF.out, HD.out, bkI, hh, HE.out]; simp <;> omega
            · rw [← HG.out, HD.out, bkO, hh, HX2.out]; simp <;> omega
          case measure => simp [intOf]; omega
    · clear hbw
      go_wp2
      go_ret2
      refine ⟨ri2 ?_ ?_, hbH.out⟩
      · have := HF.out
        rw [drop_end hlt, bkI] at this
        omega
      · have := HG.out
        rw [drop_end hlt, bkO] at this
        omega
end Go.Proofs.Ytiedojolhfglnaa

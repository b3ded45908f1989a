/- Linepacks. -/
import Derived.Test.YtkagnkecgkmpcaaPk
namespace Go.Proofs.Ytkagnkecgkmpcaa
set_option linter.unusedVariables false
set_option linter.unusedSimpArgs false
open Go.RowKit
def lineF (lv : List Int) : List Pp → Int
  | [] => 0
  | p :: l => packF lv p + lineF lv l
theorem packF_bd {p : Pp} {lv : List Int} {n : Nat} (hp : pipeB p n = true) (hv : LvOk lv n) : 0 ≤ packF lv p ∧ packF lv p ≤ 20000000000 := by
  simp only [pipeB, Bool.and_eq_true, inB_iff] at hp
  obtain ⟨⟨⟨⟨⟨⟨f1, f2⟩, t1, t2⟩, _⟩, _⟩, v1, v2⟩, _⟩ := hp
  obtain ⟨fk, a, e1, k1, x1, a1, r1, ra⟩ := lv_at hv f1 f2
  obtain ⟨tk, b, e2, k2, x2, b1, r2, rb⟩ := lv_at hv t1 t2
  have hmm : p.vol * ((rootN a : Int) + rootN b) ≤ 1000000 * 20000 := Int.mul_le_mul v2 (by omega) (by omega) (by omega)
  have hm0 : 0 ≤ p.vol * ((rootN a : Int) + rootN b) := Int.mul_nonneg v1 (by omega)
  rw [packF, r1, r2]
  omega
set_option maxRecDepth 100000 in
set_option maxHeartbeats 4000000 in
theorem spec_l18Total (A B C : Option Addr) (n c m d e : Nat) (N : Net) (lv : List Int) (w : World) (hN : NetAt w A B N) (hn : n = N.nodes.length) (hm : m = N.pipes.length) (hO : N.Ok) (hv : LvOk lv N.nodes.length) (h : Rd w C (lv.map iV)) (hl : lv.length ≤ 1048576) :
    Calls Try.prog 28 #[netV A B n c m d, .slice C lv.length e] w fun e w' => e = .returned (.int .i64 (lineF lv N.pipes)) ∧ Below w.heap.size w w' := by
  subst hn hm
  have HN := Lib.hid hN
  have HL := Lib.hid h
  have HO := Lib.hid hO
  have HLV := Lib.hid hv
  have hln := hN.ln
  have hlp := hN.lp
  have h40 := hO.p1
  clear hN h hO hv
  go_enter Try.func28, Try.ntmps28
  go_wp2
  go_loopw [5, 6] (fun u v wr => ∃ (k : Nat) (r : Int), k ≤ N.pipes.length ∧ v = .int .i64 k ∧ u = .int .i64 r ∧ 0 ≤ r ∧ r ≤ k * 20000000000 ∧ r + lineF lv (N.pipes.drop k) = lineF lv N.pipes ∧ Bx wr w.heap.size [.slice A N.nodes.length c, .slice B N.pipes.length d] ∧ Below w.heap.size w wr) (fun _ v _ => N.pipes.length - (intOf v).toNat)
  case atStart => exact ⟨0, 0, by omega, rfl, rfl, by omega, by omega, by simp, (bx2 (by first | exact hy0 | go_size) (by first | (with_reducible exact cw0_0) | go_cell_look | (simp [go_sem, hy0, cw0_0, fw0_0, cw0_1, fw0_1]; done) | (simp [go_sem]; done)) (by first | (with_reducible exact fw0_0) | (simp only [World.frozen?_setCell, fw0_0]; done) | (simp [go_sem, hy0, cw0_0, fw0_0, cw0_1, fw0_1]; done) | (simp [go_sem]; done)) (by first | (with_reducible exact cw0_1) | go_cell_look | (simp [go_sem, hy0, cw0_0, fw0_0, cw0_1, fw0_1]; done) | (simp [go_sem]; done)) (by first | (with_reducible exact fw0_1) | (simp only [World.frozen?_setCell, fw0_1]; done) | (simp [go_sem, hy0, cw0_0, fw0_0, cw0_1, fw0_1]; done) | (simp [go_sem]; done))), by (repeat' (first | (with_reducible exact Below.refl _ _) | (with_reducible assumption) | (with_reducible refine Below.alloc ?_ ?_ _) | (with_reducible refine Below.drew ?_) | (with_reducible refine Below.drewN' ?_ _) | (with_reducible refine Below.setCell ?_ ?_ _) | (refine Below.via ?_ (by with_reducible assumption) ?_) | (with_reducible refine Below.via ?_ (Wd.h _) ?_) | go_size))⟩
  case round =>
    obtain ⟨k, r, hk, rfl, rfl, hr0, hr1, hF, hB, hbw⟩ := hrel
    have hbH := Lib.hid hbw
    have HF := Lib.hid hF
    have HBX := Lib.hid hB
    have hy0 := hB.lt; have cw0_0 := hB.cell 0 rfl; have fw0_0 := hB.frozen 0 rfl; have cw0_1 := hB.cell 1 rfl; have fw0_1 := hB.frozen 1 rfl
    clear hF hB
    by_cases hlt : k < N.pipes.length
    · have HP := Lib.hid HN.out.pipes
      obtain ⟨x, hx⟩ := get_some hlt; obtain ⟨bx, offx, rfl, hbx, hat⟩ := HP.out.opened (k := k) (by rw [flat_len Pp.len]; omega); have hat' := hat.below hbw hbx; have hybx : bx < wr.heap.size := Nat.lt_of_lt_of_le hbx hbw.size; have hzw := hbw.size; have t0 := hat'.elem0 Pp.len hx rfl; have t1 := hat'.elem Pp.len hx 1 rfl; have t2 := hat'.elem Pp.len hx 2 rfl; have t3 := hat'.elem Pp.len hx 3 rfl; have t4 := hat'.elem Pp.len hx 4 rfl; have HX := Lib.hid hx; have HD := Lib.hid (drop_cons hx); have gx : (k : Int) < _ := Int.ofNat_lt.2 hlt; clear hx hat hat'
      have HPB := Lib.hid (HO.out.pipes x (List.mem_of_getElem? HX.out))
      obtain ⟨p1, p2⟩ := packF_bd HPB.out HLV.out
      have HRD := Lib.hid (HL.out.below hbw)
      clear hbw
      go_wp2_with ((go_at_call 40; refine (spec_l18Pack x _ _ _ lv _ HPB.out HLV.out HRD.out (by omega)).mono ?_; rintro e wn ⟨rfl, hbn⟩))
      go_roundw
      case rel =>
        refine ⟨k + 1, _, by omega, by go_num, rfl, by omega, by omega, ?_, HBX.out.below hbn (by omega), by have h1 := hbH.out; (repeat' (first | (with_reducible exact Below.refl _ _) | (with_reducible assumption) | (with_reducible refine Below.alloc ?_ ?_ _) | (with_reducible refine Below.drew ?_) | (with_reducible refine Below.drewN' ?_ _) | (with_reducible refine Below.setCell ?_ ?_ _) | (refine Below.via ?_ (by with_reducible assumption) ?_) | (with_reducible refine Below.via ?_ (Wd.h _) ?_) | go_size))⟩
        rw [← HF.out, HD.out, lineF]; omega
      case measure => simp [intOf]; omega
    · clear hbw
      go_wp2
      go_ret
      refine ⟨ri ?_, hbH.out⟩
      have := HF.out
      rw [drop_end hlt, lineF] at this
      omega
set_option maxRecDepth 100000 in
set_option maxHeartbeats 4000000 in
theorem impl_linepackOf (A B C : Option Addr) (n c m d e : Nat) (N : Net) (lv : List Int) (w : World) (hN : NetAt w A B N) (hn : n = N.nodes.length) (hm : m = N.pipes.length) (hO : N.Ok) (hv : LvOk lv N.nodes.length) (h : Rd w C (lv.map iV)) (hl : lv.length ≤ 1048576) :
    Calls Try.prog 26 #[netV A B n c m d, .slice C lv.length e] w fun e w' => e = .returned (.int .i64 (lineF lv N.pipes)) ∧ Below w.heap.size w w' := by
  subst hn hm
  have HN := Lib.hid hN
  have HL := Lib.hid h
  have HO := Lib.hid hO
  have HLV := Lib.hid hv
  have hln := hN.ln
  have hlp := hN.lp
  have h40 := hO.p1
  clear hN h hO hv
  go_enter Try.func26, Try.ntmps26
  go_wp2
  go_loopw [5, 11] (fun u v wr => ∃ (k : Nat) (r : Int), k ≤ N.pipes.length ∧ v = .int .i64 k ∧ u = .int .i64 r ∧ 0 ≤ r ∧ r ≤ k * 20000000000 ∧ r + lineF lv (N.pipes.drop k) = lineF lv N.pipes ∧ Below w.heap.size w wr) (fun _ v _ => N.pipes.length - (intOf v).toNat)
  case atStart => exact ⟨0, 0, by omega, rfl, rfl, by omega, by omega, by simp, by (repeat' (first | (with_reducible exact Below.refl _ _) | (with_reducible assumption) | (with_reducible refine Below.alloc ?_ ?_ _) | (with_reducible refine Below.drew ?_) | (with_reducible refine Below.drewN' ?_ _) | (with_reducible refine Below.setCell ?_ ?_ _) | (refine Below.via ?_ (by with_reducible assumption) ?_) | (with_reducible refine Below.via ?_ (Wd.h _) ?_) | go_size))⟩
  case round =>
    obtain ⟨k, r, hk, rfl, rfl, hr0, hr1, hF, hbw⟩ := hrel
    have hbH := Lib.hid hbw
    have HF := Lib.hid hF
    clear hF
    by_cases hlt : k < N.pipes.length
    · have HP := Lib.hid HN.out.pipes
      obtain ⟨x, hx⟩ := get_some hlt; obtain ⟨bx, offx, rfl, hbx, hat⟩ := HP.out.opened (k := k) (by rw [flat_len Pp.len]; omega); have hat' := hat.below hbw hbx; have hybx : bx < wr.heap.size := Nat.lt_of_lt_of_le hbx hbw.size; have hzw := hbw.size; have t0 := hat'.elem0 Pp.len hx rfl; have t1 := hat'.elem Pp.len hx 1 rfl; have t2 := hat'.elem Pp.len hx 2 rfl; have t3 := hat'.elem Pp.len hx 3 rfl; have t4 := hat'.elem Pp.len hx 4 rfl; have HX := Lib.hid hx; have HD := Lib.hid (drop_cons hx); have gx : (k : Int) < _ := Int.ofNat_lt.2 hlt; clear hx hat hat'
      have HPB := Lib.hid (HO.out.pipes x (List.mem_of_getElem? HX.out))
      obtain ⟨p1, p2⟩ := packF_bd HPB.out HLV.out
      have HRD := Lib.hid (HL.out.below hbw)
      clear hbw
      go_wp2_with ((go_at_call 30; refine (impl_packOf x _ _ _ lv _ HPB.out HLV.out (HRD.out.below (by (repeat' (first | (with_reducible exact Below.refl _ _) | (with_reducible assumption) | (with_reducible refine Below.alloc ?_ ?_ _) | (with_reducible refine Below.drew ?_) | (with_reducible refine Below.drewN' ?_ _) | (with_reducible refine Below.setCell ?_ ?_ _) | (refine Below.via ?_ (by with_reducible assumption) ?_) | (with_reducible refine Below.via ?_ (Wd.h _) ?_) | go_size)))) (by omega)).mono ?_; rintro e wn ⟨rfl, hbn⟩))
      go_roundw
      case rel =>
        refine ⟨k + 1, _, by omega, by go_num, rfl, by omega, by omega, ?_, by have h1 := hbH.out; (repeat' (first | (with_reducible exact Below.refl _ _) | (with_reducible assumption) | (with_reducible refine Below.alloc ?_ ?_ _) | (with_reducible refine Below.drew ?_) | (with_reducible refine Below.drewN' ?_ _) | (with_reducible refine Below.setCell ?_ ?_ _) | (refine Below.via ?_ (by with_reducible assumption) ?_) | (with_reducible refine Below.via ?_ (Wd.h _) ?_) | go_size))⟩
        rw [← HF.out, HD.out, lineF]; omega
      case measure => simp [intOf]; omega
    · clear hbw
      go_wp2
      go_ret
      refine ⟨ri ?_, hbH.out⟩
      have := HF.out
      rw [drop_end hlt, lineF] at this
      omega
end Go.Proofs.Ytkagnkecgkmpcaa

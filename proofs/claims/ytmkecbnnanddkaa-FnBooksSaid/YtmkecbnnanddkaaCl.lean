/- ClassTotals. -/
import Derived.Test.YtmkecbnnanddkaaSp
namespace Go.Proofs.Ytmkecbnnanddkaa
set_option linter.unusedVariables false
set_option linter.unusedSimpArgs false
open Go.RowKit
def clsF (hr : Int) : List Int → List Ctr → List Int
  | acc, [] => acc
  | acc, x :: l => clsF hr (if inB hr x.fr x.to = true then addAt acc x.cl.toNat x.am else acc) l
theorem clsF_len (hr : Int) : ∀ (l : List Ctr) (acc : List Int), (clsF hr acc l).length = acc.length
  | [], acc => rfl
  | x :: l, acc => by
    rw [clsF, clsF_len hr l]
    split
    · rw [addAt_len]
    · rfl
noncomputable def clsR (N : Net) (lb : List Ctr) (hr : Int) : List Int × Int :=
  if bookC N lb ≠ 0 then ([], bookC N lb) else if inB hr 0 47 = false then ([], 2) else (clsF hr (List.replicate 4 0) lb, 0)
theorem clsR_len {N : Net} {lb : List Ctr} {hr : Int} : (clsR N lb hr).1.length ≤ 1048576 := by
  unfold clsR; split
  · simp
  · split
    · simp
    · simp [clsF_len]
theorem make_four (w : World) : (Instr.makeSlice 42 (.int .i64 4) (.int .i64 4)).run Try.prog w = .ok (.slice (some ⟨w.heap.size, 0, none⟩) 4 4) (w.alloc (.cells (madeCells #[Value.int .i64 0] 4) 2)) := make_i64 4 (by omega) w
set_option maxRecDepth 100000 in
set_option maxHeartbeats 4000000 in
theorem impl_ClassTotals (A B C : Option Addr) (n c m d e : Nat) (N : Net) (lb : List Ctr) (hr : Int) (w : World) (hN : NetAt w A B N) (hn : n = N.nodes.length) (hm : m = N.pipes.length) (hc : n ≤ c) (h : Rd w C (lb.flatMap Ctr.cells)) (hl : lb.length ≤ 1048576) :
    Calls Try.prog 16 #[netV A B n c m d, .slice C lb.length e, .int .i64 hr] w (MadeR w 1 (clsR N lb hr).1.length ((clsR N lb hr).1.map iV) (clsR N lb hr).2) := by
  subst hn hm
  have HN := Lib.hid hN
  have HB := Lib.hid h
  have hln := hN.ln
  clear hN h
  by_cases h0 : bookC N lb = 0
  · have b0 : (bookC N lb != 0) = false := by simp [h0]
    have HO := Lib.hid (book_of h0)
    have h32 := (book_of h0).2.1
    have H0 := Lib.hid h0
    clear h0
    cases hs2 : inB hr 0 47
    · have HR := Lib.hid (show clsR N lb hr = ([], 2) by simp [clsR, H0.out, hs2])
      (go_enter Try.func16, Try.ntmps16; go_wp2_with (first | (go_at_call 36; ((with_reducible refine (impl_checkBook _ _ _ _ _ _ _ _ N lb _ (by exact HN.out.below (by (repeat' (first | (with_reducible exact Below.refl _ _) | (with_reducible assumption) | (with_reducible refine Below.alloc ?_ ?_ _) | (with_reducible refine Below.drew ?_) | (with_reducible refine Below.drewN' ?_ _) | (with_reducible refine Below.setCell ?_ ?_ _) | (refine Below.via ?_ (by with_reducible assumption) ?_) | (with_reducible refine Below.via ?_ (Wd.h _) ?_) | go_size)))) rfl rfl (by omega) (by exact HB.out.below (by (repeat' (first | (with_reducible exact Below.refl _ _) | (with_reducible assumption) | (with_reducible refine Below.alloc ?_ ?_ _) | (with_reducible refine Below.drew ?_) | (with_reducible refine Below.drewN' ?_ _) | (with_reducible refine Below.setCell ?_ ?_ _) | (refine Below.via ?_ (by with_reducible assumption) ?_) | (with_reducible refine Below.via ?_ (Wd.h _) ?_) | go_size)))) (by omega)).mono ?_)); rintro e wn ⟨rfl, hbn⟩; (obtain ⟨hcn, hfn⟩ := bcell hbn; have hzn := hbn.size; (try simp at hzn); have Ncw0_0 := hcn (w.heap.size) (0) (by first | omega | (simp; done) | (simp; omega)); have Nfw0_0 := hfn (w.heap.size) (0) (by first | omega | (simp; done) | (simp; omega)); have Nhy0 : w.heap.size < wn.heap.size := (by omega); have Ncw0_1 := hcn (w.heap.size) (1) (by first | omega | (simp; done) | (simp; omega)); have Nfw0_1 := hfn (w.heap.size) (1) (by first | omega | (simp; done) | (simp; omega)); (first | (simp [go_sem, cw0_0, fw0_0, cw0_1, fw0_1, hy0] at Ncw0_0 Nfw0_0 Ncw0_1 Nfw0_1; clear cw0_0 fw0_0 cw0_1 fw0_1) | (simp [go_sem] at Ncw0_0 Nfw0_0 Ncw0_1 Nfw0_1)); clear hcn hfn; have cw0_0 := Ncw0_0; have fw0_0 := Nfw0_0; have cw0_1 := Ncw0_1; have fw0_1 := Nfw0_1; have hy0 := Nhy0; clear Ncw0_0 Nfw0_0 Ncw0_1 Nfw0_1 Nhy0)) | (go_at_call 38; ((with_reducible refine (impl_isHour _ _).mono ?_)); rintro e wn ⟨rfl, rfl⟩) | (go_at_call 39; ((with_reducible refine (impl_holdsIn _ _ _).mono ?_)); rintro e wn ⟨rfl, hbn⟩; (obtain ⟨hcn, hfn⟩ := bcell hbn; have hzn := hbn.size; (try simp at hzn); have Ncw0_0 := hcn (w.heap.size) (0) (by first | omega | (simp; done) | (simp; omega)); have Nfw0_0 := hfn (w.heap.size) (0) (by first | omega | (simp; done) | (simp; omega)); have Nhy0 : w.heap.size < wn.heap.size := (by omega); have Ncw0_1 := hcn (w.heap.size) (1) (by first | omega | (simp; done) | (simp; omega)); have Nfw0_1 := hfn (w.heap.size) (1) (by first | omega | (simp; done) | (simp; omega)); (first | (simp [go_sem, cw0_0, fw0_0, cw0_1, fw0_1, hy0] at Ncw0_0 Nfw0_0 Ncw0_1 Nfw0_1; clear cw0_0 fw0_0 cw0_1 fw0_1) | (simp [go_sem] at Ncw0_0 Nfw0_0 Ncw0_1 Nfw0_1)); clear hcn hfn; have cw0_0 := Ncw0_0; have fw0_0 := Nfw0_0; have cw0_1 := Ncw0_1; have fw0_1 := Nfw0_1; have hy0 := Nhy0; clear Ncw0_0 Nfw0_0 Ncw0_1 Nfw0_1 Nhy0))))
      go_ret2
      exact MadeR.nil HR.out rfl (by (repeat' (first | (with_reducible exact Below.refl _ _) | (with_reducible assumption) | (with_reducible refine Below.alloc ?_ ?_ _) | (with_reducible refine Below.drew ?_) | (with_reducible refine Below.drewN' ?_ _) | (with_reducible refine Below.setCell ?_ ?_ _) | (refine Below.via ?_ (by with_reducible assumption) ?_) | (with_reducible refine Below.via ?_ (Wd.h _) ?_) | go_size)))
    have HR := Lib.hid (show clsR N lb hr = (clsF hr (List.replicate 4 0) lb, 0) by simp [clsR, H0.out, hs2])
    have hmk := make_four
    (go_enter Try.func16, Try.ntmps16; go_wp2_with (first | (go_at_call 36; ((with_reducible refine (impl_checkBook _ _ _ _ _ _ _ _ N lb _ (by exact HN.out.below (by (repeat' (first | (with_reducible exact Below.refl _ _) | (with_reducible assumption) | (with_reducible refine Below.alloc ?_ ?_ _) | (with_reducible refine Below.drew ?_) | (with_reducible refine Below.drewN' ?_ _) | (with_reducible refine Below.setCell ?_ ?_ _) | (refine Below.via ?_ (by with_reducible assumption) ?_) | (with_reducible refine Below.via ?_ (Wd.h _) ?_) | go_size)))) rfl rfl (by omega) (by exact HB.out.below (by (repeat' (first | (with_reducible exact Below.refl _ _) | (with_reducible assumption) | (with_reducible refine Below.alloc ?_ ?_ _) | (with_reducible refine Below.drew ?_) | (with_reducible refine Below.drewN' ?_ _) | (with_reducible refine Below.setCell ?_ ?_ _) | (refine Below.via ?_ (by with_reducible assumption) ?_) | (with_reducible refine Below.via ?_ (Wd.h _) ?_) | go_size)))) (by omega)).mono ?_)); rintro e wn ⟨rfl, hbn⟩; (obtain ⟨hcn, hfn⟩ := bcell hbn; have hzn := hbn.size; (try simp at hzn); have Ncw0_0 := hcn (w.heap.size) (0) (by first | omega | (simp; done) | (simp; omega)); have Nfw0_0 := hfn (w.heap.size) (0) (by first | omega | (simp; done) | (simp; omega)); have Nhy0 : w.heap.size < wn.heap.size := (by omega); have Ncw0_1 := hcn (w.heap.size) (1) (by first | omega | (simp; done) | (simp; omega)); have Nfw0_1 := hfn (w.heap.size) (1) (by first | omega | (simp; done) | (simp; omega)); (first | (simp [go_sem, cw0_0, fw0_0, cw0_1, fw0_1, hy0] at Ncw0_0 Nfw0_0 Ncw0_1 Nfw0_1; clear cw0_0 fw0_0 cw0_1 fw0_1) | (simp [go_sem] at Ncw0_0 Nfw0_0 Ncw0_1 Nfw0_1)); clear hcn hfn; have cw0_0 := Ncw0_0; have fw0_0 := Nfw0_0; have cw0_1 := Ncw0_1; have fw0_1 := Nfw0_1; have hy0 := Nhy0; clear Ncw0_0 Nfw0_0 Ncw0_1 Nfw0_1 Nhy0)) | (go_at_call 38; ((with_reducible refine (impl_isHour _ _).mono ?_)); rintro e wn ⟨rfl, rfl⟩) | (go_at_call 39; ((with_reducible refine (impl_holdsIn _ _ _).mono ?_)); rintro e wn ⟨rfl, hbn⟩; (obtain ⟨hcn, hfn⟩ := bcell hbn; have hzn := hbn.size; (try simp at hzn); have Ncw0_0 := hcn (w.heap.size) (0) (by first | omega | (simp; done) | (simp; omega)); have Nfw0_0 := hfn (w.heap.size) (0) (by first | omega | (simp; done) | (simp; omega)); have Nhy0 : w.heap.size < wn.heap.size := (by omega); have Ncw0_1 := hcn (w.heap.size) (1) (by first | omega | (simp; done) | (simp; omega)); have Nfw0_1 := hfn (w.heap.size) (1) (by first | omega | (simp; done) | (simp; omega)); (first | (simp [go_sem, cw0_0, fw0_0, cw0_1, fw0_1, hy0] at Ncw0_0 Nfw0_0 Ncw0_1 Nfw0_1; clear cw0_0 fw0_0 cw0_1 fw0_1) | (simp [go_sem] at Ncw0_0 Nfw0_0 Ncw0_1 Nfw0_1)); clear hcn hfn; have cw0_0 := Ncw0_0; have fw0_0 := Nfw0_0; have cw0_1 := Ncw0_1; have fw0_1 := Nfw0_1; have hy0 := Nhy0; clear Ncw0_0 Nfw0_0 Ncw0_1 Nfw0_1 Nhy0))))
    have hbn1 : Below w.heap.size w wn := by (repeat' (first | (with_reducible exact Below.refl _ _) | (with_reducible assumption) | (with_reducible refine Below.alloc ?_ ?_ _) | (with_reducible refine Below.drew ?_) | (with_reducible refine Below.drewN' ?_ _) | (with_reducible refine Below.setCell ?_ ?_ _) | (refine Below.via ?_ (by with_reducible assumption) ?_) | (with_reducible refine Below.via ?_ (Wd.h _) ?_) | go_size))
    have HBN := Lib.hid hbn1
    have hzz : w.heap.size ≤ wn.heap.size := hbn1.size
    have HA0 := Lib.hid (Arr.madeI wn 4 2)
    clear hy0 cw0_0 fw0_0 cw0_1 fw0_1
    clear hbn hbn1 hmk
    go_loopw [24] (fun v wr => ∃ (k : Nat) (acc : List Int), k ≤ lb.length ∧ v = .int .i64 k ∧ acc.length = 4 ∧ (∀ y ∈ acc, -(k * 30000 : Int) ≤ y ∧ y ≤ (k * 30000 : Int)) ∧ clsF hr acc (lb.drop k) = clsF hr (List.replicate 4 0) lb ∧ Arr wr wn.heap.size 4 (acc.map iV) ∧ Below w.heap.size w wr) (fun v _ => lb.length - (intOf v).toNat)
    case atStart => exact ⟨0, List.replicate 4 0, by omega, rfl, by simp, by simp, by simp, HA0.out, HBN.out.alloc hzz _⟩
    case round =>
      obtain ⟨k, acc, hk, rfl, hal, hbd, hF, hA, hbw⟩ := hrel
      have hbH := Lib.hid hbw
      have HF := Lib.hid hF
      have HA := Lib.hid hA
      have HBD := Lib.hid hbd
      have HAL := Lib.hid hal
      have hyA := hA.lt
      clear hF hA hbd hal
      by_cases hlt : k < lb.length
      · obtain ⟨x, hx⟩ := get_some hlt; obtain ⟨bx, offx, rfl, hbx, hat⟩ := HB.out.opened (k := k) (by rw [flat_len Ctr.len]; omega); have hat' := hat.below hbw hbx; have hybx : bx < wr.heap.size := Nat.lt_of_lt_of_le hbx hbw.size; have hzw := hbw.size; have t0 := hat'.elem0 Ctr.len hx rfl; have t1 := hat'.elem Ctr.len hx 1 rfl; have t2 := hat'.elem Ctr.len hx 2 rfl; have t3 := hat'.elem Ctr.len hx 3 rfl; have t4 := hat'.elem Ctr.len hx 4 rfl; have t5 := hat'.elem Ctr.len hx 5 rfl; have t6 := hat'.elem Ctr.len hx 6 rfl; have t7 := hat'.elem Ctr.len hx 7 rfl; have HX := Lib.hid hx; have HD := Lib.hid (drop_cons hx); have gx : (k : Int) < _ := Int.ofNat_lt.2 hlt; clear hx hat hat'
        have cc := ctr_of (HO.out.2.2 x (List.mem_of_getElem? HX.out))
        obtain ⟨_, _, _, _, ⟨p5, p6⟩, ⟨p7, p8⟩, _⟩ := cc
        clear hbw
        cases hh : inB hr x.fr x.to
        · go_wp2_with ((go_at_call 39; refine (impl_holdsIn x _ _).mono ?_; rintro e wq ⟨rfl, hbq⟩))
          go_roundw
          case rel =>
            refine ⟨k + 1, acc, by omega, by go_num, HAL.out, fun y hy => by have := HBD.out y hy; omega, ?_, (HA.out.alloc _).below hbq (by simp; omega), by have h1 := hbH.out; (repeat' (first | (with_reducible exact Below.refl _ _) | (with_reducible assumption) | (with_reducible refine Below.alloc ?_ ?_ _) | (with_reducible refine Below.drew ?_) | (with_reducible refine Below.drewN' ?_ _) | (with_reducible refine Below.setCell ?_ ?_ _) | (refine Below.via ?_ (by with_reducible assumption) ?_) | (with_reducible refine Below.via ?_ (Wd.h _) ?_) | go_size))⟩
            rw [← HF.out, HD.out, clsF, hh]; simp
          case measure => simp [intOf]; omega
        · obtain ⟨xsh, xen, xex, xam, xcl, xfr, xto, xpr⟩ := x
          dsimp only at t0 t1 t2 t3 t4 t5 t6 t7 hh p5 p6 p7 p8
          obtain ⟨q, rfl⟩ : ∃ q : Nat, xcl = q := ⟨xcl.toNat, by omega⟩
          obtain ⟨y, hy⟩ := get_some (l := acc) (k := q) (by rw [HAL.out]; omega)
          obtain ⟨y1, y2⟩ := HBD.out y (List.mem_of_getElem? hy)
          have s0 := ints_cell HA.out hy
          have s1 := HA.out.free (j := q) (by omega)
          have HY := Lib.hid hy
          have g4 : (q : Int) < 4 := by omega
          clear hy
          go_wp2_with fail
          refine (impl_holdsIn ⟨xsh, xen, xex, xam, q, xfr, xto, xpr⟩ _ _).mono ?_
          rintro e wq ⟨rfl, hbq⟩
          have hzq := hbq.size
          (try simp at hzq)
          have r3 : wq.cell? ⟨wr.heap.size, 3, none⟩ = some (.int .i64 xam) := (hbq.cell (p := ⟨wr.heap.size, 3, none⟩) (by simp)).trans (by simp)
          have r4 : wq.cell? ⟨wr.heap.size, 4, none⟩ = some (.int .i64 q) := (hbq.cell (p := ⟨wr.heap.size, 4, none⟩) (by simp)).trans (by simp)
          clear s0 s1 t0 t1 t2 t3 t4 t5 t6 t7
          have HAq := Lib.hid ((HA.out.alloc (.cells #[.int .i64 xsh, .int .i64 xen, .int .i64 xex, .int .i64 xam, .int .i64 q, .int .i64 xfr, .int .i64 xto, .int .i64 xpr] 41)).below hbq (by simp; omega))
          have s0' := ints_cell HAq.out HY.out
          go_wp2_with fail
          (have qk0 := Wd.cell (by first | assumption | omega | (simp; omega)) r3; have qk1 := Wd.cell (by first | assumption | omega | (simp; omega)) r4; have qk2 := Wd.cell (by first | assumption | omega | (simp; omega)) s0'; (refine wp_region_wd_tail 9 (by kernel_rfl) (by kernel_rfl) ?_; simp only [List.take_succ_cons, List.take_zero, List.drop_succ_cons, List.drop_zero]); (repeat (go_big_quiet_step ((first | fail)))); (refine wpQuiet_nil ?_); rintro wz ⟨⟨w'', hbwz⟩, hw''⟩; obtain rfl : wz = w'' := hw''; clear qk0 qk1 qk2; have hzwz := hbwz.size; (try simp at hzwz))
          have HAz := Lib.hid (HAq.out.below hbwz (by omega))
          have s0 := ints_cell HAz.out HY.out
          have s1 := HAz.out.free (j := q) (by omega)
          clear s0' r3 r4
          go_wp2
          go_roundw
          case rel =>
            refine ⟨k + 1, addAt acc q xam, by omega, by go_num, by rw [addAt_len]; exact HAL.out, fun z hz => by have := addAt_bd (a := -30000) (b := 30000) HBD.out (by omega) (by omega) (by omega) (by omega) z hz; omega, ?_, HAz.out.addAt HY.out (by omega), by have h1 := hbH.out; (repeat' (first | (with_reducible exact Below.refl _ _) | (with_reducible assumption) | (with_reducible refine Below.alloc ?_ ?_ _) | (with_reducible refine Below.drew ?_) | (with_reducible refine Below.drewN' ?_ _) | (with_reducible refine Below.setCell ?_ ?_ _) | (refine Below.via ?_ (by with_reducible assumption) ?_) | (with_reducible refine Below.via ?_ (Wd.h _) ?_) | go_size))⟩
            rw [← HF.out, HD.out, clsF]; simp [hh]
          case measure => simp [intOf]; omega
      · clear hbw
        go_wp2
        go_ret2
        refine MadeR.arr ?_ HAL.out (Nat.le_refl _) HA.out hzz hbH.out
        rw [HR.out, ← HF.out, drop_endI hlt, clsF]
  · have b0 : (bookC N lb != 0) = true := by simp [h0]
    have HR := Lib.hid (show clsR N lb hr = ([], bookC N lb) by simp [clsR, h0])
    (go_enter Try.func16, Try.ntmps16; go_wp2_with (first | (go_at_call 36; ((with_reducible refine (impl_checkBook _ _ _ _ _ _ _ _ N lb _ (by exact HN.out.below (by (repeat' (first | (with_reducible exact Below.refl _ _) | (with_reducible assumption) | (with_reducible refine Below.alloc ?_ ?_ _) | (with_reducible refine Below.drew ?_) | (with_reducible refine Below.drewN' ?_ _) | (with_reducible refine Below.setCell ?_ ?_ _) | (refine Below.via ?_ (by with_reducible assumption) ?_) | (with_reducible refine Below.via ?_ (Wd.h _) ?_) | go_size)))) rfl rfl (by omega) (by exact HB.out.below (by (repeat' (first | (with_reducible exact Below.refl _ _) | (with_reducible assumption) | (with_reducible refine Below.alloc ?_ ?_ _) | (with_reducible refine Below.drew ?_) | (with_reducible refine Below.drewN' ?_ _) | (with_reducible refine Below.setCell ?_ ?_ _) | (refine Below.via ?_ (by with_reducible assumption) ?_) | (with_reducible refine Below.via ?_ (Wd.h _) ?_) | go_size)))) (by omega)).mono ?_)); rintro e wn ⟨rfl, hbn⟩; (obtain ⟨hcn, hfn⟩ := bcell hbn; have hzn := hbn.size; (try simp at hzn); have Ncw0_0 := hcn (w.heap.size) (0) (by first | omega | (simp; done) | (simp; omega)); have Nfw0_0 := hfn (w.heap.size) (0) (by first | omega | (simp; done) | (simp; omega)); have Nhy0 : w.heap.size < wn.heap.size := (by omega); have Ncw0_1 := hcn (w.heap.size) (1) (by first | omega | (simp; done) | (simp; omega)); have Nfw0_1 := hfn (w.heap.size) (1) (by first | omega | (simp; done) | (simp; omega)); (first | (simp [go_sem, cw0_0, fw0_0, cw0_1, fw0_1, hy0] at Ncw0_0 Nfw0_0 Ncw0_1 Nfw0_1; clear cw0_0 fw0_0 cw0_1 fw0_1) | (simp [go_sem] at Ncw0_0 Nfw0_0 Ncw0_1 Nfw0_1)); clear hcn hfn; have cw0_0 := Ncw0_0; have fw0_0 := Nfw0_0; have cw0_1 := Ncw0_1; have fw0_1 := Nfw0_1; have hy0 := Nhy0; clear Ncw0_0 Nfw0_0 Ncw0_1 Nfw0_1 Nhy0)) | (go_at_call 38; ((with_reducible refine (impl_isHour _ _).mono ?_)); rintro e wn ⟨rfl, rfl⟩) | (go_at_call 39; ((with_reducible refine (impl_holdsIn _ _ _).mono ?_)); rintro e wn ⟨rfl, hbn⟩; (obtain ⟨hcn, hfn⟩ := bcell hbn; have hzn := hbn.size; (try simp at hzn); have Ncw0_0 := hcn (w.heap.size) (0) (by first | omega | (simp; done) | (simp; omega)); have Nfw0_0 := hfn (w.heap.size) (0) (by first | omega | (simp; done) | (simp; omega)); have Nhy0 : w.heap.size < wn.heap.size := (by omega); have Ncw0_1 := hcn (w.heap.size) (1) (by first | omega | (simp; done) | (simp; omega)); have Nfw0_1 := hfn (w.heap.size) (1) (by first | omega | (simp; done) | (simp; omega)); (first | (simp [go_sem, cw0_0, fw0_0, cw0_1, fw0_1, hy0] at Ncw0_0 Nfw0_0 Ncw0_1 Nfw0_1; clear cw0_0 fw0_0 cw0_1 fw0_1) | (simp [go_sem] at Ncw0_0 Nfw0_0 Ncw0_1 Nfw0_1)); clear hcn hfn; have cw0_0 := Ncw0_0; have fw0_0 := Nfw0_0; have cw0_1 := Ncw0_1; have fw0_1 := Nfw0_1; have hy0 := Nhy0; clear Ncw0_0 Nfw0_0 Ncw0_1 Nfw0_1 Nhy0))))
    go_ret2
    exact MadeR.nil HR.out rfl (by (repeat' (first | (with_reducible exact Below.refl _ _) | (with_reducible assumption) | (with_reducible refine Below.alloc ?_ ?_ _) | (with_reducible refine Below.drew ?_) | (with_reducible refine Below.drewN' ?_ _) | (with_reducible refine Below.setCell ?_ ?_ _) | (refine Below.via ?_ (by with_reducible assumption) ?_) | (with_reducible refine Below.via ?_ (Wd.h _) ?_) | go_size)))
set_option maxRecDepth 100000 in
set_option maxHeartbeats 4000000 in
theorem spec_ClassTotals (A B C : Option Addr) (n c m d e : Nat) (N : Net) (lb : List Ctr) (hr : Int) (w : World) (hN : NetAt w A B N) (hn : n = N.nodes.length) (hm : m = N.pipes.length) (h : Rd w C (lb.flatMap Ctr.cells)) (hl : lb.length ≤ 1048576) :
    Calls Try.prog 17 #[netV A B n c m d, .slice C lb.length e, .int .i64 hr] w (MadeR w 1 (clsR N lb hr).1.length ((clsR N lb hr).1.map iV) (clsR N lb hr).2) := by
  subst hn hm
  have HN := Lib.hid hN
  have HB := Lib.hid h
  have hln := hN.ln
  clear hN h
  by_cases h0 : bookC N lb = 0
  · have b0 : (bookC N lb != 0) = false := by simp [h0]
    have b1 : (bookC N lb == 0) = true := by simp [h0]
    have HO := Lib.hid (book_of h0)
    have h32 := (book_of h0).2.1
    have H0 := Lib.hid h0
    clear h0
    cases hs2 : inB hr 0 47
    · have HR := Lib.hid (show clsR N lb hr = ([], 2) by simp [clsR, H0.out, hs2])
      (go_enter Try.func17, Try.ntmps17; go_wp2_with (first | (go_at_call 37; ((with_reducible refine (spec_l20Code _ _ _ _ _ _ _ _ N lb _ (by exact HN.out.below (by (repeat' (first | (with_reducible exact Below.refl _ _) | (with_reducible assumption) | (with_reducible refine Below.alloc ?_ ?_ _) | (with_reducible refine Below.drew ?_) | (with_reducible refine Below.drewN' ?_ _) | (with_reducible refine Below.setCell ?_ ?_ _) | (refine Below.via ?_ (by with_reducible assumption) ?_) | (with_reducible refine Below.via ?_ (Wd.h _) ?_) | go_size)))) rfl rfl (by exact HB.out.below (by (repeat' (first | (with_reducible exact Below.refl _ _) | (with_reducible assumption) | (with_reducible refine Below.alloc ?_ ?_ _) | (with_reducible refine Below.drew ?_) | (with_reducible refine Below.drewN' ?_ _) | (with_reducible refine Below.setCell ?_ ?_ _) | (refine Below.via ?_ (by with_reducible assumption) ?_) | (with_reducible refine Below.via ?_ (Wd.h _) ?_) | go_size)))) (by omega)).mono ?_)); rintro e wn ⟨rfl, hbn⟩; (obtain ⟨hcn, hfn⟩ := bcell hbn; have hzn := hbn.size; (try simp at hzn); have Ncw0_0 := hcn (w.heap.size) (0) (by first | omega | (simp; done) | (simp; omega)); have Nfw0_0 := hfn (w.heap.size) (0) (by first | omega | (simp; done) | (simp; omega)); have Nhy0 : w.heap.size < wn.heap.size := (by omega); have Ncw0_1 := hcn (w.heap.size) (1) (by first | omega | (simp; done) | (simp; omega)); have Nfw0_1 := hfn (w.heap.size) (1) (by first | omega | (simp; done) | (simp; omega)); (first | (simp [go_sem, cw0_0, fw0_0, cw0_1, fw0_1, hy0] at Ncw0_0 Nfw0_0 Ncw0_1 Nfw0_1; clear cw0_0 fw0_0 cw0_1 fw0_1) | (simp [go_sem] at Ncw0_0 Nfw0_0 Ncw0_1 Nfw0_1)); clear hcn hfn; have cw0_0 := Ncw0_0; have fw0_0 := Nfw0_0; have cw0_1 := Ncw0_1; have fw0_1 := Nfw0_1; have hy0 := Nhy0; clear Ncw0_0 Nfw0_0 Ncw0_1 Nfw0_1 Nhy0)) | (go_at_call 41; ((with_reducible refine (spec_l20Hour _ _).mono ?_)); rintro e wn ⟨rfl, rfl⟩) | (go_at_call 42; ((with_reducible refine (spec_l20Holds _ _ _).mono ?_)); rintro e wn ⟨rfl, hbn⟩; (obtain ⟨hcn, hfn⟩ := bcell hbn; have hzn := hbn.size; (try simp at hzn); have Ncw0_0 := hcn (w.heap.size) (0) (by first | omega | (simp; done) | (simp; omega)); have Nfw0_0 := hfn (w.heap.size) (0) (by first | omega | (simp; done) | (simp; omega)); have Nhy0 : w.heap.size < wn.heap.size := (by omega); have Ncw0_1 := hcn (w.heap.size) (1) (by first | omega | (simp; done) | (simp; omega)); have Nfw0_1 := hfn (w.heap.size) (1) (by first | omega | (simp; done) | (simp; omega)); (first | (simp [go_sem, cw0_0, fw0_0, cw0_1, fw0_1, hy0] at Ncw0_0 Nfw0_0 Ncw0_1 Nfw0_1; clear cw0_0 fw0_0 cw0_1 fw0_1) | (simp [go_sem] at Ncw0_0 Nfw0_0 Ncw0_1 Nfw0_1)); clear hcn hfn; have cw0_0 := Ncw0_0; have fw0_0 := Nfw0_0; have cw0_1 := Ncw0_1; have fw0_1 := Nfw0_1; have hy0 := Nhy0; clear Ncw0_0 Nfw0_0 Ncw0_1 Nfw0_1 Nhy0))))
      go_ret2
      exact MadeR.nil HR.out rfl (by (repeat' (first | (with_reducible exact Below.refl _ _) | (with_reducible assumption) | (with_reducible refine Below.alloc ?_ ?_ _) | (with_reducible refine Below.drew ?_) | (with_reducible refine Below.drewN' ?_ _) | (with_reducible refine Below.setCell ?_ ?_ _) | (refine Below.via ?_ (by with_reducible assumption) ?_) | (with_reducible refine Below.via ?_ (Wd.h _) ?_) | go_size)))
    have HR := Lib.hid (show clsR N lb hr = (clsF hr (List.replicate 4 0) lb, 0) by simp [clsR, H0.out, hs2])
    have hmk := make_four
    (go_enter Try.func17, Try.ntmps17; go_wp2_with (first | (go_at_call 37; ((with_reducible refine (spec_l20Code _ _ _ _ _ _ _ _ N lb _ (by exact HN.out.below (by (repeat' (first | (with_reducible exact Below.refl _ _) | (with_reducible assumption) | (with_reducible refine Below.alloc ?_ ?_ _) | (with_reducible refine Below.drew ?_) | (with_reducible refine Below.drewN' ?_ _) | (with_reducible refine Below.setCell ?_ ?_ _) | (refine Below.via ?_ (by with_reducible assumption) ?_) | (with_reducible refine Below.via ?_ (Wd.h _) ?_) | go_size)))) rfl rfl (by exact HB.out.below (by (repeat' (first | (with_reducible exact Below.refl _ _) | (with_reducible assumption) | (with_reducible refine Below.alloc ?_ ?_ _) | (with_reducible refine Below.drew ?_) | (with_reducible refine Below.drewN' ?_ _) | (with_reducible refine Below.setCell ?_ ?_ _) | (refine Below.via ?_ (by with_reducible assumption) ?_) | (with_reducible refine Below.via ?_ (Wd.h _) ?_) | go_size)))) (by omega)).mono ?_)); rintro e wn ⟨rfl, hbn⟩; (obtain ⟨hcn, hfn⟩ := bcell hbn; have hzn := hbn.size; (try simp at hzn); have Ncw0_0 := hcn (w.heap.size) (0) (by first | omega | (simp; done) | (simp; omega)); have Nfw0_0 := hfn (w.heap.size) (0) (by first | omega | (simp; done) | (simp; omega)); have Nhy0 : w.heap.size < wn.heap.size := (by omega); have Ncw0_1 := hcn (w.heap.size) (1) (by first | omega | (simp; done) | (simp; omega)); have Nfw0_1 := hfn (w.heap.size) (1) (by first | omega | (simp; done) | (simp; omega)); (first | (simp [go_sem, cw0_0, fw0_0, cw0_1, fw0_1, hy0] at Ncw0_0 Nfw0_0 Ncw0_1 Nfw0_1; clear cw0_0 fw0_0 cw0_1 fw0_1) | (simp [go_sem] at Ncw0_0 Nfw0_0 Ncw0_1 Nfw0_1)); clear hcn hfn; have cw0_0 := Ncw0_0; have fw0_0 := Nfw0_0; have cw0_1 := Ncw0_1; have fw0_1 := Nfw0_1; have hy0 := Nhy0; clear Ncw0_0 Nfw0_0 Ncw0_1 Nfw0_1 Nhy0)) | (go_at_call 41; ((with_reducible refine (spec_l20Hour _ _).mono ?_)); rintro e wn ⟨rfl, rfl⟩) | (go_at_call 42; ((with_reducible refine (spec_l20Holds _ _ _).mono ?_)); rintro e wn ⟨rfl, hbn⟩; (obtain ⟨hcn, hfn⟩ := bcell hbn; have hzn := hbn.size; (try simp at hzn); have Ncw0_0 := hcn (w.heap.size) (0) (by first | omega | (simp; done) | (simp; omega)); have Nfw0_0 := hfn (w.heap.size) (0) (by first | omega | (simp; done) | (simp; omega)); have Nhy0 : w.heap.size < wn.heap.size := (by omega); have Ncw0_1 := hcn (w.heap.size) (1) (by first | omega | (simp; done) | (simp; omega)); have Nfw0_1 := hfn (w.heap.size) (1) (by first | omega | (simp; done) | (simp; omega)); (first | (simp [go_sem, cw0_0, fw0_0, cw0_1, fw0_1, hy0] at Ncw0_0 Nfw0_0 Ncw0_1 Nfw0_1; clear cw0_0 fw0_0 cw0_1 fw0_1) | (simp [go_sem] at Ncw0_0 Nfw0_0 Ncw0_1 Nfw0_1)); clear hcn hfn; have cw0_0 := Ncw0_0; have fw0_0 := Nfw0_0; have cw0_1 := Ncw0_1; have fw0_1 := Nfw0_1; have hy0 := Nhy0; clear Ncw0_0 Nfw0_0 Ncw0_1 Nfw0_1 Nhy0))))
    have hbn1 : Below w.heap.size w wn := by (repeat' (first | (with_reducible exact Below.refl _ _) | (with_reducible assumption) | (with_reducible refine Below.alloc ?_ ?_ _) | (with_reducible refine Below.drew ?_) | (with_reducible refine Below.drewN' ?_ _) | (with_reducible refine Below.setCell ?_ ?_ _) | (refine Below.via ?_ (by with_reducible assumption) ?_) | (with_reducible refine Below.via ?_ (Wd.h _) ?_) | go_size))
    have HBN := Lib.hid hbn1
    have hzz : w.heap.size ≤ wn.heap.size := hbn1.size
    have HA0 := Lib.hid (Arr.madeI wn 4 2)
    clear hy0 cw0_0 fw0_0 cw0_1 fw0_1
    clear hbn hbn1 hmk
    go_loopw [10] (fun v wr => ∃ (k : Nat) (acc : List Int), k ≤ lb.length ∧ v = .int .i64 k ∧ acc.length = 4 ∧ (∀ y ∈ acc, -(k * 30000 : Int) ≤ y ∧ y ≤ (k * 30000 : Int)) ∧ clsF hr acc (lb.drop k) = clsF hr (List.replicate 4 0) lb ∧ Arr wr wn.heap.size 4 (acc.map iV) ∧ Below w.heap.size w wr) (fun v _ => lb.length - (intOf v).toNat)
    case atStart => exact ⟨0, List.replicate 4 0, by omega, rfl, by simp, by simp, by simp, HA0.out, HBN.out.alloc hzz _⟩
    case round =>
      obtain ⟨k, acc, hk, rfl, hal, hbd, hF, hA, hbw⟩ := hrel
      have hbH := Lib.hid hbw
      have HF := Lib.hid hF
      have HA := Lib.hid hA
      have HBD := Lib.hid hbd
      have HAL := Lib.hid hal
      have hyA := hA.lt
      clear hF hA hbd hal
      by_cases hlt : k < lb.length
      · obtain ⟨x, hx⟩ := get_some hlt; obtain ⟨bx, offx, rfl, hbx, hat⟩ := HB.out.opened (k := k) (by rw [flat_len Ctr.len]; omega); have hat' := hat.below hbw hbx; have hybx : bx < wr.heap.size := Nat.lt_of_lt_of_le hbx hbw.size; have hzw := hbw.size; have t0 := hat'.elem0 Ctr.len hx rfl; have t1 := hat'.elem Ctr.len hx 1 rfl; have t2 := hat'.elem Ctr.len hx 2 rfl; have t3 := hat'.elem Ctr.len hx 3 rfl; have t4 := hat'.elem Ctr.len hx 4 rfl; have t5 := hat'.elem Ctr.len hx 5 rfl; have t6 := hat'.elem Ctr.len hx 6 rfl; have t7 := hat'.elem Ctr.len hx 7 rfl; have HX := Lib.hid hx; have HD := Lib.hid (drop_cons hx); have gx : (k : Int) < _ := Int.ofNat_lt.2 hlt; clear hx hat hat'
        have cc := ctr_of (HO.out.2.2 x (List.mem_of_getElem? HX.out))
        obtain ⟨_, _, _, _, ⟨p5, p6⟩, ⟨p7, p8⟩, _⟩ := cc
        clear hbw
        cases hh : inB hr x.fr x.to
        · go_wp2_with ((go_at_call 42; refine (spec_l20Holds x _ _).mono ?_; rintro e wq ⟨rfl, hbq⟩))
          go_roundw
          case rel =>
            refine ⟨k + 1, acc, by omega, by go_num, HAL.out, fun y hy => by have := HBD.out y hy; omega, ?_, HA.out.below hbq (by omega), by have h1 := hbH.out; (repeat' (first | (with_reducible exact Below.refl _ _) | (with_reducible assumption) | (with_reducible refine Below.alloc ?_ ?_ _) | (with_reducible refine Below.drew ?_) | (with_reducible refine Below.drewN' ?_ _) | (with_reducible refine Below.setCell ?_ ?_ _) | (refine Below.via ?_ (by with_reducible assumption) ?_) | (with_reducible refine Below.via ?_ (Wd.h _) ?_) | go_size))⟩
            rw [← HF.out, HD.out, clsF, hh]; simp
          case measure => simp [intOf]; omega
        · obtain ⟨xsh, xen, xex, xam, xcl, xfr, xto, xpr⟩ := x
          dsimp only at t0 t1 t2 t3 t4 t5 t6 t7 hh p5 p6 p7 p8
          obtain ⟨q, rfl⟩ : ∃ q : Nat, xcl = q := ⟨xcl.toNat, by omega⟩
          obtain ⟨y, hy⟩ := get_some (l := acc) (k := q) (by rw [HAL.out]; omega)
          obtain ⟨y1, y2⟩ := HBD.out y (List.mem_of_getElem? hy)
          have HY := Lib.hid hy
          have g4 : (q : Int) < 4 := by omega
          clear hy
          go_wp2_with fail
          refine (spec_l20Holds ⟨xsh, xen, xex, xam, q, xfr, xto, xpr⟩ _ _).mono ?_
          rintro e wq ⟨rfl, hbq⟩
          have hzq := hbq.size
          have r3 := (hbq.cell (p := ⟨bx, offx + k * 8 + 3, none⟩) hybx).trans t3
          have r4 := (hbq.cell (p := ⟨bx, offx + k * 8 + 4, none⟩) hybx).trans t4
          clear t0 t1 t2 t3 t4 t5 t6 t7
          have HAq := Lib.hid (HA.out.below hbq (by omega))
          have s0' := ints_cell HAq.out HY.out
          go_wp2_with fail
          (have qk0 := Wd.cell (by first | assumption | omega | (simp; omega)) r3; have qk1 := Wd.cell (by first | assumption | omega | (simp; omega)) r4; have qk2 := Wd.cell (by first | assumption | omega | (simp; omega)) s0'; (refine wp_region_wd_tail 21 (by kernel_rfl) (by kernel_rfl) ?_; simp only [List.take_succ_cons, List.take_zero, List.drop_succ_cons, List.drop_zero]); (repeat (go_big_quiet_step ((first | fail)))); (refine wpQuiet_nil ?_); rintro wz ⟨⟨w'', hbwz⟩, hw''⟩; obtain rfl : wz = w'' := hw''; clear qk0 qk1 qk2; have hzwz := hbwz.size; (try simp at hzwz))
          have HAz := Lib.hid (HAq.out.below hbwz (by omega))
          have s0 := ints_cell HAz.out HY.out
          have s1 := HAz.out.free (j := q) (by omega)
          clear s0' r3 r4
          go_wp2
          go_roundw
          case rel =>
            refine ⟨k + 1, addAt acc q xam, by omega, by go_num, by rw [addAt_len]; exact HAL.out, fun z hz => by have := addAt_bd (a := -30000) (b := 30000) HBD.out (by omega) (by omega) (by omega) (by omega) z hz; omega, ?_, HAz.out.addAt HY.out (by omega), by have h1 := hbH.out; (repeat' (first | (with_reducible exact Below.refl _ _) | (with_reducible assumption) | (with_reducible refine Below.alloc ?_ ?_ _) | (with_reducible refine Below.drew ?_) | (with_reducible refine Below.drewN' ?_ _) | (with_reducible refine Below.setCell ?_ ?_ _) | (refine Below.via ?_ (by with_reducible assumption) ?_) | (with_reducible refine Below.via ?_ (Wd.h _) ?_) | go_size))⟩
            rw [← HF.out, HD.out, clsF]; simp [hh]
          case measure => simp [intOf]; omega
      · clear hbw
        go_wp2
        go_ret2
        refine MadeR.arr ?_ HAL.out (Nat.le_refl _) HA.out hzz hbH.out
        rw [HR.out, ← HF.out, drop_endI hlt, clsF]
  · have b0 : (bookC N lb != 0) = true := by simp [h0]
    have b1 : (bookC N lb == 0) = false := by simp [h0]
    have HR := Lib.hid (show clsR N lb hr = ([], bookC N lb) by simp [clsR, h0])
    (go_enter Try.func17, Try.ntmps17; go_wp2_with (first | (go_at_call 37; ((with_reducible refine (spec_l20Code _ _ _ _ _ _ _ _ N lb _ (by exact HN.out.below (by (repeat' (first | (with_reducible exact Below.refl _ _) | (with_reducible assumption) | (with_reducible refine Below.alloc ?_ ?_ _) | (with_reducible refine Below.drew ?_) | (with_reducible refine Below.drewN' ?_ _) | (with_reducible refine Below.setCell ?_ ?_ _) | (refine Below.via ?_ (by with_reducible assumption) ?_) | (with_reducible refine Below.via ?_ (Wd.h _) ?_) | go_size)))) rfl rfl (by exact HB.out.below (by (repeat' (first | (with_reducible exact Below.refl _ _) | (with_reducible assumption) | (with_reducible refine Below.alloc ?_ ?_ _) | (with_reducible refine Below.drew ?_) | (with_reducible refine Below.drewN' ?_ _) | (with_reducible refine Below.setCell ?_ ?_ _) | (refine Below.via ?_ (by with_reducible assumption) ?_) | (with_reducible refine Below.via ?_ (Wd.h _) ?_) | go_size)))) (by omega)).mono ?_)); rintro e wn ⟨rfl, hbn⟩; (obtain ⟨hcn, hfn⟩ := bcell hbn; have hzn := hbn.size; (try simp at hzn); have Ncw0_0 := hcn (w.heap.size) (0) (by first | omega | (simp; done) | (simp; omega)); have Nfw0_0 := hfn (w.heap.size) (0) (by first | omega | (simp; done) | (simp; omega)); have Nhy0 : w.heap.size < wn.heap.size := (by omega); have Ncw0_1 := hcn (w.heap.size) (1) (by first | omega | (simp; done) | (simp; omega)); have Nfw0_1 := hfn (w.heap.size) (1) (by first | omega | (simp; done) | (simp; omega)); (first | (simp [go_sem, cw0_0, fw0_0, cw0_1, fw0_1, hy0] at Ncw0_0 Nfw0_0 Ncw0_1 Nfw0_1; clear cw0_0 fw0_0 cw0_1 fw0_1) | (simp [go_sem] at Ncw0_0 Nfw0_0 Ncw0_1 Nfw0_1)); clear hcn hfn; have cw0_0 := Ncw0_0; have fw0_0 := Nfw0_0; have cw0_1 := Ncw0_1; have fw0_1 := Nfw0_1; have hy0 := Nhy0; clear Ncw0_0 Nfw0_0 Ncw0_1 Nfw0_1 Nhy0)) | (go_at_call 41; ((with_reducible refine (spec_l20Hour _ _).mono ?_)); rintro e wn ⟨rfl, rfl⟩) | (go_at_call 42; ((with_reducible refine (spec_l20Holds _ _ _).mono ?_)); rintro e wn ⟨rfl, hbn⟩; (obtain ⟨hcn, hfn⟩ := bcell hbn; have hzn := hbn.size; (try simp at hzn); have Ncw0_0 := hcn (w.heap.size) (0) (by first | omega | (simp; done) | (simp; omega)); have Nfw0_0 := hfn (w.heap.size) (0) (by first | omega | (simp; done) | (simp; omega)); have Nhy0 : w.heap.size < wn.heap.size := (by omega); have Ncw0_1 := hcn (w.heap.size) (1) (by first | omega | (simp; done) | (simp; omega)); have Nfw0_1 := hfn (w.heap.size) (1) (by first | omega | (simp; done) | (simp; omega)); (first | (simp [go_sem, cw0_0, fw0_0, cw0_1, fw0_1, hy0] at Ncw0_0 Nfw0_0 Ncw0_1 Nfw0_1; clear cw0_0 fw0_0 cw0_1 fw0_1) | (simp [go_sem] at Ncw0_0 Nfw0_0 Ncw0_1 Nfw0_1)); clear hcn hfn; have cw0_0 := Ncw0_0; have fw0_0 := Nfw0_0; have cw0_1 := Ncw0_1; have fw0_1 := Nfw0_1; have hy0 := Nhy0; clear Ncw0_0 Nfw0_0 Ncw0_1 Nfw0_1 Nhy0))))
    go_ret2
    exact MadeR.nil HR.out rfl (by (repeat' (first | (with_reducible exact Below.refl _ _) | (with_reducible assumption) | (with_reducible refine Below.alloc ?_ ?_ _) | (with_reducible refine Below.drew ?_) | (with_reducible refine Below.drewN' ?_ _) | (with_reducible refine Below.setCell ?_ ?_ _) | (refine Below.via ?_ (by with_reducible assumption) ?_) | (with_reducible refine Below.via ?_ (Wd.h _) ?_) | go_size)))
end Go.Proofs.Ytmkecbnnanddkaa

/- LostAmounts. -/
import Derived.Test.YtlkkhdbfccejjaaMto
namespace Go.Proofs.Ytlkkhdbfccejjaa
set_option linter.unusedVariables false
set_option linter.unusedSimpArgs false
open Go.RowKit
theorem mtL_bd {l : List Ord} (ha : AmOk l) (hl : l.length ≤ 40) : ∀ x ∈ mtL l, -100000000 ≤ x ∧ x ≤ 100000000 := fun x hx => by
  have := foldS_bd ha hl 16 x hx
  omega
set_option maxRecDepth 100000 in
set_option maxHeartbeats 8000000 in
theorem impl_LostAmounts (A B C : Option Addr) (n c m d e : Nat) (N : Net) (lo : List Ord) (w : World) (hN : NetAt w A B N) (hn : n = N.nodes.length) (hm : m = N.pipes.length) (hc : n ≤ c) (h : Rd w C (lo.flatMap Ord.cells)) (hl : lo.length ≤ 1048576) :
    Calls Try.prog 43 #[netV A B n c m d, .slice C lo.length e] w (MadeR w 1 (loR N lo).1.length ((loR N lo).1.map iV) (loR N lo).2) := by
  subst hn hm
  have HN := Lib.hid hN
  have HL := Lib.hid h
  have hln := hN.ln
  clear hN h
  by_cases h0 : ordC N lo = 0
  case neg =>
    have b0 : (ordC N lo != 0) = true := by simp [h0]
    have HR := Lib.hid (loR_no h0)
    (go_enter Try.func43, Try.ntmps43; go_wp2_with (first | (go_at_call 119; ((with_reducible refine (impl_checkOrders _ _ _ _ _ _ _ _ N lo _ (by exact HN.out.below (by (repeat' (first | (with_reducible exact Below.refl _ _) | (with_reducible assumption) | (with_reducible refine Below.alloc ?_ ?_ _) | (with_reducible refine Below.drew ?_) | (with_reducible refine Below.drewN' ?_ _) | (with_reducible refine Below.setCell ?_ ?_ _) | (refine Below.via ?_ (by with_reducible assumption) ?_) | (with_reducible refine Below.via ?_ (Wd.h _) ?_) | go_size)))) rfl rfl (by omega) (by exact HL.out.below (by (repeat' (first | (with_reducible exact Below.refl _ _) | (with_reducible assumption) | (with_reducible refine Below.alloc ?_ ?_ _) | (with_reducible refine Below.drew ?_) | (with_reducible refine Below.drewN' ?_ _) | (with_reducible refine Below.setCell ?_ ?_ _) | (refine Below.via ?_ (by with_reducible assumption) ?_) | (with_reducible refine Below.via ?_ (Wd.h _) ?_) | go_size)))) (by omega)).mono ?_)); rintro e wn ⟨rfl, hbn⟩; (obtain ⟨hcn, hfn⟩ := bcell hbn; have hzn := hbn.size; (try simp at hzn); have Ncw0_0 := hcn (w.heap.size) (0) (by first | omega | (simp; done) | (simp; omega)); have Nfw0_0 := hfn (w.heap.size) (0) (by first | omega | (simp; done) | (simp; omega)); have Nhy0 : w.heap.size < wn.heap.size := (by omega); have Ncw0_1 := hcn (w.heap.size) (1) (by first | omega | (simp; done) | (simp; omega)); have Nfw0_1 := hfn (w.heap.size) (1) (by first | omega | (simp; done) | (simp; omega)); (first | (simp [go_sem, cw0_0, fw0_0, cw0_1, fw0_1, hy0] at Ncw0_0 Nfw0_0 Ncw0_1 Nfw0_1; clear cw0_0 fw0_0 cw0_1 fw0_1) | (simp [go_sem] at Ncw0_0 Nfw0_0 Ncw0_1 Nfw0_1)); clear hcn hfn; have cw0_0 := Ncw0_0; have fw0_0 := Nfw0_0; have cw0_1 := Ncw0_1; have fw0_1 := Nfw0_1; have hy0 := Nhy0; clear Ncw0_0 Nfw0_0 Ncw0_1 Nfw0_1 Nhy0))))
    go_ret2
    exact MadeR.nil HR.out rfl (by (repeat' (first | (with_reducible exact Below.refl _ _) | (with_reducible assumption) | (with_reducible refine Below.alloc ?_ ?_ _) | (with_reducible refine Below.drew ?_) | (with_reducible refine Below.drewN' ?_ _) | (with_reducible refine Below.setCell ?_ ?_ _) | (refine Below.via ?_ (by with_reducible assumption) ?_) | (with_reducible refine Below.via ?_ (Wd.h _) ?_) | go_size)))
  have b0 : (ordC N lo != 0) = false := by simp [h0]
  have HA := Lib.hid (amOk_of h0)
  have HS := Lib.hid (shOk_of h0)
  have h40 := (ord_of h0).2.1
  have HR := Lib.hid (loR_yes h0)
  clear h0
  have hmk := make_i64 lo.length (by omega)
  obtain ⟨am, ham⟩ : ∃ am, am = mtL lo := ⟨_, rfl⟩
  have HAM := Lib.hid (show am.length = lo.length by rw [ham]; exact mtL_len lo)
  have HAB := Lib.hid (show ∀ x ∈ am, -100000000 ≤ x ∧ x ≤ 100000000 by rw [ham]; exact mtL_bd HA.out h40)
  have HMT := Lib.hid (fun C e w h => impl_matched' C e lo w h h40 HA.out HS.out)
  rw [← ham] at HR HMT
  have HLL := Lib.hid (loF_len HAM.out)
  clear ham
  (go_enter Try.func43, Try.ntmps43; go_wp2_with (first | (go_at_call 119; ((with_reducible refine (impl_checkOrders _ _ _ _ _ _ _ _ N lo _ (by exact HN.out.below (by (repeat' (first | (with_reducible exact Below.refl _ _) | (with_reducible assumption) | (with_reducible refine Below.alloc ?_ ?_ _) | (with_reducible refine Below.drew ?_) | (with_reducible refine Below.drewN' ?_ _) | (with_reducible refine Below.setCell ?_ ?_ _) | (refine Below.via ?_ (by with_reducible assumption) ?_) | (with_reducible refine Below.via ?_ (Wd.h _) ?_) | go_size)))) rfl rfl (by omega) (by exact HL.out.below (by (repeat' (first | (with_reducible exact Below.refl _ _) | (with_reducible assumption) | (with_reducible refine Below.alloc ?_ ?_ _) | (with_reducible refine Below.drew ?_) | (with_reducible refine Below.drewN' ?_ _) | (with_reducible refine Below.setCell ?_ ?_ _) | (refine Below.via ?_ (by with_reducible assumption) ?_) | (with_reducible refine Below.via ?_ (Wd.h _) ?_) | go_size)))) (by omega)).mono ?_)); rintro e wn ⟨rfl, hbn⟩; (obtain ⟨hcn, hfn⟩ := bcell hbn; have hzn := hbn.size; (try simp at hzn); have Ncw0_0 := hcn (w.heap.size) (0) (by first | omega | (simp; done) | (simp; omega)); have Nfw0_0 := hfn (w.heap.size) (0) (by first | omega | (simp; done) | (simp; omega)); have Nhy0 : w.heap.size < wn.heap.size := (by omega); have Ncw0_1 := hcn (w.heap.size) (1) (by first | omega | (simp; done) | (simp; omega)); have Nfw0_1 := hfn (w.heap.size) (1) (by first | omega | (simp; done) | (simp; omega)); (first | (simp [go_sem, cw0_0, fw0_0, cw0_1, fw0_1, hy0] at Ncw0_0 Nfw0_0 Ncw0_1 Nfw0_1; clear cw0_0 fw0_0 cw0_1 fw0_1) | (simp [go_sem] at Ncw0_0 Nfw0_0 Ncw0_1 Nfw0_1)); clear hcn hfn; have cw0_0 := Ncw0_0; have fw0_0 := Nfw0_0; have cw0_1 := Ncw0_1; have fw0_1 := Nfw0_1; have hy0 := Nhy0; clear Ncw0_0 Nfw0_0 Ncw0_1 Nfw0_1 Nhy0))))
  have HBn : Hid (Below w.heap.size w wn) := Lib.hid (by (repeat' (first | (with_reducible exact Below.refl _ _) | (with_reducible assumption) | (with_reducible refine Below.alloc ?_ ?_ _) | (with_reducible refine Below.drew ?_) | (with_reducible refine Below.drewN' ?_ _) | (with_reducible refine Below.setCell ?_ ?_ _) | (refine Below.via ?_ (by with_reducible assumption) ?_) | (with_reducible refine Below.via ?_ (Wd.h _) ?_) | go_size)))
  have hzw : w.heap.size + 1 ≤ wn.heap.size := by omega
  have HA0 := Lib.hid (Arr.madeI wn lo.length 2)
  clear hbn
  refine (HMT.out _ _ _ (HL.out.below (by have h1 := HBn.out; (repeat' (first | (with_reducible exact Below.refl _ _) | (with_reducible assumption) | (with_reducible refine Below.alloc ?_ ?_ _) | (with_reducible refine Below.drew ?_) | (with_reducible refine Below.drewN' ?_ _) | (with_reducible refine Below.setCell ?_ ?_ _) | (refine Below.via ?_ (by with_reducible assumption) ?_) | (with_reducible refine Below.via ?_ (Wd.h _) ?_) | go_size))))).mono ?_
  rintro e w5 ⟨G5, c5, rfl, hc5, hW5, hb5⟩
  have HW5 := Lib.hid hW5
  have hz5 := hb5.size
  simp at hz5
  have HA5 := Lib.hid (HA0.out.below hb5 (by simp))
  have HB5 := Lib.hid (show Below w.heap.size w w5 by have h1 := HBn.out; (repeat' (first | (with_reducible exact Below.refl _ _) | (with_reducible assumption) | (with_reducible refine Below.alloc ?_ ?_ _) | (with_reducible refine Below.drew ?_) | (with_reducible refine Below.drewN' ?_ _) | (with_reducible refine Below.setCell ?_ ?_ _) | (refine Below.via ?_ (by with_reducible assumption) ?_) | (with_reducible refine Below.via ?_ (Wd.h _) ?_) | go_size)))
  have hg0 : w.heap.size ≤ wn.heap.size := by omega
  clear hW5 hb5 hmk
  go_wp2_with fail
  go_loopw [22] (fun v wr => ∃ (k : Nat), k ≤ lo.length ∧ v = .int .i64 k ∧ Arr wr wn.heap.size lo.length (((loF lo am).take k ++ (List.replicate lo.length 0).drop k).map iV) ∧ Keep (· = wn.heap.size) w5 wr) (fun v _ => lo.length - (intOf v).toNat)
  case atStart => exact ⟨0, by omega, rfl, by simpa using HA5.out, Keep.refl _ _⟩
  case round =>
    obtain ⟨k, hk, rfl, ha, hkp⟩ := hrel
    have HAr := Lib.hid ha
    have HK := Lib.hid hkp
    have hzr := hkp.size
    have hgr := ha.lt
    clear ha hkp
    by_cases hlt : k < lo.length
    · obtain ⟨x, hx⟩ := get_some hlt
      obtain ⟨a, hav⟩ := get_some (show k < am.length by rw [HAM.out]; exact hlt)
      obtain ⟨b, off, rfl, hb, hat⟩ := HL.out.opened (k := k) (by rw [flat_len Ord.len]; omega)
      obtain ⟨bm, om, rfl, hbm, hatm⟩ := HW5.out.rd.opened (k := k) (by rw [flat_len Ord.len, waF_len HAM.out]; omega)
      have hlm := HW5.out.lo bm ⟨om, rfl⟩
      simp at hlm
      have hzb := HB5.out.size
      have s2 := (HK.out.cell b (off + k * 4 + 2) (by omega) (by omega)).trans (bc HB5.out hb (hat.elem Ord.len hx 2 rfl))
      have hwg := waF_get hx hav
      have t0 := (HK.out.cell bm (om + k * 4) hbm (by omega)).trans (hatm.elem0 Ord.len hwg rfl)
      have t1 := (HK.out.cell bm (om + k * 4 + 1) hbm (by omega)).trans (hatm.elem Ord.len hwg 1 rfl)
      have t2 := (HK.out.cell bm (om + k * 4 + 2) hbm (by omega)).trans (hatm.elem Ord.len hwg 2 rfl)
      have t3 := (HK.out.cell bm (om + k * 4 + 3) hbm (by omega)).trans (hatm.elem Ord.len hwg 3 rfl)
      have yb : b < wr.heap.size := by omega
      have ym : bm < wr.heap.size := by omega
      obtain ⟨x1, x2⟩ := HA.out x (List.mem_of_getElem? hx)
      obtain ⟨a1, a2⟩ := HAB.out a (List.mem_of_getElem? hav)
      have HG := Lib.hid (loF_get hx hav)
      have g1 : (k : Int) < lo.length := by omega
      have hl0 : (loF lo am).length = (List.replicate lo.length (0 : Int)).length := by rw [HLL.out]; simp
      have HL0 := Lib.hid hl0
      clear hx hav hat hatm hwg hl0
      go_wp2_with fail
      generalize hW : World.alloc wr _ = wq
      have hbn0 : Below wr.heap.size wr wq := by rw [← hW]; (repeat' (first | (with_reducible exact Below.refl _ _) | (with_reducible assumption) | (with_reducible refine Below.alloc ?_ ?_ _) | (with_reducible refine Below.drew ?_) | (with_reducible refine Below.drewN' ?_ _) | (with_reducible refine Below.setCell ?_ ?_ _) | (refine Below.via ?_ (by with_reducible assumption) ?_) | (with_reducible refine Below.via ?_ (Wd.h _) ?_) | go_size))
      have hzn := hbn0.size
      have hy_cx : wr.heap.size < wq.heap.size := by have := congrArg (fun W => W.heap.size) hW; simp at this; omega
      have q4 := Wd.cell (w0 := wq) (b := wr.heap.size) (o := 2) (v := .int .i64 a) hy_cx (by rw [← hW]; simp)
      have q5 := Wd.cell (w0 := wq) (b := b) (o := off + k * 4 + 2) (v := .int .i64 x.am) (by omega) ((hbn0.cell (p := ⟨b, off + k * 4 + 2, none⟩) yb).trans s2)
      have z1 : IntKind.i64.wrap (x.am - a) = x.am - a := IntWalk.i64_in _ (by omega)
      clear hW t0 t1 t2 t3 s2
      refine wp_region_wd_tail 11 (by kernel_rfl) (by kernel_rfl) ?_
      simp only [List.take_succ_cons, List.take_zero, List.drop_succ_cons, List.drop_zero]
      repeat (go_big_quiet_step (fail))
      refine wpQuiet_nil ?_
      rintro wz ⟨⟨w'', hbz⟩, hw''⟩
      obtain rfl : wz = w'' := hw''
      clear q4 q5 z1
      have hbz2 : Below wr.heap.size wr wz := by (repeat' (first | (with_reducible exact Below.refl _ _) | (with_reducible assumption) | (with_reducible refine Below.alloc ?_ ?_ _) | (with_reducible refine Below.drew ?_) | (with_reducible refine Below.drewN' ?_ _) | (with_reducible refine Below.setCell ?_ ?_ _) | (refine Below.via ?_ (by with_reducible assumption) ?_) | (with_reducible refine Below.via ?_ (Wd.h _) ?_) | go_size))
      have HAz := Lib.hid (HAr.out.below hbz2 hgr)
      obtain ⟨u0, s0⟩ := HAz.out.some_ (j := k) hlt
      have s1 := HAz.out.free (j := k) hlt
      go_wp2
      go_roundw
      case rel =>
        refine ⟨k + 1, by omega, by go_num, ?_, (HK.out.via hbz2).setCell rfl _⟩
        rw [← cur_step (by rw [HLL.out]; omega) HL0.out HG.out, map_set_iV]
        exact HAz.out.setAt hlt _
      case measure => simp [intOf]; omega
    · obtain rfl : k = lo.length := by omega
      have hne : ¬ lo.length < lo.length := by omega
      go_wp2
      go_ret2
      have hf := HAr.out
      rw [List.take_of_length_le (by rw [HLL.out]; omega), List.drop_of_length_le (by simp), List.append_nil] at hf
      exact MadeR.arr HR.out HLL.out (Nat.le_refl _) hf hg0 (HK.out.below HB5.out (by have := HB5.out.size; omega) (fun z hz => by omega))
set_option maxRecDepth 100000 in
set_option maxHeartbeats 8000000 in
theorem spec_LostAmounts (A B C : Option Addr) (n c m d e : Nat) (N : Net) (lo : List Ord) (w : World) (hN : NetAt w A B N) (hn : n = N.nodes.length) (hm : m = N.pipes.length) (h : Rd w C (lo.flatMap Ord.cells)) (hl : lo.length ≤ 1048576) :
    Calls Try.prog 42 #[netV A B n c m d, .slice C lo.length e] w (MadeR w 1 (loR N lo).1.length ((loR N lo).1.map iV) (loR N lo).2) := by
  subst hn hm
  have HN := Lib.hid hN
  have HL := Lib.hid h
  have hln := hN.ln
  clear hN h
  by_cases h0 : ordC N lo = 0
  case neg =>
    have b0 : (ordC N lo != 0) = true := by simp [h0]
    have HR := Lib.hid (loR_no h0)
    (go_enter Try.func42, Try.ntmps42; go_wp2_with (first | (go_at_call 115; ((with_reducible refine (spec_l22Code _ _ _ _ _ _ _ _ N lo _ (by exact HN.out.below (by (repeat' (first | (with_reducible exact Below.refl _ _) | (with_reducible assumption) | (with_reducible refine Below.alloc ?_ ?_ _) | (with_reducible refine Below.drew ?_) | (with_reducible refine Below.drewN' ?_ _) | (with_reducible refine Below.setCell ?_ ?_ _) | (refine Below.via ?_ (by with_reducible assumption) ?_) | (with_reducible refine Below.via ?_ (Wd.h _) ?_) | go_size)))) rfl rfl (by exact HL.out.below (by (repeat' (first | (with_reducible exact Below.refl _ _) | (with_reducible assumption) | (with_reducible refine Below.alloc ?_ ?_ _) | (with_reducible refine Below.drew ?_) | (with_reducible refine Below.drewN' ?_ _) | (with_reducible refine Below.setCell ?_ ?_ _) | (refine Below.via ?_ (by with_reducible assumption) ?_) | (with_reducible refine Below.via ?_ (Wd.h _) ?_) | go_size)))) (by omega)).mono ?_)); rintro e wn ⟨rfl, hbn⟩; (obtain ⟨hcn, hfn⟩ := bcell hbn; have hzn := hbn.size; (try simp at hzn); have Ncw0_0 := hcn (w.heap.size) (0) (by first | omega | (simp; done) | (simp; omega)); have Nfw0_0 := hfn (w.heap.size) (0) (by first | omega | (simp; done) | (simp; omega)); have Nhy0 : w.heap.size < wn.heap.size := (by omega); have Ncw0_1 := hcn (w.heap.size) (1) (by first | omega | (simp; done) | (simp; omega)); have Nfw0_1 := hfn (w.heap.size) (1) (by first | omega | (simp; done) | (simp; omega)); (first | (simp [go_sem, cw0_0, fw0_0, cw0_1, fw0_1, hy0] at Ncw0_0 Nfw0_0 Ncw0_1 Nfw0_1; clear cw0_0 fw0_0 cw0_1 fw0_1) | (simp [go_sem] at Ncw0_0 Nfw0_0 Ncw0_1 Nfw0_1)); clear hcn hfn; have cw0_0 := Ncw0_0; have fw0_0 := Nfw0_0; have cw0_1 := Ncw0_1; have fw0_1 := Nfw0_1; have hy0 := Nhy0; clear Ncw0_0 Nfw0_0 Ncw0_1 Nfw0_1 Nhy0))))
    go_ret2
    exact MadeR.nil HR.out rfl (by (repeat' (first | (with_reducible exact Below.refl _ _) | (with_reducible assumption) | (with_reducible refine Below.alloc ?_ ?_ _) | (with_reducible refine Below.drew ?_) | (with_reducible refine Below.drewN' ?_ _) | (with_reducible refine Below.setCell ?_ ?_ _) | (refine Below.via ?_ (by with_reducible assumption) ?_) | (with_reducible refine Below.via ?_ (Wd.h _) ?_) | go_size)))
  have b0 : (ordC N lo != 0) = false := by simp [h0]
  have HA := Lib.hid (amOk_of h0)
  have h40 := (ord_of h0).2.1
  have HR := Lib.hid (loR_yes h0)
  clear h0
  obtain ⟨am, ham⟩ : ∃ am, am = mtL lo := ⟨_, rfl⟩
  have HAM := Lib.hid (show am.length = lo.length by rw [ham]; exact mtL_len lo)
  have HAB := Lib.hid (show ∀ x ∈ am, -100000000 ≤ x ∧ x ≤ 100000000 by rw [ham]; exact mtL_bd HA.out h40)
  have HMT := Lib.hid (fun C e w h => spec_l22Match C e lo w h h40 HA.out)
  rw [← ham] at HR HMT
  have HLL := Lib.hid (loF_len HAM.out)
  clear ham
  (go_enter Try.func42, Try.ntmps42; go_wp2_with (first | (go_at_call 115; ((with_reducible refine (spec_l22Code _ _ _ _ _ _ _ _ N lo _ (by exact HN.out.below (by (repeat' (first | (with_reducible exact Below.refl _ _) | (with_reducible assumption) | (with_reducible refine Below.alloc ?_ ?_ _) | (with_reducible refine Below.drew ?_) | (with_reducible refine Below.drewN' ?_ _) | (with_reducible refine Below.setCell ?_ ?_ _) | (refine Below.via ?_ (by with_reducible assumption) ?_) | (with_reducible refine Below.via ?_ (Wd.h _) ?_) | go_size)))) rfl rfl (by exact HL.out.below (by (repeat' (first | (with_reducible exact Below.refl _ _) | (with_reducible assumption) | (with_reducible refine Below.alloc ?_ ?_ _) | (with_reducible refine Below.drew ?_) | (with_reducible refine Below.drewN' ?_ _) | (with_reducible refine Below.setCell ?_ ?_ _) | (refine Below.via ?_ (by with_reducible assumption) ?_) | (with_reducible refine Below.via ?_ (Wd.h _) ?_) | go_size)))) (by omega)).mono ?_)); rintro e wn ⟨rfl, hbn⟩; (obtain ⟨hcn, hfn⟩ := bcell hbn; have hzn := hbn.size; (try simp at hzn); have Ncw0_0 := hcn (w.heap.size) (0) (by first | omega | (simp; done) | (simp; omega)); have Nfw0_0 := hfn (w.heap.size) (0) (by first | omega | (simp; done) | (simp; omega)); have Nhy0 : w.heap.size < wn.heap.size := (by omega); have Ncw0_1 := hcn (w.heap.size) (1) (by first | omega | (simp; done) | (simp; omega)); have Nfw0_1 := hfn (w.heap.size) (1) (by first | omega | (simp; done) | (simp; omega)); (first | (simp [go_sem, cw0_0, fw0_0, cw0_1, fw0_1, hy0] at Ncw0_0 Nfw0_0 Ncw0_1 Nfw0_1; clear cw0_0 fw0_0 cw0_1 fw0_1) | (simp [go_sem] at Ncw0_0 Nfw0_0 Ncw0_1 Nfw0_1)); clear hcn hfn; have cw0_0 := Ncw0_0; have fw0_0 := Nfw0_0; have cw0_1 := Ncw0_1; have fw0_1 := Nfw0_1; have hy0 := Nhy0; clear Ncw0_0 Nfw0_0 Ncw0_1 Nfw0_1 Nhy0))))
  have HBn : Hid (Below w.heap.size w wn) := Lib.hid (by (repeat' (first | (with_reducible exact Below.refl _ _) | (with_reducible assumption) | (with_reducible refine Below.alloc ?_ ?_ _) | (with_reducible refine Below.drew ?_) | (with_reducible refine Below.drewN' ?_ _) | (with_reducible refine Below.setCell ?_ ?_ _) | (refine Below.via ?_ (by with_reducible assumption) ?_) | (with_reducible refine Below.via ?_ (Wd.h _) ?_) | go_size)))
  have hzw : w.heap.size + 1 ≤ wn.heap.size := by omega
  clear hbn
  refine (HMT.out _ _ _ (HL.out.below (by have h1 := HBn.out; (repeat' (first | (with_reducible exact Below.refl _ _) | (with_reducible assumption) | (with_reducible refine Below.alloc ?_ ?_ _) | (with_reducible refine Below.drew ?_) | (with_reducible refine Below.drewN' ?_ _) | (with_reducible refine Below.setCell ?_ ?_ _) | (refine Below.via ?_ (by with_reducible assumption) ?_) | (with_reducible refine Below.via ?_ (Wd.h _) ?_) | go_size))))).mono ?_
  rintro e w5 ⟨G5, c5, rfl, hc5, hW5, hb5⟩
  have HW5 := Lib.hid hW5.rd
  have hz5 := hb5.size
  have HB5 := Lib.hid (show Below w.heap.size w w5 by have h1 := HBn.out; (repeat' (first | (with_reducible exact Below.refl _ _) | (with_reducible assumption) | (with_reducible refine Below.alloc ?_ ?_ _) | (with_reducible refine Below.drew ?_) | (with_reducible refine Below.drewN' ?_ _) | (with_reducible refine Below.setCell ?_ ?_ _) | (refine Below.via ?_ (by with_reducible assumption) ?_) | (with_reducible refine Below.via ?_ (Wd.h _) ?_) | go_size)))
  clear hW5 hb5
  go_wp2_with fail
  go_loopw [8, 9] (fun u v wr => ∃ (k : Nat), k ≤ lo.length ∧ v = .int .i64 k ∧ Own wr w5.heap.size 2 1 u k (((loF lo am).take k).map iV) ∧ Below w5.heap.size w5 wr) (fun _ v _ => lo.length - (intOf v).toNat)
  case atStart => exact ⟨0, by omega, rfl, by simpa using Own.lit0 w5 w5.heap.size 2 1 (Nat.le_refl _), by (repeat' (first | (with_reducible exact Below.refl _ _) | (with_reducible assumption) | (with_reducible refine Below.alloc ?_ ?_ _) | (with_reducible refine Below.drew ?_) | (with_reducible refine Below.drewN' ?_ _) | (with_reducible refine Below.setCell ?_ ?_ _) | (refine Below.via ?_ (by with_reducible assumption) ?_) | (with_reducible refine Below.via ?_ (Wd.h _) ?_) | go_size))⟩
  case round =>
    obtain ⟨k, hk, rfl, hO, hbw⟩ := hrel
    have hbH := Lib.hid hbw
    have HOW := Lib.hid hO
    have hzw2 := hbw.size
    clear hO
    by_cases hlt : k < lo.length
    · obtain ⟨x, hx⟩ := get_some hlt
      obtain ⟨a, hav⟩ := get_some (show k < am.length by rw [HAM.out]; exact hlt)
      obtain ⟨ba, oa, rfl, hba, hata⟩ := HL.out.opened (k := k) (by rw [flat_len Ord.len]; omega)
      obtain ⟨bb, ob, rfl, hbb, hatb⟩ := HW5.out.opened (k := k) (by rw [List.length_map, HAM.out]; omega)
      have hzb := HB5.out.size
      have t0 := bc hbw (show ba < w5.heap.size by omega) (bc HB5.out hba (hata.elem Ord.len hx 2 rfl))
      have t1 := ints_at (hatb.below hbw hbb) hav
      have hya : ba < wr.heap.size := by omega
      have hyb : bb < wr.heap.size := by omega
      have hya5 : ba < w5.heap.size := by omega
      obtain ⟨x1, x2⟩ := HA.out x (List.mem_of_getElem? hx)
      obtain ⟨a1, a2⟩ := HAB.out a (List.mem_of_getElem? hav)
      have HG := Lib.hid (loF_get hx hav)
      have g1 : (k : Int) < lo.length := by omega
      clear hx hav hata hatb hbw
      go_wp2_with fail
      have z2 : IntKind.i64.wrap (x.am - a) = x.am - a := IntWalk.i64_in _ (by omega)
      go_region_held3 (fun w' => w'.cell? ⟨ba, oa + k * 4 + 2, none⟩ = some (.int .i64 x.am) ∧ w'.cell? ⟨bb, ob + k, none⟩ = some (.int .i64 a))
        (first | exact ⟨t0, t1⟩ | go_keep | exact ⟨bc hb1 hya5 (by simp [go_sem, t0, hya]), bc hb1 hbb (by simp [go_sem, t1, hyb])⟩)
        (first
          | (apply step_of rfl; apply app1x (s := .tmp 25) (x := .tmp 36) (t := 36) (base := w5.heap.size) (hinfo := info_i64) (v := u8) (n := k) (xs := ((loF lo am).take k).map iV) (news := [iV (x.am - a)]) (m := 1) (c := 1); (case ho => exact rfl); (case ht => exact Try.underlying36); (case hzs => exact rfl); (case hsz => decide); (case hby => decide); (case hs => exact rfl); (case hown => repeat' (first | (with_reducible exact HOW.out) | (with_reducible refine Own.alloc ?_ _) | (with_reducible refine Own.drew ?_))); (case hx => exact rfl); (case hl => exact rfl); (case hnews => (intro j u hu; match j, hu with | 0, hu => (simp at hu; subst hu; simp) | j + 1, hu => simp at hu)); (case h1 => simp [Value.oneCell']); (case hm => decide); (case hn => (clear z2; omega)); (case hbase => (clear z2; first | omega | (simp; omega))); intro v1 w1 hO1 hb1 hF1; have HO1 := Lib.hid hO1; clear hO1))
      all_goals
        clear z2
        go_wp2
        go_roundw
        case rel =>
          refine ⟨k + 1, by omega, by go_num, by rw [ints_snoc HG.out]; exact HO1.out, ?_⟩
          have h1 := hbH.out
          (repeat' (first | (with_reducible exact Below.refl _ _) | (with_reducible assumption) | (with_reducible refine Below.alloc ?_ ?_ _) | (with_reducible refine Below.drew ?_) | (with_reducible refine Below.drewN' ?_ _) | (with_reducible refine Below.setCell ?_ ?_ _) | (refine Below.via ?_ (by with_reducible assumption) ?_) | (with_reducible refine Below.via ?_ (Wd.h _) ?_) | go_size))
        case measure => simp [intOf]; omega
    · obtain rfl : k = lo.length := by omega
      clear hbw
      have hne : ¬ lo.length < lo.length := by omega
      go_wp2
      go_ret2
      obtain ⟨B1, cc, rfl, hnc, hw⟩ := HOW.out.lt_
      rw [List.take_of_length_le (by rw [HLL.out]; omega)] at hw
      exact MadeR.of HR.out HLL.out hnc hw HB5.out.size (HB5.out.trans (hbH.out.mono HB5.out.size))
end Go.Proofs.Ytlkkhdbfccejjaa

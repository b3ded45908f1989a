/- What the nodes hold after an hour: the walks. -/
import Derived.Test.YtijhadafmhbceaaOf
import Derived.Deep.RegionHeld3
namespace Go.Proofs.Ytijhadafmhbceaa
set_option linter.unusedVariables false
set_option linter.unusedSimpArgs false
open Go.RowKit
theorem cur_get {nx ln : List Int} {k : Nat} {a : Int} (hk : k ≤ nx.length) (h : ln[k]? = some a) : (nx.take k ++ ln.drop k)[k]? = some a := by
  rw [List.getElem?_append_right (by simp; omega)]
  simp only [List.length_take, List.getElem?_drop]
  rw [show k + (k - min k nx.length) = k by omega]; exact h
theorem cur_step {nx ln : List Int} {k : Nat} {b : Int} (hk : k < nx.length) (hl : nx.length = ln.length) (h : nx[k]? = some b) : (nx.take k ++ ln.drop k).set k b = nx.take (k + 1) ++ ln.drop (k + 1) := by
  obtain ⟨h1, rfl⟩ := List.getElem?_eq_some_iff.1 h
  rw [List.set_append_right _ _ (by simp; omega)]
  have e : k - (nx.take k).length = 0 := by simp; omega
  rw [e, List.drop_eq_getElem_cons (show k < ln.length by omega), List.set_cons_zero, List.take_succ_eq_append_getElem h1, List.append_assoc]; rfl
theorem buf_now {n : Nat} {ll lh ln : List Int} (h : BufOk n ll lh ln) : ∀ y ∈ ln, 0 ≤ y ∧ y ≤ 1000000000 := by
  intro y hy
  obtain ⟨i, hi⟩ := List.getElem?_of_mem hy
  have hlt := (List.getElem?_eq_some_iff.1 hi).1
  obtain ⟨a, ha⟩ := get_some (l := ll) (k := i) (by rw [h.l1, ← h.l3]; exact hlt)
  obtain ⟨b, hb⟩ := get_some (l := lh) (k := i) (by rw [h.l2, ← h.l3]; exact hlt)
  have := h.el i a b y ha hb hi
  omega
set_option maxRecDepth 100000 in
set_option maxHeartbeats 4000000 in
theorem impl_contentAfter (A B Al Ah An : Option Addr) (n c m d nl nh nn cl ch cn : Nat) (N : Net) (ln : List Int) (x : Hr) (w : World) (hN : NetAt w A B N) (hn : n = N.nodes.length) (hm : m = N.pipes.length) (hO : N.Ok) (h : Rd w An (ln.map iV)) (e3 : nn = ln.length) (hat : HrAt w x) (hx : hrB N.pipes.length N.nodes.length x = true) (hl : ln.length = N.nodes.length) (hnow : ∀ y ∈ ln, 0 ≤ y ∧ y ≤ 1000000000) :
    Calls Try.prog 57 #[netV A B n c m d, bufV Al Ah An nl nh nn cl ch cn, x.val] w (MadeL w 1 ln.length ((nextL N ln x.su x.fl).map iV)) := by
  subst hn hm e3
  have HN := Lib.hid hN
  have HR := Lib.hid h
  have HA := Lib.hid hat
  have HX := Lib.hid (hrB_of hx)
  have HO := Lib.hid hO
  have HNW := Lib.hid hnow
  have HL := Lib.hid hl
  have hln := hO.n2
  have hn1 := hO.n1
  have hsu := (hrB_of hx).2.1
  have HSU := Lib.hid hsu
  clear hN h hat hx hO hnow
  obtain ⟨nx, hnx⟩ : ∃ nx, nx = nextL N ln x.su x.fl := ⟨_, rfl⟩
  have HNX := Lib.hid hnx
  have hnl : nx.length = ln.length := by rw [hnx, nextL_len hl hsu, hl]
  have HNL := Lib.hid hnl
  have l1 : ln.length ≤ N.nodes.length := by omega
  have l2 : N.nodes.length ≤ ln.length := by omega
  have l3 : nx.length ≤ ln.length := by omega
  have l4 : ln.length ≤ nx.length := by omega
  clear hnx hsu hnl hl
  go_enter Try.func57, Try.ntmps57
  go_wp2_with fail
  
  refine (slices_CloneI _ _ ln _ (HR.out.below (by (repeat' (first | (with_reducible exact Below.refl _ _) | (with_reducible assumption) | (with_reducible refine Below.alloc ?_ ?_ _) | (with_reducible refine Below.drew ?_) | (with_reducible refine Below.drewN' ?_ _) | (with_reducible refine Below.setCell ?_ ?_ _) | (refine Below.via ?_ (by with_reducible assumption) ?_) | (with_reducible refine Below.via ?_ (Wd.h _) ?_) | go_size)))) (by omega)).mono ?_
  rintro e w1 ⟨G, c1, rfl, hc1, hW1, hb1⟩
  obtain ⟨g, rfl, hg, ha⟩ := hW1.2.1 (by omega)
  (try simp at hg)
  rw [Nat.mul_one] at ha
  have HA1 := Lib.hid ha
  have hg1 := ha.lt
  clear hW1 ha
  (obtain ⟨hcn, hfn⟩ := bcell hb1; have hz1 := hb1.size; (try simp at hz1); have Ncw0_0 := hcn (w.heap.size) (0) (by first | omega | (simp; done) | (simp; omega)); have Nfw0_0 := hfn (w.heap.size) (0) (by first | omega | (simp; done) | (simp; omega)); have Nhy0 : w.heap.size < w1.heap.size := (by omega); have Ncw0_1 := hcn (w.heap.size) (1) (by first | omega | (simp; done) | (simp; omega)); have Nfw0_1 := hfn (w.heap.size) (1) (by first | omega | (simp; done) | (simp; omega)); have Ncw1_0 := hcn (w.heap.size + 1) (0) (by first | omega | (simp; done) | (simp; omega)); have Nfw1_0 := hfn (w.heap.size + 1) (0) (by first | omega | (simp; done) | (simp; omega)); have Nhy1 : w.heap.size + 1 < w1.heap.size := (by omega); have Ncw1_1 := hcn (w.heap.size + 1) (1) (by first | omega | (simp; done) | (simp; omega)); have Nfw1_1 := hfn (w.heap.size + 1) (1) (by first | omega | (simp; done) | (simp; omega)); have Ncw1_2 := hcn (w.heap.size + 1) (2) (by first | omega | (simp; done) | (simp; omega)); have Nfw1_2 := hfn (w.heap.size + 1) (2) (by first | omega | (simp; done) | (simp; omega)); have Ncw2_0 := hcn (w.heap.size + 2) (0) (by first | omega | (simp; done) | (simp; omega)); have Nfw2_0 := hfn (w.heap.size + 2) (0) (by first | omega | (simp; done) | (simp; omega)); have Nhy2 : w.heap.size + 2 < w1.heap.size := (by omega); have Ncw2_1 := hcn (w.heap.size + 2) (1) (by first | omega | (simp; done) | (simp; omega)); have Nfw2_1 := hfn (w.heap.size + 2) (1) (by first | omega | (simp; done) | (simp; omega)); simp [go_sem] at Ncw0_0 Nfw0_0 Ncw0_1 Nfw0_1 Ncw1_0 Nfw1_0 Ncw1_1 Nfw1_1 Ncw1_2 Nfw1_2 Ncw2_0 Nfw2_0 Ncw2_1 Nfw2_1; clear hcn hfn; have cw0_0 := Ncw0_0; have fw0_0 := Nfw0_0; have cw0_1 := Ncw0_1; have fw0_1 := Nfw0_1; have cw1_0 := Ncw1_0; have fw1_0 := Nfw1_0; have cw1_1 := Ncw1_1; have fw1_1 := Nfw1_1; have cw1_2 := Ncw1_2; have fw1_2 := Nfw1_2; have cw2_0 := Ncw2_0; have fw2_0 := Nfw2_0; have cw2_1 := Ncw2_1; have fw2_1 := Nfw2_1; have hy0 := Nhy0; have hy1 := Nhy1; have hy2 := Nhy2; clear Ncw0_0 Nfw0_0 Ncw0_1 Nfw0_1 Ncw1_0 Nfw1_0 Ncw1_1 Nfw1_1 Ncw1_2 Nfw1_2 Ncw2_0 Nfw2_0 Ncw2_1 Nfw2_1 Nhy0 Nhy1 Nhy2)
  go_wp2_with fail
  refine (impl_outflows _ _ _ _ _ _ _ _ N x.fl _ (HN.out.below (by (repeat' (first | (with_reducible exact Below.refl _ _) | (with_reducible assumption) | (with_reducible refine Below.alloc ?_ ?_ _) | (with_reducible refine Below.drew ?_) | (with_reducible refine Below.drewN' ?_ _) | (with_reducible refine Below.setCell ?_ ?_ _) | (refine Below.via ?_ (by with_reducible assumption) ?_) | (with_reducible refine Below.via ?_ (Wd.h _) ?_) | go_size)))) rfl rfl HO.out (HA.out.r1.below (by (repeat' (first | (with_reducible exact Below.refl _ _) | (with_reducible assumption) | (with_reducible refine Below.alloc ?_ ?_ _) | (with_reducible refine Below.drew ?_) | (with_reducible refine Below.drewN' ?_ _) | (with_reducible refine Below.setCell ?_ ?_ _) | (refine Below.via ?_ (by with_reducible assumption) ?_) | (with_reducible refine Below.via ?_ (Wd.h _) ?_) | go_size)))) HX.out.1.1 HX.out.1.2).mono ?_
  rintro e w2 ⟨O, c2, rfl, hc2, hW2, hb2⟩
  have HW2 := Lib.hid hW2
  clear hW2
  (obtain ⟨hcn, hfn⟩ := bcell hb2; have hz2 := hb2.size; (try simp at hz2); have Ncw0_0 := hcn (w.heap.size) (0) (by first | omega | (simp; done) | (simp; omega)); have Nfw0_0 := hfn (w.heap.size) (0) (by first | omega | (simp; done) | (simp; omega)); have Nhy0 : w.heap.size < w2.heap.size := (by omega); have Ncw0_1 := hcn (w.heap.size) (1) (by first | omega | (simp; done) | (simp; omega)); have Nfw0_1 := hfn (w.heap.size) (1) (by first | omega | (simp; done) | (simp; omega)); have Ncw1_0 := hcn (w.heap.size + 1) (0) (by first | omega | (simp; done) | (simp; omega)); have Nfw1_0 := hfn (w.heap.size + 1) (0) (by first | omega | (simp; done) | (simp; omega)); have Nhy1 : w.heap.size + 1 < w2.heap.size := (by omega); have Ncw1_1 := hcn (w.heap.size + 1) (1) (by first | omega | (simp; done) | (simp; omega)); have Nfw1_1 := hfn (w.heap.size + 1) (1) (by first | omega | (simp; done) | (simp; omega)); have Ncw1_2 := hcn (w.heap.size + 1) (2) (by first | omega | (simp; done) | (simp; omega)); have Nfw1_2 := hfn (w.heap.size + 1) (2) (by first | omega | (simp; done) | (simp; omega)); have Ncw2_0 := hcn (w.heap.size + 2) (0) (by first | omega | (simp; done) | (simp; omega)); have Nfw2_0 := hfn (w.heap.size + 2) (0) (by first | omega | (simp; done) | (simp; omega)); have Nhy2 : w.heap.size + 2 < w2.heap.size := (by omega); have Ncw2_1 := hcn (w.heap.size + 2) (1) (by first | omega | (simp; done) | (simp; omega)); have Nfw2_1 := hfn (w.heap.size + 2) (1) (by first | omega | (simp; done) | (simp; omega)); simp [go_sem, cw0_0, fw0_0, cw0_1, fw0_1, cw1_0, fw1_0, cw1_1, fw1_1, cw1_2, fw1_2, cw2_0, fw2_0, cw2_1, fw2_1, hy0, hy1, hy2] at Ncw0_0 Nfw0_0 Ncw0_1 Nfw0_1 Ncw1_0 Nfw1_0 Ncw1_1 Nfw1_1 Ncw1_2 Nfw1_2 Ncw2_0 Nfw2_0 Ncw2_1 Nfw2_1; clear cw0_0 fw0_0 cw0_1 fw0_1 cw1_0 fw1_0 cw1_1 fw1_1 cw1_2 fw1_2 cw2_0 fw2_0 cw2_1 fw2_1 hy0 hy1 hy2; clear hcn hfn; have cw0_0 := Ncw0_0; have fw0_0 := Nfw0_0; have cw0_1 := Ncw0_1; have fw0_1 := Nfw0_1; have cw1_0 := Ncw1_0; have fw1_0 := Nfw1_0; have cw1_1 := Ncw1_1; have fw1_1 := Nfw1_1; have cw1_2 := Ncw1_2; have fw1_2 := Nfw1_2; have cw2_0 := Ncw2_0; have fw2_0 := Nfw2_0; have cw2_1 := Ncw2_1; have fw2_1 := Nfw2_1; have hy0 := Nhy0; have hy1 := Nhy1; have hy2 := Nhy2; clear Ncw0_0 Nfw0_0 Ncw0_1 Nfw0_1 Ncw1_0 Nfw1_0 Ncw1_1 Nfw1_1 Ncw1_2 Nfw1_2 Ncw2_0 Nfw2_0 Ncw2_1 Nfw2_1 Nhy0 Nhy1 Nhy2)
  have HA2 := Lib.hid (HA1.out.below hb2 hg1)
  have HB2 := Lib.hid (show Below w.heap.size w w2 by (repeat' (first | (with_reducible exact Below.refl _ _) | (with_reducible assumption) | (with_reducible refine Below.alloc ?_ ?_ _) | (with_reducible refine Below.drew ?_) | (with_reducible refine Below.drewN' ?_ _) | (with_reducible refine Below.setCell ?_ ?_ _) | (refine Below.via ?_ (by with_reducible assumption) ?_) | (with_reducible refine Below.via ?_ (Wd.h _) ?_) | go_size)))
  have HS2 := Lib.hid (HA.out.r2.below HB2.out)
  have C21 := Lib.hid cw2_1
  clear hy0 cw0_0 fw0_0 cw0_1 fw0_1
  clear hy1 cw1_0 fw1_0 cw1_1 fw1_1 cw1_2 fw1_2
  clear hb1 hb2 cw2_0 cw2_1 fw2_0 fw2_1
  go_wp2_with fail
  go_loopw [18] (fun v wr => ∃ (k : Nat), k ≤ N.nodes.length ∧ v = .int .i64 k ∧ Arr wr g ln.length ((nx.take k ++ ln.drop k).map iV) ∧ Keep (· = g) w2 wr) (fun v _ => N.nodes.length - (intOf v).toNat)
  case atStart => exact ⟨0, by omega, rfl, by simpa using HA2.out, Keep.refl _ _⟩
  case round =>
    obtain ⟨k, hk, rfl, hAr, hK⟩ := hrel
    have HAr := Lib.hid hAr
    have HK := Lib.hid hK
    have hzr := hK.size
    have hgr := hAr.lt
    clear hAr hK
    by_cases hlt : k < N.nodes.length
    · obtain ⟨a, ha⟩ := get_some (show k < ln.length by omega)
      obtain ⟨b, hb⟩ := get_some (show k < x.su.length by rw [HSU.out]; omega)
      obtain ⟨o, ho⟩ := get_some (show k < (outL N x.fl).length by rw [outL_len]; omega)
      obtain ⟨bo, oo, rfl, hbo, hato⟩ := HW2.out.rd.opened (k := k) (by rw [List.length_map, outL_len]; omega)
      have hlo := HW2.out.lo bo ⟨oo, rfl⟩
      obtain ⟨bs, os, hxB, hbs, hats⟩ := HS2.out.opened (k := k) (by rw [List.length_map, HSU.out]; omega)
      obtain ⟨bs', os', hxB', hbs', _⟩ := HA.out.r2.opened (k := k) (by rw [List.length_map, HSU.out]; omega)
      obtain rfl : bs' = bs := by rw [hxB] at hxB'; injection hxB' with q; injection q with q1 q2; exact q1.symm
      have t0 := (HK.out.cell bo (oo + k) hbo (by omega)).trans (ints_at hato ho)
      have t1 := (HK.out.cell bs' (os + k) hbs (by omega)).trans (ints_at hats hb)
      have t2 := ints_cell HAr.out (cur_get (by omega) ha)
      have t3 := (HK.out.cell (w.heap.size + 2) 1 (by omega) (by omega)).trans C21.out
      rw [hxB] at t3
      have yo : bo < wr.heap.size := by omega
      have ys : bs' < wr.heap.size := by omega
      obtain ⟨a1, a2⟩ := HNW.out a (List.mem_of_getElem? ha)
      obtain ⟨b1, b2⟩ := HX.out.2.2 b (List.mem_of_getElem? hb)
      obtain ⟨o1, o2⟩ := outL_bd HO.out HX.out.1.2 o (List.mem_of_getElem? ho)
      have HG := Lib.hid (show nx[k]? = some (a + (b - o)) by rw [HNX.out]; exact nextL_get ha hb ho)
      have g1 : (k : Int) < ln.length := by omega
      have g2 : (k : Int) < x.su.length := by have := HSU.out; omega
      have g3 : (k : Int) < N.nodes.length := by omega
      clear ha hb ho hato hats hxB hxB' hbs hbs' hbo
      go_wp2_with fail
      (have qk0 := Wd.cell (by first | assumption | omega | (simp; omega)) t1; have qk1 := Wd.cell (by first | assumption | omega | (simp; omega)) t2; have qk2 := Wd.cell (by first | assumption | omega | (simp; omega)) t3; (refine wp_region_wd_tail 13 (by kernel_rfl) (by kernel_rfl) ?_; simp only [List.take_succ_cons, List.take_zero, List.drop_succ_cons, List.drop_zero]); (repeat (go_big_quiet_step ((first | fail)))); (refine wpQuiet_nil ?_); rintro wz ⟨⟨w'', hbwz⟩, hw''⟩; obtain rfl : wz = w'' := hw''; clear qk0 qk1 qk2; have hzwz := hbwz.size; (try simp at hzwz))
      have HAz := Lib.hid (HAr.out.below hbwz hgr)
      have s0 := bc hbwz hgr t2
      have s1 := HAz.out.free (j := k) (by omega)
      clear t0 t1 t2 t3
      go_wp2
      go_roundw
      case rel =>
        refine ⟨k + 1, by omega, by go_num, ?_, (HK.out.via hbwz).setCell rfl _⟩
        rw [← cur_step (by omega) HNL.out HG.out, map_set_iV]
        exact HAz.out.setAt (by omega) _
      case measure => simp [intOf]; omega
    · obtain rfl : k = N.nodes.length := by omega
      have hne : ¬ N.nodes.length < N.nodes.length := by omega
      go_wp2
      go_ret
      have hf := HAr.out
      rw [List.take_of_length_le (by omega), List.drop_eq_nil_of_le (by omega), List.append_nil] at hf
      refine ⟨_, c1, rfl, hc1, ?_, HK.out.below HB2.out (by omega) (fun q hq => by omega)⟩
      rw [← HNX.out, Nat.mul_one]
      exact Wr.of_arr (by omega) hf
theorem spec_l05Add' (A B : Option Addr) (c d na nb : Nat) (la lb : List Int) (s : Int) (w : World) (hA : Rd w A (la.map iV)) (hB : Rd w B (lb.map iV)) (ea : la.length = na) (eb : lb.length = nb) (hl : na ≤ nb) (hm : nb ≤ 1048576) (h1 : ∀ x ∈ la, -1000000000000 ≤ x ∧ x ≤ 1000000000000) (h2 : ∀ x ∈ lb, -1000000000000 ≤ s * x ∧ s * x ≤ 1000000000000) :
    Calls Try.prog 84 #[.slice A na c, .slice B nb d, .int .i64 s] w (MadeL w 1 na ((addS s la lb).map iV)) := by
  subst ea eb
  exact spec_l05Add A B c d la lb s w hA hB hl hm h1 h2
set_option maxRecDepth 100000 in
set_option maxHeartbeats 4000000 in
theorem spec_l19Next (A B An : Option Addr) (n c m d nn cn : Nat) (N : Net) (ln : List Int) (x : Hr) (w : World) (hN : NetAt w A B N) (hn : n = N.nodes.length) (hm : m = N.pipes.length) (hO : N.Ok) (h : Rd w An (ln.map iV)) (e3 : nn = ln.length) (hat : HrAt w x) (hx : hrB N.pipes.length N.nodes.length x = true) (hl : ln.length = N.nodes.length) (hnow : ∀ y ∈ ln, 0 ≤ y ∧ y ≤ 1000000000) :
    Calls Try.prog 63 #[netV A B n c m d, .slice An nn cn, x.val] w (MadeL w 1 ln.length ((nextL N ln x.su x.fl).map iV)) := by
  subst hn hm e3
  have HN := Lib.hid hN
  have HR := Lib.hid h
  have HA := Lib.hid hat
  have HX := Lib.hid (hrB_of hx)
  have HO := Lib.hid hO
  have HNW := Lib.hid hnow
  have hln := hO.n2
  have hsu := (hrB_of hx).2.1
  have q2 := hat.s2
  have HB1 := Lib.hid (show ∀ y ∈ ln, -1000000000000 ≤ y ∧ y ≤ 1000000000000 from fun y hy => by have := hnow y hy; omega)
  have HB2 := Lib.hid (show ∀ y ∈ x.su, -1000000000000 ≤ 1 * y ∧ 1 * y ≤ 1000000000000 from fun y hy => by have := HX.out.2.2 y hy; omega)
  have HB3 := Lib.hid (show ∀ y ∈ addS 1 ln x.su, -1000000000000 ≤ y ∧ y ≤ 1000000000000 from fun y hy => by have := addS_bd (s := 1) (la := 0) (ha := 1000000000) (lb := 30000) (hb := 30000) (.inl rfl) hnow HX.out.2.2 rfl y hy; omega)
  have HB4 := Lib.hid (show ∀ y ∈ outL N x.fl, -1000000000000 ≤ -1 * y ∧ -1 * y ≤ 1000000000000 from fun y hy => by have := outL_bd HO.out HX.out.1.2 y hy; omega)
  have HL1 := Lib.hid (addS_len (s := 1) (a := ln) (b := x.su) (by omega))
  have HL2 := Lib.hid (outL_len N x.fl)
  have HSU := Lib.hid hsu
  have l1 : ln.length ≤ N.nodes.length := by omega
  have l2 : N.nodes.length ≤ ln.length := by omega
  have l3 : x.su.length ≤ N.nodes.length := by omega
  have l4 : N.nodes.length ≤ x.su.length := by omega
  clear hN h hat hx hO hnow hsu hl
  go_enter Try.func63, Try.ntmps63
  go_wp2_with fail
  
  generalize hW : World.alloc _ _ = wb
  have hbb : Below w.heap.size w wb := by rw [← hW]; (repeat' (first | (with_reducible exact Below.refl _ _) | (with_reducible assumption) | (with_reducible refine Below.alloc ?_ ?_ _) | (with_reducible refine Below.drew ?_) | (with_reducible refine Below.drewN' ?_ _) | (with_reducible refine Below.setCell ?_ ?_ _) | (refine Below.via ?_ (by with_reducible assumption) ?_) | (with_reducible refine Below.via ?_ (Wd.h _) ?_) | go_size))
  have k0 : wb.cell? ⟨w.heap.size, 0, none⟩ = some (.slice A N.nodes.length c) := by rw [← hW]; simp
  have k1 : wb.cell? ⟨w.heap.size, 1, none⟩ = some (.slice B N.pipes.length d) := by rw [← hW]; simp
  have k2 : wb.cell? ⟨w.heap.size + 1, 0, none⟩ = some (.slice x.A x.fl.length x.c) := by rw [← hW]; simp
  have k3 : wb.cell? ⟨w.heap.size + 1, 1, none⟩ = some (.slice x.B x.su.length x.d) := by rw [← hW]; simp
  have hzb : w.heap.size + 2 ≤ wb.heap.size := by rw [← hW]; simp
  clear hW
  go_region_held3 (fun w' => w'.cell? ⟨w.heap.size, 0, none⟩ = some (.slice A N.nodes.length c) ∧ w'.cell? ⟨w.heap.size, 1, none⟩ = some (.slice B N.pipes.length d) ∧ w'.cell? ⟨w.heap.size + 1, 0, none⟩ = some (.slice x.A x.fl.length x.c) ∧ w'.cell? ⟨w.heap.size + 1, 1, none⟩ = some (.slice x.B x.su.length x.d))
    (first | exact ⟨k0, k1, k2, k3⟩ | go_keep)
    (first
      | (go_at_call 84; ((with_reducible refine (spec_l05Add _ _ _ _ ln x.su 1 _ (by exact HR.out.below (by (repeat' (first | (with_reducible exact Below.refl _ _) | (with_reducible assumption) | (with_reducible refine Below.alloc ?_ ?_ _) | (with_reducible refine Below.drew ?_) | (with_reducible refine Below.drewN' ?_ _) | (with_reducible refine Below.setCell ?_ ?_ _) | (refine Below.via ?_ (by with_reducible assumption) ?_) | (with_reducible refine Below.via ?_ (Wd.h _) ?_) | go_size)))) (by exact HA.out.r2.below (by (repeat' (first | (with_reducible exact Below.refl _ _) | (with_reducible assumption) | (with_reducible refine Below.alloc ?_ ?_ _) | (with_reducible refine Below.drew ?_) | (with_reducible refine Below.drewN' ?_ _) | (with_reducible refine Below.setCell ?_ ?_ _) | (refine Below.via ?_ (by with_reducible assumption) ?_) | (with_reducible refine Below.via ?_ (Wd.h _) ?_) | go_size)))) (by omega) q2 HB1.out HB2.out).mono ?_)); rintro e w1 ⟨G1, c1, rfl, hc1, hW1, hb1⟩; have HW1 := Lib.hid hW1; have hz1 := hb1.size; (try simp at hz1); clear hW1; replace k0 := bc hb1 (by first | omega | (simp; omega)) k0; replace k1 := bc hb1 (by first | omega | (simp; omega)) k1; replace k2 := bc hb1 (by first | omega | (simp; omega)) k2; replace k3 := bc hb1 (by first | omega | (simp; omega)) k3)
      | (go_at_call 85; ((with_reducible refine (spec_l05Out _ _ _ _ _ _ _ _ N x.fl _ (by exact HN.out.below (by (repeat' (first | (with_reducible exact Below.refl _ _) | (with_reducible assumption) | (with_reducible refine Below.alloc ?_ ?_ _) | (with_reducible refine Below.drew ?_) | (with_reducible refine Below.drewN' ?_ _) | (with_reducible refine Below.setCell ?_ ?_ _) | (refine Below.via ?_ (by with_reducible assumption) ?_) | (with_reducible refine Below.via ?_ (Wd.h _) ?_) | go_size)))) rfl rfl HO.out (by exact HA.out.r1.below (by (repeat' (first | (with_reducible exact Below.refl _ _) | (with_reducible assumption) | (with_reducible refine Below.alloc ?_ ?_ _) | (with_reducible refine Below.drew ?_) | (with_reducible refine Below.drewN' ?_ _) | (with_reducible refine Below.setCell ?_ ?_ _) | (refine Below.via ?_ (by with_reducible assumption) ?_) | (with_reducible refine Below.via ?_ (Wd.h _) ?_) | go_size)))) HX.out.1.1 HX.out.1.2).mono ?_)); rintro e w2 ⟨G2, c2, rfl, hc2, hW2, hb2⟩; have HW2 := Lib.hid hW2; have hz2 := hb2.size; (try simp at hz2); clear hW2; replace k0 := bc hb2 (by first | omega | (simp; omega)) k0; replace k1 := bc hb2 (by first | omega | (simp; omega)) k1; replace k2 := bc hb2 (by first | omega | (simp; omega)) k2; replace k3 := bc hb2 (by first | omega | (simp; omega)) k3)
      | (go_at_call 84; ((with_reducible refine (spec_l05Add' _ _ _ _ _ _ (addS 1 ln x.su) (outL N x.fl) (-1) _ (by exact HW1.out.rd.below (by (repeat' (first | (with_reducible exact Below.refl _ _) | (with_reducible assumption) | (with_reducible refine Below.alloc ?_ ?_ _) | (with_reducible refine Below.drew ?_) | (with_reducible refine Below.drewN' ?_ _) | (with_reducible refine Below.setCell ?_ ?_ _) | (refine Below.via ?_ (by with_reducible assumption) ?_) | (with_reducible refine Below.via ?_ (Wd.h _) ?_) | go_size)))) (by exact HW2.out.rd.below (by (repeat' (first | (with_reducible exact Below.refl _ _) | (with_reducible assumption) | (with_reducible refine Below.alloc ?_ ?_ _) | (with_reducible refine Below.drew ?_) | (with_reducible refine Below.drewN' ?_ _) | (with_reducible refine Below.setCell ?_ ?_ _) | (refine Below.via ?_ (by with_reducible assumption) ?_) | (with_reducible refine Below.via ?_ (Wd.h _) ?_) | go_size)))) HL1.out HL2.out (by omega) (by omega) HB3.out HB4.out).mono ?_)); rintro e w3 ⟨G3, c3, rfl, hc3, hW3, hb3⟩; have HW3 := Lib.hid hW3; have hz3 := hb3.size; (try simp at hz3); clear hW3; replace k0 := bc hb3 (by first | omega | (simp; omega)) k0; replace k1 := bc hb3 (by first | omega | (simp; omega)) k1; replace k2 := bc hb3 (by first | omega | (simp; omega)) k2; replace k3 := bc hb3 (by first | omega | (simp; omega)) k3))
  all_goals
    go_wp2
    go_ret
    exact ⟨G3, c3, rfl, hc3, HW3.out.lower (by omega), by (repeat' (first | (with_reducible exact Below.refl _ _) | (with_reducible assumption) | (with_reducible refine Below.alloc ?_ ?_ _) | (with_reducible refine Below.drew ?_) | (with_reducible refine Below.drewN' ?_ _) | (with_reducible refine Below.setCell ?_ ?_ _) | (refine Below.via ?_ (by with_reducible assumption) ?_) | (with_reducible refine Below.via ?_ (Wd.h _) ?_) | go_size))⟩
end Go.Proofs.Ytijhadafmhbceaa

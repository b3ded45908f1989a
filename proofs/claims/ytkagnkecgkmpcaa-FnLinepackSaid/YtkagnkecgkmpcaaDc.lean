/- The laws' own dice: numbers within bounds. -/
import Derived.Test.YtkagnkecgkmpcaaDr
namespace Go.Proofs.Ytkagnkecgkmpcaa
set_option linter.unusedVariables false
set_option linter.unusedSimpArgs false
open Go.RowKit
/-- block q is a dice over the bytes l, which lie below G -/
structure Dice (w : World) (q G : Nat) : Prop where
  st : ∃ (A : Option Addr) (c : Nat) (l : List Int) (i h : Int), Bx w q [.slice A l.length c, .int .i64 i, .int .u64 h] ∧ 0 ≤ i ∧ i ≤ l.length ∧ Rd w A (l.map bV) ∧ (∀ x ∈ l, 0 ≤ x ∧ x ≤ 255) ∧ l.length ≤ 4096 ∧ 0 ≤ h ∧ h ≤ 18446744073709551615 ∧ G ≤ q ∧ ∀ b off, A = some ⟨b, off, none⟩ → l ≠ [] → b < G
theorem u64w (z : Int) : 0 ≤ IntKind.u64.wrap z ∧ IntKind.u64.wrap z ≤ 18446744073709551615 := by
  simp [IntKind.wrap, IntKind.bits, IntKind.signed]; omega
set_option maxRecDepth 100000 in
set_option maxHeartbeats 4000000 in
theorem laws_roll (A : Option Addr) (c : Nat) (l : List Int) (s : Int) (w : World) (h : BytesIn w A l) (hl : l.length ≤ 4096) (hs0 : 0 ≤ s) (hs1 : s ≤ 100000) (G : Nat) (hG : G ≤ w.heap.size) (hbG : ∀ b off, A = some ⟨b, off, none⟩ → l ≠ [] → b < G) :
    Calls Try.prog 11 #[.slice A l.length c, .int .u64 s] w fun e w' => e = .returned (.pointer (some ⟨w.heap.size, 0, none⟩)) ∧ Dice w' w.heap.size G ∧ Below w.heap.size w w' := by
  have HI := Lib.hid h
  have HBG := Lib.hid hbG
  clear h hbG
  go_enter Try.func11, Try.ntmps11
  go_wp2_with fail
  go_loopw [6] (fun v wr => ∃ (k : Nat) (s : Int), k ≤ l.length ∧ v = .int .i64 k ∧ 0 ≤ s ∧ s ≤ 18446744073709551615 ∧ Bx wr w.heap.size [.slice A l.length c, .int .i64 0, .int .u64 s] ∧ Below w.heap.size w wr) (fun v _ => l.length - (intOf v).toNat)
  case atStart =>
    refine ⟨0, s * 7919 + l.length, by omega, rfl, by omega, by omega, bx3 (by simp) (by simp; try omega) (by simp) (by simp) (by simp) (by simp; try omega) (by simp), by (repeat' (first | (with_reducible exact Below.refl _ _) | (with_reducible assumption) | (with_reducible refine Below.alloc ?_ ?_ _) | (with_reducible refine Below.drew ?_) | (with_reducible refine Below.drewN' ?_ _) | (with_reducible refine Below.setCell ?_ ?_ _) | (refine Below.via ?_ (by with_reducible assumption) ?_) | (with_reducible refine Below.via ?_ (Wd.h _) ?_) | go_size))⟩
  case round =>
    obtain ⟨k, s2, hk, rfl, s0, s1, hB, hbw⟩ := hrel
    have hbH := Lib.hid hbw
    have HB := Lib.hid hB
    have hy_c := hB.lt
    have c_0 := hB.cell 0 rfl
    have c_1 := hB.cell 1 rfl
    have c_2 := hB.cell 2 rfl
    have c_0f := hB.frozen 0 rfl
    have c_1f := hB.frozen 1 rfl
    have c_2f := hB.frozen 2 rfl
    by_cases hlt : k < l.length
    · obtain ⟨x, hx⟩ := get_some hlt
      obtain ⟨b, off, rfl, hb, hat⟩ := HI.out.rd.opened (k := k) (by simpa using hlt)
      have t_0 := bytes_at (hat.below hbw hb) hx
      obtain ⟨x0, x1⟩ := HI.out.ok x (List.mem_of_getElem? hx)
      have hzw := hbw.size
      have hy_t : b < wr.heap.size := by omega
      have g1 : (k : Int) < l.length := by omega
      clear hx hat hbw hB
      go_wp2_with fail
      
      (have qc_0 := Wd.cell hy_c c_0; have qc_1 := Wd.cell hy_c c_1; have qc_2 := Wd.cell hy_c c_2; have qt_0 := Wd.cell hy_t t_0; (refine wp_region_wd_tail 15 (by kernel_rfl) (by kernel_rfl) ?_; simp only [List.take_succ_cons, List.take_zero, List.drop_succ_cons, List.drop_zero]); (repeat (go_big_quiet_step ((first | fail)))); (refine wpQuiet_nil ?_); rintro wn ⟨⟨w'', hbn⟩, hw''⟩; obtain rfl : wn = w'' := hw''; clear qc_0 qc_1 qc_2 qt_0; (obtain ⟨hcn, hfn⟩ := bcell hbn; have hzn := hbn.size; (try simp at hzn); have Nc_0 := hcn (w.heap.size) (0) (by first | omega | (simp; done) | (simp; omega)); have Nc_0f := hfn (w.heap.size) (0) (by first | omega | (simp; done) | (simp; omega)); have Nhy_c : w.heap.size < wn.heap.size := (by omega); have Nc_1 := hcn (w.heap.size) (1) (by first | omega | (simp; done) | (simp; omega)); have Nc_1f := hfn (w.heap.size) (1) (by first | omega | (simp; done) | (simp; omega)); have Nc_2 := hcn (w.heap.size) (2) (by first | omega | (simp; done) | (simp; omega)); have Nc_2f := hfn (w.heap.size) (2) (by first | omega | (simp; done) | (simp; omega)); have Nt_0 := hcn (b) (off + k) (by first | omega | (simp; done) | (simp; omega)); have Nhy_t : b < wn.heap.size := (by omega); (first | (simp [go_sem, c_0, c_0f, c_1, c_1f, c_2, c_2f, t_0, hy_c, hy_t] at Nc_0 Nc_0f Nc_1 Nc_1f Nc_2 Nc_2f Nt_0; clear c_0 c_0f c_1 c_1f c_2 c_2f t_0) | (simp [go_sem] at Nc_0 Nc_0f Nc_1 Nc_1f Nc_2 Nc_2f Nt_0)); clear hcn hfn; have c_0 := Nc_0; have c_0f := Nc_0f; have c_1 := Nc_1; have c_1f := Nc_1f; have c_2 := Nc_2; have c_2f := Nc_2f; have t_0 := Nt_0; have hy_c := Nhy_c; have hy_t := Nhy_t; clear Nc_0 Nc_0f Nc_1 Nc_1f Nc_2 Nc_2f Nt_0 Nhy_c Nhy_t))
      go_wp2
      
      go_roundw
      case rel =>
        exact ⟨k + 1, IntKind.u64.wrap (IntKind.u64.wrap (IntKind.u64.wrap (s2 * 1099511628211) + x) + 3), by omega, by go_num, (u64w _).1, (u64w _).2, bx3 (by simp; omega) (by simp [go_sem, c_0]) (by simp [go_sem, c_0f]) (by simp [go_sem, c_1]) (by simp [go_sem, c_1f]) (by simp [go_sem, c_2]) (by simp [go_sem, c_2f]), by have h1 := hbH.out; (repeat' (first | (with_reducible exact Below.refl _ _) | (with_reducible assumption) | (with_reducible refine Below.alloc ?_ ?_ _) | (with_reducible refine Below.drew ?_) | (with_reducible refine Below.drewN' ?_ _) | (with_reducible refine Below.setCell ?_ ?_ _) | (refine Below.via ?_ (by with_reducible assumption) ?_) | (with_reducible refine Below.via ?_ (Wd.h _) ?_) | go_size))⟩
      case measure => simp [intOf]; omega
    · have g1 : ¬ (k : Int) < l.length := by omega
      clear hbw hB
      go_wp2
      go_ret
      refine ⟨rfl, ⟨A, c, l, 0, s2, HB.out, by omega, by omega, HI.out.rd.below hbH.out, HI.out.ok, hl, s0, s1, hG, HBG.out⟩, hbH.out⟩
theorem and_bd (x : Int) : 0 ≤ bits BinOp.and IntKind.u64 x 16777215 ∧ bits BinOp.and IntKind.u64 x 16777215 ≤ 16777215 := by
  have h : (BitVec.ofInt IntKind.u64.bits x &&& BitVec.ofInt IntKind.u64.bits 16777215).toNat ≤ 16777215 := by
    rw [BitVec.toNat_and]
    refine Nat.le_trans Nat.and_le_right ?_
    decide
  unfold bits
  dsimp only
  rw [IntWalk.u64_in _ ⟨by omega, by omega⟩]
  omega
theorem Dice.next {w w' : World} {q c G : Nat} {A : Option Addr} {l : List Int} {i' h' : Int} (hk : Keep (· = q) w w') (hb : Bx w' q [.slice A l.length c, .int .i64 i', .int .u64 h']) (i0 : 0 ≤ i') (i1 : i' ≤ l.length) (hr : Rd w A (l.map bV)) (hby : ∀ x ∈ l, 0 ≤ x ∧ x ≤ 255) (hl : l.length ≤ 4096) (h0 : 0 ≤ h') (h1 : h' ≤ 18446744073709551615) (hG : G ≤ q) (hne : ∀ b off, A = some ⟨b, off, none⟩ → l ≠ [] → b < G) : Dice w' q G :=
  ⟨A, c, l, i', h', hb, i0, i1, by
    by_cases he : l = []
    · subst he; exact Rd.nil
    · exact hr.keep hk (fun b off e hp => by have := hne b off e he; omega), hby, hl, h0, h1, hG, hne⟩
set_option maxRecDepth 100000 in
set_option maxHeartbeats 4000000 in
theorem laws_below (q G : Nat) (n : Int) (w : World) (h : Dice w q G) (hn : 1 ≤ n) (hn2 : n ≤ 1000000000) :
    Calls Try.prog 12 #[.pointer (some ⟨q, 0, none⟩), .int .i64 n] w fun e w' => ∃ r : Int, e = .returned (.int .i64 r) ∧ 0 ≤ r ∧ r < n ∧ Dice w' q G ∧ Keep (· = q) w w' := by
  obtain ⟨A, c, l, i, h, hB, i0, i1, hr, hby, hl, h0, h1, hG, hne⟩ := h.st
  have HB := Lib.hid hB
  have hy_c := hB.lt
  have c_0 := hB.cell 0 rfl
  have c_1 := hB.cell 1 rfl
  have c_2 := hB.cell 2 rfl
  have c_0f := hB.frozen 0 rfl
  have c_1f := hB.frozen 1 rfl
  have c_2f := hB.frozen 2 rfl
  have HR := Lib.hid hr
  have HNE := Lib.hid hne
  have HBY := Lib.hid hby
  clear hB hr hne hby
  obtain ⟨k, rfl⟩ := Int.eq_ofNat_of_zero_le i0
  have hX := and_bd (IntKind.u64.wrap (IntKind.u64.wrap (h * 6364136223846793005) + 1442695040888963407) / 8589934592)
  have HH := Lib.hid (u64w (IntKind.u64.wrap (h * 6364136223846793005) + 1442695040888963407))
  by_cases ha : k < l.length
  · obtain ⟨x, hx⟩ := get_some ha
    obtain ⟨b, off, rfl, hb, hat⟩ := HR.out.opened (k := k) (by simpa using ha)
    have t_0 := bytes_at hat hx
    obtain ⟨x0, x1⟩ := HBY.out x (List.mem_of_getElem? hx)
    have hbp : b ≠ q := by have := HNE.out b off rfl (by rintro rfl; simp at ha); omega
    have hy_t := hb
    have gk : (k : Int) < l.length := by omega
    clear hx hat
    go_enter Try.func12, Try.ntmps12
    go_wp2_with fail
    generalize bits BinOp.and IntKind.u64 (IntKind.u64.wrap (IntKind.u64.wrap (h * 6364136223846793005) + 1442695040888963407) / 8589934592) 16777215 = X at *
    generalize IntKind.u64.wrap (IntKind.u64.wrap (h * 6364136223846793005) + 1442695040888963407) = H at *
    
    (generalize hW : World.setCell w _ _ = v1; have hzn := congrArg (fun W => W.heap.size) hW; simp at hzn; have Nc_0 := congrArg (fun W => World.cell? W ⟨q, 0, none⟩) hW.symm; have Nc_0f := congrArg (fun W => World.frozen? W ⟨q, 0, none⟩) hW.symm; have Nhy_c : q < v1.heap.size := (by omega); have Nc_1 := congrArg (fun W => World.cell? W ⟨q, 1, none⟩) hW.symm; have Nc_1f := congrArg (fun W => World.frozen? W ⟨q, 1, none⟩) hW.symm; have Nc_2 := congrArg (fun W => World.cell? W ⟨q, 2, none⟩) hW.symm; have Nc_2f := congrArg (fun W => World.frozen? W ⟨q, 2, none⟩) hW.symm; have Nt_0 := congrArg (fun W => World.cell? W ⟨b, off + k, none⟩) hW.symm; have Nhy_t : b < v1.heap.size := (by omega); simp [go_sem, c_0, c_0f, c_1, c_1f, c_2, c_2f, t_0, hy_c, hy_t] at Nc_0 Nc_0f Nc_1 Nc_1f Nc_2 Nc_2f Nt_0; clear c_0 c_0f c_1 c_1f c_2 c_2f t_0 hy_c hy_t; have c_0 := Nc_0; have c_0f := Nc_0f; have c_1 := Nc_1; have c_1f := Nc_1f; have c_2 := Nc_2; have c_2f := Nc_2f; have t_0 := Nt_0; have hy_c := Nhy_c; have hy_t := Nhy_t; clear Nc_0 Nc_0f Nc_1 Nc_1f Nc_2 Nc_2f Nt_0 Nhy_c Nhy_t)
    have K1 : Hid (Keep (· = q) w v1) := Lib.hid (by rw [← hW]; exact (Keep.refl _ _).one _)
    clear hW
    (have qc_0 := Wd.cell hy_c c_0; have qc_1 := Wd.cell hy_c c_1; have qc_2 := Wd.cell hy_c c_2; have qt_0 := Wd.cell hy_t t_0; (refine wp_region_wd (by kernel_rfl) (by kernel_rfl) ?_); (repeat (go_big_quiet_step ((first | fail)))); (refine wpQuiet_nil ?_); rintro wn ⟨⟨w'', hbn⟩, hw''⟩; obtain rfl : wn = w'' := hw''; clear qc_0 qc_1 qc_2 qt_0; (obtain ⟨hcn, hfn⟩ := bcell hbn; have hzn := hbn.size; (try simp at hzn); have Nc_0 := hcn (q) (0) (by first | omega | (simp; done) | (simp; omega)); have Nc_0f := hfn (q) (0) (by first | omega | (simp; done) | (simp; omega)); have Nhy_c : q < wn.heap.size := (by omega); have Nc_1 := hcn (q) (1) (by first | omega | (simp; done) | (simp; omega)); have Nc_1f := hfn (q) (1) (by first | omega | (simp; done) | (simp; omega)); have Nc_2 := hcn (q) (2) (by first | omega | (simp; done) | (simp; omega)); have Nc_2f := hfn (q) (2) (by first | omega | (simp; done) | (simp; omega)); have Nt_0 := hcn (b) (off + k) (by first | omega | (simp; done) | (simp; omega)); have Nhy_t : b < wn.heap.size := (by omega); (first | (simp [go_sem, c_0, c_0f, c_1, c_1f, c_2, c_2f, t_0, hy_c, hy_t] at Nc_0 Nc_0f Nc_1 Nc_1f Nc_2 Nc_2f Nt_0; clear c_0 c_0f c_1 c_1f c_2 c_2f t_0) | (simp [go_sem] at Nc_0 Nc_0f Nc_1 Nc_1f Nc_2 Nc_2f Nt_0)); clear hcn hfn; have c_0 := Nc_0; have c_0f := Nc_0f; have c_1 := Nc_1; have c_1f := Nc_1f; have c_2 := Nc_2; have c_2f := Nc_2f; have t_0 := Nt_0; have hy_c := Nhy_c; have hy_t := Nhy_t; clear Nc_0 Nc_0f Nc_1 Nc_1f Nc_2 Nc_2f Nt_0 Nhy_c Nhy_t))
    have K2 := Lib.hid (K1.out.trans (Keep.of_below _ hbn))
    clear hbn
    go_wp2_with fail
    (have qc_0 := Wd.cell hy_c c_0; have qc_1 := Wd.cell hy_c c_1; have qc_2 := Wd.cell hy_c c_2; have qt_0 := Wd.cell hy_t t_0; (refine wp_region_wd (by kernel_rfl) (by kernel_rfl) ?_); (repeat (go_big_quiet_step ((first | fail)))); (refine wpQuiet_nil ?_); rintro wn ⟨⟨w'', hbn⟩, hw''⟩; obtain rfl : wn = w'' := hw''; clear qc_0 qc_1 qc_2 qt_0; (obtain ⟨hcn, hfn⟩ := bcell hbn; have hzn := hbn.size; (try simp at hzn); have Nc_0 := hcn (q) (0) (by first | omega | (simp; done) | (simp; omega)); have Nc_0f := hfn (q) (0) (by first | omega | (simp; done) | (simp; omega)); have Nhy_c : q < wn.heap.size := (by omega); have Nc_1 := hcn (q) (1) (by first | omega | (simp; done) | (simp; omega)); have Nc_1f := hfn (q) (1) (by first | omega | (simp; done) | (simp; omega)); have Nc_2 := hcn (q) (2) (by first | omega | (simp; done) | (simp; omega)); have Nc_2f := hfn (q) (2) (by first | omega | (simp; done) | (simp; omega)); have Nt_0 := hcn (b) (off + k) (by first | omega | (simp; done) | (simp; omega)); have Nhy_t : b < wn.heap.size := (by omega); (first | (simp [go_sem, c_0, c_0f, c_1, c_1f, c_2, c_2f, t_0, hy_c, hy_t] at Nc_0 Nc_0f Nc_1 Nc_1f Nc_2 Nc_2f Nt_0; clear c_0 c_0f c_1 c_1f c_2 c_2f t_0) | (simp [go_sem] at Nc_0 Nc_0f Nc_1 Nc_1f Nc_2 Nc_2f Nt_0)); clear hcn hfn; have c_0 := Nc_0; have c_0f := Nc_0f; have c_1 := Nc_1; have c_1f := Nc_1f; have c_2 := Nc_2; have c_2f := Nc_2f; have t_0 := Nt_0; have hy_c := Nhy_c; have hy_t := Nhy_t; clear Nc_0 Nc_0f Nc_1 Nc_1f Nc_2 Nc_2f Nt_0 Nhy_c Nhy_t))
    have K3 := Lib.hid (K2.out.trans (Keep.of_below _ hbn))
    clear hbn
    go_wp2_with fail
    have hH := HH.out
    go_ret
    exact ⟨_, rfl, Int.emod_nonneg _ (by omega), Int.emod_lt_of_pos _ (by omega), Dice.next (A := some ⟨b, off, none⟩) (c := c) (l := l) (i' := k + 1) (h' := H) (K3.out.one (o := 1) (.int .i64 ((k : Int) + 1))) (bx3 (by simp; omega) (by simp [go_sem, c_0]) (by simp [go_sem, c_0f]) (by simp [go_sem, c_1]) (by simp [go_sem, c_1f]) (by simp [go_sem, c_2]) (by simp [go_sem, c_2f])) (by omega) (by omega) HR.out HBY.out hl hH.1 hH.2 hG HNE.out, K3.out.one _⟩
  · have gk : ¬ (k : Int) < l.length := by omega
    go_enter Try.func12, Try.ntmps12
    go_wp2_with fail
    generalize bits BinOp.and IntKind.u64 (IntKind.u64.wrap (IntKind.u64.wrap (h * 6364136223846793005) + 1442695040888963407) / 8589934592) 16777215 = X at *
    generalize IntKind.u64.wrap (IntKind.u64.wrap (h * 6364136223846793005) + 1442695040888963407) = H at *
    
    (generalize hW : World.setCell w _ _ = v1; have hzn := congrArg (fun W => W.heap.size) hW; simp at hzn; have Nc_0 := congrArg (fun W => World.cell? W ⟨q, 0, none⟩) hW.symm; have Nc_0f := congrArg (fun W => World.frozen? W ⟨q, 0, none⟩) hW.symm; have Nhy_c : q < v1.heap.size := (by omega); have Nc_1 := congrArg (fun W => World.cell? W ⟨q, 1, none⟩) hW.symm; have Nc_1f := congrArg (fun W => World.frozen? W ⟨q, 1, none⟩) hW.symm; have Nc_2 := congrArg (fun W => World.cell? W ⟨q, 2, none⟩) hW.symm; have Nc_2f := congrArg (fun W => World.frozen? W ⟨q, 2, none⟩) hW.symm; simp [go_sem, c_0, c_0f, c_1, c_1f, c_2, c_2f, hy_c] at Nc_0 Nc_0f Nc_1 Nc_1f Nc_2 Nc_2f; clear c_0 c_0f c_1 c_1f c_2 c_2f hy_c; have c_0 := Nc_0; have c_0f := Nc_0f; have c_1 := Nc_1; have c_1f := Nc_1f; have c_2 := Nc_2; have c_2f := Nc_2f; have hy_c := Nhy_c; clear Nc_0 Nc_0f Nc_1 Nc_1f Nc_2 Nc_2f Nhy_c)
    have K1 : Hid (Keep (· = q) w v1) := Lib.hid (by rw [← hW]; exact (Keep.refl _ _).one _)
    clear hW
    (have qc_0 := Wd.cell hy_c c_0; have qc_1 := Wd.cell hy_c c_1; have qc_2 := Wd.cell hy_c c_2; (refine wp_region_wd (by kernel_rfl) (by kernel_rfl) ?_); (repeat (go_big_quiet_step ((first | fail)))); (refine wpQuiet_nil ?_); rintro wn ⟨⟨w'', hbn⟩, hw''⟩; obtain rfl : wn = w'' := hw''; clear qc_0 qc_1 qc_2; (obtain ⟨hcn, hfn⟩ := bcell hbn; have hzn := hbn.size; (try simp at hzn); have Nc_0 := hcn (q) (0) (by first | omega | (simp; done) | (simp; omega)); have Nc_0f := hfn (q) (0) (by first | omega | (simp; done) | (simp; omega)); have Nhy_c : q < wn.heap.size := (by omega); have Nc_1 := hcn (q) (1) (by first | omega | (simp; done) | (simp; omega)); have Nc_1f := hfn (q) (1) (by first | omega | (simp; done) | (simp; omega)); have Nc_2 := hcn (q) (2) (by first | omega | (simp; done) | (simp; omega)); have Nc_2f := hfn (q) (2) (by first | omega | (simp; done) | (simp; omega)); (first | (simp [go_sem, c_0, c_0f, c_1, c_1f, c_2, c_2f, hy_c] at Nc_0 Nc_0f Nc_1 Nc_1f Nc_2 Nc_2f; clear c_0 c_0f c_1 c_1f c_2 c_2f) | (simp [go_sem] at Nc_0 Nc_0f Nc_1 Nc_1f Nc_2 Nc_2f)); clear hcn hfn; have c_0 := Nc_0; have c_0f := Nc_0f; have c_1 := Nc_1; have c_1f := Nc_1f; have c_2 := Nc_2; have c_2f := Nc_2f; have hy_c := Nhy_c; clear Nc_0 Nc_0f Nc_1 Nc_1f Nc_2 Nc_2f Nhy_c))
    have K2 := Lib.hid (K1.out.trans (Keep.of_below _ hbn))
    clear hbn
    have hH := HH.out
    go_wp2
    go_ret
    exact ⟨_, rfl, Int.emod_nonneg _ (by omega), Int.emod_lt_of_pos _ (by omega), Dice.next (i' := k) (h' := H) K2.out (bx3 (by omega) c_0 c_0f c_1 c_1f c_2 c_2f) (by omega) (by omega) HR.out HBY.out hl hH.1 hH.2 hG HNE.out, K2.out⟩
theorem Dice.below {w w' : World} {q G : Nat} (h : Dice w q G) (hb : Below w.heap.size w w') : Dice w' q G := by
  obtain ⟨A, c, l, i, h, hB, i0, i1, hr, hby, hl, h0, h1, hG, hne⟩ := h.st
  exact ⟨A, c, l, i, h, hB.below hb hB.lt, i0, i1, hr.below hb, hby, hl, h0, h1, hG, hne⟩
theorem Dice.lt {w : World} {q G : Nat} (h : Dice w q G) : q < w.heap.size := by
  obtain ⟨A, c, l, i, h, hB, _⟩ := h.st
  exact hB.lt
theorem Dice.le {w : World} {q G : Nat} (h : Dice w q G) : G ≤ q := by
  obtain ⟨A, c, l, i, h, hB, i0, i1, hr, hby, hl, h0, h1, hG, hne⟩ := h.st
  exact hG
end Go.Proofs.Ytkagnkecgkmpcaa

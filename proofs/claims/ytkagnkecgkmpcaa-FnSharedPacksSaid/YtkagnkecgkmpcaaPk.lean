/- Packs of pipes. -/
import Derived.Test.YtkagnkecgkmpcaaRo
import Derived.Test.YtkagnkecgkmpcaaSu
import Derived.Test.YtkagnkecgkmpcaaNt4
namespace Go.Proofs.Ytkagnkecgkmpcaa
set_option linter.unusedVariables false
set_option linter.unusedSimpArgs false
open Go.RowKit
def LvOk (lv : List Int) (n : Nat) : Prop := lv.length = n ∧ ∀ x ∈ lv, 0 ≤ x ∧ x ≤ 100000000
def lvR (lv : List Int) (i : Int) : Int := match lv[i.toNat]? with
  | some x => (rootN x.toNat : Int)
  | none => 0
def packF (lv : List Int) (p : Pp) : Int := (p.vol * (lvR lv p.f + lvR lv p.t)) / 2
theorem rootN_le {n : Nat} (h : n ≤ 100000000) : rootN n ≤ 10000 := by
  refine Nat.le_of_not_lt fun hlt => ?_
  have h1 := (rootN_sq n).1
  have h2 := Nat.mul_le_mul (show 10001 ≤ rootN n from hlt) (show 10001 ≤ rootN n from hlt)
  omega
theorem lv_at {lv : List Int} {n : Nat} (h : LvOk lv n) {i : Int} (h0 : 0 ≤ i) (h1 : i ≤ (n : Int) - 1) :
    ∃ k a : Nat, i = k ∧ k < lv.length ∧ lv[k]? = some (a : Int) ∧ a ≤ 100000000 ∧ lvR lv i = rootN a ∧ rootN a ≤ 10000 := by
  have hl := h.1
  obtain ⟨x, hx⟩ := get_some (show i.toNat < lv.length by omega)
  obtain ⟨h2, h3⟩ := h.2 x (List.mem_of_getElem? hx)
  refine ⟨i.toNat, x.toNat, by omega, by omega, ?_, by omega, ?_, rootN_le (by omega)⟩
  · rw [hx]; congr 1; omega
  · unfold lvR; rw [hx]
set_option maxRecDepth 100000 in
set_option maxHeartbeats 1000000 in
theorem impl_packOf (p : Pp) (C : Option Addr) (e n : Nat) (lv : List Int) (w : World) (hp : pipeB p n = true) (hv : LvOk lv n) (h : Rd w C (lv.map iV)) (hl : lv.length ≤ 1048576) :
    Calls Try.prog 30 #[p.val, .slice C lv.length e] w fun e w' => e = .returned (.int .i64 (packF lv p)) ∧ Below w.heap.size w w' := by
  have HL := Lib.hid h
  simp only [pipeB, Bool.and_eq_true, inB_iff] at hp
  obtain ⟨⟨⟨⟨⟨⟨f1, f2⟩, t1, t2⟩, _⟩, _⟩, v1, v2⟩, _⟩ := hp
  obtain ⟨fk, a, e1, k1, x1, a1, r1, ra⟩ := lv_at hv f1 f2
  obtain ⟨tk, b, e2, k2, x2, b1, r2, rb⟩ := lv_at hv t1 t2
  have HR := Lib.hid (show packF lv p = (p.vol * ((rootN a : Int) + rootN b)) / 2 by rw [packF, r1, r2])
  obtain ⟨pf, pt, pk, vol, lim⟩ := p
  simp only at e1 e2 v1 v2
  subst e1 e2
  obtain ⟨bb, off, rfl, hb, hat⟩ := HL.out.opened (k := fk) (by simpa using k1)
  have g1 : (fk : Int) < lv.length := by omega
  have g2 : (tk : Int) < lv.length := by omega
  have HT1 := Lib.hid (ints_at hat x1)
  have HT2 := Lib.hid (ints_at hat x2)
  have hmm : vol * ((rootN a : Int) + rootN b) ≤ 1000000 * 20000 := Int.mul_le_mul v2 (by omega) (by omega) (by omega)
  have hm0 : 0 ≤ vol * ((rootN a : Int) + rootN b) := Int.mul_nonneg v1 (by omega)
  clear hat x1 x2 h hv r1 r2 f1 f2 t1 t2
  go_enter Try.func30, Try.ntmps30
  go_wp2_with fail
  (generalize hW : (World.alloc w _) = wn; have hbn : Below w.heap.size w wn := (by rw [← hW]; (repeat' (first | (with_reducible exact Below.refl _ _) | (with_reducible assumption) | (with_reducible refine Below.alloc ?_ ?_ _) | (with_reducible refine Below.drew ?_) | (with_reducible refine Below.drewN' ?_ _) | (with_reducible refine Below.setCell ?_ ?_ _) | (refine Below.via ?_ (by with_reducible assumption) ?_) | (with_reducible refine Below.via ?_ (Wd.h _) ?_) | go_size))); have hzn := congrArg (fun W => W.heap.size) hW; simp at hzn; have cw0_0 := congrArg (fun W => World.cell? W ⟨w.heap.size, 0, none⟩) hW.symm; have fw0_0 := congrArg (fun W => World.frozen? W ⟨w.heap.size, 0, none⟩) hW.symm; have hy0 : w.heap.size < wn.heap.size := (by omega); have cw0_1 := congrArg (fun W => World.cell? W ⟨w.heap.size, 1, none⟩) hW.symm; have fw0_1 := congrArg (fun W => World.frozen? W ⟨w.heap.size, 1, none⟩) hW.symm; have cw0_2 := congrArg (fun W => World.cell? W ⟨w.heap.size, 2, none⟩) hW.symm; have fw0_2 := congrArg (fun W => World.frozen? W ⟨w.heap.size, 2, none⟩) hW.symm; have cw0_3 := congrArg (fun W => World.cell? W ⟨w.heap.size, 3, none⟩) hW.symm; have fw0_3 := congrArg (fun W => World.frozen? W ⟨w.heap.size, 3, none⟩) hW.symm; have cw0_4 := congrArg (fun W => World.cell? W ⟨w.heap.size, 4, none⟩) hW.symm; have fw0_4 := congrArg (fun W => World.frozen? W ⟨w.heap.size, 4, none⟩) hW.symm; simp [go_sem] at cw0_0 fw0_0 cw0_1 fw0_1 cw0_2 fw0_2 cw0_3 fw0_3 cw0_4 fw0_4; clear hW hzn)
  have hyb : bb < wn.heap.size := Nat.lt_of_lt_of_le hb hbn.size
  have q5 := Wd.cell hyb ((hbn.cell (p := ⟨bb, off + fk, none⟩) hb).trans HT1.out)
  have q6 := Wd.cell hyb ((hbn.cell (p := ⟨bb, off + tk, none⟩) hb).trans HT2.out)
  (have qcw0_0 := Wd.cell hy0 cw0_0; have qcw0_1 := Wd.cell hy0 cw0_1; have qcw0_2 := Wd.cell hy0 cw0_2; have qcw0_3 := Wd.cell hy0 cw0_3; have qcw0_4 := Wd.cell hy0 cw0_4; (refine wp_region_wd (by kernel_rfl) (by kernel_rfl) ?_); (repeat (go_big_quiet_step ((first | fail | (go_at_call 44; apply wd_pure; with_reducible exact (impl_rootOf _ _ (by omega))) | (go_at_call 44; exact wd_pure (impl_rootOf _ _ (by omega))))))); (refine wpQuiet_nil ?_); rintro wn ⟨⟨w'', hbn⟩, hw''⟩; obtain rfl : wn = w'' := hw''; clear qcw0_0 qcw0_1 qcw0_2 qcw0_3 qcw0_4; (obtain ⟨hcn, hfn⟩ := bcell hbn; have hzn := hbn.size; (try simp at hzn); have Ncw0_0 := hcn (w.heap.size) (0) (by first | omega | (simp; done) | (simp; omega)); have Nfw0_0 := hfn (w.heap.size) (0) (by first | omega | (simp; done) | (simp; omega)); have Nhy0 : w.heap.size < wn.heap.size := (by omega); have Ncw0_1 := hcn (w.heap.size) (1) (by first | omega | (simp; done) | (simp; omega)); have Nfw0_1 := hfn (w.heap.size) (1) (by first | omega | (simp; done) | (simp; omega)); have Ncw0_2 := hcn (w.heap.size) (2) (by first | omega | (simp; done) | (simp; omega)); have Nfw0_2 := hfn (w.heap.size) (2) (by first | omega | (simp; done) | (simp; omega)); have Ncw0_3 := hcn (w.heap.size) (3) (by first | omega | (simp; done) | (simp; omega)); have Nfw0_3 := hfn (w.heap.size) (3) (by first | omega | (simp; done) | (simp; omega)); have Ncw0_4 := hcn (w.heap.size) (4) (by first | omega | (simp; done) | (simp; omega)); have Nfw0_4 := hfn (w.heap.size) (4) (by first | omega | (simp; done) | (simp; omega)); (first | (simp [go_sem, cw0_0, fw0_0, cw0_1, fw0_1, cw0_2, fw0_2, cw0_3, fw0_3, cw0_4, fw0_4, hy0] at Ncw0_0 Nfw0_0 Ncw0_1 Nfw0_1 Ncw0_2 Nfw0_2 Ncw0_3 Nfw0_3 Ncw0_4 Nfw0_4; clear cw0_0 fw0_0 cw0_1 fw0_1 cw0_2 fw0_2 cw0_3 fw0_3 cw0_4 fw0_4) | (simp [go_sem] at Ncw0_0 Nfw0_0 Ncw0_1 Nfw0_1 Ncw0_2 Nfw0_2 Ncw0_3 Nfw0_3 Ncw0_4 Nfw0_4)); clear hcn hfn; have cw0_0 := Ncw0_0; have fw0_0 := Nfw0_0; have cw0_1 := Ncw0_1; have fw0_1 := Nfw0_1; have cw0_2 := Ncw0_2; have fw0_2 := Nfw0_2; have cw0_3 := Ncw0_3; have fw0_3 := Nfw0_3; have cw0_4 := Ncw0_4; have fw0_4 := Nfw0_4; have hy0 := Nhy0; clear Ncw0_0 Nfw0_0 Ncw0_1 Nfw0_1 Ncw0_2 Nfw0_2 Ncw0_3 Nfw0_3 Ncw0_4 Nfw0_4 Nhy0))
  clear q5 q6
  go_wp2
  go_ret
  exact ⟨ri (by rw [HR.out]), by (repeat' (first | (with_reducible exact Below.refl _ _) | (with_reducible assumption) | (with_reducible refine Below.alloc ?_ ?_ _) | (with_reducible refine Below.drew ?_) | (with_reducible refine Below.drewN' ?_ _) | (with_reducible refine Below.setCell ?_ ?_ _) | (refine Below.via ?_ (by with_reducible assumption) ?_) | (with_reducible refine Below.via ?_ (Wd.h _) ?_) | go_size))⟩
set_option maxRecDepth 100000 in
set_option maxHeartbeats 1000000 in
theorem spec_l18Pack (p : Pp) (C : Option Addr) (e n : Nat) (lv : List Int) (w : World) (hp : pipeB p n = true) (hv : LvOk lv n) (h : Rd w C (lv.map iV)) (hl : lv.length ≤ 1048576) :
    Calls Try.prog 40 #[p.val, .slice C lv.length e] w fun e w' => e = .returned (.int .i64 (packF lv p)) ∧ Below w.heap.size w w' := by
  have HL := Lib.hid h
  simp only [pipeB, Bool.and_eq_true, inB_iff] at hp
  obtain ⟨⟨⟨⟨⟨⟨f1, f2⟩, t1, t2⟩, _⟩, _⟩, v1, v2⟩, _⟩ := hp
  obtain ⟨fk, a, e1, k1, x1, a1, r1, ra⟩ := lv_at hv f1 f2
  obtain ⟨tk, b, e2, k2, x2, b1, r2, rb⟩ := lv_at hv t1 t2
  have HR := Lib.hid (show packF lv p = (p.vol * ((rootN a : Int) + rootN b)) / 2 by rw [packF, r1, r2])
  obtain ⟨pf, pt, pk, vol, lim⟩ := p
  simp only at e1 e2 v1 v2
  subst e1 e2
  obtain ⟨bb, off, rfl, hb, hat⟩ := HL.out.opened (k := fk) (by simpa using k1)
  have g1 : (fk : Int) < lv.length := by omega
  have g2 : (tk : Int) < lv.length := by omega
  have HT1 := Lib.hid (ints_at hat x1)
  have HT2 := Lib.hid (ints_at hat x2)
  have hmm : vol * ((rootN a : Int) + rootN b) ≤ 1000000 * 20000 := Int.mul_le_mul v2 (by omega) (by omega) (by omega)
  have hm0 : 0 ≤ vol * ((rootN a : Int) + rootN b) := Int.mul_nonneg v1 (by omega)
  clear hat x1 x2 h hv r1 r2 f1 f2 t1 t2
  go_enter Try.func40, Try.ntmps40
  go_wp2_with fail
  (generalize hW : (World.alloc w _) = wn; have hbn : Below w.heap.size w wn := (by rw [← hW]; (repeat' (first | (with_reducible exact Below.refl _ _) | (with_reducible assumption) | (with_reducible refine Below.alloc ?_ ?_ _) | (with_reducible refine Below.drew ?_) | (with_reducible refine Below.drewN' ?_ _) | (with_reducible refine Below.setCell ?_ ?_ _) | (refine Below.via ?_ (by with_reducible assumption) ?_) | (with_reducible refine Below.via ?_ (Wd.h _) ?_) | go_size))); have hzn := congrArg (fun W => W.heap.size) hW; simp at hzn; have cw0_0 := congrArg (fun W => World.cell? W ⟨w.heap.size, 0, none⟩) hW.symm; have fw0_0 := congrArg (fun W => World.frozen? W ⟨w.heap.size, 0, none⟩) hW.symm; have hy0 : w.heap.size < wn.heap.size := (by omega); have cw0_1 := congrArg (fun W => World.cell? W ⟨w.heap.size, 1, none⟩) hW.symm; have fw0_1 := congrArg (fun W => World.frozen? W ⟨w.heap.size, 1, none⟩) hW.symm; have cw0_2 := congrArg (fun W => World.cell? W ⟨w.heap.size, 2, none⟩) hW.symm; have fw0_2 := congrArg (fun W => World.frozen? W ⟨w.heap.size, 2, none⟩) hW.symm; have cw0_3 := congrArg (fun W => World.cell? W ⟨w.heap.size, 3, none⟩) hW.symm; have fw0_3 := congrArg (fun W => World.frozen? W ⟨w.heap.size, 3, none⟩) hW.symm; have cw0_4 := congrArg (fun W => World.cell? W ⟨w.heap.size, 4, none⟩) hW.symm; have fw0_4 := congrArg (fun W => World.frozen? W ⟨w.heap.size, 4, none⟩) hW.symm; simp [go_sem] at cw0_0 fw0_0 cw0_1 fw0_1 cw0_2 fw0_2 cw0_3 fw0_3 cw0_4 fw0_4; clear hW hzn)
  have hyb : bb < wn.heap.size := Nat.lt_of_lt_of_le hb hbn.size
  have q5 := Wd.cell hyb ((hbn.cell (p := ⟨bb, off + fk, none⟩) hb).trans HT1.out)
  have q6 := Wd.cell hyb ((hbn.cell (p := ⟨bb, off + tk, none⟩) hb).trans HT2.out)
  (have qcw0_0 := Wd.cell hy0 cw0_0; have qcw0_1 := Wd.cell hy0 cw0_1; have qcw0_2 := Wd.cell hy0 cw0_2; have qcw0_3 := Wd.cell hy0 cw0_3; have qcw0_4 := Wd.cell hy0 cw0_4; (refine wp_region_wd (by kernel_rfl) (by kernel_rfl) ?_); (repeat (go_big_quiet_step ((first | fail | (go_at_call 53; apply wd_pure; with_reducible exact (spec_l01Root _ _ (by omega))) | (go_at_call 53; exact wd_pure (spec_l01Root _ _ (by omega))))))); (refine wpQuiet_nil ?_); rintro wn ⟨⟨w'', hbn⟩, hw''⟩; obtain rfl : wn = w'' := hw''; clear qcw0_0 qcw0_1 qcw0_2 qcw0_3 qcw0_4; (obtain ⟨hcn, hfn⟩ := bcell hbn; have hzn := hbn.size; (try simp at hzn); have Ncw0_0 := hcn (w.heap.size) (0) (by first | omega | (simp; done) | (simp; omega)); have Nfw0_0 := hfn (w.heap.size) (0) (by first | omega | (simp; done) | (simp; omega)); have Nhy0 : w.heap.size < wn.heap.size := (by omega); have Ncw0_1 := hcn (w.heap.size) (1) (by first | omega | (simp; done) | (simp; omega)); have Nfw0_1 := hfn (w.heap.size) (1) (by first | omega | (simp; done) | (simp; omega)); have Ncw0_2 := hcn (w.heap.size) (2) (by first | omega | (simp; done) | (simp; omega)); have Nfw0_2 := hfn (w.heap.size) (2) (by first | omega | (simp; done) | (simp; omega)); have Ncw0_3 := hcn (w.heap.size) (3) (by first | omega | (simp; done) | (simp; omega)); have Nfw0_3 := hfn (w.heap.size) (3) (by first | omega | (simp; done) | (simp; omega)); have Ncw0_4 := hcn (w.heap.size) (4) (by first | omega | (simp; done) | (simp; omega)); have Nfw0_4 := hfn (w.heap.size) (4) (by first | omega | (simp; done) | (simp; omega)); (first | (simp [go_sem, cw0_0, fw0_0, cw0_1, fw0_1, cw0_2, fw0_2, cw0_3, fw0_3, cw0_4, fw0_4, hy0] at Ncw0_0 Nfw0_0 Ncw0_1 Nfw0_1 Ncw0_2 Nfw0_2 Ncw0_3 Nfw0_3 Ncw0_4 Nfw0_4; clear cw0_0 fw0_0 cw0_1 fw0_1 cw0_2 fw0_2 cw0_3 fw0_3 cw0_4 fw0_4) | (simp [go_sem] at Ncw0_0 Nfw0_0 Ncw0_1 Nfw0_1 Ncw0_2 Nfw0_2 Ncw0_3 Nfw0_3 Ncw0_4 Nfw0_4)); clear hcn hfn; have cw0_0 := Ncw0_0; have fw0_0 := Nfw0_0; have cw0_1 := Ncw0_1; have fw0_1 := Nfw0_1; have cw0_2 := Ncw0_2; have fw0_2 := Nfw0_2; have cw0_3 := Ncw0_3; have fw0_3 := Nfw0_3; have cw0_4 := Ncw0_4; have fw0_4 := Nfw0_4; have hy0 := Nhy0; clear Ncw0_0 Nfw0_0 Ncw0_1 Nfw0_1 Ncw0_2 Nfw0_2 Ncw0_3 Nfw0_3 Ncw0_4 Nfw0_4 Nhy0))
  clear q5 q6
  go_wp2
  go_ret
  exact ⟨ri (by rw [HR.out]), by (repeat' (first | (with_reducible exact Below.refl _ _) | (with_reducible assumption) | (with_reducible refine Below.alloc ?_ ?_ _) | (with_reducible refine Below.drew ?_) | (with_reducible refine Below.drewN' ?_ _) | (with_reducible refine Below.setCell ?_ ?_ _) | (refine Below.via ?_ (by with_reducible assumption) ?_) | (with_reducible refine Below.via ?_ (Wd.h _) ?_) | go_size))⟩
end Go.Proofs.Ytkagnkecgkmpcaa

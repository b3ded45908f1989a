/- AcceptNomination: the reference. -/
import Derived.Test.YtbpaghlgdgegcaaAn
import Derived.Test.YtbpaghlgdgegcaaAp3
import Derived.Deep.Upon
namespace Go.Proofs.Ytbpaghlgdgegcaa
set_option linter.unusedVariables false
set_option linter.unusedSimpArgs false
open Go.RowKit
/-- nothing is appended to an empty slice without capacity -/
theorem app_nothing {P : Program} {ops : Array Oper} {o : Oper} {a : Act} {w : World} {K : Act → World → Prop} {Q : Exit → Act → World → Prop} {E : Prop}
    (hgd : o.guard = none) (s x : Operand) (t : TypeId)
    (ho : o.op = .call { callee := .builtin .append, args := #[s, x], argTypes := #[t, t] })
    {e : TypeId} {z : Value} {size bytes : Nat} (hinfo : (P.info? e).map (fun i => (i.zero, i.size, i.bytes)) = some (some z, size, bytes)) (ht : P.underlying t = some (.slice e))
    (ao : Option Addr) (hs : a.eval s = .slice ao 0 0) (D : Option Addr) (c : Nat) (hx : a.eval x = .slice D 0 c)
    (h : K (a.put o.dst (.slice ao 0 0)) w) :
    if Region.wanted o (yielded ops a.tmps) = true then Oper.wp P o a w K Q else E := by
  have hw : Region.wanted o (yielded ops a.tmps) = true := by simp [Region.wanted, hgd]
  rw [if_pos hw]
  obtain ⟨i, hi, hz, hsize, hb⟩ := info_parts hinfo
  have hsrc : Src P i.size t (.slice D 0 c) 0 [] w := by
    cases D with
    | none => exact Src.ofNil w ht c
    | some ad => exact Src.ofSlice w ht ad 0 c [] (by simp) (fun j u hu => by simp at hu) (fun u hu => by simp at hu)
  have hrun := run_append_nothing (P := P) w t t o.type e i ht hi ao 0 0 (Nat.le_refl _) (.slice D 0 c) hsrc
  unfold Oper.wp
  simp [execOp, ho, resolve, invoke, builtin, hs, hx, hrun, Result.andThen]
  exact h
theorem hisF_bd {con hr lo hi : Int} : ∀ {l : List Nom}, (∀ y ∈ l, lo ≤ y.am ∧ y.am ≤ hi) → ∀ a ∈ hisF con hr l, lo ≤ a ∧ a ≤ hi
  | [], _, a, ha => by simp [hisF] at ha
  | x :: l, h, a, ha => by
    unfold hisF at ha
    have ih := hisF_bd (con := con) (hr := hr) (l := l) (fun y hy => h y (by simp [hy]))
    split at ha
    · rcases List.mem_cons.1 ha with rfl | ha
      · exact h x (by simp)
      · exact ih a ha
    · exact ih a ha
def accB (lb : List Ctr) (ln : List Nom) (x : Nom) : Bool := !(lateB ln x) && !(farB lb ln x)
set_option maxRecDepth 100000 in
set_option maxHeartbeats 8000000 in
theorem spec_l21Acceptable (C D : Option Addr) (e f : Nat) (lb : List Ctr) (ln : List Nom) (x : Nom) (w : World) (h : Rd w C (lb.flatMap Ctr.cells)) (hl : lb.length ≤ 1048576) (h' : Rd w D (ln.flatMap Nom.cells)) (hl' : ln.length ≤ 1048576) (hk : CtrsOk lb) (hv : nomB lb x = true) (hy : ∀ y ∈ ln, 0 ≤ y.am ∧ y.am ≤ 30000) :
    Calls Try.prog 24 #[.slice C lb.length e, .slice D ln.length f, x.val] w fun e w' => e = .returned (.bool (accB lb ln x)) ∧ Below w.heap.size w w' := by
  have HB := Lib.hid h
  have HM := Lib.hid h'
  have HHB := Lib.hid (hisF_bd (con := x.con) (hr := x.hr) hy)
  obtain ⟨n1, n2, n3, n4, n5, n6, n7, n8⟩ := nomB_of hk hv
  obtain ⟨kc, hkc⟩ := Int.eq_ofNat_of_zero_le n1
  have HKC := Lib.hid hkc
  obtain ⟨cc, hcc⟩ := get_some (show kc < lb.length by omega)
  obtain ⟨bC, oC, rfl, hbC, hatC⟩ := HB.out.opened (k := kc) (by rw [flat_len Ctr.len]; omega)
  have tC := hatC.elem Ctr.len hcc 3 rfl
  obtain ⟨a1, a2⟩ := ctr_am hk (List.mem_of_getElem? hcc)
  have HCC := Lib.hid hcc
  have TC := Lib.hid tC
  clear h h' hk hv hy hatC hcc tC hkc
  go_enter Try.func24, Try.ntmps24
  go_wp2_with fail
  (generalize hW : (World.alloc w _) = wn; have hbn : Below w.heap.size w wn := (by rw [← hW]; (repeat' (first | (with_reducible exact Below.refl _ _) | (with_reducible assumption) | (with_reducible refine Below.alloc ?_ ?_ _) | (with_reducible refine Below.drew ?_) | (with_reducible refine Below.drewN' ?_ _) | (with_reducible refine Below.setCell ?_ ?_ _) | (refine Below.via ?_ (by with_reducible assumption) ?_) | (with_reducible refine Below.via ?_ (Wd.h _) ?_) | go_size))); have hzn := congrArg (fun W => W.heap.size) hW; simp at hzn; have cw0_0 := congrArg (fun W => World.cell? W ⟨w.heap.size, 0, none⟩) hW.symm; have fw0_0 := congrArg (fun W => World.frozen? W ⟨w.heap.size, 0, none⟩) hW.symm; have hy0 : w.heap.size < wn.heap.size := (by omega); have cw0_1 := congrArg (fun W => World.cell? W ⟨w.heap.size, 1, none⟩) hW.symm; have fw0_1 := congrArg (fun W => World.frozen? W ⟨w.heap.size, 1, none⟩) hW.symm; have cw0_2 := congrArg (fun W => World.cell? W ⟨w.heap.size, 2, none⟩) hW.symm; have fw0_2 := congrArg (fun W => World.frozen? W ⟨w.heap.size, 2, none⟩) hW.symm; have cw0_3 := congrArg (fun W => World.cell? W ⟨w.heap.size, 3, none⟩) hW.symm; have fw0_3 := congrArg (fun W => World.frozen? W ⟨w.heap.size, 3, none⟩) hW.symm; simp [go_sem] at cw0_0 fw0_0 cw0_1 fw0_1 cw0_2 fw0_2 cw0_3 fw0_3; clear hW hzn)
  have HBn := Lib.hid hbn
  clear hbn
  have HBX := Lib.hid (show Bx wn w.heap.size [.int .i64 x.con, .int .i64 x.hr, .int .i64 x.sent, .int .i64 x.am] from (bx4 (by first | exact hy0 | go_size) (by first | (with_reducible exact cw0_0) | go_cell_look | (simp [go_sem, hy0, cw0_0, fw0_0, cw0_1, fw0_1, cw0_2, fw0_2, cw0_3, fw0_3]; done) | (simp [go_sem]; done)) (by first | (with_reducible exact fw0_0) | (simp only [World.frozen?_setCell, fw0_0]; done) | (simp [go_sem, hy0, cw0_0, fw0_0, cw0_1, fw0_1, cw0_2, fw0_2, cw0_3, fw0_3]; done) | (simp [go_sem]; done)) (by first | (with_reducible exact cw0_1) | go_cell_look | (simp [go_sem, hy0, cw0_0, fw0_0, cw0_1, fw0_1, cw0_2, fw0_2, cw0_3, fw0_3]; done) | (simp [go_sem]; done)) (by first | (with_reducible exact fw0_1) | (simp only [World.frozen?_setCell, fw0_1]; done) | (simp [go_sem, hy0, cw0_0, fw0_0, cw0_1, fw0_1, cw0_2, fw0_2, cw0_3, fw0_3]; done) | (simp [go_sem]; done)) (by first | (with_reducible exact cw0_2) | go_cell_look | (simp [go_sem, hy0, cw0_0, fw0_0, cw0_1, fw0_1, cw0_2, fw0_2, cw0_3, fw0_3]; done) | (simp [go_sem]; done)) (by first | (with_reducible exact fw0_2) | (simp only [World.frozen?_setCell, fw0_2]; done) | (simp [go_sem, hy0, cw0_0, fw0_0, cw0_1, fw0_1, cw0_2, fw0_2, cw0_3, fw0_3]; done) | (simp [go_sem]; done)) (by first | (with_reducible exact cw0_3) | go_cell_look | (simp [go_sem, hy0, cw0_0, fw0_0, cw0_1, fw0_1, cw0_2, fw0_2, cw0_3, fw0_3]; done) | (simp [go_sem]; done)) (by first | (with_reducible exact fw0_3) | (simp only [World.frozen?_setCell, fw0_3]; done) | (simp [go_sem, hy0, cw0_0, fw0_0, cw0_1, fw0_1, cw0_2, fw0_2, cw0_3, fw0_3]; done) | (simp [go_sem]; done))))
  go_cut [22] (fun s22 wx => s22 = .bool (lateB ln x) ∧ Bx wx w.heap.size [.int .i64 x.con, .int .i64 x.hr, .int .i64 x.sent, .int .i64 x.am] ∧ Below w.heap.size w wx)
  case first =>
    rcases Nat.eq_zero_or_pos ln.length with hz | hp
    · obtain rfl : ln = [] := List.eq_nil_of_length_eq_zero hz
      have HRq := Lib.hid (show lateB [] x = false from rfl)
      clear hz
      (have qcw0_0 := Wd.cell hy0 cw0_0; have qcw0_1 := Wd.cell hy0 cw0_1; have qcw0_2 := Wd.cell hy0 cw0_2; have qcw0_3 := Wd.cell hy0 cw0_3; (refine wp_region_wd (by kernel_rfl) (by kernel_rfl) ?_); (repeat (go_big_quiet_step ((first | fail | (go_at_call 46; apply wd_pure; with_reducible exact (spec_l01Abs _ _ (by omega) (by omega))) | (go_at_call 46; exact wd_pure (spec_l01Abs _ _ (by omega) (by omega))))))); (refine wpQuiet_nil ?_); rintro wn ⟨⟨w'', hbn⟩, hw''⟩; obtain rfl : wn = w'' := hw''; clear qcw0_0 qcw0_1 qcw0_2 qcw0_3; (obtain ⟨hcn, hfn⟩ := bcell hbn; have hzn := hbn.size; (try simp at hzn); have Ncw0_0 := hcn (w.heap.size) (0) (by first | omega | (simp; done) | (simp; omega)); have Nfw0_0 := hfn (w.heap.size) (0) (by first | omega | (simp; done) | (simp; omega)); have Nhy0 : w.heap.size < wn.heap.size := (by omega); have Ncw0_1 := hcn (w.heap.size) (1) (by first | omega | (simp; done) | (simp; omega)); have Nfw0_1 := hfn (w.heap.size) (1) (by first | omega | (simp; done) | (simp; omega)); have Ncw0_2 := hcn (w.heap.size) (2) (by first | omega | (simp; done) | (simp; omega)); have Nfw0_2 := hfn (w.heap.size) (2) (by first | omega | (simp; done) | (simp; omega)); have Ncw0_3 := hcn (w.heap.size) (3) (by first | omega | (simp; done) | (simp; omega)); have Nfw0_3 := hfn (w.heap.size) (3) (by first | omega | (simp; done) | (simp; omega)); (first | (simp [go_sem, cw0_0, fw0_0, cw0_1, fw0_1, cw0_2, fw0_2, cw0_3, fw0_3, hy0] at Ncw0_0 Nfw0_0 Ncw0_1 Nfw0_1 Ncw0_2 Nfw0_2 Ncw0_3 Nfw0_3; clear cw0_0 fw0_0 cw0_1 fw0_1 cw0_2 fw0_2 cw0_3 fw0_3) | (simp [go_sem] at Ncw0_0 Nfw0_0 Ncw0_1 Nfw0_1 Ncw0_2 Nfw0_2 Ncw0_3 Nfw0_3)); clear hcn hfn; have cw0_0 := Ncw0_0; have fw0_0 := Nfw0_0; have cw0_1 := Ncw0_1; have fw0_1 := Nfw0_1; have cw0_2 := Ncw0_2; have fw0_2 := Nfw0_2; have cw0_3 := Ncw0_3; have fw0_3 := Nfw0_3; have hy0 := Nhy0; clear Ncw0_0 Nfw0_0 Ncw0_1 Nfw0_1 Ncw0_2 Nfw0_2 Ncw0_3 Nfw0_3 Nhy0))
      go_wp2_with fail
      go_meet
      exact ⟨by rw [HRq.out], HBX.out.below hbn HBX.out.lt, by have h1 := HBn.out; (repeat' (first | (with_reducible exact Below.refl _ _) | (with_reducible assumption) | (with_reducible refine Below.alloc ?_ ?_ _) | (with_reducible refine Below.drew ?_) | (with_reducible refine Below.drewN' ?_ _) | (with_reducible refine Below.setCell ?_ ?_ _) | (refine Below.via ?_ (by with_reducible assumption) ?_) | (with_reducible refine Below.via ?_ (Wd.h _) ?_) | go_size))⟩
    · obtain ⟨q, hq⟩ : ∃ q, ln.length = q + 1 := ⟨ln.length - 1, by omega⟩
      obtain ⟨y, hy⟩ := get_some (show q < ln.length by omega)
      have HLB := Lib.hid (lateB_last (x := x) hq hy)
      obtain ⟨by_, oy, rfl, hby, hat⟩ := HM.out.opened (k := q) (by rw [flat_len Nom.len]; omega)
      have hzn0 := HBn.out.size
      have q5 := Wd.cell (show by_ < wn.heap.size by omega) ((hat.below HBn.out hby).elem Nom.len hy 2 rfl)
      have p0 : decide ((0 : Int) < (ln.length : Int)) = true := by rw [decide_eq_true_eq]; omega
      have z1 : IntKind.i64.wrap ((ln.length : Int) - 1) = (q : Int) := by rw [IntWalk.i64_in _ (by omega)]; omega
      have g1 : (q : Int) < ln.length := by omega
      have g2 : (0 : Int) ≤ q := by omega
      clear hq hy hat
      (have qcw0_0 := Wd.cell hy0 cw0_0; have qcw0_1 := Wd.cell hy0 cw0_1; have qcw0_2 := Wd.cell hy0 cw0_2; have qcw0_3 := Wd.cell hy0 cw0_3; (refine wp_region_wd (by kernel_rfl) (by kernel_rfl) ?_); (repeat (go_big_quiet_step ((first | fail | (go_at_call 46; apply wd_pure; with_reducible exact (spec_l01Abs _ _ (by omega) (by omega))) | (go_at_call 46; exact wd_pure (spec_l01Abs _ _ (by omega) (by omega))))))); (refine wpQuiet_nil ?_); rintro wn ⟨⟨w'', hbn⟩, hw''⟩; obtain rfl : wn = w'' := hw''; clear qcw0_0 qcw0_1 qcw0_2 qcw0_3; (obtain ⟨hcn, hfn⟩ := bcell hbn; have hzn := hbn.size; (try simp at hzn); have Ncw0_0 := hcn (w.heap.size) (0) (by first | omega | (simp; done) | (simp; omega)); have Nfw0_0 := hfn (w.heap.size) (0) (by first | omega | (simp; done) | (simp; omega)); have Nhy0 : w.heap.size < wn.heap.size := (by omega); have Ncw0_1 := hcn (w.heap.size) (1) (by first | omega | (simp; done) | (simp; omega)); have Nfw0_1 := hfn (w.heap.size) (1) (by first | omega | (simp; done) | (simp; omega)); have Ncw0_2 := hcn (w.heap.size) (2) (by first | omega | (simp; done) | (simp; omega)); have Nfw0_2 := hfn (w.heap.size) (2) (by first | omega | (simp; done) | (simp; omega)); have Ncw0_3 := hcn (w.heap.size) (3) (by first | omega | (simp; done) | (simp; omega)); have Nfw0_3 := hfn (w.heap.size) (3) (by first | omega | (simp; done) | (simp; omega)); (first | (simp [go_sem, cw0_0, fw0_0, cw0_1, fw0_1, cw0_2, fw0_2, cw0_3, fw0_3, hy0] at Ncw0_0 Nfw0_0 Ncw0_1 Nfw0_1 Ncw0_2 Nfw0_2 Ncw0_3 Nfw0_3; clear cw0_0 fw0_0 cw0_1 fw0_1 cw0_2 fw0_2 cw0_3 fw0_3) | (simp [go_sem] at Ncw0_0 Nfw0_0 Ncw0_1 Nfw0_1 Ncw0_2 Nfw0_2 Ncw0_3 Nfw0_3)); clear hcn hfn; have cw0_0 := Ncw0_0; have fw0_0 := Nfw0_0; have cw0_1 := Ncw0_1; have fw0_1 := Nfw0_1; have cw0_2 := Ncw0_2; have fw0_2 := Nfw0_2; have cw0_3 := Ncw0_3; have fw0_3 := Nfw0_3; have hy0 := Nhy0; clear Ncw0_0 Nfw0_0 Ncw0_1 Nfw0_1 Ncw0_2 Nfw0_2 Ncw0_3 Nfw0_3 Nhy0))
      clear q5 z1
      go_wp2_with fail
      go_meet
      exact ⟨by rw [HLB.out], HBX.out.below hbn HBX.out.lt, by have h1 := HBn.out; (repeat' (first | (with_reducible exact Below.refl _ _) | (with_reducible assumption) | (with_reducible refine Below.alloc ?_ ?_ _) | (with_reducible refine Below.drew ?_) | (with_reducible refine Below.drewN' ?_ _) | (with_reducible refine Below.setCell ?_ ?_ _) | (refine Below.via ?_ (by with_reducible assumption) ?_) | (with_reducible refine Below.via ?_ (Wd.h _) ?_) | go_size))⟩
  case rest =>
    obtain ⟨rfl, hB1, hbc⟩ := hcut
    have HBX1 := Lib.hid hB1
    have HBC := Lib.hid hbc
    clear hy0 cw0_0 fw0_0 cw0_1 fw0_1 cw0_2 fw0_2 cw0_3 fw0_3
    clear HBX HBn hbc
    cases hlb : lateB ln x
    case true =>
      have HR := Lib.hid (show accB lb ln x = false by rw [accB, hlb]; rfl)
      go_wp2
      go_ret
      exact ⟨rbf HR.out, HBC.out⟩
    have HR1 := Lib.hid (show accB lb ln x = !(farB lb ln x) by rw [accB, hlb]; rfl)
    have hy0 := hB1.lt; have cw0_0 := hB1.cell 0 rfl; have fw0_0 := hB1.frozen 0 rfl; have cw0_1 := hB1.cell 1 rfl; have fw0_1 := hB1.frozen 1 rfl; have cw0_2 := hB1.cell 2 rfl; have fw0_2 := hB1.frozen 2 rfl; have cw0_3 := hB1.cell 3 rfl; have fw0_3 := hB1.frozen 3 rfl
    clear hB1
    go_wp2_with fail
    refine (spec_l21History _ _ ln x.con x.hr _ (HM.out.below HBC.out) hl').mono ?_
    rintro e w2 ⟨G, c2, rfl, hc2, hW2, hb2⟩
    have hB2 := HBX1.out.below hb2 HBX1.out.lt
    have HB2 := Lib.hid (HBC.out.trans (hb2.mono HBC.out.size))
    clear hy0 cw0_0 fw0_0 cw0_1 fw0_1 cw0_2 fw0_2 cw0_3 fw0_3
    have hy0 := hB2.lt; have cw0_0 := hB2.cell 0 rfl; have fw0_0 := hB2.frozen 0 rfl; have cw0_1 := hB2.cell 1 rfl; have fw0_1 := hB2.frozen 1 rfl; have cw0_2 := hB2.cell 2 rfl; have fw0_2 := hB2.frozen 2 rfl; have cw0_3 := hB2.cell 3 rfl; have fw0_3 := hB2.frozen 3 rfl
    have HRG := Lib.hid hW2.rd
    have hhl := hisF_len x.con x.hr ln
    clear hW2 hb2 hB2
    by_cases hq : x.hr - 6 < x.sent
    · have pq : decide (x.sent ≤ x.hr - 6) = false := by rw [decide_eq_false_iff_not]; omega
      rcases List.eq_nil_or_concat (hisF x.con x.hr ln) with hh | ⟨pre, a, hh⟩
      · have HR := Lib.hid (show accB lb ln x = true by rw [HR1.out, farB_nil hh]; rfl)
        have b1 : (((hisF x.con x.hr ln).length : Int) == 0) = true := by rw [hh]; rfl
        clear hh hq
        go_wp2
        go_ret
        exact ⟨rbt HR.out, HB2.out⟩
      · rw [List.concat_eq_append] at hh
        have HFS := Lib.hid (farB_some hq hh HKC.out HCC.out)
        have b1 : (((hisF x.con x.hr ln).length : Int) == 0) = false := by rw [hh, beq_eq_false_iff_ne]; simp; omega
        have hp : 0 < (hisF x.con x.hr ln).length := by rw [hh]; simp
        have hg : (hisF x.con x.hr ln)[(hisF x.con x.hr ln).length - 1]? = some a := by rw [hh]; simp
        have hba := HHB.out a (by rw [hh]; simp)
        obtain ⟨hba1, hba2⟩ := hba
        obtain ⟨q, hq2⟩ : ∃ q, (hisF x.con x.hr ln).length = q + 1 := ⟨(hisF x.con x.hr ln).length - 1, by omega⟩
        rw [hq2, Nat.add_sub_cancel] at hg
        obtain ⟨bx, ox, rfl, hbx, hat⟩ := HRG.out.opened (k := q) (by simp; omega)
        have q5 := Wd.cell hbx (ints_at hat hg)
        have hzb := HB2.out.size
        have q6 := Wd.cell (show bC < w2.heap.size by omega) (bc HB2.out hbC TC.out)
        obtain ⟨hn, hhn⟩ : ∃ hn, hn = (hisF x.con x.hr ln).length := ⟨_, rfl⟩
        rw [← hhn] at b1 hq2 hp hhl
        have z1 : IntKind.i64.wrap ((hn : Int) - 1) = (q : Int) := by rw [IntWalk.i64_in _ (by omega)]; omega
        have g1 : (q : Int) < hn := by omega
        have g2 : (0 : Int) ≤ q := by omega
        have gc : (kc : Int) < lb.length := by have := (List.getElem?_eq_some_iff.1 HCC.out).1; omega
        have hxc := HKC.out
        have hd2 : Int.tdiv cc.am 2 = cc.am / 2 := Int.tdiv_eq_ediv_of_nonneg a1
        rw [← hhn]
        clear hh hq hg hat hq2 hhn hp
        go_wp2_with fail
        (have qcw0_0 := Wd.cell hy0 cw0_0; have qcw0_1 := Wd.cell hy0 cw0_1; have qcw0_2 := Wd.cell hy0 cw0_2; have qcw0_3 := Wd.cell hy0 cw0_3; (refine wp_region_wd (by kernel_rfl) (by kernel_rfl) ?_); (repeat (go_big_quiet_step ((first | fail | (go_at_call 46; apply wd_pure; with_reducible exact (spec_l01Abs _ _ (by omega) (by omega))) | (go_at_call 46; exact wd_pure (spec_l01Abs _ _ (by omega) (by omega))))))); (refine wpQuiet_nil ?_); rintro wn ⟨⟨w'', hbn⟩, hw''⟩; obtain rfl : wn = w'' := hw''; clear qcw0_0 qcw0_1 qcw0_2 qcw0_3; (obtain ⟨hcn, hfn⟩ := bcell hbn; have hzn := hbn.size; (try simp at hzn); have Ncw0_0 := hcn (w.heap.size) (0) (by first | omega | (simp; done) | (simp; omega)); have Nfw0_0 := hfn (w.heap.size) (0) (by first | omega | (simp; done) | (simp; omega)); have Nhy0 : w.heap.size < wn.heap.size := (by omega); have Ncw0_1 := hcn (w.heap.size) (1) (by first | omega | (simp; done) | (simp; omega)); have Nfw0_1 := hfn (w.heap.size) (1) (by first | omega | (simp; done) | (simp; omega)); have Ncw0_2 := hcn (w.heap.size) (2) (by first | omega | (simp; done) | (simp; omega)); have Nfw0_2 := hfn (w.heap.size) (2) (by first | omega | (simp; done) | (simp; omega)); have Ncw0_3 := hcn (w.heap.size) (3) (by first | omega | (simp; done) | (simp; omega)); have Nfw0_3 := hfn (w.heap.size) (3) (by first | omega | (simp; done) | (simp; omega)); (first | (simp [go_sem, cw0_0, fw0_0, cw0_1, fw0_1, cw0_2, fw0_2, cw0_3, fw0_3, hy0] at Ncw0_0 Nfw0_0 Ncw0_1 Nfw0_1 Ncw0_2 Nfw0_2 Ncw0_3 Nfw0_3; clear cw0_0 fw0_0 cw0_1 fw0_1 cw0_2 fw0_2 cw0_3 fw0_3) | (simp [go_sem] at Ncw0_0 Nfw0_0 Ncw0_1 Nfw0_1 Ncw0_2 Nfw0_2 Ncw0_3 Nfw0_3)); clear hcn hfn; have cw0_0 := Ncw0_0; have fw0_0 := Nfw0_0; have cw0_1 := Ncw0_1; have fw0_1 := Nfw0_1; have cw0_2 := Ncw0_2; have fw0_2 := Nfw0_2; have cw0_3 := Ncw0_3; have fw0_3 := Nfw0_3; have hy0 := Nhy0; clear Ncw0_0 Nfw0_0 Ncw0_1 Nfw0_1 Ncw0_2 Nfw0_2 Ncw0_3 Nfw0_3 Nhy0))
        clear q5 q6 z1
        go_wp2
        go_ret
        refine ⟨?_, HB2.out.trans (hbn.mono HB2.out.size)⟩
        rw [HR1.out, HFS.out]
        exact rb (by simp)
    · have pq : decide (x.sent ≤ x.hr - 6) = true := by rw [decide_eq_true_eq]; omega
      have HR := Lib.hid (show accB lb ln x = true by rw [HR1.out, farB_early hq]; rfl)
      clear hq
      go_wp2
      go_ret
      exact ⟨rbt HR.out, HB2.out⟩
theorem accB_t {lb : List Ctr} {ln : List Nom} {x : Nom} (h : accB lb ln x = true) : lateB ln x = false ∧ farB lb ln x = false := by
  unfold accB at h; revert h; cases lateB ln x <;> cases farB lb ln x <;> simp
theorem accB_f {lb : List Ctr} {ln : List Nom} {x : Nom} {N : Net} (h : accB lb ln x = false) (h0 : nomsC N lb ln = 0) (hv : nomB lb x = true) : acR N lb ln x = ([], 7) := by
  unfold accB at h
  cases h1 : lateB ln x
  · cases h2 : farB lb ln x
    · rw [h1, h2] at h; cases h
    · simp [acR, h0, hv, h1, h2]
  · simp [acR, h0, hv, h1]
set_option maxRecDepth 100000 in
set_option maxHeartbeats 8000000 in
theorem spec_AcceptNomination (A B C D : Option Addr) (n c m d e f : Nat) (N : Net) (lb : List Ctr) (ln : List Nom) (x : Nom) (w : World) (hN : NetAt w A B N) (hn : n = N.nodes.length) (hm : m = N.pipes.length) (h : Rd w C (lb.flatMap Ctr.cells)) (hl : lb.length ≤ 1048576) (h' : Rd w D (ln.flatMap Nom.cells)) (hl' : ln.length ≤ 1048576) :
    Calls Try.prog 7 #[netV A B n c m d, .slice C lb.length e, .slice D ln.length f, x.val] w (MadeR w 4 (acR N lb ln x).1.length ((acR N lb ln x).1.flatMap Nom.cells) (acR N lb ln x).2) := by
  subst hn hm
  have HN := Lib.hid hN
  have HB := Lib.hid h
  have HM := Lib.hid h'
  have hln := hN.ln
  clear hN h h'
  go_enter Try.func7, Try.ntmps7
  go_wp2_with fail
  
  refine (spec_l21Code _ _ _ _ _ _ _ _ _ _ N lb ln _ (HN.out.below (by (repeat' (first | (with_reducible exact Below.refl _ _) | (with_reducible assumption) | (with_reducible refine Below.alloc ?_ ?_ _) | (with_reducible refine Below.drew ?_) | (with_reducible refine Below.drewN' ?_ _) | (with_reducible refine Below.setCell ?_ ?_ _) | (refine Below.via ?_ (by with_reducible assumption) ?_) | (with_reducible refine Below.via ?_ (Wd.h _) ?_) | go_size)))) rfl rfl (HB.out.below (by (repeat' (first | (with_reducible exact Below.refl _ _) | (with_reducible assumption) | (with_reducible refine Below.alloc ?_ ?_ _) | (with_reducible refine Below.drew ?_) | (with_reducible refine Below.drewN' ?_ _) | (with_reducible refine Below.setCell ?_ ?_ _) | (refine Below.via ?_ (by with_reducible assumption) ?_) | (with_reducible refine Below.via ?_ (Wd.h _) ?_) | go_size)))) hl (HM.out.below (by (repeat' (first | (with_reducible exact Below.refl _ _) | (with_reducible assumption) | (with_reducible refine Below.alloc ?_ ?_ _) | (with_reducible refine Below.drew ?_) | (with_reducible refine Below.drewN' ?_ _) | (with_reducible refine Below.setCell ?_ ?_ _) | (refine Below.via ?_ (by with_reducible assumption) ?_) | (with_reducible refine Below.via ?_ (Wd.h _) ?_) | go_size)))) hl').mono ?_
  rintro e w1 ⟨rfl, hb1⟩
  (obtain ⟨hcn, hfn⟩ := bcell hb1; have hz1 := hb1.size; (try simp at hz1); have Ncw0_0 := hcn (w.heap.size) (0) (by first | omega | (simp; done) | (simp; omega)); have Nfw0_0 := hfn (w.heap.size) (0) (by first | omega | (simp; done) | (simp; omega)); have Nhy0 : w.heap.size < w1.heap.size := (by omega); have Ncw0_1 := hcn (w.heap.size) (1) (by first | omega | (simp; done) | (simp; omega)); have Nfw0_1 := hfn (w.heap.size) (1) (by first | omega | (simp; done) | (simp; omega)); have Ncw1_0 := hcn (w.heap.size + 1) (0) (by first | omega | (simp; done) | (simp; omega)); have Nfw1_0 := hfn (w.heap.size + 1) (0) (by first | omega | (simp; done) | (simp; omega)); have Nhy1 : w.heap.size + 1 < w1.heap.size := (by omega); have Ncw1_1 := hcn (w.heap.size + 1) (1) (by first | omega | (simp; done) | (simp; omega)); have Nfw1_1 := hfn (w.heap.size + 1) (1) (by first | omega | (simp; done) | (simp; omega)); have Ncw1_2 := hcn (w.heap.size + 1) (2) (by first | omega | (simp; done) | (simp; omega)); have Nfw1_2 := hfn (w.heap.size + 1) (2) (by first | omega | (simp; done) | (simp; omega)); have Ncw1_3 := hcn (w.heap.size + 1) (3) (by first | omega | (simp; done) | (simp; omega)); have Nfw1_3 := hfn (w.heap.size + 1) (3) (by first | omega | (simp; done) | (simp; omega)); simp [go_sem] at Ncw0_0 Nfw0_0 Ncw0_1 Nfw0_1 Ncw1_0 Nfw1_0 Ncw1_1 Nfw1_1 Ncw1_2 Nfw1_2 Ncw1_3 Nfw1_3; clear hcn hfn; have cw0_0 := Ncw0_0; have fw0_0 := Nfw0_0; have cw0_1 := Ncw0_1; have fw0_1 := Nfw0_1; have cw1_0 := Ncw1_0; have fw1_0 := Nfw1_0; have cw1_1 := Ncw1_1; have fw1_1 := Nfw1_1; have cw1_2 := Ncw1_2; have fw1_2 := Nfw1_2; have cw1_3 := Ncw1_3; have fw1_3 := Nfw1_3; have hy0 := Nhy0; have hy1 := Nhy1; clear Ncw0_0 Nfw0_0 Ncw0_1 Nfw0_1 Ncw1_0 Nfw1_0 Ncw1_1 Nfw1_1 Ncw1_2 Nfw1_2 Ncw1_3 Nfw1_3 Nhy0 Nhy1)
  have HB1 := Lib.hid (show Below w.heap.size w w1 by (repeat' (first | (with_reducible exact Below.refl _ _) | (with_reducible assumption) | (with_reducible refine Below.alloc ?_ ?_ _) | (with_reducible refine Below.drew ?_) | (with_reducible refine Below.drewN' ?_ _) | (with_reducible refine Below.setCell ?_ ?_ _) | (refine Below.via ?_ (by with_reducible assumption) ?_) | (with_reducible refine Below.via ?_ (Wd.h _) ?_) | go_size)))
  clear hb1
  by_cases h0 : nomsC N lb ln = 0
  case neg =>
    have b0 : (nomsC N lb ln != 0) = true := by simp [h0]
    have HR := Lib.hid (show acR N lb ln x = ([], nomsC N lb ln) by simp [acR, h0])
    clear h0
    go_wp2
    go_ret2
    exact MadeR.nilN HR.out rfl HB1.out
  have b0 : (nomsC N lb ln != 0) = false := by simp [h0]
  have H0 := Lib.hid h0
  have HKK := Lib.hid (ctrsOk_of (noms_of h0).1)
  have h200 := (noms_of h0).2.1
  have HYB := Lib.hid (show ∀ y ∈ ln, 0 ≤ y.am ∧ y.am ≤ 30000 from fun y hy => (nom_mem HKK.out (noms_of h0).2 hy).2.2)
  clear h0
  go_wp2_with fail
  refine (spec_l21Is _ _ lb x _ (HB.out.below HB1.out) hl HKK.out).mono ?_
  rintro e w2 ⟨rfl, hb2⟩
  (obtain ⟨hcn, hfn⟩ := bcell hb2; have hz2 := hb2.size; (try simp at hz2); have Ncw0_0 := hcn (w.heap.size) (0) (by first | omega | (simp; done) | (simp; omega)); have Nfw0_0 := hfn (w.heap.size) (0) (by first | omega | (simp; done) | (simp; omega)); have Nhy0 : w.heap.size < w2.heap.size := (by omega); have Ncw0_1 := hcn (w.heap.size) (1) (by first | omega | (simp; done) | (simp; omega)); have Nfw0_1 := hfn (w.heap.size) (1) (by first | omega | (simp; done) | (simp; omega)); have Ncw1_0 := hcn (w.heap.size + 1) (0) (by first | omega | (simp; done) | (simp; omega)); have Nfw1_0 := hfn (w.heap.size + 1) (0) (by first | omega | (simp; done) | (simp; omega)); have Nhy1 : w.heap.size + 1 < w2.heap.size := (by omega); have Ncw1_1 := hcn (w.heap.size + 1) (1) (by first | omega | (simp; done) | (simp; omega)); have Nfw1_1 := hfn (w.heap.size + 1) (1) (by first | omega | (simp; done) | (simp; omega)); have Ncw1_2 := hcn (w.heap.size + 1) (2) (by first | omega | (simp; done) | (simp; omega)); have Nfw1_2 := hfn (w.heap.size + 1) (2) (by first | omega | (simp; done) | (simp; omega)); have Ncw1_3 := hcn (w.heap.size + 1) (3) (by first | omega | (simp; done) | (simp; omega)); have Nfw1_3 := hfn (w.heap.size + 1) (3) (by first | omega | (simp; done) | (simp; omega)); simp [go_sem, cw0_0, fw0_0, cw0_1, fw0_1, cw1_0, fw1_0, cw1_1, fw1_1, cw1_2, fw1_2, cw1_3, fw1_3, hy0, hy1] at Ncw0_0 Nfw0_0 Ncw0_1 Nfw0_1 Ncw1_0 Nfw1_0 Ncw1_1 Nfw1_1 Ncw1_2 Nfw1_2 Ncw1_3 Nfw1_3; clear cw0_0 fw0_0 cw0_1 fw0_1 cw1_0 fw1_0 cw1_1 fw1_1 cw1_2 fw1_2 cw1_3 fw1_3 hy0 hy1; clear hcn hfn; have cw0_0 := Ncw0_0; have fw0_0 := Nfw0_0; have cw0_1 := Ncw0_1; have fw0_1 := Nfw0_1; have cw1_0 := Ncw1_0; have fw1_0 := Nfw1_0; have cw1_1 := Ncw1_1; have fw1_1 := Nfw1_1; have cw1_2 := Ncw1_2; have fw1_2 := Nfw1_2; have cw1_3 := Ncw1_3; have fw1_3 := Nfw1_3; have hy0 := Nhy0; have hy1 := Nhy1; clear Ncw0_0 Nfw0_0 Ncw0_1 Nfw0_1 Ncw1_0 Nfw1_0 Ncw1_1 Nfw1_1 Ncw1_2 Nfw1_2 Ncw1_3 Nfw1_3 Nhy0 Nhy1)
  have HB2 := Lib.hid (HB1.out.trans (hb2.mono HB1.out.size))
  clear hb2
  cases hv : nomB lb x
  · have HR := Lib.hid (show acR N lb ln x = ([], 2) by simp [acR, H0.out, hv])
    go_wp2
    go_ret2
    exact MadeR.nilN HR.out rfl HB2.out
  have HV := Lib.hid hv
  clear hv
  go_wp2_with fail
  refine (spec_l21Acceptable _ _ _ _ lb ln x _ (HB.out.below HB2.out) hl (HM.out.below HB2.out) hl' HKK.out HV.out HYB.out).mono ?_
  rintro e w3 ⟨rfl, hb3⟩
  (obtain ⟨hcn, hfn⟩ := bcell hb3; have hz3 := hb3.size; (try simp at hz3); have Ncw0_0 := hcn (w.heap.size) (0) (by first | omega | (simp; done) | (simp; omega)); have Nfw0_0 := hfn (w.heap.size) (0) (by first | omega | (simp; done) | (simp; omega)); have Nhy0 : w.heap.size < w3.heap.size := (by omega); have Ncw0_1 := hcn (w.heap.size) (1) (by first | omega | (simp; done) | (simp; omega)); have Nfw0_1 := hfn (w.heap.size) (1) (by first | omega | (simp; done) | (simp; omega)); have Ncw1_0 := hcn (w.heap.size + 1) (0) (by first | omega | (simp; done) | (simp; omega)); have Nfw1_0 := hfn (w.heap.size + 1) (0) (by first | omega | (simp; done) | (simp; omega)); have Nhy1 : w.heap.size + 1 < w3.heap.size := (by omega); have Ncw1_1 := hcn (w.heap.size + 1) (1) (by first | omega | (simp; done) | (simp; omega)); have Nfw1_1 := hfn (w.heap.size + 1) (1) (by first | omega | (simp; done) | (simp; omega)); have Ncw1_2 := hcn (w.heap.size + 1) (2) (by first | omega | (simp; done) | (simp; omega)); have Nfw1_2 := hfn (w.heap.size + 1) (2) (by first | omega | (simp; done) | (simp; omega)); have Ncw1_3 := hcn (w.heap.size + 1) (3) (by first | omega | (simp; done) | (simp; omega)); have Nfw1_3 := hfn (w.heap.size + 1) (3) (by first | omega | (simp; done) | (simp; omega)); simp [go_sem, cw0_0, fw0_0, cw0_1, fw0_1, cw1_0, fw1_0, cw1_1, fw1_1, cw1_2, fw1_2, cw1_3, fw1_3, hy0, hy1] at Ncw0_0 Nfw0_0 Ncw0_1 Nfw0_1 Ncw1_0 Nfw1_0 Ncw1_1 Nfw1_1 Ncw1_2 Nfw1_2 Ncw1_3 Nfw1_3; clear cw0_0 fw0_0 cw0_1 fw0_1 cw1_0 fw1_0 cw1_1 fw1_1 cw1_2 fw1_2 cw1_3 fw1_3 hy0 hy1; clear hcn hfn; have cw0_0 := Ncw0_0; have fw0_0 := Nfw0_0; have cw0_1 := Ncw0_1; have fw0_1 := Nfw0_1; have cw1_0 := Ncw1_0; have fw1_0 := Nfw1_0; have cw1_1 := Ncw1_1; have fw1_1 := Nfw1_1; have cw1_2 := Ncw1_2; have fw1_2 := Nfw1_2; have cw1_3 := Ncw1_3; have fw1_3 := Nfw1_3; have hy0 := Nhy0; have hy1 := Nhy1; clear Ncw0_0 Nfw0_0 Ncw0_1 Nfw0_1 Ncw1_0 Nfw1_0 Ncw1_1 Nfw1_1 Ncw1_2 Nfw1_2 Ncw1_3 Nfw1_3 Nhy0 Nhy1)
  have HB3 := Lib.hid (HB2.out.trans (hb3.mono HB2.out.size))
  clear hb3
  cases hac : accB lb ln x
  · have HR := Lib.hid (accB_f hac H0.out HV.out)
    go_wp2
    go_ret2
    exact MadeR.nilN HR.out rfl HB3.out
  have HR0 := Lib.hid (show acR N lb ln x = if ln.length = 200 then ([], 3) else (ln ++ [x], 0) by have := accB_t hac; simp [acR, H0.out, HV.out, this.1, this.2])
  by_cases h2 : ln.length = 200
  · have p2 : ((ln.length : Int) == 200) = true := by rw [beq_iff_eq]; omega
    have HR := Lib.hid (show acR N lb ln x = ([], 3) by rw [HR0.out, if_pos h2])
    clear h2
    go_wp2
    go_ret2
    exact MadeR.nilN HR.out rfl HB3.out
  have p2 : ((ln.length : Int) == 200) = false := by rw [beq_eq_false_iff_ne]; omega
  have HR := Lib.hid (show acR N lb ln x = (ln ++ [x], 0) by rw [HR0.out, if_neg h2])
  have hz3 := HB3.out.size
  clear h2 hac
  rcases Nat.eq_zero_or_pos ln.length with hz | hp
  · obtain rfl : ln = [] := List.eq_nil_of_length_eq_zero hz
    clear hz
    go_wp2_with fail
    go_region_held3 (fun w' => w'.cell? ⟨w.heap.size + 1, 0, none⟩ = some (.int .i64 x.con) ∧ w'.cell? ⟨w.heap.size + 1, 1, none⟩ = some (.int .i64 x.hr) ∧ w'.cell? ⟨w.heap.size + 1, 2, none⟩ = some (.int .i64 x.sent) ∧ w'.cell? ⟨w.heap.size + 1, 3, none⟩ = some (.int .i64 x.am))
      (first | exact ⟨cw1_0, cw1_1, cw1_2, cw1_3⟩ | (simp [go_sem, cw1_0, cw1_1, cw1_2, cw1_3, hy5]; done) | go_keep)
      (first
        | (refine app_nothing rfl (.tmp 34) (.tmp 35) 33 rfl info_NomX Try.underlying33 _ rfl D f rfl ?_)
        | (apply app0 (s := .tmp 36) (x := .tmp 38) (t := 33) (hinfo := info_NomX) (news := x.cells) (m := 1) (c := 1); (case hgd => exact rfl); (case ho => exact rfl); (case ht => exact Try.underlying33); (case hzs => exact rfl); (case hsz => decide); (case hby => decide); (case hs => exact rfl); (case hx => exact rfl); (case hl => exact rfl); (case hrd => (refine Rd.mk ?_ (by first | (simp; done) | (simp; omega)); (intro j u hu; rw [Nat.zero_add]; match j, hu with | 0, hu => (simp [Nom.cells] at hu; subst hu; first | done | (simp; done) | (simp [go_sem]; done)) | 1, hu => (simp [Nom.cells] at hu; subst hu; first | done | (simp; done) | (simp [go_sem]; done)) | 2, hu => (simp [Nom.cells] at hu; subst hu; first | done | (simp; done) | (simp [go_sem]; done)) | 3, hu => (simp [Nom.cells] at hu; subst hu; first | done | (simp; done) | (simp [go_sem]; done)) | j + 4, hu => simp [Nom.cells] at hu))); (case h1 => (simp [Nom.cells, Value.oneCell'])); (case hm => decide); (case hn => decide); intro v6 w6 hO6 hb6; have HO6 := Lib.hid hO6; have hz6 := hb6.size; (try simp at hz6); replace cw1_0 : w6.cell? ⟨w.heap.size + 1, 0, none⟩ = some (.int .i64 x.con) := bc hb6 (by first | omega | (simp; omega)) (by first | exact cw1_0 | exact bc (B := w3.heap.size) (w := w3) (by (repeat' (first | (with_reducible exact Below.refl _ _) | (with_reducible assumption) | (with_reducible refine Below.alloc ?_ ?_ _) | (with_reducible refine Below.drew ?_) | (with_reducible refine Below.drewN' ?_ _) | (with_reducible refine Below.setCell ?_ ?_ _) | (refine Below.via ?_ (by with_reducible assumption) ?_) | (with_reducible refine Below.via ?_ (Wd.h _) ?_) | go_size))) hy1 cw1_0 | (simp [go_sem, cw1_0, hy1]; done)); replace cw1_1 : w6.cell? ⟨w.heap.size + 1, 1, none⟩ = some (.int .i64 x.hr) := bc hb6 (by first | omega | (simp; omega)) (by first | exact cw1_1 | exact bc (B := w3.heap.size) (w := w3) (by (repeat' (first | (with_reducible exact Below.refl _ _) | (with_reducible assumption) | (with_reducible refine Below.alloc ?_ ?_ _) | (with_reducible refine Below.drew ?_) | (with_reducible refine Below.drewN' ?_ _) | (with_reducible refine Below.setCell ?_ ?_ _) | (refine Below.via ?_ (by with_reducible assumption) ?_) | (with_reducible refine Below.via ?_ (Wd.h _) ?_) | go_size))) hy1 cw1_1 | (simp [go_sem, cw1_1, hy1]; done)); replace cw1_2 : w6.cell? ⟨w.heap.size + 1, 2, none⟩ = some (.int .i64 x.sent) := bc hb6 (by first | omega | (simp; omega)) (by first | exact cw1_2 | exact bc (B := w3.heap.size) (w := w3) (by (repeat' (first | (with_reducible exact Below.refl _ _) | (with_reducible assumption) | (with_reducible refine Below.alloc ?_ ?_ _) | (with_reducible refine Below.drew ?_) | (with_reducible refine Below.drewN' ?_ _) | (with_reducible refine Below.setCell ?_ ?_ _) | (refine Below.via ?_ (by with_reducible assumption) ?_) | (with_reducible refine Below.via ?_ (Wd.h _) ?_) | go_size))) hy1 cw1_2 | (simp [go_sem, cw1_2, hy1]; done)); replace cw1_3 : w6.cell? ⟨w.heap.size + 1, 3, none⟩ = some (.int .i64 x.am) := bc hb6 (by first | omega | (simp; omega)) (by first | exact cw1_3 | exact bc (B := w3.heap.size) (w := w3) (by (repeat' (first | (with_reducible exact Below.refl _ _) | (with_reducible assumption) | (with_reducible refine Below.alloc ?_ ?_ _) | (with_reducible refine Below.drew ?_) | (with_reducible refine Below.drewN' ?_ _) | (with_reducible refine Below.setCell ?_ ?_ _) | (refine Below.via ?_ (by with_reducible assumption) ?_) | (with_reducible refine Below.via ?_ (Wd.h _) ?_) | go_size))) hy1 cw1_3 | (simp [go_sem, cw1_3, hy1]; done)); clear hO6)
        | fail)
    all_goals
      go_wp2
      go_ret2
      refine MadeR.ownN (l := [] ++ [x]) (n := 1) HR.out (by simp) (by have := HO6.out; simpa using this) (by first | omega | (simp; omega)) (by have h1 := HB3.out; (repeat' (first | (with_reducible exact Below.refl _ _) | (with_reducible assumption) | (with_reducible refine Below.alloc ?_ ?_ _) | (with_reducible refine Below.drew ?_) | (with_reducible refine Below.drewN' ?_ _) | (with_reducible refine Below.setCell ?_ ?_ _) | (refine Below.via ?_ (by with_reducible assumption) ?_) | (with_reducible refine Below.via ?_ (Wd.h _) ?_) | go_size)))
  · obtain ⟨aD, rfl⟩ := rd_some HM.out (by
      cases ln with
      | nil => simp at hp
      | cons y l => simp [Nom.cells])
    go_wp2_with fail
    go_region_held3 (fun w' => w'.cell? ⟨w.heap.size + 1, 0, none⟩ = some (.int .i64 x.con) ∧ w'.cell? ⟨w.heap.size + 1, 1, none⟩ = some (.int .i64 x.hr) ∧ w'.cell? ⟨w.heap.size + 1, 2, none⟩ = some (.int .i64 x.sent) ∧ w'.cell? ⟨w.heap.size + 1, 3, none⟩ = some (.int .i64 x.am))
      (first | exact ⟨cw1_0, cw1_1, cw1_2, cw1_3⟩ | (simp [go_sem, cw1_0, cw1_1, cw1_2, cw1_3, hy5]; done) | go_keep)
      (first
        | (apply app0 (s := .tmp 34) (x := .tmp 35) (t := 33) (hinfo := info_NomX) (news := ln.flatMap Nom.cells) (m := ln.length) (c := f); (case hgd => exact rfl); (case ho => exact rfl); (case ht => exact Try.underlying33); (case hzs => exact rfl); (case hsz => decide); (case hby => decide); (case hs => exact rfl); (case hx => exact rfl); (case hl => exact flat_len Nom.len ln); (case hrd => exact HM.out.below (by have h1 := HB3.out; (repeat' (first | (with_reducible exact Below.refl _ _) | (with_reducible assumption) | (with_reducible refine Below.alloc ?_ ?_ _) | (with_reducible refine Below.drew ?_) | (with_reducible refine Below.drewN' ?_ _) | (with_reducible refine Below.setCell ?_ ?_ _) | (refine Below.via ?_ (by with_reducible assumption) ?_) | (with_reducible refine Below.via ?_ (Wd.h _) ?_) | go_size)))); (case h1 => exact Nom.one ln); (case hm => omega); (case hn => omega); intro v5 w5 hO5 hb5; have HO5 := Lib.hid (hO5.lower (base' := w.heap.size + 2) (by first | omega | (simp; omega))); have hz5 := hb5.size; (try simp at hz5); have HC5 := Lib.hid (bcell hb5).1; have hy5 : w.heap.size + 1 < w5.heap.size := (by omega); replace cw1_0 : w5.cell? ⟨w.heap.size + 1, 0, none⟩ = some (.int .i64 x.con) := bc hb5 (by first | omega | (simp; omega)) (by first | exact cw1_0 | exact bc (B := w3.heap.size) (w := w3) (by (repeat' (first | (with_reducible exact Below.refl _ _) | (with_reducible assumption) | (with_reducible refine Below.alloc ?_ ?_ _) | (with_reducible refine Below.drew ?_) | (with_reducible refine Below.drewN' ?_ _) | (with_reducible refine Below.setCell ?_ ?_ _) | (refine Below.via ?_ (by with_reducible assumption) ?_) | (with_reducible refine Below.via ?_ (Wd.h _) ?_) | go_size))) hy1 cw1_0 | (simp [go_sem, cw1_0, hy1]; done)); replace cw1_1 : w5.cell? ⟨w.heap.size + 1, 1, none⟩ = some (.int .i64 x.hr) := bc hb5 (by first | omega | (simp; omega)) (by first | exact cw1_1 | exact bc (B := w3.heap.size) (w := w3) (by (repeat' (first | (with_reducible exact Below.refl _ _) | (with_reducible assumption) | (with_reducible refine Below.alloc ?_ ?_ _) | (with_reducible refine Below.drew ?_) | (with_reducible refine Below.drewN' ?_ _) | (with_reducible refine Below.setCell ?_ ?_ _) | (refine Below.via ?_ (by with_reducible assumption) ?_) | (with_reducible refine Below.via ?_ (Wd.h _) ?_) | go_size))) hy1 cw1_1 | (simp [go_sem, cw1_1, hy1]; done)); replace cw1_2 : w5.cell? ⟨w.heap.size + 1, 2, none⟩ = some (.int .i64 x.sent) := bc hb5 (by first | omega | (simp; omega)) (by first | exact cw1_2 | exact bc (B := w3.heap.size) (w := w3) (by (repeat' (first | (with_reducible exact Below.refl _ _) | (with_reducible assumption) | (with_reducible refine Below.alloc ?_ ?_ _) | (with_reducible refine Below.drew ?_) | (with_reducible refine Below.drewN' ?_ _) | (with_reducible refine Below.setCell ?_ ?_ _) | (refine Below.via ?_ (by with_reducible assumption) ?_) | (with_reducible refine Below.via ?_ (Wd.h _) ?_) | go_size))) hy1 cw1_2 | (simp [go_sem, cw1_2, hy1]; done)); replace cw1_3 : w5.cell? ⟨w.heap.size + 1, 3, none⟩ = some (.int .i64 x.am) := bc hb5 (by first | omega | (simp; omega)) (by first | exact cw1_3 | exact bc (B := w3.heap.size) (w := w3) (by (repeat' (first | (with_reducible exact Below.refl _ _) | (with_reducible assumption) | (with_reducible refine Below.alloc ?_ ?_ _) | (with_reducible refine Below.drew ?_) | (with_reducible refine Below.drewN' ?_ _) | (with_reducible refine Below.setCell ?_ ?_ _) | (refine Below.via ?_ (by with_reducible assumption) ?_) | (with_reducible refine Below.via ?_ (Wd.h _) ?_) | go_size))) hy1 cw1_3 | (simp [go_sem, cw1_3, hy1]; done)); clear hO5)
        | (apply step_of rfl; apply app1x (s := .tmp 36) (x := .tmp 38) (t := 33) (base := w.heap.size + 2) (hinfo := info_NomX) (v := v5) (n := ln.length) (xs := ln.flatMap Nom.cells) (news := x.cells) (m := 1) (c := 1); (case ho => exact rfl); (case ht => exact Try.underlying33); (case hzs => exact rfl); (case hsz => decide); (case hby => decide); (case hs => exact rfl); (case hown => (repeat' (first | (with_reducible exact HO5.out) | (with_reducible refine Own.alloc ?_ _) | (with_reducible refine Own.drew ?_)))); (case hx => exact rfl); (case hl => exact rfl); (case hnews => (intro j u hu; match j, hu with | 0, hu => (simp [Nom.cells] at hu; subst hu; first | done | (simp; done) | (exact bc hb5 (by first | (simp; done) | (simp; omega)) (by simp)) | (simp [HC5.out]; done)) | 1, hu => (simp [Nom.cells] at hu; subst hu; first | done | (simp; done) | (exact bc hb5 (by first | (simp; done) | (simp; omega)) (by simp)) | (simp [HC5.out]; done)) | 2, hu => (simp [Nom.cells] at hu; subst hu; first | done | (simp; done) | (exact bc hb5 (by first | (simp; done) | (simp; omega)) (by simp)) | (simp [HC5.out]; done)) | 3, hu => (simp [Nom.cells] at hu; subst hu; first | done | (simp; done) | (exact bc hb5 (by first | (simp; done) | (simp; omega)) (by simp)) | (simp [HC5.out]; done)) | j + 4, hu => simp [Nom.cells] at hu)); (case h1 => (simp [Nom.cells, Value.oneCell'])); (case hm => decide); (case hn => omega); (case hbase => (first | omega | (simp; omega))); intro v6 w6 hO6 hb6 hF6; have HO6 := Lib.hid hO6; have hy5 : w.heap.size + 1 < w5.heap.size := (by omega); replace cw1_0 : w6.cell? ⟨w.heap.size + 1, 0, none⟩ = some (.int .i64 x.con) := bc hb6 (by first | omega | (simp; omega)) (by first | exact cw1_0 | exact bc (B := w5.heap.size) (w := w5) (by (repeat' (first | (with_reducible exact Below.refl _ _) | (with_reducible assumption) | (with_reducible refine Below.alloc ?_ ?_ _) | (with_reducible refine Below.drew ?_) | (with_reducible refine Below.drewN' ?_ _) | (with_reducible refine Below.setCell ?_ ?_ _) | (refine Below.via ?_ (by with_reducible assumption) ?_) | (with_reducible refine Below.via ?_ (Wd.h _) ?_) | go_size))) hy5 cw1_0 | (simp [go_sem, cw1_0, hy5]; done)); replace cw1_1 : w6.cell? ⟨w.heap.size + 1, 1, none⟩ = some (.int .i64 x.hr) := bc hb6 (by first | omega | (simp; omega)) (by first | exact cw1_1 | exact bc (B := w5.heap.size) (w := w5) (by (repeat' (first | (with_reducible exact Below.refl _ _) | (with_reducible assumption) | (with_reducible refine Below.alloc ?_ ?_ _) | (with_reducible refine Below.drew ?_) | (with_reducible refine Below.drewN' ?_ _) | (with_reducible refine Below.setCell ?_ ?_ _) | (refine Below.via ?_ (by with_reducible assumption) ?_) | (with_reducible refine Below.via ?_ (Wd.h _) ?_) | go_size))) hy5 cw1_1 | (simp [go_sem, cw1_1, hy5]; done)); replace cw1_2 : w6.cell? ⟨w.heap.size + 1, 2, none⟩ = some (.int .i64 x.sent) := bc hb6 (by first | omega | (simp; omega)) (by first | exact cw1_2 | exact bc (B := w5.heap.size) (w := w5) (by (repeat' (first | (with_reducible exact Below.refl _ _) | (with_reducible assumption) | (with_reducible refine Below.alloc ?_ ?_ _) | (with_reducible refine Below.drew ?_) | (with_reducible refine Below.drewN' ?_ _) | (with_reducible refine Below.setCell ?_ ?_ _) | (refine Below.via ?_ (by with_reducible assumption) ?_) | (with_reducible refine Below.via ?_ (Wd.h _) ?_) | go_size))) hy5 cw1_2 | (simp [go_sem, cw1_2, hy5]; done)); replace cw1_3 : w6.cell? ⟨w.heap.size + 1, 3, none⟩ = some (.int .i64 x.am) := bc hb6 (by first | omega | (simp; omega)) (by first | exact cw1_3 | exact bc (B := w5.heap.size) (w := w5) (by (repeat' (first | (with_reducible exact Below.refl _ _) | (with_reducible assumption) | (with_reducible refine Below.alloc ?_ ?_ _) | (with_reducible refine Below.drew ?_) | (with_reducible refine Below.drewN' ?_ _) | (with_reducible refine Below.setCell ?_ ?_ _) | (refine Below.via ?_ (by with_reducible assumption) ?_) | (with_reducible refine Below.via ?_ (Wd.h _) ?_) | go_size))) hy5 cw1_3 | (simp [go_sem, cw1_3, hy5]; done)); clear hO6 hF6)
        | fail)
    all_goals
      go_wp2
      go_ret2
      refine MadeR.ownN (l := ln ++ [x]) (n := ln.length + 1) HR.out (by simp) (by have := HO6.out; simpa using this) (by first | omega | (simp; omega)) (by have h1 := HB3.out; (repeat' (first | (with_reducible exact Below.refl _ _) | (with_reducible assumption) | (with_reducible refine Below.alloc ?_ ?_ _) | (with_reducible refine Below.drew ?_) | (with_reducible refine Below.drewN' ?_ _) | (with_reducible refine Below.setCell ?_ ?_ _) | (refine Below.via ?_ (by with_reducible assumption) ?_) | (with_reducible refine Below.via ?_ (Wd.h _) ?_) | go_size)))
end Go.Proofs.Ytbpaghlgdgegcaa

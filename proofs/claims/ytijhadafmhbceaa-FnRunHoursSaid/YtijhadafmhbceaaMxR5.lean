/- spec.RunHours: the walk. -/
import Derived.Test.YtijhadafmhbceaaMxR4
import Derived.Test.YtijhadafmhbceaaMxR1
namespace Go.Proofs.Ytijhadafmhbceaa
set_option linter.unusedVariables false
set_option linter.unusedSimpArgs false
open Go.RowKit
/-- what the code is in the end, where the hours from k on are still to be checked -/
def cdF (m n : Nat) (hs : List Hr) (z : Int) (k : Nat) : Int := if z ≠ 0 then z else if hrsF m n (hs.drop k) = false then 2 else 0
theorem cdF_code {m n : Nat} {hs : List Hr} {z : Int} {k : Nat} (h : z ≠ 0) : cdF m n hs z k = z := by unfold cdF; rw [if_pos h]
theorem cdF_end {m n : Nat} {hs : List Hr} {k : Nat} (h : ¬ k < hs.length) : cdF m n hs 0 k = 0 := by
  unfold cdF; rw [if_neg (by simp), drop_endI h]; simp [hrsF]
theorem cdF_step {m n : Nat} {hs : List Hr} {k : Nat} {x : Hr} (hx : hs[k]? = some x) : cdF m n hs 0 k = cdF m n hs (if hrB m n x = false then 2 else 0) (k + 1) := by
  unfold cdF
  rw [if_neg (by simp), drop_consI hx, hrsF]
  cases hrB m n x <;> simp
theorem hrC_0 {N : Net} {ll lh ln : List Int} {x : Hr} (h : bufC N ll lh ln = 0) : hrC N ll lh ln x = if hrB N.pipes.length N.nodes.length x = false then 2 else 0 := by
  unfold hrC; rw [if_neg (by simp [h])]
set_option maxRecDepth 100000 in
set_option maxHeartbeats 8000000 in
theorem spec_RunHours (A B Al Ah An H : Option Addr) (n c m d nl nh nn cl ch cn ce : Nat) (N : Net) (ll lh ln : List Int) (hs : List Hr) (w : World) (hN : NetAt w A B N) (hn : n = N.nodes.length) (hm : m = N.pipes.length) (h : BufAt w Al Ah An ll lh ln) (e1 : nl = ll.length) (e2 : nh = lh.length) (e3 : nn = ln.length) (hH : Rd w H (hs.flatMap Hr.cells)) (hat : ∀ x ∈ hs, HrAt w x) (hl : hs.length ≤ 1048576) :
    Calls Try.prog 8 #[netV A B n c m d, bufV Al Ah An nl nh nn cl ch cn, .slice H hs.length ce] w (MadeBII w (rhR N ll lh ln (hs.map Hr.q)).1 (rhR N ll lh ln (hs.map Hr.q)).2.1 (rhR N ll lh ln (hs.map Hr.q)).2.2) := by
  subst hn hm e1 e2 e3
  have HN := Lib.hid hN
  have HR := Lib.hid h
  have HHS := Lib.hid hH
  have HAT := Lib.hid hat
  clear hN h hH hat
  go_enter Try.func8, Try.ntmps8
  go_wp2_with fail
  
  refine (spec_l19Code _ _ _ _ _ _ _ _ _ _ _ _ _ _ _ N ll lh ln _ (HN.out.below (by (repeat' (first | (with_reducible exact Below.refl _ _) | (with_reducible assumption) | (with_reducible refine Below.alloc ?_ ?_ _) | (with_reducible refine Below.drew ?_) | (with_reducible refine Below.drewN' ?_ _) | (with_reducible refine Below.setCell ?_ ?_ _) | (refine Below.via ?_ (by with_reducible assumption) ?_) | (with_reducible refine Below.via ?_ (Wd.h _) ?_) | go_size)))) rfl rfl (HR.out.below (by (repeat' (first | (with_reducible exact Below.refl _ _) | (with_reducible assumption) | (with_reducible refine Below.alloc ?_ ?_ _) | (with_reducible refine Below.drew ?_) | (with_reducible refine Below.drewN' ?_ _) | (with_reducible refine Below.setCell ?_ ?_ _) | (refine Below.via ?_ (by with_reducible assumption) ?_) | (with_reducible refine Below.via ?_ (Wd.h _) ?_) | go_size)))) rfl rfl rfl).mono ?_
  rintro e w1 ⟨rfl, hb1⟩
  (obtain ⟨hcn, hfn⟩ := bcell hb1; have hz1 := hb1.size; (try simp at hz1); have Ncw0_0 := hcn (w.heap.size) (0) (by first | omega | (simp; done) | (simp; omega)); have Nfw0_0 := hfn (w.heap.size) (0) (by first | omega | (simp; done) | (simp; omega)); have Nhy0 : w.heap.size < w1.heap.size := (by omega); have Ncw0_1 := hcn (w.heap.size) (1) (by first | omega | (simp; done) | (simp; omega)); have Nfw0_1 := hfn (w.heap.size) (1) (by first | omega | (simp; done) | (simp; omega)); have Ncw1_0 := hcn (w.heap.size + 1) (0) (by first | omega | (simp; done) | (simp; omega)); have Nfw1_0 := hfn (w.heap.size + 1) (0) (by first | omega | (simp; done) | (simp; omega)); have Nhy1 : w.heap.size + 1 < w1.heap.size := (by omega); have Ncw1_1 := hcn (w.heap.size + 1) (1) (by first | omega | (simp; done) | (simp; omega)); have Nfw1_1 := hfn (w.heap.size + 1) (1) (by first | omega | (simp; done) | (simp; omega)); have Ncw1_2 := hcn (w.heap.size + 1) (2) (by first | omega | (simp; done) | (simp; omega)); have Nfw1_2 := hfn (w.heap.size + 1) (2) (by first | omega | (simp; done) | (simp; omega)); have Ncw2_0 := hcn (w.heap.size + 2) (0) (by first | omega | (simp; done) | (simp; omega)); have Nfw2_0 := hfn (w.heap.size + 2) (0) (by first | omega | (simp; done) | (simp; omega)); have Nhy2 : w.heap.size + 2 < w1.heap.size := (by omega); have Ncw2_1 := hcn (w.heap.size + 2) (1) (by first | omega | (simp; done) | (simp; omega)); have Nfw2_1 := hfn (w.heap.size + 2) (1) (by first | omega | (simp; done) | (simp; omega)); have Ncw2_2 := hcn (w.heap.size + 2) (2) (by first | omega | (simp; done) | (simp; omega)); have Nfw2_2 := hfn (w.heap.size + 2) (2) (by first | omega | (simp; done) | (simp; omega)); simp [go_sem] at Ncw0_0 Nfw0_0 Ncw0_1 Nfw0_1 Ncw1_0 Nfw1_0 Ncw1_1 Nfw1_1 Ncw1_2 Nfw1_2 Ncw2_0 Nfw2_0 Ncw2_1 Nfw2_1 Ncw2_2 Nfw2_2; clear hcn hfn; have cw0_0 := Ncw0_0; have fw0_0 := Nfw0_0; have cw0_1 := Ncw0_1; have fw0_1 := Nfw0_1; have cw1_0 := Ncw1_0; have fw1_0 := Nfw1_0; have cw1_1 := Ncw1_1; have fw1_1 := Nfw1_1; have cw1_2 := Ncw1_2; have fw1_2 := Nfw1_2; have cw2_0 := Ncw2_0; have fw2_0 := Nfw2_0; have cw2_1 := Ncw2_1; have fw2_1 := Nfw2_1; have cw2_2 := Ncw2_2; have fw2_2 := Nfw2_2; have hy0 := Nhy0; have hy1 := Nhy1; have hy2 := Nhy2; clear Ncw0_0 Nfw0_0 Ncw0_1 Nfw0_1 Ncw1_0 Nfw1_0 Ncw1_1 Nfw1_1 Ncw1_2 Nfw1_2 Ncw2_0 Nfw2_0 Ncw2_1 Nfw2_1 Ncw2_2 Nfw2_2 Nhy0 Nhy1 Nhy2)
  have X0 := Lib.hid (show Bx w1 w.heap.size [.slice A N.nodes.length c, .slice B N.pipes.length d] from (bx2 (by first | exact hy0 | go_size) (by first | (with_reducible exact cw0_0) | go_cell_look | (simp [go_sem, hy0, cw0_0, fw0_0, cw0_1, fw0_1]; done) | (simp [go_sem]; done)) (by first | (with_reducible exact fw0_0) | (simp only [World.frozen?_setCell, fw0_0]; done) | (simp [go_sem, hy0, cw0_0, fw0_0, cw0_1, fw0_1]; done) | (simp [go_sem]; done)) (by first | (with_reducible exact cw0_1) | go_cell_look | (simp [go_sem, hy0, cw0_0, fw0_0, cw0_1, fw0_1]; done) | (simp [go_sem]; done)) (by first | (with_reducible exact fw0_1) | (simp only [World.frozen?_setCell, fw0_1]; done) | (simp [go_sem, hy0, cw0_0, fw0_0, cw0_1, fw0_1]; done) | (simp [go_sem]; done))))
  have X1 := Lib.hid (show Bx w1 (w.heap.size + 1) [.slice Al ll.length cl, .slice Ah lh.length ch, .slice An ln.length cn] from (bx3 (by first | exact hy1 | go_size) (by first | (with_reducible exact cw1_0) | go_cell_look | (simp [go_sem, hy1, cw1_0, fw1_0, cw1_1, fw1_1, cw1_2, fw1_2]; done) | (simp [go_sem]; done)) (by first | (with_reducible exact fw1_0) | (simp only [World.frozen?_setCell, fw1_0]; done) | (simp [go_sem, hy1, cw1_0, fw1_0, cw1_1, fw1_1, cw1_2, fw1_2]; done) | (simp [go_sem]; done)) (by first | (with_reducible exact cw1_1) | go_cell_look | (simp [go_sem, hy1, cw1_0, fw1_0, cw1_1, fw1_1, cw1_2, fw1_2]; done) | (simp [go_sem]; done)) (by first | (with_reducible exact fw1_1) | (simp only [World.frozen?_setCell, fw1_1]; done) | (simp [go_sem, hy1, cw1_0, fw1_0, cw1_1, fw1_1, cw1_2, fw1_2]; done) | (simp [go_sem]; done)) (by first | (with_reducible exact cw1_2) | go_cell_look | (simp [go_sem, hy1, cw1_0, fw1_0, cw1_1, fw1_1, cw1_2, fw1_2]; done) | (simp [go_sem]; done)) (by first | (with_reducible exact fw1_2) | (simp only [World.frozen?_setCell, fw1_2]; done) | (simp [go_sem, hy1, cw1_0, fw1_0, cw1_1, fw1_1, cw1_2, fw1_2]; done) | (simp [go_sem]; done))))
  have X2 := Lib.hid (show Bx w1 (w.heap.size + 2) [.slice none 0 0, .slice none 0 0, .slice none 0 0] from (bx3 (by first | exact hy2 | go_size) (by first | (with_reducible exact cw2_0) | go_cell_look | (simp [go_sem, hy2, cw2_0, fw2_0, cw2_1, fw2_1, cw2_2, fw2_2]; done) | (simp [go_sem]; done)) (by first | (with_reducible exact fw2_0) | (simp only [World.frozen?_setCell, fw2_0]; done) | (simp [go_sem, hy2, cw2_0, fw2_0, cw2_1, fw2_1, cw2_2, fw2_2]; done) | (simp [go_sem]; done)) (by first | (with_reducible exact cw2_1) | go_cell_look | (simp [go_sem, hy2, cw2_0, fw2_0, cw2_1, fw2_1, cw2_2, fw2_2]; done) | (simp [go_sem]; done)) (by first | (with_reducible exact fw2_1) | (simp only [World.frozen?_setCell, fw2_1]; done) | (simp [go_sem, hy2, cw2_0, fw2_0, cw2_1, fw2_1, cw2_2, fw2_2]; done) | (simp [go_sem]; done)) (by first | (with_reducible exact cw2_2) | go_cell_look | (simp [go_sem, hy2, cw2_0, fw2_0, cw2_1, fw2_1, cw2_2, fw2_2]; done) | (simp [go_sem]; done)) (by first | (with_reducible exact fw2_2) | (simp only [World.frozen?_setCell, fw2_2]; done) | (simp [go_sem, hy2, cw2_0, fw2_0, cw2_1, fw2_1, cw2_2, fw2_2]; done) | (simp [go_sem]; done))))
  have HB1 := Lib.hid (show Below w.heap.size w w1 by (repeat' (first | (with_reducible exact Below.refl _ _) | (with_reducible assumption) | (with_reducible refine Below.alloc ?_ ?_ _) | (with_reducible refine Below.drew ?_) | (with_reducible refine Below.drewN' ?_ _) | (with_reducible refine Below.setCell ?_ ?_ _) | (refine Below.via ?_ (by with_reducible assumption) ?_) | (with_reducible refine Below.via ?_ (Wd.h _) ?_) | go_size)))
  clear hy0 cw0_0 fw0_0 cw0_1 fw0_1
  clear hy1 cw1_0 fw1_0 cw1_1 fw1_1 cw1_2 fw1_2
  clear hy2 cw2_0 fw2_0 cw2_1 fw2_1 cw2_2 fw2_2
  clear hb1
  obtain ⟨z0, hz0⟩ : ∃ z0, bufC N ll lh ln = z0 := ⟨_, rfl⟩
  rw [hz0]
  by_cases h0 : z0 = 0
  · subst h0
    have HBK := Lib.hid (bufC_of hz0)
    have HZ := Lib.hid hz0
    clear hz0
    by_cases h48 : 48 < hs.length
    · have HRR := Lib.hid (show rhR N ll lh ln (hs.map Hr.q) = (⟨[], [], []⟩, 0, 5) from rhR_code (rhC_5 HZ.out (by simpa using h48)) (by decide))
      have g0 : (48 : Int) < hs.length := by omega
      go_wp2_with fail
      go_loopw [9, 10] (fun u v wr => u = .int .i64 (5) ∧ v = .int .i64 0 ∧ Bx wr w.heap.size [.slice A N.nodes.length c, .slice B N.pipes.length d] ∧ Bx wr (w.heap.size + 1) [.slice Al ll.length cl, .slice Ah lh.length ch, .slice An ln.length cn] ∧ Bx wr (w.heap.size + 2) [.slice none 0 0, .slice none 0 0, .slice none 0 0] ∧ Below w.heap.size w wr) (fun _ _ _ => 0)
      case atStart => exact ⟨rfl, rfl, X0.out, X1.out, X2.out, HB1.out⟩
      case round =>
        clear X0 X1
        obtain ⟨rfl, rfl, y0, y1, y2, hbw⟩ := hrel
        have hy2 := y2.lt; have cw2_0 := y2.cell 0 rfl; have fw2_0 := y2.frozen 0 rfl; have cw2_1 := y2.cell 1 rfl; have fw2_1 := y2.frozen 1 rfl; have cw2_2 := y2.cell 2 rfl; have fw2_2 := y2.frozen 2 rfl
        have hbH := Lib.hid hbw
        clear y0 y1 y2 hbw
        by_cases hlt : 0 < hs.length
        · have g1 : (0 : Int) < hs.length := by omega
          go_wp2
          refine bodyPost_ret (by simp [results, Try.results8, go_sem, hy2, fw2_0, fw2_1, fw2_2, cw2_0, cw2_1, cw2_2]; try rfl) rfl ?_
          rw [HRR.out]
          exact ⟨none, none, none, 0, 0, 0, rfl, BufW.nil _ _, by have h1 := hbH.out; (repeat' (first | (with_reducible exact Below.refl _ _) | (with_reducible assumption) | (with_reducible refine Below.alloc ?_ ?_ _) | (with_reducible refine Below.drew ?_) | (with_reducible refine Below.drewN' ?_ _) | (with_reducible refine Below.setCell ?_ ?_ _) | (refine Below.via ?_ (by with_reducible assumption) ?_) | (with_reducible refine Below.via ?_ (Wd.h _) ?_) | go_size))⟩
        · exfalso; omega
    · have g0 : ¬ (48 : Int) < hs.length := by omega
      have HCD := Lib.hid (show cdF N.pipes.length N.nodes.length hs 0 0 = rhC N ll lh ln (hs.map Hr.q) by rw [rhC_q HZ.out (by simpa using h48), qsB_hrs]; rfl)
      go_wp2_with fail
      go_loopw [9, 10] (fun u v wr => ∃ (k : Nat) (z : Int), k ≤ hs.length ∧ v = .int .i64 k ∧ u = .int .i64 z ∧ (z = 0 ∨ z = 2) ∧ cdF N.pipes.length N.nodes.length hs z k = rhC N ll lh ln (hs.map Hr.q) ∧ Bx wr w.heap.size [.slice A N.nodes.length c, .slice B N.pipes.length d] ∧ Bx wr (w.heap.size + 1) [.slice Al ll.length cl, .slice Ah lh.length ch, .slice An ln.length cn] ∧ Bx wr (w.heap.size + 2) [.slice none 0 0, .slice none 0 0, .slice none 0 0] ∧ Below w.heap.size w wr) (fun _ v _ => hs.length - (intOf v).toNat)
      case atStart => exact ⟨0, 0, by omega, rfl, rfl, .inl rfl, HCD.out, X0.out, X1.out, X2.out, HB1.out⟩
      case round =>
        clear X0 X1 X2 HCD HB1
        obtain ⟨k, z, hk, rfl, rfl, hz2, hcd, y0, y1, y2, hbw⟩ := hrel
        have hbH := Lib.hid hbw
        have Y0 := Lib.hid y0
        have Y1 := Lib.hid y1
        have Y2 := Lib.hid y2
        have HCD := Lib.hid hcd
        have hzw := hbw.size
        have hyr := y2.lt
        clear y0 y1 y2 hcd
        rcases hz2 with rfl | rfl
        · by_cases hlt : k < hs.length
          · have g1 : (k : Int) < hs.length := by omega
            obtain ⟨x, hx⟩ := get_some hlt; obtain ⟨bx, offx, rfl, hbx, hat⟩ := HHS.out.opened (k := k) (by rw [flat_len Hr.len]; omega); have hat' := hat.below hbw hbx; have hybx : bx < wr.heap.size := Nat.lt_of_lt_of_le hbx hbw.size; have hzw := hbw.size; have q0 := Wd.cell hybx (hat'.elem0 Hr.len hx rfl); have q1 := Wd.cell hybx (hat'.elem Hr.len hx 1 rfl); have HX := Lib.hid hx; have HD := Lib.hid (drop_cons hx); have gx : (k : Int) < _ := Int.ofNat_lt.2 hlt; clear hx hat hat'
            have HAX := Lib.hid ((HAT.out x (List.mem_of_getElem? HX.out)).below hbw)
            have HST := Lib.hid (cdF_step (m := N.pipes.length) (n := N.nodes.length) HX.out)
            obtain ⟨zx, hzx⟩ : ∃ zx, hrC N ll lh ln x = zx := ⟨_, rfl⟩
            have HZX := Lib.hid hzx
            have HZX2 := Lib.hid ((hrC_0 (x := x) HZ.out).symm.trans hzx)
            have HNW := Lib.hid (HN.out.below hbw)
            have HRW := Lib.hid (HR.out.below hbw)
            have r0 := Wd.cell (Y0.out.lt) (Y0.out.cell 0 rfl)
            have r1 := Wd.cell (Y0.out.lt) (Y0.out.cell 1 rfl)
            have r2 := Wd.cell (Y1.out.lt) (Y1.out.cell 0 rfl)
            have r3 := Wd.cell (Y1.out.lt) (Y1.out.cell 1 rfl)
            have r4 := Wd.cell (Y1.out.lt) (Y1.out.cell 2 rfl)
            clear hzx hbw
            go_wp2_with fail
            refine wp_region_wd (by kernel_rfl) (by kernel_rfl) ?_
            repeat (go_big_quiet_step ((go_at_call 31; exact wd_below (v := .int .i64 zx) (by rw [← HZX.out]; exact spec_l19Hour _ _ _ _ _ _ _ _ _ _ _ _ _ _ _ N ll lh ln x _ (HNW.out.below (Wd.h _)) rfl rfl (HRW.out.below (Wd.h _)) rfl rfl rfl (HAX.out.below (Wd.h _))))))
            refine wpQuiet_nil ?_
            rintro w2 ⟨⟨w'', hbn⟩, hw''⟩
            obtain rfl : w2 = w'' := hw''
            clear r0 r1 r2 r3 r4 q0 q1
            go_wp2
            go_roundw
            case rel =>
              refine ⟨k + 1, zx, by omega, by go_num, rfl, ?_, ?_, Y0.out.below hbn (by omega), Y1.out.below hbn (by omega), Y2.out.below hbn (by omega), hbH.out.trans (hbn.mono hzw)⟩
              · rw [← HZX2.out]; split
                · exact .inr rfl
                · exact .inl rfl
              · rw [← HCD.out, HST.out, HZX2.out]
            case measure => simp [intOf]; omega
          · have g1 : ¬ (k : Int) < hs.length := by omega
            have hrc0 : rhC N ll lh ln (hs.map Hr.q) = 0 := by rw [← HCD.out]; exact cdF_end hlt
            obtain ⟨tot, htot⟩ : ∃ tot, tot = rhGo N (hs.map Hr.q) 0 ⟨ll, lh, ln⟩ := ⟨_, rfl⟩
            have HRR := Lib.hid (show rhR N ll lh ln (hs.map Hr.q) = (tot.1, (tot.2 : Int), 0) by rw [htot]; exact rhR_zero hrc0)
            have HTOT := Lib.hid htot
            have HF := Lib.hid (show hrsF N.pipes.length N.nodes.length hs = true by have := (rhC_of hrc0).2.2; rwa [qsB_hrs] at this)
            have h24 := HBK.out.1.n2
            have l1 := HBK.out.2.l1
            have l2 := HBK.out.2.l2
            have l3 := HBK.out.2.l3
            have hn1 := HBK.out.1.n1
            obtain ⟨aL, rfl⟩ := rd_some HR.out.r1 (by intro e; have := congrArg List.length e; simp at this; simp [this] at l1; omega)
            obtain ⟨aH, rfl⟩ := rd_some HR.out.r2 (by intro e; have := congrArg List.length e; simp at this; simp [this] at l2; omega)
            obtain ⟨aN, rfl⟩ := rd_some HR.out.r3 (by intro e; have := congrArg List.length e; simp at this; simp [this] at l3; omega)
            have k1 : 0 < ll.length ∧ ll.length ≤ 24 := by omega
            have k2 : 0 < lh.length ∧ lh.length ≤ 24 := by omega
            have k3 : 0 < ln.length ∧ ln.length ≤ 24 := by omega
            have HR1 := Lib.hid (HR.out.r1.below hbw)
            have HR2 := Lib.hid (HR.out.r2.below hbw)
            have HR3 := Lib.hid (HR.out.r3.below hbw)
            have hy1 := Y1.out.lt
            clear hrc0 htot hbw l1 l2 l3
            go_wp2_with fail
            refine wp_region_tb (R := Rz) [some 46, some 47, some 48, some 49, some 50, some 51, some 52, some 53, some 54, some 55, some 56, some 57, some 58, some 11, none] _ (by intro u; simp only [frs, Act.put, List.setIfInBounds_toArray, List.set_cons_zero, List.set_cons_succ, Nat.reduceAdd]; exact rfl) (fun ρ j => ([.slice (ρ.a 10) 0 0, .pointer (some ⟨w.heap.size + 1, 0, none⟩), .slice (some aL) ll.length cl, .slice (ρ.a 0) ll.length (ρ.c 0), .slice (ρ.a 11) 0 0, .pointer (some ⟨w.heap.size + 1, 1, none⟩), .slice (some aH) lh.length ch, .slice (ρ.a 1) lh.length (ρ.c 1), .slice (ρ.a 12) 0 0, .pointer (some ⟨w.heap.size + 1, 2, none⟩), .slice (some aN) ln.length cn, .slice (ρ.a 2) ln.length (ρ.c 2), .agg #[.slice (ρ.a 0) ll.length (ρ.c 0), .slice (ρ.a 1) lh.length (ρ.c 1), .slice (ρ.a 2) ln.length (ρ.c 2)], .pointer (some ⟨ρ.b, 0, none⟩), undef] : List Value).getD j undef) (WB wr [(3, 0, ll), (7, 1, lh), (11, 2, ln)] 13 14 [.slice none 0 0, .slice none 0 0, .slice none 0 0] (fun ρ => [.slice (ρ.a 0) ll.length (ρ.c 0), .slice (ρ.a 1) lh.length (ρ.c 1), .slice (ρ.a 2) ln.length (ρ.c 2)])) (by kernel_rfl) (by kernel_rfl) Rz.zero (WB.start (Below.drew (Below.refl _ _))) ?_ ?_
            · intro ii hii L ρ u wx hl hp hc hu hn hW
              have hii : ii < 15 := hii
              have HNo := Lib.hid hn
              clear hn
              have z1 := Y1.out.below hW.bl hy1
              have z10 := z1.cell 0 rfl
              have z11 := z1.cell 1 rfl
              have z12 := z1.cell 2 rfl
              have hii : ii = 0 ∨ ii = 1 ∨ ii = 2 ∨ ii = 3 ∨ ii = 4 ∨ ii = 5 ∨ ii = 6 ∨ ii = 7 ∨ ii = 8 ∨ ii = 9 ∨ ii = 10 ∨ ii = 11 ∨ ii = 12 ∨ ii = 13 ∨ ii = 14 := by omega
              rcases hii with rfl | rfl | rfl | rfl | rfl | rfl | rfl | rfl | rfl | rfl | rfl | rfl | rfl | rfl | rfl
              · refine wpOp_go (E := True) rfl rfl (fun K' hK => ?_)
                go_simp
                refine hK.out _ _ ⟨ρ.list 10 (some ⟨wx.heap.size, 0, none⟩) 0, (by simp only [put]; rfl), fun j hj => by
                    have n3 : L 3 = false := no_later hc hl (by kernel_rfl)
                    have n12 : L 12 = false := no_later hc n3 (by kernel_rfl)
                    have n14 : L 14 = false := no_later hc n12 (by kernel_rfl)
                    match j, hj with
                    | 0, hj => rw [hl] at hj; cases hj
                    | 1, _ => rfl
                    | 2, _ => rfl
                    | 3, hj => rw [n3] at hj; cases hj
                    | 4, _ => rfl
                    | 5, _ => rfl
                    | 6, _ => rfl
                    | 7, _ => rfl
                    | 8, _ => rfl
                    | 9, _ => rfl
                    | 10, _ => rfl
                    | 11, _ => rfl
                    | 12, hj => rw [n12] at hj; cases hj
                    | 13, _ => rfl
                    | 14, hj => rw [n14] at hj; cases hj
                    | _ + 15, _ => rfl, hW.empty rfl (by omega) (by omega) rfl rfl (by (repeat' (first | (with_reducible exact Below.refl _ _) | (with_reducible assumption) | (with_reducible refine Below.alloc ?_ ?_ _) | (with_reducible refine Below.drew ?_) | (with_reducible refine Below.drewN' ?_ _) | (with_reducible refine Below.setCell ?_ ?_ _) | (refine Below.via ?_ (by with_reducible assumption) ?_) | (with_reducible refine Below.via ?_ (Wd.h _) ?_) | go_size)))⟩
              · refine wpOp_go (E := True) rfl rfl (fun K' hK => ?_)
                go_simp
                refine hK.out _ _ ⟨ρ, (by simp only [put]; rfl), fun _ _ => rfl, hW.pure rfl (by omega) (by omega)⟩
              · have e1 : u 1 = .pointer (some ⟨w.heap.size + 1, 0, none⟩) := hu 1 (all_of hp (by kernel_rfl))
                refine wpOp_go (E := True) rfl rfl (fun K' hK => ?_)
                go_simp
                refine hK.out _ _ ⟨ρ, (by simp only [put, e1]; rfl), fun _ _ => rfl, hW.pure rfl (by omega) (by omega)⟩
              · have e0 : u 0 = .slice (ρ.a 10) 0 0 := hu 0 (all_of hp (by kernel_rfl))
                have e2 : u 2 = .slice (some aL) ll.length cl := hu 2 (all_of hp (by kernel_rfl))
                have nks : L 14 = false := no_later hc hl (by kernel_rfl)
                refine wpOp_go (E := True) rfl rfl (fun K' hK => ?_)
                refine app0 rfl (.tmp 46) (.tmp 48) 28 rfl info_i64 Try.underlying28 rfl (by omega) (by omega) (ρ.a 10) e0 aL ll.length cl (ll.map iV) e2 (by simp) (HR1.out.below hW.bl) (iV_one ll) (by omega) (by omega) ?_
                intro v1 w4 hO1 hb4
                obtain ⟨G1, c1, rfl, hc1, hW1⟩ := hO1.lt_
                rw [Nat.mul_one] at hW1
                refine hK.out _ _ ⟨ρ.list 0 G1 c1, (by simp only [put, e0, e2]; rfl), fun j hj => by
                    have n12 : L 12 = false := no_later hc hl (by kernel_rfl)
                    have n14 : L 14 = false := no_later hc n12 (by kernel_rfl)
                    match j, hj with
                    | 0, _ => rfl
                    | 1, _ => rfl
                    | 2, _ => rfl
                    | 3, hj => rw [hl] at hj; cases hj
                    | 4, _ => rfl
                    | 5, _ => rfl
                    | 6, _ => rfl
                    | 7, _ => rfl
                    | 8, _ => rfl
                    | 9, _ => rfl
                    | 10, _ => rfl
                    | 11, _ => rfl
                    | 12, hj => rw [n12] at hj; cases hj
                    | 13, _ => rfl
                    | 14, hj => rw [n14] at hj; cases hj
                    | _ + 15, _ => rfl, hW.one (by omega) (by omega) nks hb4 hW1 (by intro i' j' l' hm hne; simp at hm; rcases hm with ⟨rfl, rfl, rfl⟩ | ⟨rfl, rfl, rfl⟩ | ⟨rfl, rfl, rfl⟩ <;> omega) (by intro j' l' hm; simpa using hm)⟩
              · refine wpOp_go (E := True) rfl rfl (fun K' hK => ?_)
                go_simp
                refine hK.out _ _ ⟨ρ.list 11 (some ⟨wx.heap.size, 0, none⟩) 0, (by simp only [put]; rfl), fun j hj => by
                    have n7 : L 7 = false := no_later hc hl (by kernel_rfl)
                    have n12 : L 12 = false := no_later hc n7 (by kernel_rfl)
                    have n14 : L 14 = false := no_later hc n12 (by kernel_rfl)
                    match j, hj with
                    | 0, _ => rfl
                    | 1, _ => rfl
                    | 2, _ => rfl
                    | 3, _ => rfl
                    | 4, hj => rw [hl] at hj; cases hj
                    | 5, _ => rfl
                    | 6, _ => rfl
                    | 7, hj => rw [n7] at hj; cases hj
                    | 8, _ => rfl
                    | 9, _ => rfl
                    | 10, _ => rfl
                    | 11, _ => rfl
                    | 12, hj => rw [n12] at hj; cases hj
                    | 13, _ => rfl
                    | 14, hj => rw [n14] at hj; cases hj
                    | _ + 15, _ => rfl, hW.empty rfl (by omega) (by omega) rfl rfl (by (repeat' (first | (with_reducible exact Below.refl _ _) | (with_reducible assumption) | (with_reducible refine Below.alloc ?_ ?_ _) | (with_reducible refine Below.drew ?_) | (with_reducible refine Below.drewN' ?_ _) | (with_reducible refine Below.setCell ?_ ?_ _) | (refine Below.via ?_ (by with_reducible assumption) ?_) | (with_reducible refine Below.via ?_ (Wd.h _) ?_) | go_size)))⟩
              · refine wpOp_go (E := True) rfl rfl (fun K' hK => ?_)
                go_simp
                refine hK.out _ _ ⟨ρ, (by simp only [put]; rfl), fun _ _ => rfl, hW.pure rfl (by omega) (by omega)⟩
              · have e5 : u 5 = .pointer (some ⟨w.heap.size + 1, 1, none⟩) := hu 5 (all_of hp (by kernel_rfl))
                refine wpOp_go (E := True) rfl rfl (fun K' hK => ?_)
                go_simp
                refine hK.out _ _ ⟨ρ, (by simp only [put, e5]; rfl), fun _ _ => rfl, hW.pure rfl (by omega) (by omega)⟩
              · have e4 : u 4 = .slice (ρ.a 11) 0 0 := hu 4 (all_of hp (by kernel_rfl))
                have e6 : u 6 = .slice (some aH) lh.length ch := hu 6 (all_of hp (by kernel_rfl))
                have nks : L 14 = false := no_later hc hl (by kernel_rfl)
                refine wpOp_go (E := True) rfl rfl (fun K' hK => ?_)
                refine app0 rfl (.tmp 50) (.tmp 52) 28 rfl info_i64 Try.underlying28 rfl (by omega) (by omega) (ρ.a 11) e4 aH lh.length ch (lh.map iV) e6 (by simp) (HR2.out.below hW.bl) (iV_one lh) (by omega) (by omega) ?_
                intro v1 w4 hO1 hb4
                obtain ⟨G1, c1, rfl, hc1, hW1⟩ := hO1.lt_
                rw [Nat.mul_one] at hW1
                refine hK.out _ _ ⟨ρ.list 1 G1 c1, (by simp only [put, e4, e6]; rfl), fun j hj => by
                    have n12 : L 12 = false := no_later hc hl (by kernel_rfl)
                    have n14 : L 14 = false := no_later hc n12 (by kernel_rfl)
                    match j, hj with
                    | 0, _ => rfl
                    | 1, _ => rfl
                    | 2, _ => rfl
                    | 3, _ => rfl
                    | 4, _ => rfl
                    | 5, _ => rfl
                    | 6, _ => rfl
                    | 7, hj => rw [hl] at hj; cases hj
                    | 8, _ => rfl
                    | 9, _ => rfl
                    | 10, _ => rfl
                    | 11, _ => rfl
                    | 12, hj => rw [n12] at hj; cases hj
                    | 13, _ => rfl
                    | 14, hj => rw [n14] at hj; cases hj
                    | _ + 15, _ => rfl, hW.one (by omega) (by omega) nks hb4 hW1 (by intro i' j' l' hm hne; simp at hm; rcases hm with ⟨rfl, rfl, rfl⟩ | ⟨rfl, rfl, rfl⟩ | ⟨rfl, rfl, rfl⟩ <;> omega) (by intro j' l' hm; simpa using hm)⟩
              · refine wpOp_go (E := True) rfl rfl (fun K' hK => ?_)
                go_simp
                refine hK.out _ _ ⟨ρ.list 12 (some ⟨wx.heap.size, 0, none⟩) 0, (by simp only [put]; rfl), fun j hj => by
                    have n11 : L 11 = false := no_later hc hl (by kernel_rfl)
                    have n12 : L 12 = false := no_later hc n11 (by kernel_rfl)
                    have n14 : L 14 = false := no_later hc n12 (by kernel_rfl)
                    match j, hj with
                    | 0, _ => rfl
                    | 1, _ => rfl
                    | 2, _ => rfl
                    | 3, _ => rfl
                    | 4, _ => rfl
                    | 5, _ => rfl
                    | 6, _ => rfl
                    | 7, _ => rfl
                    | 8, hj => rw [hl] at hj; cases hj
                    | 9, _ => rfl
                    | 10, _ => rfl
                    | 11, hj => rw [n11] at hj; cases hj
                    | 12, hj => rw [n12] at hj; cases hj
                    | 13, _ => rfl
                    | 14, hj => rw [n14] at hj; cases hj
                    | _ + 15, _ => rfl, hW.empty rfl (by omega) (by omega) rfl rfl (by (repeat' (first | (with_reducible exact Below.refl _ _) | (with_reducible assumption) | (with_reducible refine Below.alloc ?_ ?_ _) | (with_reducible refine Below.drew ?_) | (with_reducible refine Below.drewN' ?_ _) | (with_reducible refine Below.setCell ?_ ?_ _) | (refine Below.via ?_ (by with_reducible assumption) ?_) | (with_reducible refine Below.via ?_ (Wd.h _) ?_) | go_size)))⟩
              · refine wpOp_go (E := True) rfl rfl (fun K' hK => ?_)
                go_simp
                refine hK.out _ _ ⟨ρ, (by simp only [put]; rfl), fun _ _ => rfl, hW.pure rfl (by omega) (by omega)⟩
              · have e9 : u 9 = .pointer (some ⟨w.heap.size + 1, 2, none⟩) := hu 9 (all_of hp (by kernel_rfl))
                refine wpOp_go (E := True) rfl rfl (fun K' hK => ?_)
                go_simp
                refine hK.out _ _ ⟨ρ, (by simp only [put, e9]; rfl), fun _ _ => rfl, hW.pure rfl (by omega) (by omega)⟩
              · have e8 : u 8 = .slice (ρ.a 12) 0 0 := hu 8 (all_of hp (by kernel_rfl))
                have e10 : u 10 = .slice (some aN) ln.length cn := hu 10 (all_of hp (by kernel_rfl))
                have nks : L 14 = false := no_later hc hl (by kernel_rfl)
                refine wpOp_go (E := True) rfl rfl (fun K' hK => ?_)
                refine app0 rfl (.tmp 54) (.tmp 56) 28 rfl info_i64 Try.underlying28 rfl (by omega) (by omega) (ρ.a 12) e8 aN ln.length cn (ln.map iV) e10 (by simp) (HR3.out.below hW.bl) (iV_one ln) (by omega) (by omega) ?_
                intro v1 w4 hO1 hb4
                obtain ⟨G1, c1, rfl, hc1, hW1⟩ := hO1.lt_
                rw [Nat.mul_one] at hW1
                refine hK.out _ _ ⟨ρ.list 2 G1 c1, (by simp only [put, e8, e10]; rfl), fun j hj => by
                    have n12 : L 12 = false := no_later hc hl (by kernel_rfl)
                    have n14 : L 14 = false := no_later hc n12 (by kernel_rfl)
                    match j, hj with
                    | 0, _ => rfl
                    | 1, _ => rfl
                    | 2, _ => rfl
                    | 3, _ => rfl
                    | 4, _ => rfl
                    | 5, _ => rfl
                    | 6, _ => rfl
                    | 7, _ => rfl
                    | 8, _ => rfl
                    | 9, _ => rfl
                    | 10, _ => rfl
                    | 11, hj => rw [hl] at hj; cases hj
                    | 12, hj => rw [n12] at hj; cases hj
                    | 13, _ => rfl
                    | 14, hj => rw [n14] at hj; cases hj
                    | _ + 15, _ => rfl, hW.one (by omega) (by omega) nks hb4 hW1 (by intro i' j' l' hm hne; simp at hm; rcases hm with ⟨rfl, rfl, rfl⟩ | ⟨rfl, rfl, rfl⟩ | ⟨rfl, rfl, rfl⟩ <;> omega) (by intro j' l' hm; simpa using hm)⟩
              · have e3 : u 3 = .slice (ρ.a 0) ll.length (ρ.c 0) := hu 3 (all_of hp (by kernel_rfl))
                have e7 : u 7 = .slice (ρ.a 1) lh.length (ρ.c 1) := hu 7 (all_of hp (by kernel_rfl))
                have e11 : u 11 = .slice (ρ.a 2) ln.length (ρ.c 2) := hu 11 (all_of hp (by kernel_rfl))
                refine wpOp_go (E := True) rfl rfl (fun K' hK => ?_)
                go_simp
                refine hK.out _ _ ⟨ρ, (by simp only [put, e3, e7, e11]; rfl), fun _ _ => rfl, hW.pure rfl (by omega) (by omega)⟩
              · have nks : L 14 = false := no_later hc hl (by kernel_rfl)
                refine wpOp_go (E := True) rfl rfl (fun K' hK => ?_)
                go_simp
                generalize hW5 : World.alloc wx _ = w5
                have hb5 : Below wx.heap.size wx w5 := by rw [← hW5]; (repeat' (first | (with_reducible exact Below.refl _ _) | (with_reducible assumption) | (with_reducible refine Below.alloc ?_ ?_ _) | (with_reducible refine Below.drew ?_) | (with_reducible refine Below.drewN' ?_ _) | (with_reducible refine Below.setCell ?_ ?_ _) | (refine Below.via ?_ (by with_reducible assumption) ?_) | (with_reducible refine Below.via ?_ (Wd.h _) ?_) | go_size))
                have hx5 : Bx w5 wx.heap.size [.slice none 0 0, .slice none 0 0, .slice none 0 0] := by rw [← hW5]; exact bx3 (by simp) (by simp) (by simp) (by simp) (by simp) (by simp) (by simp)
                clear hW5
                refine hK.out _ _ ⟨ρ.box wx.heap.size, (by simp only [put]; rfl), fun j hj => by
                    have n14 : L 14 = false := no_later hc hl (by kernel_rfl)
                    match j, hj with
                    | 0, _ => rfl
                    | 1, _ => rfl
                    | 2, _ => rfl
                    | 3, _ => rfl
                    | 4, _ => rfl
                    | 5, _ => rfl
                    | 6, _ => rfl
                    | 7, _ => rfl
                    | 8, _ => rfl
                    | 9, _ => rfl
                    | 10, _ => rfl
                    | 11, _ => rfl
                    | 12, _ => rfl
                    | 13, hj => rw [hl] at hj; cases hj
                    | 14, hj => rw [n14] at hj; cases hj
                    | _ + 15, _ => rfl, hW.boxed rfl (by omega) nks hb5 hx5⟩
              · have e13 : u 13 = .pointer (some ⟨ρ.b, 0, none⟩) := hu 13 (all_of hp (by kernel_rfl))
                have e12 : u 12 = .agg #[.slice (ρ.a 0) ll.length (ρ.c 0), .slice (ρ.a 1) lh.length (ρ.c 1), .slice (ρ.a 2) ln.length (ρ.c 2)] := hu 12 (all_of hp (by kernel_rfl))
                have hL13 := all_of hp (show (before _ 14).contains 13 = true by kernel_rfl)
                have hq := hW.b1 hL13 hl
                have hq0 := hq.cell 0 rfl
                have hq1 := hq.cell 1 rfl
                have hq2 := hq.cell 2 rfl
                have hf0 := hq.frozen 0 rfl
                have hf1 := hq.frozen 1 rfl
                have hf2 := hq.frozen 2 rfl
                refine wpOp_go (E := True) rfl rfl (fun K' hK => ?_)
                go_simp
                refine hK.out _ _ ⟨ρ, (by simp only [put, e13, e12]; rfl), fun _ _ => rfl, hW.store rfl (by omega) hL13 (keep3 _ _ _) (bx_fill3 hq _ _ _)⟩
            · intro L ρ u wx hall hu hW
              have e13 : u 13 = .pointer (some ⟨ρ.b, 0, none⟩) := hu 13 (by show 13 < 15; omega)
              rw [e13]
              have hL (i : Nat) (hi : i < 15) : L i = true := hall i hi
              obtain ⟨ga, gb, gc⟩ := hW.b0 (hL 13 (by omega))
              have hbx := hW.b2 (hL 14 (by omega))
              have HWS := Lib.hid (show BufW wr.heap.size wx (ρ.a 0) (ρ.a 1) (ρ.a 2) ll lh ln from ⟨hW.md 3 0 ll (by simp) (hL 3 (by omega)), hW.md 7 1 lh (by simp) (hL 7 (by omega)), hW.md 11 2 ln (by simp) (hL 11 (by omega)), hW.ds 3 0 ll 7 1 lh (by simp) (by simp) (hL 3 (by omega)) (hL 7 (by omega)) (by omega), hW.ds 3 0 ll 11 2 ln (by simp) (by simp) (hL 3 (by omega)) (hL 11 (by omega)) (by omega), hW.ds 7 1 lh 11 2 ln (by simp) (by simp) (hL 7 (by omega)) (hL 11 (by omega)) (by omega)⟩)
              have HOF := Lib.hid (show Off ρ.b (ρ.a 0) (ρ.a 1) (ρ.a 2) from ⟨fun q hq e => gc 3 0 ll (by simp) (hL 3 (by omega)) (e ▸ hq), fun q hq e => gc 7 1 lh (by simp) (hL 7 (by omega)) (e ▸ hq), fun q hq e => gc 11 2 ln (by simp) (hL 11 (by omega)) (e ▸ hq)⟩)
              have HBX := Lib.hid hbx
              have HBW := Lib.hid hW.bl
              have X0 := Lib.hid (Y0.out.below hW.bl Y0.out.lt)
              have X2 := Lib.hid (Y2.out.below hW.bl Y2.out.lt)
              have HWX := Lib.hid (hbH.out.trans (hW.bl.mono hzw))
              have hG : w.heap.size + 2 < ρ.b := by omega
              clear hu hall hW e13 hL gc hbx
              generalize ρ.b = G at *
              generalize ρ.a 0 = G1 at *
              generalize ρ.a 1 = G2 at *
              generalize ρ.a 2 = G3 at *
              generalize ρ.c 0 = g1' at *
              generalize ρ.c 1 = g2' at *
              generalize ρ.c 2 = g3' at *
              go_wp2_with fail
              go_loopw [12] (fun v wv => ∃ k b A1 A2 A3 c1 c2 c3, v = .int .i64 (k : Nat) ∧ RhI (w.heap.size + 3) G N (hs.map Hr.q) tot k b A1 A2 A3 c1 c2 c3 wv ∧ Bx wv w.heap.size [.slice A N.nodes.length c, .slice B N.pipes.length d] ∧ Bx wv (w.heap.size + 2) [.slice none 0 0, .slice none 0 0, .slice none 0 0] ∧ Below w.heap.size w wv) (fun v _ => hs.length - (intOf v).toNat)
              case atStart => exact ⟨0, ⟨ll, lh, ln⟩, G1, G2, G3, g1', g2', g3', rfl, ⟨by omega, by rw [HTOT.out]; rfl, HWS.out.lower (by omega), HBK.out.2, HOF.out, HBX.out⟩, X0.out, X2.out, HWX.out⟩
              case round =>
                clear X0 X2 HWS HOF HBX HBW HWX Y0 Y1 Y2 hbH HCD hzw hyr hlt hk g1
                obtain ⟨k, b, A1, A2, A3, c1, c2, c3, rfl, hI, y0, y2, hbw⟩ := hrel
                have HI := Lib.hid hI
                have hbH := Lib.hid hbw
                have hzw := hbw.size
                have hk : k ≤ hs.length := by have := hI.le; simpa using this
                have Y0 := Lib.hid y0
                have Y1 := Lib.hid hI.bx
                have Y2 := Lib.hid y2
                have hGr := Y1.out.lt
                have HAB := Lib.hid (show BufAt wr A1 A2 A3 b.lo b.hi b.nw from hI.at_.at_ (by have := hI.ok.l1; omega) (by have := hI.ok.l2; omega) (by have := hI.ok.l3; omega))
                have p2 : Off (w.heap.size + 2) A1 A2 A3 := hI.at_.offlo (by omega)
                clear hI y0 y2
                by_cases hlt : k < hs.length
                · have g1 : (k : Int) < hs.length := by omega
                  obtain ⟨x, hx⟩ := get_some hlt; obtain ⟨bx, offx, rfl, hbx, hat⟩ := HHS.out.opened (k := k) (by rw [flat_len Hr.len]; omega); have hat' := hat.below hbw hbx; have hybx : bx < wr.heap.size := Nat.lt_of_lt_of_le hbx hbw.size; have hzw := hbw.size; have t0 := hat'.elem0 Hr.len hx rfl; have t1 := hat'.elem Hr.len hx 1 rfl; have HX := Lib.hid hx; have HD := Lib.hid (drop_cons hx); have gx : (k : Int) < _ := Int.ofNat_lt.2 hlt; clear hx hat hat'
                  have HXB := Lib.hid (hrsF_at HF.out HX.out)
                  have HAX := Lib.hid ((HAT.out x (List.mem_of_getElem? HX.out)).below hbw)
                  have HNW := Lib.hid (HN.out.below hbw)
                  obtain ⟨b', ok, hs'⟩ : ∃ b' ok, stR N b.lo b.hi b.nw x.fl x.su = (b', ok) := ⟨_, _, rfl⟩
                  have HS := Lib.hid hs'
                  clear hs' hbw
                  go_wp2_with fail
                  refine wp_region_tb (R := Rz) [some 66, some 67, some 68, some 69, some 70, some 71, some 72, some 65, some 73, some 74, some 13, none, some 14] _ (by intro u; simp only [frs, Act.put, List.setIfInBounds_toArray, List.set_cons_zero, List.set_cons_succ, Nat.reduceAdd]; exact rfl) (fun ρ j => ([.agg #[.slice A N.nodes.length c, .slice B N.pipes.length d], .agg #[.slice A1 b.lo.length c1, .slice A2 b.hi.length c2, .slice A3 b.nw.length c3], .slice (some ⟨bx, offx, none⟩) hs.length ce, .int .i64 (k : Int), .pointer (some ⟨bx, offx + k * 2, none⟩), .agg #[.slice x.A x.fl.length x.c, .slice x.B x.su.length x.d], .tuple #[.agg #[.slice (ρ.a 0) b'.lo.length (ρ.c 0), .slice (ρ.a 1) b'.hi.length (ρ.c 1), .slice (ρ.a 2) b'.nw.length (ρ.c 2)], .bool ok], .tuple #[.agg #[.slice (ρ.a 0) b'.lo.length (ρ.c 0), .slice (ρ.a 1) b'.hi.length (ρ.c 1), .slice (ρ.a 2) b'.nw.length (ρ.c 2)], .bool ok], .agg #[.slice (ρ.a 0) b'.lo.length (ρ.c 0), .slice (ρ.a 1) b'.hi.length (ρ.c 1), .slice (ρ.a 2) b'.nw.length (ρ.c 2)], .bool ok, .pointer (some ⟨ρ.b, 0, none⟩), undef, .bool ok] : List Value).getD j undef) (WB wr [(6, 0, b'.lo), (6, 1, b'.hi), (6, 2, b'.nw)] 10 11 [.slice none 0 0, .slice none 0 0, .slice none 0 0] (fun ρ => [.slice (ρ.a 0) b'.lo.length (ρ.c 0), .slice (ρ.a 1) b'.hi.length (ρ.c 1), .slice (ρ.a 2) b'.nw.length (ρ.c 2)])) (by kernel_rfl) (by kernel_rfl) Rz.zero (WB.start (Below.drew (Below.refl _ _))) ?_ ?_
                  · intro ii hii L ρ u wx hl hp hc hu hn hW
                    have hii : ii < 13 := hii
                    have HNo := Lib.hid hn
                    clear hn
                    have hii : ii = 0 ∨ ii = 1 ∨ ii = 2 ∨ ii = 3 ∨ ii = 4 ∨ ii = 5 ∨ ii = 6 ∨ ii = 7 ∨ ii = 8 ∨ ii = 9 ∨ ii = 10 ∨ ii = 11 ∨ ii = 12 := by omega
                    rcases hii with rfl | rfl | rfl | rfl | rfl | rfl | rfl | rfl | rfl | rfl | rfl | rfl | rfl
                    · have z0 := Y0.out.below hW.bl Y0.out.lt
                      have z00 := z0.cell 0 rfl
                      have z01 := z0.cell 1 rfl
                      refine wpOp_go (E := True) rfl rfl (fun K' hK => ?_)
                      go_simp
                      refine hK.out _ _ ⟨ρ, (by simp only [put]; rfl), fun _ _ => rfl, hW.pure rfl (by omega) (by omega)⟩
                    · have z1 := Y1.out.below hW.bl Y1.out.lt
                      have z10 := z1.cell 0 rfl
                      have z11 := z1.cell 1 rfl
                      have z12 := z1.cell 2 rfl
                      refine wpOp_go (E := True) rfl rfl (fun K' hK => ?_)
                      go_simp
                      refine hK.out _ _ ⟨ρ, (by simp only [put]; rfl), fun _ _ => rfl, hW.pure rfl (by omega) (by omega)⟩
                    · refine wpOp_go (E := True) rfl rfl (fun K' hK => ?_)
                      go_simp
                      refine hK.out _ _ ⟨ρ, (by simp only [put]; rfl), fun _ _ => rfl, hW.pure rfl (by omega) (by omega)⟩
                    · refine wpOp_go (E := True) rfl rfl (fun K' hK => ?_)
                      go_simp
                      refine hK.out _ _ ⟨ρ, (by simp only [put]; rfl), fun _ _ => rfl, hW.pure rfl (by omega) (by omega)⟩
                    · have e2 : u 2 = .slice (some ⟨bx, offx, none⟩) hs.length ce := hu 2 (all_of hp (by kernel_rfl))
                      have e3 : u 3 = .int .i64 (k : Int) := hu 3 (all_of hp (by kernel_rfl))
                      refine wpOp_go (E := True) rfl rfl (fun K' hK => ?_)
                      go_simp
                      refine hK.out _ _ ⟨ρ, (by simp only [put, e2, e3]; rfl), fun _ _ => rfl, hW.pure rfl (by omega) (by omega)⟩
                    · have e4 : u 4 = .pointer (some ⟨bx, offx + k * 2, none⟩) := hu 4 (all_of hp (by kernel_rfl))
                      have y0 := ((bcell hW.bl).1 bx (offx + k * 2) hybx).trans t0
                      have y1 := ((bcell hW.bl).1 bx (offx + k * 2 + 1) hybx).trans t1
                      refine wpOp_go (E := True) rfl rfl (fun K' hK => ?_)
                      go_simp
                      refine hK.out _ _ ⟨ρ, (by simp only [put, e4]; rfl), fun _ _ => rfl, hW.pure rfl (by omega) (by omega)⟩
                    · have e0 : u 0 = .agg #[.slice A N.nodes.length c, .slice B N.pipes.length d] := hu 0 (all_of hp (by kernel_rfl))
                      have e1 : u 1 = .agg #[.slice A1 b.lo.length c1, .slice A2 b.hi.length c2, .slice A3 b.nw.length c3] := hu 1 (all_of hp (by kernel_rfl))
                      have e5 : u 5 = .agg #[.slice x.A x.fl.length x.c, .slice x.B x.su.length x.d] := hu 5 (all_of hp (by kernel_rfl))
                      have nks : L 11 = false := no_later hc hl (by kernel_rfl)
                      refine wpOp_go (E := True) rfl rfl (fun K' hK => ?_)
                      go_simp
                      go_at_call 32
                      refine (spec_l19Step _ _ _ _ _ _ _ _ _ _ _ _ _ _ _ N b.lo b.hi b.nw x _ (HNW.out.below hW.bl) rfl rfl HBK.out.1 (HAB.out.below hW.bl) HI.out.ok rfl rfl rfl (HAX.out.below hW.bl) HXB.out).mono ?_
                      rw [HS.out]
                      rintro e' w5 ⟨A4, A5, A6, c4, c5, c6, rfl, hW5, hb5⟩
                      refine hK.out _ _ ⟨((ρ.list 0 A4 c4).list 1 A5 c5).list 2 A6 c6, (by simp only [put, e0, e1, e5]; rfl), fun j hj => by
                          have n7 : L 7 = false := no_later hc hl (by kernel_rfl)
                          have n8 : L 8 = false := no_later hc n7 (by kernel_rfl)
                          have n9 : L 9 = false := no_later hc n7 (by kernel_rfl)
                          have n11 : L 11 = false := no_later hc n8 (by kernel_rfl)
                          have n12 : L 12 = false := no_later hc n9 (by kernel_rfl)
                          match j, hj with
                          | 0, _ => rfl
                          | 1, _ => rfl
                          | 2, _ => rfl
                          | 3, _ => rfl
                          | 4, _ => rfl
                          | 5, _ => rfl
                          | 6, hj => rw [hl] at hj; cases hj
                          | 7, hj => rw [n7] at hj; cases hj
                          | 8, hj => rw [n8] at hj; cases hj
                          | 9, hj => rw [n9] at hj; cases hj
                          | 10, _ => rfl
                          | 11, hj => rw [n11] at hj; cases hj
                          | 12, hj => rw [n12] at hj; cases hj
                          | _ + 13, _ => rfl, hW.three (by omega) (by omega) nks hb5 hW5⟩
                    · have e6 : u 6 = .tuple #[.agg #[.slice (ρ.a 0) b'.lo.length (ρ.c 0), .slice (ρ.a 1) b'.hi.length (ρ.c 1), .slice (ρ.a 2) b'.nw.length (ρ.c 2)], .bool ok] := hu 6 (all_of hp (by kernel_rfl))
                      refine wpOp_go (E := True) rfl rfl (fun K' hK => ?_)
                      go_simp
                      refine hK.out _ _ ⟨ρ, (by simp only [put, e6]; rfl), fun _ _ => rfl, hW.pure rfl (by omega) (by omega)⟩
                    · have e7 : u 7 = .tuple #[.agg #[.slice (ρ.a 0) b'.lo.length (ρ.c 0), .slice (ρ.a 1) b'.hi.length (ρ.c 1), .slice (ρ.a 2) b'.nw.length (ρ.c 2)], .bool ok] := hu 7 (all_of hp (by kernel_rfl))
                      refine wpOp_go (E := True) rfl rfl (fun K' hK => ?_)
                      go_simp
                      refine hK.out _ _ ⟨ρ, (by simp only [put, e7]; rfl), fun _ _ => rfl, hW.pure rfl (by omega) (by omega)⟩
                    · have e7 : u 7 = .tuple #[.agg #[.slice (ρ.a 0) b'.lo.length (ρ.c 0), .slice (ρ.a 1) b'.hi.length (ρ.c 1), .slice (ρ.a 2) b'.nw.length (ρ.c 2)], .bool ok] := hu 7 (all_of hp (by kernel_rfl))
                      refine wpOp_go (E := True) rfl rfl (fun K' hK => ?_)
                      go_simp
                      refine hK.out _ _ ⟨ρ, (by simp only [put, e7]; rfl), fun _ _ => rfl, hW.pure rfl (by omega) (by omega)⟩
                    · have nks : L 11 = false := no_later hc hl (by kernel_rfl)
                      refine wpOp_go (E := True) rfl rfl (fun K' hK => ?_)
                      go_simp
                      generalize hW5 : World.alloc wx _ = w5
                      have hb5 : Below wx.heap.size wx w5 := by rw [← hW5]; (repeat' (first | (with_reducible exact Below.refl _ _) | (with_reducible assumption) | (with_reducible refine Below.alloc ?_ ?_ _) | (with_reducible refine Below.drew ?_) | (with_reducible refine Below.drewN' ?_ _) | (with_reducible refine Below.setCell ?_ ?_ _) | (refine Below.via ?_ (by with_reducible assumption) ?_) | (with_reducible refine Below.via ?_ (Wd.h _) ?_) | go_size))
                      have hx5 : Bx w5 wx.heap.size [.slice none 0 0, .slice none 0 0, .slice none 0 0] := by rw [← hW5]; exact bx3 (by simp) (by simp) (by simp) (by simp) (by simp) (by simp) (by simp)
                      clear hW5
                      refine hK.out _ _ ⟨ρ.box wx.heap.size, (by simp only [put]; rfl), fun j hj => by
                          have n11 : L 11 = false := no_later hc hl (by kernel_rfl)
                          match j, hj with
                          | 0, _ => rfl
                          | 1, _ => rfl
                          | 2, _ => rfl
                          | 3, _ => rfl
                          | 4, _ => rfl
                          | 5, _ => rfl
                          | 6, _ => rfl
                          | 7, _ => rfl
                          | 8, _ => rfl
                          | 9, _ => rfl
                          | 10, hj => rw [hl] at hj; cases hj
                          | 11, hj => rw [n11] at hj; cases hj
                          | 12, _ => rfl
                          | _ + 13, _ => rfl, hW.boxed rfl (by omega) nks hb5 hx5⟩
                    · have e10 : u 10 = .pointer (some ⟨ρ.b, 0, none⟩) := hu 10 (all_of hp (by kernel_rfl))
                      have e8 : u 8 = .agg #[.slice (ρ.a 0) b'.lo.length (ρ.c 0), .slice (ρ.a 1) b'.hi.length (ρ.c 1), .slice (ρ.a 2) b'.nw.length (ρ.c 2)] := hu 8 (all_of hp (by kernel_rfl))
                      have hL10 := all_of hp (show (before _ 11).contains 10 = true by kernel_rfl)
                      have hq := hW.b1 hL10 hl
                      have hq0 := hq.cell 0 rfl
                      have hq1 := hq.cell 1 rfl
                      have hq2 := hq.cell 2 rfl
                      have hf0 := hq.frozen 0 rfl
                      have hf1 := hq.frozen 1 rfl
                      have hf2 := hq.frozen 2 rfl
                      refine wpOp_go (E := True) rfl rfl (fun K' hK => ?_)
                      go_simp
                      refine hK.out _ _ ⟨ρ, (by simp only [put, e10, e8]; rfl), fun _ _ => rfl, hW.store rfl (by omega) hL10 (keep3 _ _ _) (bx_fill3 hq _ _ _)⟩
                    · have e9 : u 9 = .bool ok := hu 9 (all_of hp (by kernel_rfl))
                      refine wpOp_go (E := True) rfl rfl (fun K' hK => ?_)
                      go_simp
                      refine hK.out _ _ ⟨ρ, (by simp only [put, e9]; rfl), fun _ _ => rfl, hW.pure rfl (by omega) (by omega)⟩
                  · intro L ρ u wx hall hu hW
                    have e10 : u 10 = .pointer (some ⟨ρ.b, 0, none⟩) := hu 10 (by show 10 < 13; omega)
                    have e12 : u 12 = .bool ok := hu 12 (by show 12 < 13; omega)
                    rw [e10, e12]
                    have hL (i : Nat) (hi : i < 13) : L i = true := hall i hi
                    obtain ⟨ga, gb, gc⟩ := hW.b0 (hL 10 (by omega))
                    have hbx := hW.b2 (hL 11 (by omega))
                    have HWN := Lib.hid (show BufW wr.heap.size wx (ρ.a 0) (ρ.a 1) (ρ.a 2) b'.lo b'.hi b'.nw from ⟨hW.md 6 0 b'.lo (by simp) (hL 6 (by omega)), hW.md 6 1 b'.hi (by simp) (hL 6 (by omega)), hW.md 6 2 b'.nw (by simp) (hL 6 (by omega)), hW.ds 6 0 b'.lo 6 1 b'.hi (by simp) (by simp) (hL 6 (by omega)) (hL 6 (by omega)) (by omega), hW.ds 6 0 b'.lo 6 2 b'.nw (by simp) (by simp) (hL 6 (by omega)) (hL 6 (by omega)) (by omega), hW.ds 6 1 b'.hi 6 2 b'.nw (by simp) (by simp) (hL 6 (by omega)) (hL 6 (by omega)) (by omega)⟩)
                    have hbl := hW.bl
                    have X0 := Lib.hid (Y0.out.below hbl Y0.out.lt)
                    have x1 := Y1.out.below hbl Y1.out.lt
                    have x2 := Y2.out.below hbl Y2.out.lt
                    have X1 := Lib.hid x1
                    have X2 := Lib.hid x2
                    have HWX := Lib.hid (hbH.out.trans (hbl.mono hzw))
                    have HWO := Lib.hid (HI.out.at_.below hbl)
                    have hwx := HWX.out.size
                    clear hu hall hW e10 e12 hL gc hbl
                    generalize ρ.b = F at *
                    generalize ρ.a 0 = A4 at *
                    generalize ρ.a 1 = A5 at *
                    generalize ρ.a 2 = A6 at *
                    generalize ρ.c 0 = c4 at *
                    generalize ρ.c 1 = c5 at *
                    generalize ρ.c 2 = c6 at *
                    cases ok
                    · have HE := Lib.hid (rhGo_no (N := N) (k := k) (b := b) (q_at HX.out) (by rw [HS.out]))
                      have hy1 := x1.lt; have cw1_0 := x1.cell 0 rfl; have fw1_0 := x1.frozen 0 rfl; have cw1_1 := x1.cell 1 rfl; have fw1_1 := x1.frozen 1 rfl; have cw1_2 := x1.cell 2 rfl; have fw1_2 := x1.frozen 2 rfl
                      have hy2 := x2.lt; have cw2_0 := x2.cell 0 rfl; have fw2_0 := x2.frozen 0 rfl; have cw2_1 := x2.cell 1 rfl; have fw2_1 := x2.frozen 1 rfl; have cw2_2 := x2.cell 2 rfl; have fw2_2 := x2.frozen 2 rfl
                      clear x1 x2 hbx
                      go_wp2
                      refine bodyPost_ret (by simp [results, Try.results8, go_sem, hy2, fw2_0, fw2_1, fw2_2, cw2_0, cw2_1, cw2_2]; try rfl) rfl ?_
                      rw [HRR.out, ← HI.out.go, HE.out]
                      exact ⟨A1, A2, A3, c1, c2, c3, rfl, (((HWO.out.seto p2 _).seto p2 _).seto p2 _).lower (by omega), by have h1 := HWX.out; (repeat' (first | (with_reducible exact Below.refl _ _) | (with_reducible assumption) | (with_reducible refine Below.alloc ?_ ?_ _) | (with_reducible refine Below.drew ?_) | (with_reducible refine Below.drewN' ?_ _) | (with_reducible refine Below.setCell ?_ ?_ _) | (refine Below.via ?_ (by with_reducible assumption) ?_) | (with_reducible refine Below.via ?_ (Wd.h _) ?_) | go_size))⟩
                    · have HE := Lib.hid (rhGo_yes (N := N) (k := k) (b := b) (q_at HX.out) (by rw [HS.out]))
                      have HOK := Lib.hid (stR_ok (N := N) (ll := b.lo) (lh := b.hi) (ln := b.nw) (fl := x.fl) (su := x.su) (by rw [HS.out]))
                      have o1 : Off G A4 A5 A6 := HWN.out.offlo (by omega)
                      have hy1 := x1.lt; have cw1_0 := x1.cell 0 rfl; have fw1_0 := x1.frozen 0 rfl; have cw1_1 := x1.cell 1 rfl; have fw1_1 := x1.frozen 1 rfl; have cw1_2 := x1.cell 2 rfl; have fw1_2 := x1.frozen 2 rfl
                      have hy4 := hbx.lt; have cw4_0 := hbx.cell 0 rfl; have fw4_0 := hbx.frozen 0 rfl; have cw4_1 := hbx.cell 1 rfl; have fw4_1 := hbx.frozen 1 rfl; have cw4_2 := hbx.cell 2 rfl; have fw4_2 := hbx.frozen 2 rfl
                      clear x1 x2 hbx
                      go_wp2
                      go_roundw
                      case rel =>
                        have hok := HOK.out
                        rw [HS.out] at hok
                        have hgo := HE.out
                        rw [HS.out] at hgo
                        exact ⟨k + 1, b', A4, A5, A6, c4, c5, c6, by go_num, ⟨by simp; omega, by rw [← hgo]; exact HI.out.go, ((((HWN.out.lower (by omega)).seto o1 _).seto o1 _).seto o1 _), hok, o1, bx_fill3 X1.out _ _ _⟩, X0.out.keep (keep3 _ _ _) (by omega), X2.out.keep (keep3 _ _ _) (by omega), (keep3 _ _ _).below HWX.out (by omega) (fun q e => by omega)⟩
                      case measure => simp [intOf]; omega
                · have g1 : ¬ (k : Int) < hs.length := by omega
                  have hK : k = hs.length := by omega
                  have HE := Lib.hid (rhGo_end (N := N) (l := hs.map Hr.q) (k := k) (b := b) (by simpa using hlt))
                  have x1 := Y1.out
                  have x2 := Y2.out
                  have hy1 := x1.lt; have cw1_0 := x1.cell 0 rfl; have fw1_0 := x1.frozen 0 rfl; have cw1_1 := x1.cell 1 rfl; have fw1_1 := x1.frozen 1 rfl; have cw1_2 := x1.cell 2 rfl; have fw1_2 := x1.frozen 2 rfl
                  have hy2 := x2.lt; have cw2_0 := x2.cell 0 rfl; have fw2_0 := x2.frozen 0 rfl; have cw2_1 := x2.cell 1 rfl; have fw2_1 := x2.frozen 1 rfl; have cw2_2 := x2.cell 2 rfl; have fw2_2 := x2.frozen 2 rfl
                  clear x1 x2 hbw
                  go_wp2
                  refine bodyPost_ret (by simp [results, Try.results8, go_sem, hy2, fw2_0, fw2_1, fw2_2, cw2_0, cw2_1, cw2_2]; try rfl) rfl ?_
                  rw [HRR.out, ← HI.out.go, HE.out, hK]
                  exact ⟨A1, A2, A3, c1, c2, c3, rfl, (((HI.out.at_.seto p2 _).seto p2 _).seto p2 _).lower (by omega), by have h1 := hbH.out; (repeat' (first | (with_reducible exact Below.refl _ _) | (with_reducible assumption) | (with_reducible refine Below.alloc ?_ ?_ _) | (with_reducible refine Below.drew ?_) | (with_reducible refine Below.drewN' ?_ _) | (with_reducible refine Below.setCell ?_ ?_ _) | (refine Below.via ?_ (by with_reducible assumption) ?_) | (with_reducible refine Below.via ?_ (Wd.h _) ?_) | go_size))⟩
        · have HRR := Lib.hid (show rhR N ll lh ln (hs.map Hr.q) = (⟨[], [], []⟩, 0, 2) from rhR_code (by rw [← HCD.out]; exact cdF_code (by decide)) (by decide))
          have y2 := Y2.out
          have hy2 := y2.lt; have cw2_0 := y2.cell 0 rfl; have fw2_0 := y2.frozen 0 rfl; have cw2_1 := y2.cell 1 rfl; have fw2_1 := y2.frozen 1 rfl; have cw2_2 := y2.cell 2 rfl; have fw2_2 := y2.frozen 2 rfl
          clear y2 hbw
          by_cases hlt : k < hs.length
          · have g1 : (k : Int) < hs.length := by omega
            go_wp2
            refine bodyPost_ret (by simp [results, Try.results8, go_sem, hy2, fw2_0, fw2_1, fw2_2, cw2_0, cw2_1, cw2_2]; try rfl) rfl ?_
            rw [HRR.out]
            exact ⟨none, none, none, 0, 0, 0, rfl, BufW.nil _ _, by have h1 := hbH.out; (repeat' (first | (with_reducible exact Below.refl _ _) | (with_reducible assumption) | (with_reducible refine Below.alloc ?_ ?_ _) | (with_reducible refine Below.drew ?_) | (with_reducible refine Below.drewN' ?_ _) | (with_reducible refine Below.setCell ?_ ?_ _) | (refine Below.via ?_ (by with_reducible assumption) ?_) | (with_reducible refine Below.via ?_ (Wd.h _) ?_) | go_size))⟩
          · have g1 : ¬ (k : Int) < hs.length := by omega
            go_wp2
            refine bodyPost_ret (by simp [results, Try.results8, go_sem, hy2, fw2_0, fw2_1, fw2_2, cw2_0, cw2_1, cw2_2]; try rfl) rfl ?_
            rw [HRR.out]
            exact ⟨none, none, none, 0, 0, 0, rfl, BufW.nil _ _, by have h1 := hbH.out; (repeat' (first | (with_reducible exact Below.refl _ _) | (with_reducible assumption) | (with_reducible refine Below.alloc ?_ ?_ _) | (with_reducible refine Below.drew ?_) | (with_reducible refine Below.drewN' ?_ _) | (with_reducible refine Below.setCell ?_ ?_ _) | (refine Below.via ?_ (by with_reducible assumption) ?_) | (with_reducible refine Below.via ?_ (Wd.h _) ?_) | go_size))⟩
  · have HRR := Lib.hid (show rhR N ll lh ln (hs.map Hr.q) = (⟨[], [], []⟩, 0, z0) from rhR_code (by rw [rhC_1 (by rw [hz0]; exact h0)]; exact hz0) h0)
    have b0 : (z0 == 0) = false := by simpa using h0
    clear hz0
    go_wp2_with fail
    go_loopw [9, 10] (fun u v wr => u = .int .i64 (z0) ∧ v = .int .i64 0 ∧ Bx wr w.heap.size [.slice A N.nodes.length c, .slice B N.pipes.length d] ∧ Bx wr (w.heap.size + 1) [.slice Al ll.length cl, .slice Ah lh.length ch, .slice An ln.length cn] ∧ Bx wr (w.heap.size + 2) [.slice none 0 0, .slice none 0 0, .slice none 0 0] ∧ Below w.heap.size w wr) (fun _ _ _ => 0)
    case atStart => exact ⟨rfl, rfl, X0.out, X1.out, X2.out, HB1.out⟩
    case round =>
      clear X0 X1
      obtain ⟨rfl, rfl, y0, y1, y2, hbw⟩ := hrel
      have hy2 := y2.lt; have cw2_0 := y2.cell 0 rfl; have fw2_0 := y2.frozen 0 rfl; have cw2_1 := y2.cell 1 rfl; have fw2_1 := y2.frozen 1 rfl; have cw2_2 := y2.cell 2 rfl; have fw2_2 := y2.frozen 2 rfl
      have hbH := Lib.hid hbw
      clear y0 y1 y2 hbw
      have b9 : (z0 == 0) = false := by simpa using h0
      have b8 : (z0 != 0) = true := by simpa using h0
      by_cases hlt : 0 < hs.length
      · have g1 : (0 : Int) < hs.length := by omega
        go_wp2
        refine bodyPost_ret (by simp [results, Try.results8, go_sem, hy2, fw2_0, fw2_1, fw2_2, cw2_0, cw2_1, cw2_2]; try rfl) rfl ?_
        rw [HRR.out]
        exact ⟨none, none, none, 0, 0, 0, rfl, BufW.nil _ _, by have h1 := hbH.out; (repeat' (first | (with_reducible exact Below.refl _ _) | (with_reducible assumption) | (with_reducible refine Below.alloc ?_ ?_ _) | (with_reducible refine Below.drew ?_) | (with_reducible refine Below.drewN' ?_ _) | (with_reducible refine Below.setCell ?_ ?_ _) | (refine Below.via ?_ (by with_reducible assumption) ?_) | (with_reducible refine Below.via ?_ (Wd.h _) ?_) | go_size))⟩
      · have g1 : ¬ (0 : Int) < hs.length := by omega
        go_wp2
        refine bodyPost_ret (by simp [results, Try.results8, go_sem, hy2, fw2_0, fw2_1, fw2_2, cw2_0, cw2_1, cw2_2]; try rfl) rfl ?_
        rw [HRR.out]
        exact ⟨none, none, none, 0, 0, 0, rfl, BufW.nil _ _, by have h1 := hbH.out; (repeat' (first | (with_reducible exact Below.refl _ _) | (with_reducible assumption) | (with_reducible refine Below.alloc ?_ ?_ _) | (with_reducible refine Below.drew ?_) | (with_reducible refine Below.drewN' ?_ _) | (with_reducible refine Below.setCell ?_ ?_ _) | (refine Below.via ?_ (by with_reducible assumption) ?_) | (with_reducible refine Below.via ?_ (Wd.h _) ?_) | go_size))⟩
end Go.Proofs.Ytijhadafmhbceaa

/- The walk of the law FnClosest: for all bytes it returns true and writes nothing that was there. -/
import Derived.Test.YtbkeijhlobdkeaaMxS
import Derived.Test.YtbkeijhlobdkeaaFt
import Derived.Test.YtbkeijhlobdkeaaHo
import Derived.Test.YtbkeijhlobdkeaaCs
import Derived.Test.YtbkeijhlobdkeaaSu
import Derived.Test.YtbkeijhlobdkeaaDhd
namespace Go.Proofs.Ytbkeijhlobdkeaa
set_option linter.unusedVariables false
set_option linter.unusedSimpArgs false
open Go.RowKit
set_option maxRecDepth 100000 in
set_option maxHeartbeats 4000000 in
theorem spec_SteadyHours (A B Al Ah An : Option Addr) (n c m d nl nh nn cl ch cn : Nat) (N : Net) (ll lh ln : List Int) (x : Hr) (w : World) (hN : NetAt w A B N) (hn : n = N.nodes.length) (hm : m = N.pipes.length) (h : BufAt w Al Ah An ll lh ln) (e1 : nl = ll.length) (e2 : nh = lh.length) (e3 : nn = ln.length) (hat : HrAt w x) :
    Calls Try.prog 17 #[netV A B n c m d, bufV Al Ah An nl nh nn cl ch cn, x.val] w fun e w' => e = .returned (.tuple #[.int .i64 (sdR N ll lh ln x).1, .int .i64 (sdR N ll lh ln x).2]) ∧ Below w.heap.size w w' := by
  subst hn hm e1 e2 e3
  have HN := Lib.hid hN
  have HR := Lib.hid h
  have HA := Lib.hid hat
  clear hN h hat
  go_enter Try.func17, Try.ntmps17
  go_wp2_with fail
  
  refine (spec_l19Hour _ _ _ _ _ _ _ _ _ _ _ _ _ _ _ N ll lh ln x _ (HN.out.below (by (repeat' (first | (with_reducible exact Below.refl _ _) | (with_reducible assumption) | (with_reducible refine Below.alloc ?_ ?_ _) | (with_reducible refine Below.drew ?_) | (with_reducible refine Below.drewN' ?_ _) | (with_reducible refine Below.setCell ?_ ?_ _) | (refine Below.via ?_ (by with_reducible assumption) ?_) | (with_reducible refine Below.via ?_ (Wd.h _) ?_) | go_size)))) rfl rfl (HR.out.below (by (repeat' (first | (with_reducible exact Below.refl _ _) | (with_reducible assumption) | (with_reducible refine Below.alloc ?_ ?_ _) | (with_reducible refine Below.drew ?_) | (with_reducible refine Below.drewN' ?_ _) | (with_reducible refine Below.setCell ?_ ?_ _) | (refine Below.via ?_ (by with_reducible assumption) ?_) | (with_reducible refine Below.via ?_ (Wd.h _) ?_) | go_size)))) rfl rfl rfl (HA.out.below (by (repeat' (first | (with_reducible exact Below.refl _ _) | (with_reducible assumption) | (with_reducible refine Below.alloc ?_ ?_ _) | (with_reducible refine Below.drew ?_) | (with_reducible refine Below.drewN' ?_ _) | (with_reducible refine Below.setCell ?_ ?_ _) | (refine Below.via ?_ (by with_reducible assumption) ?_) | (with_reducible refine Below.via ?_ (Wd.h _) ?_) | go_size))))).mono ?_
  rintro e w1 ⟨rfl, hb1⟩
  (obtain ⟨hcn, hfn⟩ := bcell hb1; have hz1 := hb1.size; (try simp at hz1); have Ncw0_0 := hcn (w.heap.size) (0) (by first | omega | (simp; done) | (simp; omega)); have Nfw0_0 := hfn (w.heap.size) (0) (by first | omega | (simp; done) | (simp; omega)); have Nhy0 : w.heap.size < w1.heap.size := (by omega); have Ncw0_1 := hcn (w.heap.size) (1) (by first | omega | (simp; done) | (simp; omega)); have Nfw0_1 := hfn (w.heap.size) (1) (by first | omega | (simp; done) | (simp; omega)); have Ncw1_0 := hcn (w.heap.size + 1) (0) (by first | omega | (simp; done) | (simp; omega)); have Nfw1_0 := hfn (w.heap.size + 1) (0) (by first | omega | (simp; done) | (simp; omega)); have Nhy1 : w.heap.size + 1 < w1.heap.size := (by omega); have Ncw1_1 := hcn (w.heap.size + 1) (1) (by first | omega | (simp; done) | (simp; omega)); have Nfw1_1 := hfn (w.heap.size + 1) (1) (by first | omega | (simp; done) | (simp; omega)); have Ncw1_2 := hcn (w.heap.size + 1) (2) (by first | omega | (simp; done) | (simp; omega)); have Nfw1_2 := hfn (w.heap.size + 1) (2) (by first | omega | (simp; done) | (simp; omega)); have Ncw2_0 := hcn (w.heap.size + 2) (0) (by first | omega | (simp; done) | (simp; omega)); have Nfw2_0 := hfn (w.heap.size + 2) (0) (by first | omega | (simp; done) | (simp; omega)); have Nhy2 : w.heap.size + 2 < w1.heap.size := (by omega); have Ncw2_1 := hcn (w.heap.size + 2) (1) (by first | omega | (simp; done) | (simp; omega)); have Nfw2_1 := hfn (w.heap.size + 2) (1) (by first | omega | (simp; done) | (simp; omega)); simp [go_sem] at Ncw0_0 Nfw0_0 Ncw0_1 Nfw0_1 Ncw1_0 Nfw1_0 Ncw1_1 Nfw1_1 Ncw1_2 Nfw1_2 Ncw2_0 Nfw2_0 Ncw2_1 Nfw2_1; clear hcn hfn; have cw0_0 := Ncw0_0; have fw0_0 := Nfw0_0; have cw0_1 := Ncw0_1; have fw0_1 := Nfw0_1; have cw1_0 := Ncw1_0; have fw1_0 := Nfw1_0; have cw1_1 := Ncw1_1; have fw1_1 := Nfw1_1; have cw1_2 := Ncw1_2; have fw1_2 := Nfw1_2; have cw2_0 := Ncw2_0; have fw2_0 := Nfw2_0; have cw2_1 := Ncw2_1; have fw2_1 := Nfw2_1; have hy0 := Nhy0; have hy1 := Nhy1; have hy2 := Nhy2; clear Ncw0_0 Nfw0_0 Ncw0_1 Nfw0_1 Ncw1_0 Nfw1_0 Ncw1_1 Nfw1_1 Ncw1_2 Nfw1_2 Ncw2_0 Nfw2_0 Ncw2_1 Nfw2_1 Nhy0 Nhy1 Nhy2)
  by_cases h0 : hrC N ll lh ln x = 0
  · have b0 : (hrC N ll lh ln x != 0) = false := by simp [h0]
    have HH := Lib.hid (hrC_of h0)
    have HBK := Lib.hid (bufC_of (hrC_of h0).1)
    obtain ⟨tot, htot⟩ : ∃ tot, tot = sdGo N x.fl x.su 48 0 ⟨ll, lh, ln⟩ := ⟨_, rfl⟩
    have HRR := Lib.hid (show sdR N ll lh ln x = (tot, 0) by simp [sdR, h0, htot])
    have HTOT := Lib.hid htot
    have HB1 := Lib.hid (show Below w.heap.size w w1 by (repeat' (first | (with_reducible exact Below.refl _ _) | (with_reducible assumption) | (with_reducible refine Below.alloc ?_ ?_ _) | (with_reducible refine Below.drew ?_) | (with_reducible refine Below.drewN' ?_ _) | (with_reducible refine Below.setCell ?_ ?_ _) | (refine Below.via ?_ (by with_reducible assumption) ?_) | (with_reducible refine Below.via ?_ (Wd.h _) ?_) | go_size)))
    have X0 := Lib.hid (show Bx w1 w.heap.size [.slice A N.nodes.length c, .slice B N.pipes.length d] from (bx2 (by first | exact hy0 | go_size) (by first | (with_reducible exact cw0_0) | go_cell_look | (simp [go_sem, hy0, cw0_0, fw0_0, cw0_1, fw0_1]; done) | (simp [go_sem]; done)) (by first | (with_reducible exact fw0_0) | (simp only [World.frozen?_setCell, fw0_0]; done) | (simp [go_sem, hy0, cw0_0, fw0_0, cw0_1, fw0_1]; done) | (simp [go_sem]; done)) (by first | (with_reducible exact cw0_1) | go_cell_look | (simp [go_sem, hy0, cw0_0, fw0_0, cw0_1, fw0_1]; done) | (simp [go_sem]; done)) (by first | (with_reducible exact fw0_1) | (simp only [World.frozen?_setCell, fw0_1]; done) | (simp [go_sem, hy0, cw0_0, fw0_0, cw0_1, fw0_1]; done) | (simp [go_sem]; done))))
    have X1 := Lib.hid (show Bx w1 (w.heap.size + 1) [.slice Al ll.length cl, .slice Ah lh.length ch, .slice An ln.length cn] from (bx3 (by first | exact hy1 | go_size) (by first | (with_reducible exact cw1_0) | go_cell_look | (simp [go_sem, hy1, cw1_0, fw1_0, cw1_1, fw1_1, cw1_2, fw1_2]; done) | (simp [go_sem]; done)) (by first | (with_reducible exact fw1_0) | (simp only [World.frozen?_setCell, fw1_0]; done) | (simp [go_sem, hy1, cw1_0, fw1_0, cw1_1, fw1_1, cw1_2, fw1_2]; done) | (simp [go_sem]; done)) (by first | (with_reducible exact cw1_1) | go_cell_look | (simp [go_sem, hy1, cw1_0, fw1_0, cw1_1, fw1_1, cw1_2, fw1_2]; done) | (simp [go_sem]; done)) (by first | (with_reducible exact fw1_1) | (simp only [World.frozen?_setCell, fw1_1]; done) | (simp [go_sem, hy1, cw1_0, fw1_0, cw1_1, fw1_1, cw1_2, fw1_2]; done) | (simp [go_sem]; done)) (by first | (with_reducible exact cw1_2) | go_cell_look | (simp [go_sem, hy1, cw1_0, fw1_0, cw1_1, fw1_1, cw1_2, fw1_2]; done) | (simp [go_sem]; done)) (by first | (with_reducible exact fw1_2) | (simp only [World.frozen?_setCell, fw1_2]; done) | (simp [go_sem, hy1, cw1_0, fw1_0, cw1_1, fw1_1, cw1_2, fw1_2]; done) | (simp [go_sem]; done))))
    have X2 := Lib.hid (show Bx w1 (w.heap.size + 2) [.slice x.A x.fl.length x.c, .slice x.B x.su.length x.d] from (bx2 (by first | exact hy2 | go_size) (by first | (with_reducible exact cw2_0) | go_cell_look | (simp [go_sem, hy2, cw2_0, fw2_0, cw2_1, fw2_1]; done) | (simp [go_sem]; done)) (by first | (with_reducible exact fw2_0) | (simp only [World.frozen?_setCell, fw2_0]; done) | (simp [go_sem, hy2, cw2_0, fw2_0, cw2_1, fw2_1]; done) | (simp [go_sem]; done)) (by first | (with_reducible exact cw2_1) | go_cell_look | (simp [go_sem, hy2, cw2_0, fw2_0, cw2_1, fw2_1]; done) | (simp [go_sem]; done)) (by first | (with_reducible exact fw2_1) | (simp only [World.frozen?_setCell, fw2_1]; done) | (simp [go_sem, hy2, cw2_0, fw2_0, cw2_1, fw2_1]; done) | (simp [go_sem]; done))))
    clear hy0 cw0_0 fw0_0 cw0_1 fw0_1
    clear hy1 cw1_0 fw1_0 cw1_1 fw1_1 cw1_2 fw1_2
    clear hy2 cw2_0 fw2_0 cw2_1 fw2_1
    clear h0 htot hb1
    go_wp2_with fail
    go_loopw [9] (fun v wr => ∃ k b A1 A2 A3 c1 c2 c3, v = .int .i64 (k : Nat) ∧ SdI w (w.heap.size + 1) N x tot k b A1 A2 A3 c1 c2 c3 wr ∧ Bx wr w.heap.size [.slice A N.nodes.length c, .slice B N.pipes.length d] ∧ Bx wr (w.heap.size + 2) [.slice x.A x.fl.length x.c, .slice x.B x.su.length x.d] ∧ Below w.heap.size w wr) (fun v _ => 48 - (intOf v).toNat)
    case atStart => exact ⟨0, ⟨ll, lh, ln⟩, Al, Ah, An, cl, ch, cn, rfl, ⟨by omega, HTOT.out.symm, HR.out.below HB1.out, HBK.out.2, HR.out.off HBK.out.2 HBK.out.1.n1 (by omega), X1.out⟩, X0.out, X2.out, HB1.out⟩
    case round =>
      clear X0 X1 X2
      obtain ⟨k, b, A1, A2, A3, c1, c2, c3, rfl, hI, y0, y2, hbw⟩ := hrel
      have HI := Lib.hid hI
      have hbH := Lib.hid hbw
      have hk := hI.le
      have y1 := hI.bx
      have hy0 := y0.lt; have cw0_0 := y0.cell 0 rfl; have fw0_0 := y0.frozen 0 rfl; have cw0_1 := y0.cell 1 rfl; have fw0_1 := y0.frozen 1 rfl
      have hy1 := y1.lt; have cw1_0 := y1.cell 0 rfl; have fw1_0 := y1.frozen 0 rfl; have cw1_1 := y1.cell 1 rfl; have fw1_1 := y1.frozen 1 rfl; have cw1_2 := y1.cell 2 rfl; have fw1_2 := y1.frozen 2 rfl
      have hy2 := y2.lt; have cw2_0 := y2.cell 0 rfl; have fw2_0 := y2.frozen 0 rfl; have cw2_1 := y2.cell 1 rfl; have fw2_1 := y2.frozen 1 rfl
      have hyr := hy2
      clear hI y0 y1 y2
      by_cases hlt : k < 48
      · have g1 : (k : Int) < 48 := by omega
        go_wp2_with fail
        refine (spec_l19Step _ _ _ _ _ _ _ _ _ _ _ _ _ _ _ N b.lo b.hi b.nw x _ (HN.out.below (by (repeat' (first | (with_reducible exact Below.refl _ _) | (with_reducible assumption) | (with_reducible refine Below.alloc ?_ ?_ _) | (with_reducible refine Below.drew ?_) | (with_reducible refine Below.drewN' ?_ _) | (with_reducible refine Below.setCell ?_ ?_ _) | (refine Below.via ?_ (by with_reducible assumption) ?_) | (with_reducible refine Below.via ?_ (Wd.h _) ?_) | go_size)))) rfl rfl HBK.out.1 (HI.out.at_.below (by (repeat' (first | (with_reducible exact Below.refl _ _) | (with_reducible assumption) | (with_reducible refine Below.alloc ?_ ?_ _) | (with_reducible refine Below.drew ?_) | (with_reducible refine Below.drewN' ?_ _) | (with_reducible refine Below.setCell ?_ ?_ _) | (refine Below.via ?_ (by with_reducible assumption) ?_) | (with_reducible refine Below.via ?_ (Wd.h _) ?_) | go_size)))) HI.out.ok rfl rfl rfl (HA.out.below (by (repeat' (first | (with_reducible exact Below.refl _ _) | (with_reducible assumption) | (with_reducible refine Below.alloc ?_ ?_ _) | (with_reducible refine Below.drew ?_) | (with_reducible refine Below.drewN' ?_ _) | (with_reducible refine Below.setCell ?_ ?_ _) | (refine Below.via ?_ (by with_reducible assumption) ?_) | (with_reducible refine Below.via ?_ (Wd.h _) ?_) | go_size)))) HH.out.2).mono ?_
        rintro e w3 ⟨A4, A5, A6, c4, c5, c6, rfl, hW, hb3⟩
        obtain ⟨b', ok, hs⟩ : ∃ b' ok, stR N b.lo b.hi b.nw x.fl x.su = (b', ok) := ⟨_, _, rfl⟩
        rw [hs] at hW ⊢
        dsimp only at hW
        have HW := Lib.hid hW
        have HS := Lib.hid hs
        clear hW hs
        (obtain ⟨hcn, hfn⟩ := bcell hb3; have hz3 := hb3.size; (try simp at hz3); have Ncw0_0 := hcn (w.heap.size) (0) (by first | omega | (simp; done) | (simp; omega)); have Nfw0_0 := hfn (w.heap.size) (0) (by first | omega | (simp; done) | (simp; omega)); have Nhy0 : w.heap.size < w3.heap.size := (by omega); have Ncw0_1 := hcn (w.heap.size) (1) (by first | omega | (simp; done) | (simp; omega)); have Nfw0_1 := hfn (w.heap.size) (1) (by first | omega | (simp; done) | (simp; omega)); have Ncw1_0 := hcn (w.heap.size + 1) (0) (by first | omega | (simp; done) | (simp; omega)); have Nfw1_0 := hfn (w.heap.size + 1) (0) (by first | omega | (simp; done) | (simp; omega)); have Nhy1 : w.heap.size + 1 < w3.heap.size := (by omega); have Ncw1_1 := hcn (w.heap.size + 1) (1) (by first | omega | (simp; done) | (simp; omega)); have Nfw1_1 := hfn (w.heap.size + 1) (1) (by first | omega | (simp; done) | (simp; omega)); have Ncw1_2 := hcn (w.heap.size + 1) (2) (by first | omega | (simp; done) | (simp; omega)); have Nfw1_2 := hfn (w.heap.size + 1) (2) (by first | omega | (simp; done) | (simp; omega)); have Ncw2_0 := hcn (w.heap.size + 2) (0) (by first | omega | (simp; done) | (simp; omega)); have Nfw2_0 := hfn (w.heap.size + 2) (0) (by first | omega | (simp; done) | (simp; omega)); have Nhy2 : w.heap.size + 2 < w3.heap.size := (by omega); have Ncw2_1 := hcn (w.heap.size + 2) (1) (by first | omega | (simp; done) | (simp; omega)); have Nfw2_1 := hfn (w.heap.size + 2) (1) (by first | omega | (simp; done) | (simp; omega)); simp [go_sem, cw0_0, fw0_0, cw0_1, fw0_1, cw1_0, fw1_0, cw1_1, fw1_1, cw1_2, fw1_2, cw2_0, fw2_0, cw2_1, fw2_1, hy0, hy1, hy2] at Ncw0_0 Nfw0_0 Ncw0_1 Nfw0_1 Ncw1_0 Nfw1_0 Ncw1_1 Nfw1_1 Ncw1_2 Nfw1_2 Ncw2_0 Nfw2_0 Ncw2_1 Nfw2_1; clear cw0_0 fw0_0 cw0_1 fw0_1 cw1_0 fw1_0 cw1_1 fw1_1 cw1_2 fw1_2 cw2_0 fw2_0 cw2_1 fw2_1 hy0 hy1 hy2; clear hcn hfn; have cw0_0 := Ncw0_0; have fw0_0 := Nfw0_0; have cw0_1 := Ncw0_1; have fw0_1 := Nfw0_1; have cw1_0 := Ncw1_0; have fw1_0 := Nfw1_0; have cw1_1 := Ncw1_1; have fw1_1 := Nfw1_1; have cw1_2 := Ncw1_2; have fw1_2 := Nfw1_2; have cw2_0 := Ncw2_0; have fw2_0 := Nfw2_0; have cw2_1 := Ncw2_1; have fw2_1 := Nfw2_1; have hy0 := Nhy0; have hy1 := Nhy1; have hy2 := Nhy2; clear Ncw0_0 Nfw0_0 Ncw0_1 Nfw0_1 Ncw1_0 Nfw1_0 Ncw1_1 Nfw1_1 Ncw1_2 Nfw1_2 Ncw2_0 Nfw2_0 Ncw2_1 Nfw2_1 Nhy0 Nhy1 Nhy2)
        have hB3 : Below w.heap.size w w3 := by have h1 := hbH.out; (repeat' (first | (with_reducible exact Below.refl _ _) | (with_reducible assumption) | (with_reducible refine Below.alloc ?_ ?_ _) | (with_reducible refine Below.drew ?_) | (with_reducible refine Below.drewN' ?_ _) | (with_reducible refine Below.setCell ?_ ?_ _) | (refine Below.via ?_ (by with_reducible assumption) ?_) | (with_reducible refine Below.via ?_ (Wd.h _) ?_) | go_size))
        cases ok
        · have HE := Lib.hid (sdGo_no (b := b) hlt (by rw [HS.out]))
          go_wp2
          refine bodyPost_ret (by simp [results, Try.results17, go_sem]; try rfl) rfl ⟨?_, by (repeat' (first | (with_reducible exact Below.refl _ _) | (with_reducible assumption) | (with_reducible refine Below.alloc ?_ ?_ _) | (with_reducible refine Below.drew ?_) | (with_reducible refine Below.drewN' ?_ _) | (with_reducible refine Below.setCell ?_ ?_ _) | (refine Below.via ?_ (by with_reducible assumption) ?_) | (with_reducible refine Below.via ?_ (Wd.h _) ?_) | go_size))⟩
          rw [HRR.out, ← HI.out.go, HE.out]
        · have HE := Lib.hid (sdGo_yes (b := b) hlt (by rw [HS.out]))
          have HOK := Lib.hid (stR_ok (N := N) (ll := b.lo) (lh := b.hi) (ln := b.nw) (fl := x.fl) (su := x.su) (by rw [HS.out]))
          have o1 : Off (w.heap.size + 1) A4 A5 A6 := HW.out.off (by omega)
          have o2 : Off w3.heap.size A4 A5 A6 := HW.out.fresh (Nat.le_refl _)
          go_wp2
          go_roundw
          case rel =>
            have hok := HOK.out
            rw [HS.out] at hok
            have hgo := HE.out
            rw [HS.out] at hgo
            have h24 := HBK.out.1.n2
            have hl1 := hok.l1
            have hl2 := hok.l2
            have hl3 := hok.l3
            dsimp only at hl1 hl2 hl3
            have hW3 : BufW wr.heap.size (((w3.setCell ⟨w.heap.size + 1, 0, none⟩ (.slice A4 b'.lo.length c4)).setCell ⟨w.heap.size + 1, 1, none⟩ (.slice A5 b'.hi.length c5)).setCell ⟨w.heap.size + 1, 2, none⟩ (.slice A6 b'.nw.length c6)) A4 A5 A6 b'.lo b'.hi b'.nw := ((HW.out.seto o1 _).seto o1 _).seto o1 _
            exact ⟨k + 1, b', A4, A5, A6, c4, c5, c6, by go_num, ⟨by omega, by rw [← hgo]; exact HI.out.go, (hW3.below (by (repeat' (first | (with_reducible exact Below.refl _ _) | (with_reducible assumption) | (with_reducible refine Below.alloc ?_ ?_ _) | (with_reducible refine Below.drew ?_) | (with_reducible refine Below.drewN' ?_ _) | (with_reducible refine Below.setCell ?_ ?_ _) | (refine Below.via ?_ (by with_reducible assumption) ?_) | (with_reducible refine Below.via ?_ (Wd.h _) ?_) | go_size)))).at_ (by omega) (by omega) (by omega), hok, o1, (bx3 (by first | exact hy1 | go_size) (by first | (with_reducible exact cw1_0) | go_cell_look | (simp [go_sem, hy1, cw1_0, fw1_0, cw1_1, fw1_1, cw1_2, fw1_2]; done) | (simp [go_sem]; done)) (by first | (with_reducible exact fw1_0) | (simp only [World.frozen?_setCell, fw1_0]; done) | (simp [go_sem, hy1, cw1_0, fw1_0, cw1_1, fw1_1, cw1_2, fw1_2]; done) | (simp [go_sem]; done)) (by first | (with_reducible exact cw1_1) | go_cell_look | (simp [go_sem, hy1, cw1_0, fw1_0, cw1_1, fw1_1, cw1_2, fw1_2]; done) | (simp [go_sem]; done)) (by first | (with_reducible exact fw1_1) | (simp only [World.frozen?_setCell, fw1_1]; done) | (simp [go_sem, hy1, cw1_0, fw1_0, cw1_1, fw1_1, cw1_2, fw1_2]; done) | (simp [go_sem]; done)) (by first | (with_reducible exact cw1_2) | go_cell_look | (simp [go_sem, hy1, cw1_0, fw1_0, cw1_1, fw1_1, cw1_2, fw1_2]; done) | (simp [go_sem]; done)) (by first | (with_reducible exact fw1_2) | (simp only [World.frozen?_setCell, fw1_2]; done) | (simp [go_sem, hy1, cw1_0, fw1_0, cw1_1, fw1_1, cw1_2, fw1_2]; done) | (simp [go_sem]; done)))⟩, (bx2 (by first | exact hy0 | go_size) (by first | (with_reducible exact cw0_0) | go_cell_look | (simp [go_sem, hy0, cw0_0, fw0_0, cw0_1, fw0_1]; done) | (simp [go_sem]; done)) (by first | (with_reducible exact fw0_0) | (simp only [World.frozen?_setCell, fw0_0]; done) | (simp [go_sem, hy0, cw0_0, fw0_0, cw0_1, fw0_1]; done) | (simp [go_sem]; done)) (by first | (with_reducible exact cw0_1) | go_cell_look | (simp [go_sem, hy0, cw0_0, fw0_0, cw0_1, fw0_1]; done) | (simp [go_sem]; done)) (by first | (with_reducible exact fw0_1) | (simp only [World.frozen?_setCell, fw0_1]; done) | (simp [go_sem, hy0, cw0_0, fw0_0, cw0_1, fw0_1]; done) | (simp [go_sem]; done))), (bx2 (by first | exact hy2 | go_size) (by first | (with_reducible exact cw2_0) | go_cell_look | (simp [go_sem, hy2, cw2_0, fw2_0, cw2_1, fw2_1]; done) | (simp [go_sem]; done)) (by first | (with_reducible exact fw2_0) | (simp only [World.frozen?_setCell, fw2_0]; done) | (simp [go_sem, hy2, cw2_0, fw2_0, cw2_1, fw2_1]; done) | (simp [go_sem]; done)) (by first | (with_reducible exact cw2_1) | go_cell_look | (simp [go_sem, hy2, cw2_0, fw2_0, cw2_1, fw2_1]; done) | (simp [go_sem]; done)) (by first | (with_reducible exact fw2_1) | (simp only [World.frozen?_setCell, fw2_1]; done) | (simp [go_sem, hy2, cw2_0, fw2_0, cw2_1, fw2_1]; done) | (simp [go_sem]; done))), by (repeat' (first | (with_reducible exact Below.refl _ _) | (with_reducible assumption) | (with_reducible refine Below.alloc ?_ ?_ _) | (with_reducible refine Below.drew ?_) | (with_reducible refine Below.drewN' ?_ _) | (with_reducible refine Below.setCell ?_ ?_ _) | (refine Below.via ?_ (by with_reducible assumption) ?_) | (with_reducible refine Below.via ?_ (Wd.h _) ?_) | go_size))⟩
          case measure => simp [intOf]; omega
      · have g1 : ¬ (k : Int) < 48 := by omega
        have hK : k = 48 := by omega
        go_wp2
        refine bodyPost_ret (by simp [results, Try.results17, go_sem]; try rfl) rfl ⟨?_, by have h1 := hbH.out; (repeat' (first | (with_reducible exact Below.refl _ _) | (with_reducible assumption) | (with_reducible refine Below.alloc ?_ ?_ _) | (with_reducible refine Below.drew ?_) | (with_reducible refine Below.drewN' ?_ _) | (with_reducible refine Below.setCell ?_ ?_ _) | (refine Below.via ?_ (by with_reducible assumption) ?_) | (with_reducible refine Below.via ?_ (Wd.h _) ?_) | go_size))⟩
        rw [HRR.out, ← HI.out.go, sdGo_end hlt, hK]
        rfl
  · have b0 : (hrC N ll lh ln x != 0) = true := by simp [h0]
    have HRR := Lib.hid (show sdR N ll lh ln x = (0, hrC N ll lh ln x) by simp [sdR, h0])
    clear h0
    go_wp2
    refine bodyPost_ret (by simp [results, Try.results17, go_sem]; try rfl) rfl ⟨?_, by (repeat' (first | (with_reducible exact Below.refl _ _) | (with_reducible assumption) | (with_reducible refine Below.alloc ?_ ?_ _) | (with_reducible refine Below.drew ?_) | (with_reducible refine Below.drewN' ?_ _) | (with_reducible refine Below.setCell ?_ ?_ _) | (refine Below.via ?_ (by with_reducible assumption) ?_) | (with_reducible refine Below.via ?_ (Wd.h _) ?_) | go_size))⟩
    rw [HRR.out]
set_option maxRecDepth 100000 in
set_option maxHeartbeats 4000000 in
theorem impl_SteadyHours (A B Al Ah An : Option Addr) (n c m d nl nh nn cl ch cn : Nat) (N : Net) (ll lh ln : List Int) (x : Hr) (w : World) (hN : NetAt w A B N) (hn : n = N.nodes.length) (hm : m = N.pipes.length) (hc : n ≤ c) (h : BufAt w Al Ah An ll lh ln) (e1 : nl = ll.length) (e2 : nh = lh.length) (e3 : nn = ln.length) (hat : HrAt w x) :
    Calls Try.prog 16 #[netV A B n c m d, bufV Al Ah An nl nh nn cl ch cn, x.val] w fun e w' => e = .returned (.tuple #[.int .i64 (sdR N ll lh ln x).1, .int .i64 (sdR N ll lh ln x).2]) ∧ Below w.heap.size w w' := by
  subst hn hm e1 e2 e3
  have HN := Lib.hid hN
  have HR := Lib.hid h
  have HA := Lib.hid hat
  clear hN h hat
  have HC1 := Lib.hid (hrsC_one N ll lh ln x)
  go_enter Try.func16, Try.ntmps16
  go_wp2_with fail
  
  refine (impl_checkBuffers _ _ _ _ _ _ _ _ _ _ _ _ _ _ _ _ _ N ll lh ln [x] _ (HN.out.below (by (repeat' (first | (with_reducible exact Below.refl _ _) | (with_reducible assumption) | (with_reducible refine Below.alloc ?_ ?_ _) | (with_reducible refine Below.drew ?_) | (with_reducible refine Below.drewN' ?_ _) | (with_reducible refine Below.setCell ?_ ?_ _) | (refine Below.via ?_ (by with_reducible assumption) ?_) | (with_reducible refine Below.via ?_ (Wd.h _) ?_) | go_size)))) rfl rfl hc (HR.out.below (by (repeat' (first | (with_reducible exact Below.refl _ _) | (with_reducible assumption) | (with_reducible refine Below.alloc ?_ ?_ _) | (with_reducible refine Below.drew ?_) | (with_reducible refine Below.drewN' ?_ _) | (with_reducible refine Below.setCell ?_ ?_ _) | (refine Below.via ?_ (by with_reducible assumption) ?_) | (with_reducible refine Below.via ?_ (Wd.h _) ?_) | go_size)))) rfl rfl rfl ?hH ?hA (by simp)).mono ?_
  case hH => exact Rd.two (by simp)
  case hA => exact fun y hy => by obtain rfl : y = x := by simpa using hy
                                  exact HA.out.below (by (repeat' (first | (with_reducible exact Below.refl _ _) | (with_reducible assumption) | (with_reducible refine Below.alloc ?_ ?_ _) | (with_reducible refine Below.drew ?_) | (with_reducible refine Below.drewN' ?_ _) | (with_reducible refine Below.setCell ?_ ?_ _) | (refine Below.via ?_ (by with_reducible assumption) ?_) | (with_reducible refine Below.via ?_ (Wd.h _) ?_) | go_size)))
  rintro e w1 ⟨rfl, hb1⟩
  rw [HC1.out]
  (obtain ⟨hcn, hfn⟩ := bcell hb1; have hz1 := hb1.size; (try simp at hz1); have Ncw0_0 := hcn (w.heap.size) (0) (by first | omega | (simp; done) | (simp; omega)); have Nfw0_0 := hfn (w.heap.size) (0) (by first | omega | (simp; done) | (simp; omega)); have Nhy0 : w.heap.size < w1.heap.size := (by omega); have Ncw0_1 := hcn (w.heap.size) (1) (by first | omega | (simp; done) | (simp; omega)); have Nfw0_1 := hfn (w.heap.size) (1) (by first | omega | (simp; done) | (simp; omega)); have Ncw1_0 := hcn (w.heap.size + 1) (0) (by first | omega | (simp; done) | (simp; omega)); have Nfw1_0 := hfn (w.heap.size + 1) (0) (by first | omega | (simp; done) | (simp; omega)); have Nhy1 : w.heap.size + 1 < w1.heap.size := (by omega); have Ncw1_1 := hcn (w.heap.size + 1) (1) (by first | omega | (simp; done) | (simp; omega)); have Nfw1_1 := hfn (w.heap.size + 1) (1) (by first | omega | (simp; done) | (simp; omega)); have Ncw1_2 := hcn (w.heap.size + 1) (2) (by first | omega | (simp; done) | (simp; omega)); have Nfw1_2 := hfn (w.heap.size + 1) (2) (by first | omega | (simp; done) | (simp; omega)); have Ncw2_0 := hcn (w.heap.size + 2) (0) (by first | omega | (simp; done) | (simp; omega)); have Nfw2_0 := hfn (w.heap.size + 2) (0) (by first | omega | (simp; done) | (simp; omega)); have Nhy2 : w.heap.size + 2 < w1.heap.size := (by omega); have Ncw2_1 := hcn (w.heap.size + 2) (1) (by first | omega | (simp; done) | (simp; omega)); have Nfw2_1 := hfn (w.heap.size + 2) (1) (by first | omega | (simp; done) | (simp; omega)); simp [go_sem] at Ncw0_0 Nfw0_0 Ncw0_1 Nfw0_1 Ncw1_0 Nfw1_0 Ncw1_1 Nfw1_1 Ncw1_2 Nfw1_2 Ncw2_0 Nfw2_0 Ncw2_1 Nfw2_1; clear hcn hfn; have cw0_0 := Ncw0_0; have fw0_0 := Nfw0_0; have cw0_1 := Ncw0_1; have fw0_1 := Nfw0_1; have cw1_0 := Ncw1_0; have fw1_0 := Nfw1_0; have cw1_1 := Ncw1_1; have fw1_1 := Nfw1_1; have cw1_2 := Ncw1_2; have fw1_2 := Nfw1_2; have cw2_0 := Ncw2_0; have fw2_0 := Nfw2_0; have cw2_1 := Ncw2_1; have fw2_1 := Nfw2_1; have hy0 := Nhy0; have hy1 := Nhy1; have hy2 := Nhy2; clear Ncw0_0 Nfw0_0 Ncw0_1 Nfw0_1 Ncw1_0 Nfw1_0 Ncw1_1 Nfw1_1 Ncw1_2 Nfw1_2 Ncw2_0 Nfw2_0 Ncw2_1 Nfw2_1 Nhy0 Nhy1 Nhy2)
  by_cases h0 : hrC N ll lh ln x = 0
  · have b0 : (hrC N ll lh ln x != 0) = false := by simp [h0]
    have HH := Lib.hid (hrC_of h0)
    have HBK := Lib.hid (bufC_of (hrC_of h0).1)
    obtain ⟨tot, htot⟩ : ∃ tot, tot = sdGo N x.fl x.su 48 0 ⟨ll, lh, ln⟩ := ⟨_, rfl⟩
    have HRR := Lib.hid (show sdR N ll lh ln x = (tot, 0) by simp [sdR, h0, htot])
    have HTOT := Lib.hid htot
    have HB1 := Lib.hid (show Below w.heap.size w w1 by (repeat' (first | (with_reducible exact Below.refl _ _) | (with_reducible assumption) | (with_reducible refine Below.alloc ?_ ?_ _) | (with_reducible refine Below.drew ?_) | (with_reducible refine Below.drewN' ?_ _) | (with_reducible refine Below.setCell ?_ ?_ _) | (refine Below.via ?_ (by with_reducible assumption) ?_) | (with_reducible refine Below.via ?_ (Wd.h _) ?_) | go_size)))
    have X0 := Lib.hid (show Bx w1 w.heap.size [.slice A N.nodes.length c, .slice B N.pipes.length d] from (bx2 (by first | exact hy0 | go_size) (by first | (with_reducible exact cw0_0) | go_cell_look | (simp [go_sem, hy0, cw0_0, fw0_0, cw0_1, fw0_1]; done) | (simp [go_sem]; done)) (by first | (with_reducible exact fw0_0) | (simp only [World.frozen?_setCell, fw0_0]; done) | (simp [go_sem, hy0, cw0_0, fw0_0, cw0_1, fw0_1]; done) | (simp [go_sem]; done)) (by first | (with_reducible exact cw0_1) | go_cell_look | (simp [go_sem, hy0, cw0_0, fw0_0, cw0_1, fw0_1]; done) | (simp [go_sem]; done)) (by first | (with_reducible exact fw0_1) | (simp only [World.frozen?_setCell, fw0_1]; done) | (simp [go_sem, hy0, cw0_0, fw0_0, cw0_1, fw0_1]; done) | (simp [go_sem]; done))))
    have X1 := Lib.hid (show Bx w1 (w.heap.size + 1) [.slice Al ll.length cl, .slice Ah lh.length ch, .slice An ln.length cn] from (bx3 (by first | exact hy1 | go_size) (by first | (with_reducible exact cw1_0) | go_cell_look | (simp [go_sem, hy1, cw1_0, fw1_0, cw1_1, fw1_1, cw1_2, fw1_2]; done) | (simp [go_sem]; done)) (by first | (with_reducible exact fw1_0) | (simp only [World.frozen?_setCell, fw1_0]; done) | (simp [go_sem, hy1, cw1_0, fw1_0, cw1_1, fw1_1, cw1_2, fw1_2]; done) | (simp [go_sem]; done)) (by first | (with_reducible exact cw1_1) | go_cell_look | (simp [go_sem, hy1, cw1_0, fw1_0, cw1_1, fw1_1, cw1_2, fw1_2]; done) | (simp [go_sem]; done)) (by first | (with_reducible exact fw1_1) | (simp only [World.frozen?_setCell, fw1_1]; done) | (simp [go_sem, hy1, cw1_0, fw1_0, cw1_1, fw1_1, cw1_2, fw1_2]; done) | (simp [go_sem]; done)) (by first | (with_reducible exact cw1_2) | go_cell_look | (simp [go_sem, hy1, cw1_0, fw1_0, cw1_1, fw1_1, cw1_2, fw1_2]; done) | (simp [go_sem]; done)) (by first | (with_reducible exact fw1_2) | (simp only [World.frozen?_setCell, fw1_2]; done) | (simp [go_sem, hy1, cw1_0, fw1_0, cw1_1, fw1_1, cw1_2, fw1_2]; done) | (simp [go_sem]; done))))
    have X2 := Lib.hid (show Bx w1 (w.heap.size + 2) [.slice x.A x.fl.length x.c, .slice x.B x.su.length x.d] from (bx2 (by first | exact hy2 | go_size) (by first | (with_reducible exact cw2_0) | go_cell_look | (simp [go_sem, hy2, cw2_0, fw2_0, cw2_1, fw2_1]; done) | (simp [go_sem]; done)) (by first | (with_reducible exact fw2_0) | (simp only [World.frozen?_setCell, fw2_0]; done) | (simp [go_sem, hy2, cw2_0, fw2_0, cw2_1, fw2_1]; done) | (simp [go_sem]; done)) (by first | (with_reducible exact cw2_1) | go_cell_look | (simp [go_sem, hy2, cw2_0, fw2_0, cw2_1, fw2_1]; done) | (simp [go_sem]; done)) (by first | (with_reducible exact fw2_1) | (simp only [World.frozen?_setCell, fw2_1]; done) | (simp [go_sem, hy2, cw2_0, fw2_0, cw2_1, fw2_1]; done) | (simp [go_sem]; done))))
    clear hy0 cw0_0 fw0_0 cw0_1 fw0_1
    clear hy1 cw1_0 fw1_0 cw1_1 fw1_1 cw1_2 fw1_2
    clear hy2 cw2_0 fw2_0 cw2_1 fw2_1
    clear h0 htot hb1
    go_wp2_with fail
    go_loopw [20] (fun v wr => ∃ k b A1 A2 A3 c1 c2 c3, v = .int .i64 (k : Nat) ∧ SdI w (w.heap.size + 1) N x tot k b A1 A2 A3 c1 c2 c3 wr ∧ Bx wr w.heap.size [.slice A N.nodes.length c, .slice B N.pipes.length d] ∧ Bx wr (w.heap.size + 2) [.slice x.A x.fl.length x.c, .slice x.B x.su.length x.d] ∧ Below w.heap.size w wr) (fun v _ => 48 - (intOf v).toNat)
    case atStart => exact ⟨0, ⟨ll, lh, ln⟩, Al, Ah, An, cl, ch, cn, rfl, ⟨by omega, HTOT.out.symm, HR.out.below HB1.out, HBK.out.2, HR.out.off HBK.out.2 HBK.out.1.n1 (by omega), X1.out⟩, X0.out, X2.out, HB1.out⟩
    case round =>
      clear X0 X1 X2
      obtain ⟨k, b, A1, A2, A3, c1, c2, c3, rfl, hI, y0, y2, hbw⟩ := hrel
      have HI := Lib.hid hI
      have hbH := Lib.hid hbw
      have hk := hI.le
      have y1 := hI.bx
      have hy0 := y0.lt; have cw0_0 := y0.cell 0 rfl; have fw0_0 := y0.frozen 0 rfl; have cw0_1 := y0.cell 1 rfl; have fw0_1 := y0.frozen 1 rfl
      have hy1 := y1.lt; have cw1_0 := y1.cell 0 rfl; have fw1_0 := y1.frozen 0 rfl; have cw1_1 := y1.cell 1 rfl; have fw1_1 := y1.frozen 1 rfl; have cw1_2 := y1.cell 2 rfl; have fw1_2 := y1.frozen 2 rfl
      have hy2 := y2.lt; have cw2_0 := y2.cell 0 rfl; have fw2_0 := y2.frozen 0 rfl; have cw2_1 := y2.cell 1 rfl; have fw2_1 := y2.frozen 1 rfl
      have hyr := hy2
      clear hI y0 y1 y2
      by_cases hlt : k < 48
      · have g1 : (k : Int) < 48 := by omega
        go_wp2_with fail
        refine (impl_stepHour _ _ _ _ _ _ _ _ _ _ _ _ _ _ _ N b.lo b.hi b.nw x _ (HN.out.below (by (repeat' (first | (with_reducible exact Below.refl _ _) | (with_reducible assumption) | (with_reducible refine Below.alloc ?_ ?_ _) | (with_reducible refine Below.drew ?_) | (with_reducible refine Below.drewN' ?_ _) | (with_reducible refine Below.setCell ?_ ?_ _) | (refine Below.via ?_ (by with_reducible assumption) ?_) | (with_reducible refine Below.via ?_ (Wd.h _) ?_) | go_size)))) rfl rfl HBK.out.1 (HI.out.at_.below (by (repeat' (first | (with_reducible exact Below.refl _ _) | (with_reducible assumption) | (with_reducible refine Below.alloc ?_ ?_ _) | (with_reducible refine Below.drew ?_) | (with_reducible refine Below.drewN' ?_ _) | (with_reducible refine Below.setCell ?_ ?_ _) | (refine Below.via ?_ (by with_reducible assumption) ?_) | (with_reducible refine Below.via ?_ (Wd.h _) ?_) | go_size)))) HI.out.ok rfl rfl rfl (HA.out.below (by (repeat' (first | (with_reducible exact Below.refl _ _) | (with_reducible assumption) | (with_reducible refine Below.alloc ?_ ?_ _) | (with_reducible refine Below.drew ?_) | (with_reducible refine Below.drewN' ?_ _) | (with_reducible refine Below.setCell ?_ ?_ _) | (refine Below.via ?_ (by with_reducible assumption) ?_) | (with_reducible refine Below.via ?_ (Wd.h _) ?_) | go_size)))) HH.out.2).mono ?_
        rintro e w3 ⟨A4, A5, A6, c4, c5, c6, rfl, hW, hb3⟩
        obtain ⟨b', ok, hs⟩ : ∃ b' ok, stR N b.lo b.hi b.nw x.fl x.su = (b', ok) := ⟨_, _, rfl⟩
        rw [hs] at hW ⊢
        dsimp only at hW
        have HW := Lib.hid hW
        have HS := Lib.hid hs
        clear hW hs
        (obtain ⟨hcn, hfn⟩ := bcell hb3; have hz3 := hb3.size; (try simp at hz3); have Ncw0_0 := hcn (w.heap.size) (0) (by first | omega | (simp; done) | (simp; omega)); have Nfw0_0 := hfn (w.heap.size) (0) (by first | omega | (simp; done) | (simp; omega)); have Nhy0 : w.heap.size < w3.heap.size := (by omega); have Ncw0_1 := hcn (w.heap.size) (1) (by first | omega | (simp; done) | (simp; omega)); have Nfw0_1 := hfn (w.heap.size) (1) (by first | omega | (simp; done) | (simp; omega)); have Ncw1_0 := hcn (w.heap.size + 1) (0) (by first | omega | (simp; done) | (simp; omega)); have Nfw1_0 := hfn (w.heap.size + 1) (0) (by first | omega | (simp; done) | (simp; omega)); have Nhy1 : w.heap.size + 1 < w3.heap.size := (by omega); have Ncw1_1 := hcn (w.heap.size + 1) (1) (by first | omega | (simp; done) | (simp; omega)); have Nfw1_1 := hfn (w.heap.size + 1) (1) (by first | omega | (simp; done) | (simp; omega)); have Ncw1_2 := hcn (w.heap.size + 1) (2) (by first | omega | (simp; done) | (simp; omega)); have Nfw1_2 := hfn (w.heap.size + 1) (2) (by first | omega | (simp; done) | (simp; omega)); have Ncw2_0 := hcn (w.heap.size + 2) (0) (by first | omega | (simp; done) | (simp; omega)); have Nfw2_0 := hfn (w.heap.size + 2) (0) (by first | omega | (simp; done) | (simp; omega)); have Nhy2 : w.heap.size + 2 < w3.heap.size := (by omega); have Ncw2_1 := hcn (w.heap.size + 2) (1) (by first | omega | (simp; done) | (simp; omega)); have Nfw2_1 := hfn (w.heap.size + 2) (1) (by first | omega | (simp; done) | (simp; omega)); simp [go_sem, cw0_0, fw0_0, cw0_1, fw0_1, cw1_0, fw1_0, cw1_1, fw1_1, cw1_2, fw1_2, cw2_0, fw2_0, cw2_1, fw2_1, hy0, hy1, hy2] at Ncw0_0 Nfw0_0 Ncw0_1 Nfw0_1 Ncw1_0 Nfw1_0 Ncw1_1 Nfw1_1 Ncw1_2 Nfw1_2 Ncw2_0 Nfw2_0 Ncw2_1 Nfw2_1; clear cw0_0 fw0_0 cw0_1 fw0_1 cw1_0 fw1_0 cw1_1 fw1_1 cw1_2 fw1_2 cw2_0 fw2_0 cw2_1 fw2_1 hy0 hy1 hy2; clear hcn hfn; have cw0_0 := Ncw0_0; have fw0_0 := Nfw0_0; have cw0_1 := Ncw0_1; have fw0_1 := Nfw0_1; have cw1_0 := Ncw1_0; have fw1_0 := Nfw1_0; have cw1_1 := Ncw1_1; have fw1_1 := Nfw1_1; have cw1_2 := Ncw1_2; have fw1_2 := Nfw1_2; have cw2_0 := Ncw2_0; have fw2_0 := Nfw2_0; have cw2_1 := Ncw2_1; have fw2_1 := Nfw2_1; have hy0 := Nhy0; have hy1 := Nhy1; have hy2 := Nhy2; clear Ncw0_0 Nfw0_0 Ncw0_1 Nfw0_1 Ncw1_0 Nfw1_0 Ncw1_1 Nfw1_1 Ncw1_2 Nfw1_2 Ncw2_0 Nfw2_0 Ncw2_1 Nfw2_1 Nhy0 Nhy1 Nhy2)
        have hB3 : Below w.heap.size w w3 := by have h1 := hbH.out; (repeat' (first | (with_reducible exact Below.refl _ _) | (with_reducible assumption) | (with_reducible refine Below.alloc ?_ ?_ _) | (with_reducible refine Below.drew ?_) | (with_reducible refine Below.drewN' ?_ _) | (with_reducible refine Below.setCell ?_ ?_ _) | (refine Below.via ?_ (by with_reducible assumption) ?_) | (with_reducible refine Below.via ?_ (Wd.h _) ?_) | go_size))
        cases ok
        · have HE := Lib.hid (sdGo_no (b := b) hlt (by rw [HS.out]))
          go_wp2
          refine bodyPost_ret (by simp [results, Try.results16, go_sem]; try rfl) rfl ⟨?_, by (repeat' (first | (with_reducible exact Below.refl _ _) | (with_reducible assumption) | (with_reducible refine Below.alloc ?_ ?_ _) | (with_reducible refine Below.drew ?_) | (with_reducible refine Below.drewN' ?_ _) | (with_reducible refine Below.setCell ?_ ?_ _) | (refine Below.via ?_ (by with_reducible assumption) ?_) | (with_reducible refine Below.via ?_ (Wd.h _) ?_) | go_size))⟩
          rw [HRR.out, ← HI.out.go, HE.out]
        · have HE := Lib.hid (sdGo_yes (b := b) hlt (by rw [HS.out]))
          have HOK := Lib.hid (stR_ok (N := N) (ll := b.lo) (lh := b.hi) (ln := b.nw) (fl := x.fl) (su := x.su) (by rw [HS.out]))
          have o1 : Off (w.heap.size + 1) A4 A5 A6 := HW.out.off (by omega)
          have o2 : Off w3.heap.size A4 A5 A6 := HW.out.fresh (Nat.le_refl _)
          go_wp2
          go_roundw
          case rel =>
            have hok := HOK.out
            rw [HS.out] at hok
            have hgo := HE.out
            rw [HS.out] at hgo
            have h24 := HBK.out.1.n2
            have hl1 := hok.l1
            have hl2 := hok.l2
            have hl3 := hok.l3
            dsimp only at hl1 hl2 hl3
            have hW3 : BufW wr.heap.size (((w3.setCell ⟨w.heap.size + 1, 0, none⟩ (.slice A4 b'.lo.length c4)).setCell ⟨w.heap.size + 1, 1, none⟩ (.slice A5 b'.hi.length c5)).setCell ⟨w.heap.size + 1, 2, none⟩ (.slice A6 b'.nw.length c6)) A4 A5 A6 b'.lo b'.hi b'.nw := ((HW.out.seto o1 _).seto o1 _).seto o1 _
            exact ⟨k + 1, b', A4, A5, A6, c4, c5, c6, by go_num, ⟨by omega, by rw [← hgo]; exact HI.out.go, (hW3.below (by (repeat' (first | (with_reducible exact Below.refl _ _) | (with_reducible assumption) | (with_reducible refine Below.alloc ?_ ?_ _) | (with_reducible refine Below.drew ?_) | (with_reducible refine Below.drewN' ?_ _) | (with_reducible refine Below.setCell ?_ ?_ _) | (refine Below.via ?_ (by with_reducible assumption) ?_) | (with_reducible refine Below.via ?_ (Wd.h _) ?_) | go_size)))).at_ (by omega) (by omega) (by omega), hok, o1, (bx3 (by first | exact hy1 | go_size) (by first | (with_reducible exact cw1_0) | go_cell_look | (simp [go_sem, hy1, cw1_0, fw1_0, cw1_1, fw1_1, cw1_2, fw1_2]; done) | (simp [go_sem]; done)) (by first | (with_reducible exact fw1_0) | (simp only [World.frozen?_setCell, fw1_0]; done) | (simp [go_sem, hy1, cw1_0, fw1_0, cw1_1, fw1_1, cw1_2, fw1_2]; done) | (simp [go_sem]; done)) (by first | (with_reducible exact cw1_1) | go_cell_look | (simp [go_sem, hy1, cw1_0, fw1_0, cw1_1, fw1_1, cw1_2, fw1_2]; done) | (simp [go_sem]; done)) (by first | (with_reducible exact fw1_1) | (simp only [World.frozen?_setCell, fw1_1]; done) | (simp [go_sem, hy1, cw1_0, fw1_0, cw1_1, fw1_1, cw1_2, fw1_2]; done) | (simp [go_sem]; done)) (by first | (with_reducible exact cw1_2) | go_cell_look | (simp [go_sem, hy1, cw1_0, fw1_0, cw1_1, fw1_1, cw1_2, fw1_2]; done) | (simp [go_sem]; done)) (by first | (with_reducible exact fw1_2) | (simp only [World.frozen?_setCell, fw1_2]; done) | (simp [go_sem, hy1, cw1_0, fw1_0, cw1_1, fw1_1, cw1_2, fw1_2]; done) | (simp [go_sem]; done)))⟩, (bx2 (by first | exact hy0 | go_size) (by first | (with_reducible exact cw0_0) | go_cell_look | (simp [go_sem, hy0, cw0_0, fw0_0, cw0_1, fw0_1]; done) | (simp [go_sem]; done)) (by first | (with_reducible exact fw0_0) | (simp only [World.frozen?_setCell, fw0_0]; done) | (simp [go_sem, hy0, cw0_0, fw0_0, cw0_1, fw0_1]; done) | (simp [go_sem]; done)) (by first | (with_reducible exact cw0_1) | go_cell_look | (simp [go_sem, hy0, cw0_0, fw0_0, cw0_1, fw0_1]; done) | (simp [go_sem]; done)) (by first | (with_reducible exact fw0_1) | (simp only [World.frozen?_setCell, fw0_1]; done) | (simp [go_sem, hy0, cw0_0, fw0_0, cw0_1, fw0_1]; done) | (simp [go_sem]; done))), (bx2 (by first | exact hy2 | go_size) (by first | (with_reducible exact cw2_0) | go_cell_look | (simp [go_sem, hy2, cw2_0, fw2_0, cw2_1, fw2_1]; done) | (simp [go_sem]; done)) (by first | (with_reducible exact fw2_0) | (simp only [World.frozen?_setCell, fw2_0]; done) | (simp [go_sem, hy2, cw2_0, fw2_0, cw2_1, fw2_1]; done) | (simp [go_sem]; done)) (by first | (with_reducible exact cw2_1) | go_cell_look | (simp [go_sem, hy2, cw2_0, fw2_0, cw2_1, fw2_1]; done) | (simp [go_sem]; done)) (by first | (with_reducible exact fw2_1) | (simp only [World.frozen?_setCell, fw2_1]; done) | (simp [go_sem, hy2, cw2_0, fw2_0, cw2_1, fw2_1]; done) | (simp [go_sem]; done))), by (repeat' (first | (with_reducible exact Below.refl _ _) | (with_reducible assumption) | (with_reducible refine Below.alloc ?_ ?_ _) | (with_reducible refine Below.drew ?_) | (with_reducible refine Below.drewN' ?_ _) | (with_reducible refine Below.setCell ?_ ?_ _) | (refine Below.via ?_ (by with_reducible assumption) ?_) | (with_reducible refine Below.via ?_ (Wd.h _) ?_) | go_size))⟩
          case measure => simp [intOf]; omega
      · have g1 : ¬ (k : Int) < 48 := by omega
        have hK : k = 48 := by omega
        go_wp2
        refine bodyPost_ret (by simp [results, Try.results16, go_sem]; try rfl) rfl ⟨?_, by have h1 := hbH.out; (repeat' (first | (with_reducible exact Below.refl _ _) | (with_reducible assumption) | (with_reducible refine Below.alloc ?_ ?_ _) | (with_reducible refine Below.drew ?_) | (with_reducible refine Below.drewN' ?_ _) | (with_reducible refine Below.setCell ?_ ?_ _) | (refine Below.via ?_ (by with_reducible assumption) ?_) | (with_reducible refine Below.via ?_ (Wd.h _) ?_) | go_size))⟩
        rw [HRR.out, ← HI.out.go, sdGo_end hlt, hK]
        rfl
  · have b0 : (hrC N ll lh ln x != 0) = true := by simp [h0]
    have HRR := Lib.hid (show sdR N ll lh ln x = (0, hrC N ll lh ln x) by simp [sdR, h0])
    clear h0
    go_wp2
    refine bodyPost_ret (by simp [results, Try.results16, go_sem]; try rfl) rfl ⟨?_, by (repeat' (first | (with_reducible exact Below.refl _ _) | (with_reducible assumption) | (with_reducible refine Below.alloc ?_ ?_ _) | (with_reducible refine Below.drew ?_) | (with_reducible refine Below.drewN' ?_ _) | (with_reducible refine Below.setCell ?_ ?_ _) | (refine Below.via ?_ (by with_reducible assumption) ?_) | (with_reducible refine Below.via ?_ (Wd.h _) ?_) | go_size))⟩
    rw [HRR.out]
noncomputable def sdQ (N : Net) (ll lh ln la lb : List Int) : Int × Int := sdR N ll lh ln ⟨none, none, 0, 0, la, lb⟩
theorem impl_SteadyHoursL (A B Al Ah An Fa Fb : Option Addr) (n c m d nl nh nn cl ch cn ca cb : Nat) (N : Net) (ll lh ln la lb : List Int) (w : World) (hN : NetAt w A B N) (hn : n = N.nodes.length) (hm : m = N.pipes.length) (hc : n ≤ c) (h : BufAt w Al Ah An ll lh ln) (e1 : nl = ll.length) (e2 : nh = lh.length) (e3 : nn = ln.length) (hat : HouAt w Fa Fb la lb) :
    Calls Try.prog 16 #[netV A B n c m d, bufV Al Ah An nl nh nn cl ch cn, .agg #[.slice Fa la.length ca, .slice Fb lb.length cb]] w fun e w' => e = .returned (.tuple #[.int .i64 (sdQ N ll lh ln la lb).1, .int .i64 (sdQ N ll lh ln la lb).2]) ∧ Below w.heap.size w w' :=
  impl_SteadyHours A B Al Ah An n c m d nl nh nn cl ch cn N ll lh ln ⟨Fa, Fb, ca, cb, la, lb⟩ w hN hn hm hc h e1 e2 e3 hat.hr
theorem spec_SteadyHoursL (A B Al Ah An Fa Fb : Option Addr) (n c m d nl nh nn cl ch cn ca cb : Nat) (N : Net) (ll lh ln la lb : List Int) (w : World) (hN : NetAt w A B N) (hn : n = N.nodes.length) (hm : m = N.pipes.length) (h : BufAt w Al Ah An ll lh ln) (e1 : nl = ll.length) (e2 : nh = lh.length) (e3 : nn = ln.length) (hat : HouAt w Fa Fb la lb) :
    Calls Try.prog 17 #[netV A B n c m d, bufV Al Ah An nl nh nn cl ch cn, .agg #[.slice Fa la.length ca, .slice Fb lb.length cb]] w fun e w' => e = .returned (.tuple #[.int .i64 (sdQ N ll lh ln la lb).1, .int .i64 (sdQ N ll lh ln la lb).2]) ∧ Below w.heap.size w w' :=
  spec_SteadyHours A B Al Ah An n c m d nl nh nn cl ch cn N ll lh ln ⟨Fa, Fb, ca, cb, la, lb⟩ w hN hn hm h e1 e2 e3 hat.hr
end Go.Proofs.Ytbkeijhlobdkeaa
namespace Go.Proofs.Ytbkeijhlobdkeaa
set_option linter.unusedVariables false
set_option linter.unusedSimpArgs false
open Go.RowKit
noncomputable def ftQ (N : Net) (ll lh ln la lb : List Int) : Int × Int := ftR N ll lh ln ⟨none, none, 0, 0, la, lb⟩
theorem impl_FirstTroubleL (A B Al Ah An Fa Fb : Option Addr) (n c m d nl nh nn cl ch cn ca cb : Nat) (N : Net) (ll lh ln la lb : List Int) (w : World) (hN : NetAt w A B N) (hn : n = N.nodes.length) (hm : m = N.pipes.length) (hc : n ≤ c) (h : BufAt w Al Ah An ll lh ln) (e1 : nl = ll.length) (e2 : nh = lh.length) (e3 : nn = ln.length) (hat : HouAt w Fa Fb la lb) :
    Calls Try.prog 18 #[netV A B n c m d, bufV Al Ah An nl nh nn cl ch cn, .agg #[.slice Fa la.length ca, .slice Fb lb.length cb]] w fun e w' => e = .returned (.tuple #[.int .i64 (ftQ N ll lh ln la lb).1, .int .i64 (ftQ N ll lh ln la lb).2]) ∧ Below w.heap.size w w' :=
  impl_FirstTrouble A B Al Ah An n c m d nl nh nn cl ch cn N ll lh ln ⟨Fa, Fb, ca, cb, la, lb⟩ w hN hn hm hc h e1 e2 e3 hat.hr
end Go.Proofs.Ytbkeijhlobdkeaa
namespace Go.Proofs.Ytbkeijhlobdkeaa
set_option linter.unusedVariables false
set_option linter.unusedSimpArgs false
open Go.RowKit
noncomputable def shR (N : Net) (ll lh ln : List Int) (x : Hr) : Bfs × Int :=
  if hrC N ll lh ln x = 0 then (if (stR N ll lh ln x.fl x.su).2 = true then ((stR N ll lh ln x.fl x.su).1, 0) else (⟨[], [], []⟩, 7)) else (⟨[], [], []⟩, hrC N ll lh ln x)
/-- what a call that makes buffers and a code hands back -/
def MadeBI (w : World) (x : Bfs) (code : Int) (e : Ending) (w' : World) : Prop :=
  ∃ A1 A2 A3 c1 c2 c3, e = .returned (.tuple #[.agg #[.slice A1 x.lo.length c1, .slice A2 x.hi.length c2, .slice A3 x.nw.length c3], .int .i64 code]) ∧ BufW w.heap.size w' A1 A2 A3 x.lo x.hi x.nw ∧ Below w.heap.size w w'
set_option maxRecDepth 100000 in
set_option maxHeartbeats 4000000 in
theorem impl_StepHour (A B Al Ah An : Option Addr) (n c m d nl nh nn cl ch cn : Nat) (N : Net) (ll lh ln : List Int) (x : Hr) (w : World) (hN : NetAt w A B N) (hn : n = N.nodes.length) (hm : m = N.pipes.length) (hc : n ≤ c) (h : BufAt w Al Ah An ll lh ln) (e1 : nl = ll.length) (e2 : nh = lh.length) (e3 : nn = ln.length) (hat : HrAt w x) :
    Calls Try.prog 12 #[netV A B n c m d, bufV Al Ah An nl nh nn cl ch cn, x.val] w (MadeBI w (shR N ll lh ln x).1 (shR N ll lh ln x).2) := by
  subst hn hm e1 e2 e3
  have HN := Lib.hid hN
  have HR := Lib.hid h
  have HA := Lib.hid hat
  clear hN h hat
  have HC1 := Lib.hid (hrsC_one N ll lh ln x)
  go_enter Try.func12, Try.ntmps12
  go_wp2_with fail
  
  refine (impl_checkBuffers _ _ _ _ _ _ _ _ _ _ _ _ _ _ _ _ _ N ll lh ln [x] _ (HN.out.below (by (repeat' (first | (with_reducible exact Below.refl _ _) | (with_reducible assumption) | (with_reducible refine Below.alloc ?_ ?_ _) | (with_reducible refine Below.drew ?_) | (with_reducible refine Below.drewN' ?_ _) | (with_reducible refine Below.setCell ?_ ?_ _) | (refine Below.via ?_ (by with_reducible assumption) ?_) | (with_reducible refine Below.via ?_ (Wd.h _) ?_) | go_size)))) rfl rfl hc (HR.out.below (by (repeat' (first | (with_reducible exact Below.refl _ _) | (with_reducible assumption) | (with_reducible refine Below.alloc ?_ ?_ _) | (with_reducible refine Below.drew ?_) | (with_reducible refine Below.drewN' ?_ _) | (with_reducible refine Below.setCell ?_ ?_ _) | (refine Below.via ?_ (by with_reducible assumption) ?_) | (with_reducible refine Below.via ?_ (Wd.h _) ?_) | go_size)))) rfl rfl rfl ?hH ?hA (by simp)).mono ?_
  case hH => exact Rd.two (by simp)
  case hA => exact fun y hy => by obtain rfl : y = x := by simpa using hy
                                  exact HA.out.below (by (repeat' (first | (with_reducible exact Below.refl _ _) | (with_reducible assumption) | (with_reducible refine Below.alloc ?_ ?_ _) | (with_reducible refine Below.drew ?_) | (with_reducible refine Below.drewN' ?_ _) | (with_reducible refine Below.setCell ?_ ?_ _) | (refine Below.via ?_ (by with_reducible assumption) ?_) | (with_reducible refine Below.via ?_ (Wd.h _) ?_) | go_size)))
  rintro e w1 ⟨rfl, hb1⟩
  rw [HC1.out]
  (obtain ⟨hcn, hfn⟩ := bcell hb1; have hz1 := hb1.size; (try simp at hz1); have Ncw0_0 := hcn (w.heap.size) (0) (by first | omega | (simp; done) | (simp; omega)); have Nfw0_0 := hfn (w.heap.size) (0) (by first | omega | (simp; done) | (simp; omega)); have Nhy0 : w.heap.size < w1.heap.size := (by omega); have Ncw0_1 := hcn (w.heap.size) (1) (by first | omega | (simp; done) | (simp; omega)); have Nfw0_1 := hfn (w.heap.size) (1) (by first | omega | (simp; done) | (simp; omega)); have Ncw1_0 := hcn (w.heap.size + 1) (0) (by first | omega | (simp; done) | (simp; omega)); have Nfw1_0 := hfn (w.heap.size + 1) (0) (by first | omega | (simp; done) | (simp; omega)); have Nhy1 : w.heap.size + 1 < w1.heap.size := (by omega); have Ncw1_1 := hcn (w.heap.size + 1) (1) (by first | omega | (simp; done) | (simp; omega)); have Nfw1_1 := hfn (w.heap.size + 1) (1) (by first | omega | (simp; done) | (simp; omega)); have Ncw1_2 := hcn (w.heap.size + 1) (2) (by first | omega | (simp; done) | (simp; omega)); have Nfw1_2 := hfn (w.heap.size + 1) (2) (by first | omega | (simp; done) | (simp; omega)); have Ncw2_0 := hcn (w.heap.size + 2) (0) (by first | omega | (simp; done) | (simp; omega)); have Nfw2_0 := hfn (w.heap.size + 2) (0) (by first | omega | (simp; done) | (simp; omega)); have Nhy2 : w.heap.size + 2 < w1.heap.size := (by omega); have Ncw2_1 := hcn (w.heap.size + 2) (1) (by first | omega | (simp; done) | (simp; omega)); have Nfw2_1 := hfn (w.heap.size + 2) (1) (by first | omega | (simp; done) | (simp; omega)); have Ncw3_0 := hcn (w.heap.size + 3) (0) (by first | omega | (simp; done) | (simp; omega)); have Nfw3_0 := hfn (w.heap.size + 3) (0) (by first | omega | (simp; done) | (simp; omega)); have Nhy3 : w.heap.size + 3 < w1.heap.size := (by omega); have Ncw3_1 := hcn (w.heap.size + 3) (1) (by first | omega | (simp; done) | (simp; omega)); have Nfw3_1 := hfn (w.heap.size + 3) (1) (by first | omega | (simp; done) | (simp; omega)); have Ncw3_2 := hcn (w.heap.size + 3) (2) (by first | omega | (simp; done) | (simp; omega)); have Nfw3_2 := hfn (w.heap.size + 3) (2) (by first | omega | (simp; done) | (simp; omega)); simp [go_sem] at Ncw0_0 Nfw0_0 Ncw0_1 Nfw0_1 Ncw1_0 Nfw1_0 Ncw1_1 Nfw1_1 Ncw1_2 Nfw1_2 Ncw2_0 Nfw2_0 Ncw2_1 Nfw2_1 Ncw3_0 Nfw3_0 Ncw3_1 Nfw3_1 Ncw3_2 Nfw3_2; clear hcn hfn; have cw0_0 := Ncw0_0; have fw0_0 := Nfw0_0; have cw0_1 := Ncw0_1; have fw0_1 := Nfw0_1; have cw1_0 := Ncw1_0; have fw1_0 := Nfw1_0; have cw1_1 := Ncw1_1; have fw1_1 := Nfw1_1; have cw1_2 := Ncw1_2; have fw1_2 := Nfw1_2; have cw2_0 := Ncw2_0; have fw2_0 := Nfw2_0; have cw2_1 := Ncw2_1; have fw2_1 := Nfw2_1; have cw3_0 := Ncw3_0; have fw3_0 := Nfw3_0; have cw3_1 := Ncw3_1; have fw3_1 := Nfw3_1; have cw3_2 := Ncw3_2; have fw3_2 := Nfw3_2; have hy0 := Nhy0; have hy1 := Nhy1; have hy2 := Nhy2; have hy3 := Nhy3; clear Ncw0_0 Nfw0_0 Ncw0_1 Nfw0_1 Ncw1_0 Nfw1_0 Ncw1_1 Nfw1_1 Ncw1_2 Nfw1_2 Ncw2_0 Nfw2_0 Ncw2_1 Nfw2_1 Ncw3_0 Nfw3_0 Ncw3_1 Nfw3_1 Ncw3_2 Nfw3_2 Nhy0 Nhy1 Nhy2 Nhy3)
  by_cases h0 : hrC N ll lh ln x = 0
  · have b0 : (hrC N ll lh ln x != 0) = false := by simp [h0]
    have HH := Lib.hid (hrC_of h0)
    have HBK := Lib.hid (bufC_of (hrC_of h0).1)
    have H0 := Lib.hid h0
    clear h0
    go_wp2_with fail
    refine (impl_stepHour _ _ _ _ _ _ _ _ _ _ _ _ _ _ _ N ll lh ln x _ (HN.out.below (by (repeat' (first | (with_reducible exact Below.refl _ _) | (with_reducible assumption) | (with_reducible refine Below.alloc ?_ ?_ _) | (with_reducible refine Below.drew ?_) | (with_reducible refine Below.drewN' ?_ _) | (with_reducible refine Below.setCell ?_ ?_ _) | (refine Below.via ?_ (by with_reducible assumption) ?_) | (with_reducible refine Below.via ?_ (Wd.h _) ?_) | go_size)))) rfl rfl HBK.out.1 (HR.out.below (by (repeat' (first | (with_reducible exact Below.refl _ _) | (with_reducible assumption) | (with_reducible refine Below.alloc ?_ ?_ _) | (with_reducible refine Below.drew ?_) | (with_reducible refine Below.drewN' ?_ _) | (with_reducible refine Below.setCell ?_ ?_ _) | (refine Below.via ?_ (by with_reducible assumption) ?_) | (with_reducible refine Below.via ?_ (Wd.h _) ?_) | go_size)))) HBK.out.2 rfl rfl rfl (HA.out.below (by (repeat' (first | (with_reducible exact Below.refl _ _) | (with_reducible assumption) | (with_reducible refine Below.alloc ?_ ?_ _) | (with_reducible refine Below.drew ?_) | (with_reducible refine Below.drewN' ?_ _) | (with_reducible refine Below.setCell ?_ ?_ _) | (refine Below.via ?_ (by with_reducible assumption) ?_) | (with_reducible refine Below.via ?_ (Wd.h _) ?_) | go_size)))) HH.out.2).mono ?_
    rintro e w3 ⟨A4, A5, A6, c4, c5, c6, rfl, hW, hb3⟩
    obtain ⟨b', ok, hs⟩ : ∃ b' ok, stR N ll lh ln x.fl x.su = (b', ok) := ⟨_, _, rfl⟩
    rw [hs] at hW ⊢
    dsimp only at hW
    have HW := Lib.hid hW
    have HS := Lib.hid hs
    clear hW hs
    (obtain ⟨hcn, hfn⟩ := bcell hb3; have hz3 := hb3.size; (try simp at hz3); have Ncw0_0 := hcn (w.heap.size) (0) (by first | omega | (simp; done) | (simp; omega)); have Nfw0_0 := hfn (w.heap.size) (0) (by first | omega | (simp; done) | (simp; omega)); have Nhy0 : w.heap.size < w3.heap.size := (by omega); have Ncw0_1 := hcn (w.heap.size) (1) (by first | omega | (simp; done) | (simp; omega)); have Nfw0_1 := hfn (w.heap.size) (1) (by first | omega | (simp; done) | (simp; omega)); have Ncw1_0 := hcn (w.heap.size + 1) (0) (by first | omega | (simp; done) | (simp; omega)); have Nfw1_0 := hfn (w.heap.size + 1) (0) (by first | omega | (simp; done) | (simp; omega)); have Nhy1 : w.heap.size + 1 < w3.heap.size := (by omega); have Ncw1_1 := hcn (w.heap.size + 1) (1) (by first | omega | (simp; done) | (simp; omega)); have Nfw1_1 := hfn (w.heap.size + 1) (1) (by first | omega | (simp; done) | (simp; omega)); have Ncw1_2 := hcn (w.heap.size + 1) (2) (by first | omega | (simp; done) | (simp; omega)); have Nfw1_2 := hfn (w.heap.size + 1) (2) (by first | omega | (simp; done) | (simp; omega)); have Ncw2_0 := hcn (w.heap.size + 2) (0) (by first | omega | (simp; done) | (simp; omega)); have Nfw2_0 := hfn (w.heap.size + 2) (0) (by first | omega | (simp; done) | (simp; omega)); have Nhy2 : w.heap.size + 2 < w3.heap.size := (by omega); have Ncw2_1 := hcn (w.heap.size + 2) (1) (by first | omega | (simp; done) | (simp; omega)); have Nfw2_1 := hfn (w.heap.size + 2) (1) (by first | omega | (simp; done) | (simp; omega)); have Ncw3_0 := hcn (w.heap.size + 3) (0) (by first | omega | (simp; done) | (simp; omega)); have Nfw3_0 := hfn (w.heap.size + 3) (0) (by first | omega | (simp; done) | (simp; omega)); have Nhy3 : w.heap.size + 3 < w3.heap.size := (by omega); have Ncw3_1 := hcn (w.heap.size + 3) (1) (by first | omega | (simp; done) | (simp; omega)); have Nfw3_1 := hfn (w.heap.size + 3) (1) (by first | omega | (simp; done) | (simp; omega)); have Ncw3_2 := hcn (w.heap.size + 3) (2) (by first | omega | (simp; done) | (simp; omega)); have Nfw3_2 := hfn (w.heap.size + 3) (2) (by first | omega | (simp; done) | (simp; omega)); simp [go_sem, cw0_0, fw0_0, cw0_1, fw0_1, cw1_0, fw1_0, cw1_1, fw1_1, cw1_2, fw1_2, cw2_0, fw2_0, cw2_1, fw2_1, cw3_0, fw3_0, cw3_1, fw3_1, cw3_2, fw3_2, hy0, hy1, hy2, hy3] at Ncw0_0 Nfw0_0 Ncw0_1 Nfw0_1 Ncw1_0 Nfw1_0 Ncw1_1 Nfw1_1 Ncw1_2 Nfw1_2 Ncw2_0 Nfw2_0 Ncw2_1 Nfw2_1 Ncw3_0 Nfw3_0 Ncw3_1 Nfw3_1 Ncw3_2 Nfw3_2; clear cw0_0 fw0_0 cw0_1 fw0_1 cw1_0 fw1_0 cw1_1 fw1_1 cw1_2 fw1_2 cw2_0 fw2_0 cw2_1 fw2_1 cw3_0 fw3_0 cw3_1 fw3_1 cw3_2 fw3_2 hy0 hy1 hy2 hy3; clear hcn hfn; have cw0_0 := Ncw0_0; have fw0_0 := Nfw0_0; have cw0_1 := Ncw0_1; have fw0_1 := Nfw0_1; have cw1_0 := Ncw1_0; have fw1_0 := Nfw1_0; have cw1_1 := Ncw1_1; have fw1_1 := Nfw1_1; have cw1_2 := Ncw1_2; have fw1_2 := Nfw1_2; have cw2_0 := Ncw2_0; have fw2_0 := Nfw2_0; have cw2_1 := Ncw2_1; have fw2_1 := Nfw2_1; have cw3_0 := Ncw3_0; have fw3_0 := Nfw3_0; have cw3_1 := Ncw3_1; have fw3_1 := Nfw3_1; have cw3_2 := Ncw3_2; have fw3_2 := Nfw3_2; have hy0 := Nhy0; have hy1 := Nhy1; have hy2 := Nhy2; have hy3 := Nhy3; clear Ncw0_0 Nfw0_0 Ncw0_1 Nfw0_1 Ncw1_0 Nfw1_0 Ncw1_1 Nfw1_1 Ncw1_2 Nfw1_2 Ncw2_0 Nfw2_0 Ncw2_1 Nfw2_1 Ncw3_0 Nfw3_0 Ncw3_1 Nfw3_1 Ncw3_2 Nfw3_2 Nhy0 Nhy1 Nhy2 Nhy3)
    cases ok
    · have HRR := Lib.hid (show shR N ll lh ln x = (⟨[], [], []⟩, 7) by simp [shR, H0.out, HS.out])
      go_wp2
      refine bodyPost_ret (by simp [results, Try.results12, go_sem, hy3, fw3_0, fw3_1, fw3_2, cw3_0, cw3_1, cw3_2]; try rfl) rfl ?_
      rw [HRR.out]
      exact ⟨none, none, none, 0, 0, 0, rfl, BufW.nil _ _, by (repeat' (first | (with_reducible exact Below.refl _ _) | (with_reducible assumption) | (with_reducible refine Below.alloc ?_ ?_ _) | (with_reducible refine Below.drew ?_) | (with_reducible refine Below.drewN' ?_ _) | (with_reducible refine Below.setCell ?_ ?_ _) | (refine Below.via ?_ (by with_reducible assumption) ?_) | (with_reducible refine Below.via ?_ (Wd.h _) ?_) | go_size))⟩
    · have HRR := Lib.hid (show shR N ll lh ln x = (b', 0) by simp [shR, H0.out, HS.out])
      have o1 : Off (w.heap.size + 3) A4 A5 A6 := HW.out.off (by omega)
      have o2 : Off w3.heap.size A4 A5 A6 := HW.out.fresh (Nat.le_refl _)
      have hz13 : w.heap.size ≤ w1.heap.size := by omega
      go_wp2
      refine bodyPost_ret (by simp [results, Try.results12, go_sem, hy3, fw3_0, fw3_1, fw3_2, cw3_0, cw3_1, cw3_2]; try rfl) rfl ?_
      rw [HRR.out]
      have hW3 : BufW w1.heap.size (((w3.setCell ⟨w.heap.size + 3, 0, none⟩ (.slice A4 b'.lo.length c4)).setCell ⟨w.heap.size + 3, 1, none⟩ (.slice A5 b'.hi.length c5)).setCell ⟨w.heap.size + 3, 2, none⟩ (.slice A6 b'.nw.length c6)) A4 A5 A6 b'.lo b'.hi b'.nw := ((HW.out.seto o1 _).seto o1 _).seto o1 _
      exact ⟨A4, A5, A6, c4, c5, c6, rfl, (hW3.below (by (repeat' (first | (with_reducible exact Below.refl _ _) | (with_reducible assumption) | (with_reducible refine Below.alloc ?_ ?_ _) | (with_reducible refine Below.drew ?_) | (with_reducible refine Below.drewN' ?_ _) | (with_reducible refine Below.setCell ?_ ?_ _) | (refine Below.via ?_ (by with_reducible assumption) ?_) | (with_reducible refine Below.via ?_ (Wd.h _) ?_) | go_size)))).lower hz13, by (repeat' (first | (with_reducible exact Below.refl _ _) | (with_reducible assumption) | (with_reducible refine Below.alloc ?_ ?_ _) | (with_reducible refine Below.drew ?_) | (with_reducible refine Below.drewN' ?_ _) | (with_reducible refine Below.setCell ?_ ?_ _) | (refine Below.via ?_ (by with_reducible assumption) ?_) | (with_reducible refine Below.via ?_ (Wd.h _) ?_) | go_size))⟩
  · have b0 : (hrC N ll lh ln x != 0) = true := by simp [h0]
    have HRR := Lib.hid (show shR N ll lh ln x = (⟨[], [], []⟩, hrC N ll lh ln x) by simp [shR, h0])
    clear h0
    go_wp2
    refine bodyPost_ret (by simp [results, Try.results12, go_sem, hy3, fw3_0, fw3_1, fw3_2, cw3_0, cw3_1, cw3_2]; try rfl) rfl ?_
    rw [HRR.out]
    exact ⟨none, none, none, 0, 0, 0, rfl, BufW.nil _ _, by (repeat' (first | (with_reducible exact Below.refl _ _) | (with_reducible assumption) | (with_reducible refine Below.alloc ?_ ?_ _) | (with_reducible refine Below.drew ?_) | (with_reducible refine Below.drewN' ?_ _) | (with_reducible refine Below.setCell ?_ ?_ _) | (refine Below.via ?_ (by with_reducible assumption) ?_) | (with_reducible refine Below.via ?_ (Wd.h _) ?_) | go_size))⟩
noncomputable def shQ (N : Net) (ll lh ln la lb : List Int) : Bfs × Int := shR N ll lh ln ⟨none, none, 0, 0, la, lb⟩
/-- its lists are short -/
theorem shQ_len (N : Net) (ll lh ln la lb : List Int) : (shQ N ll lh ln la lb).1.lo.length ≤ 24 ∧ (shQ N ll lh ln la lb).1.hi.length ≤ 24 ∧ (shQ N ll lh ln la lb).1.nw.length ≤ 24 := by
  unfold shQ shR
  split
  · rename_i h
    split
    · rename_i h2
      have hok := stR_ok h2
      have h24 := (bufC_of (hrC_of h).1).1.n2
      have h1 := hok.l1
      have h2 := hok.l2
      have h3 := hok.l3
      dsimp only at h1 h2 h3 h24 ⊢
      omega
    · simp
  · simp
theorem impl_StepHourL (A B Al Ah An Fa Fb : Option Addr) (n c m d nl nh nn cl ch cn ca cb : Nat) (N : Net) (ll lh ln la lb : List Int) (w : World) (hN : NetAt w A B N) (hn : n = N.nodes.length) (hm : m = N.pipes.length) (hc : n ≤ c) (h : BufAt w Al Ah An ll lh ln) (e1 : nl = ll.length) (e2 : nh = lh.length) (e3 : nn = ln.length) (hat : HouAt w Fa Fb la lb) :
    Calls Try.prog 12 #[netV A B n c m d, bufV Al Ah An nl nh nn cl ch cn, .agg #[.slice Fa la.length ca, .slice Fb lb.length cb]] w (MadeBI w (shQ N ll lh ln la lb).1 (shQ N ll lh ln la lb).2) :=
  impl_StepHour A B Al Ah An n c m d nl nh nn cl ch cn N ll lh ln ⟨Fa, Fb, ca, cb, la, lb⟩ w hN hn hm hc h e1 e2 e3 hat.hr
end Go.Proofs.Ytbkeijhlobdkeaa
namespace Go.Proofs.Ytbkeijhlobdkeaa
set_option linter.unusedVariables false
set_option linter.unusedSimpArgs false
open Go.RowKit
noncomputable def csQ (N : Net) (ll lh ln la lb : List Int) : List Int × Int := csR N ll lh ln ⟨none, none, 0, 0, la, lb⟩
theorem csQ_len {N : Net} {ll lh ln la lb : List Int} : (csQ N ll lh ln la lb).1.length ≤ 1048576 := csR_len
theorem impl_ClosestSuppliesL (A B Al Ah An Fa Fb : Option Addr) (n c m d nl nh nn cl ch cn ca cb : Nat) (N : Net) (ll lh ln la lb : List Int) (w : World) (hN : NetAt w A B N) (hn : n = N.nodes.length) (hm : m = N.pipes.length) (hc : n ≤ c) (h : BufAt w Al Ah An ll lh ln) (e1 : nl = ll.length) (e2 : nh = lh.length) (e3 : nn = ln.length) (hat : HouAt w Fa Fb la lb) :
    Calls Try.prog 14 #[netV A B n c m d, bufV Al Ah An nl nh nn cl ch cn, .agg #[.slice Fa la.length ca, .slice Fb lb.length cb]] w (MadeR w 1 (csQ N ll lh ln la lb).1.length ((csQ N ll lh ln la lb).1.map iV) (csQ N ll lh ln la lb).2) :=
  impl_ClosestSupplies A B Al Ah An n c m d nl nh nn cl ch cn N ll lh ln ⟨Fa, Fb, ca, cb, la, lb⟩ w hN hn hm hc h e1 e2 e3 hat.hr
theorem spec_ClosestSuppliesL (A B Al Ah An Fa Fb : Option Addr) (n c m d nl nh nn cl ch cn ca cb : Nat) (N : Net) (ll lh ln la lb : List Int) (w : World) (hN : NetAt w A B N) (hn : n = N.nodes.length) (hm : m = N.pipes.length) (h : BufAt w Al Ah An ll lh ln) (e1 : nl = ll.length) (e2 : nh = lh.length) (e3 : nn = ln.length) (hat : HouAt w Fa Fb la lb) :
    Calls Try.prog 15 #[netV A B n c m d, bufV Al Ah An nl nh nn cl ch cn, .agg #[.slice Fa la.length ca, .slice Fb lb.length cb]] w (MadeR w 1 (csQ N ll lh ln la lb).1.length ((csQ N ll lh ln la lb).1.map iV) (csQ N ll lh ln la lb).2) :=
  spec_ClosestSupplies A B Al Ah An n c m d nl nh nn cl ch cn N ll lh ln ⟨Fa, Fb, ca, cb, la, lb⟩ w hN hn hm h e1 e2 e3 hat.hr
end Go.Proofs.Ytbkeijhlobdkeaa
namespace Go.Proofs.Ytbkeijhlobdkeaa
set_option linter.unusedVariables false
set_option linter.unusedSimpArgs false
open Go.RowKit
theorem ftF_all {f : Nat → Bool} (h : ∀ k, f k = true) : ∀ (m k : Nat), ftF f k m = -1
  | 0, _ => rfl
  | m + 1, k => by rw [ftF, h k]; simpa using ftF_all h m (k + 1)
theorem cs_of {N : Net} {ll lh ln la lb L : List Int} (h : csQ N ll lh ln la lb = (L, 0)) : hrC N ll lh ln ⟨none, none, 0, 0, la, lb⟩ = 0 ∧ allB (-30000) 30000 L = true ∧ L = csL N ll lh ln ⟨none, none, 0, 0, la, lb⟩ := by
  unfold csQ csR at h
  split at h
  · rename_i h1; exact absurd (congrArg Prod.snd h) h1
  · rename_i h1
    split at h
    · exact absurd (congrArg Prod.snd h) (by simp)
    · rename_i h2
      obtain rfl : _ = L := congrArg Prod.fst h
      exact ⟨by simpa using h1, by simpa using h2, rfl⟩
theorem ft_closest {N : Net} {ll lh ln la lb L : List Int} (h : csQ N ll lh ln la lb = (L, 0)) : ftQ N ll lh ln la L = (-1, 0) := by
  obtain ⟨h0, ha, rfl⟩ := cs_of h
  have hh := hrC_of h0
  have hb := bufC_of hh.1
  have hr := hrB_of hh.2
  have hlen := csL_len h0
  have h1 : hrC N ll lh ln ⟨none, none, 0, 0, la, csL N ll lh ln ⟨none, none, 0, 0, la, lb⟩⟩ = 0 := by
    have hl : listB N.pipes.length la = true := by have := hh.2; simp only [hrB, Bool.and_eq_true] at this; exact this.1
    have hs : supB N.nodes.length (csL N ll lh ln ⟨none, none, 0, 0, la, lb⟩) = true := by simp [supB, hlen, ha]
    simp [hrC, hh.1, hrB, hl, hs]
  unfold ftQ ftR
  rw [if_neg (by simp [h1]), ftF_all]
  intro k
  unfold trB
  split
  · rename_i a l u e1 e2 e3
    dsimp only at e1
    have hk : k < N.nodes.length := by have := (List.getElem?_eq_some_iff.1 e2).1; have := hb.2.l1; omega
    obtain ⟨c, hc⟩ := get_some (l := ln) (k := k) (by have := hb.2.l3; omega)
    obtain ⟨s, hs⟩ := get_some (l := lb) (k := k) (by have := hr.2.1; dsimp only at this; omega)
    obtain ⟨o, ho⟩ := get_some (l := outL N la) (k := k) (by rw [outL_len]; exact hk)
    have n1 := nextL_get hc hs ho
    have c1 : (csL N ll lh ln ⟨none, none, 0, 0, la, lb⟩)[k]? = some (s + max l (min u (c + (s - o))) - (c + (s - o))) := csG_get hs e2 e3 n1
    have n2 := nextL_get hc c1 ho
    rw [n2] at e1
    have e4 : c + (s + max l (min u (c + (s - o))) - (c + (s - o)) - o) = a := by simpa using e1
    have hlu := hb.2.el k l u c e2 e3 hc
    refine inB_iff.2 ?_
    omega
  · rfl
theorem sdGo_ge (N : Net) (fl su : List Int) : ∀ (r k : Nat) (b : Bfs), (k : Int) ≤ sdGo N fl su r k b
  | 0, k, b => by rw [sdGo]; exact Int.le_refl _
  | r + 1, k, b => by
    rw [sdGo]; split
    · exact Int.le_refl _
    · have := sdGo_ge N fl su r (k + 1) (stR N b.lo b.hi b.nw fl su).1; omega
theorem sd_sh {N : Net} {ll lh ln la lb : List Int} (h : hrC N ll lh ln ⟨none, none, 0, 0, la, lb⟩ = 0) : decide (0 < (sdQ N ll lh ln la lb).1) = ((shQ N ll lh ln la lb).2 == 0) := by
  unfold sdQ sdR shQ shR
  rw [if_pos h, if_pos h]
  dsimp only
  have e : sdGo N la lb 48 0 ⟨ll, lh, ln⟩ = if (stR N ll lh ln la lb).2 = false then ((0 : Nat) : Int) else sdGo N la lb 47 (0 + 1) (stR N ll lh ln la lb).1 := by rw [show (48 : Nat) = 47 + 1 from rfl, sdGo]
  rw [e]
  have h1 := sdGo_ge N la lb 47 (0 + 1) (stR N ll lh ln la lb).1
  generalize sdGo N la lb 47 (0 + 1) (stR N ll lh ln la lb).1 = X at *
  cases hs : (stR N ll lh ln la lb).2
  · rw [if_pos rfl, if_neg (by simp)]; rfl
  · rw [if_neg (by simp), if_pos rfl]
    have : 0 < X := by omega
    simp [this]
end Go.Proofs.Ytbkeijhlobdkeaa
namespace Go.Proofs.Ytbkeijhlobdkeaa
set_option linter.unusedVariables false
set_option linter.unusedSimpArgs false
open Go.RowKit
set_option maxRecDepth 100000 in
set_option maxHeartbeats 1000000 in
theorem laws_likeInts (A B : Option Addr) (c d n m : Nat) (l : List Int) (w : World) (h : Rd w A (l.map iV)) (h' : Rd w B (l.map iV)) (hn : n = l.length) (hm : m = l.length) (hl : l.length ≤ 1048576) :
    Calls Try.prog 11 #[.slice A n c, .slice B m d] w fun e w' => e = .returned (.bool true) ∧ Below w.heap.size w w' := by
  subst hn hm
  have H := Lib.hid h
  have H' := Lib.hid h'
  clear h h'
  go_enter Try.func11, Try.ntmps11
  go_wp2
  go_loopw [5] (fun v wr => ∃ k : Nat, k ≤ l.length ∧ v = .int .i64 k ∧ Below w.heap.size w wr) (fun v _ => l.length - (intOf v).toNat)
  case atStart => exact ⟨0, by omega, rfl, Below.refl _ _⟩
  case round =>
    obtain ⟨k, hk, rfl, hbw⟩ := hrel
    have hbH := Lib.hid hbw
    by_cases hlt : k < l.length
    · obtain ⟨n, hn⟩ := get_some hlt
      obtain ⟨b, off, rfl, hb, hat⟩ := H.out.opened (k := k) (by simpa using hlt)
      obtain ⟨b', off', rfl, hb', hat'⟩ := H'.out.opened (k := k) (by simpa using hlt)
      have t0 := ints_at (hat.below hbw hb) hn
      have t1 := ints_at (hat'.below hbw hb') hn
      clear hn hat hat' hbw
      go_wp2
      go_quiet (fail)
      go_wp2
      go_roundw
      case rel => exact ⟨k + 1, by omega, by go_num, Below.drewN' hbH.out _⟩
      case measure => simp [intOf]; omega
    · clear hbw
      go_wp2
      go_ret
      exact ⟨rfl, hbH.out⟩
set_option maxRecDepth 100000 in
set_option maxHeartbeats 1000000 in
theorem laws_sum (A : Option Addr) (c n : Nat) (l : List Int) (w : World) (h : Rd w A (l.map iV)) (hn : n = l.length) (hl : l.length ≤ 1048576) (hs : Sml l) :
    Calls Try.prog 38 #[.slice A n c] w fun e w' => e = .returned (.int .i64 (sumF l)) ∧ w = w' := by
  subst hn
  have H := Lib.hid h
  have HS := Lib.hid hs
  clear h hs
  go_enter Try.func38, Try.ntmps38
  go_wp2
  go_loop [3, 4] (fun u v => ∃ (k : Nat) (r : Int), k ≤ l.length ∧ v = .int .i64 k ∧ u = .int .i64 r ∧ -(k * 1000000000000) ≤ r ∧ r ≤ k * 1000000000000 ∧ r + sumF (l.drop k) = sumF l) (fun _ v => l.length - (intOf v).toNat)
  case atStart => exact ⟨0, 0, by omega, rfl, rfl, by omega, by omega, by simp⟩
  case round =>
    obtain ⟨k, r, hk, rfl, rfl, hr0, hr1, hF⟩ := hrel
    have HF := Lib.hid hF
    clear hF
    by_cases hlt : k < l.length
    · obtain ⟨x, hx⟩ := get_some hlt
      obtain ⟨b, off, rfl, hb, hat⟩ := H.out.opened (k := k) (by simpa using hlt)
      have t0 := ints_at hat hx
      have HD := Lib.hid (drop_consI hx)
      obtain ⟨x1, x2⟩ := HS.out x (List.mem_of_getElem? hx)
      have g1 : (k : Int) < l.length := by omega
      clear hx hat
      go_wp2
      go_round
      case rel =>
        refine ⟨k + 1, r + x, by omega, by go_num, rfl, by omega, by omega, ?_⟩
        rw [← HF.out, HD.out, sumF]; omega
      case measure => simp [intOf]; omega
    · go_wp2
      go_ret
      refine ⟨ri ?_, rfl⟩
      have := HF.out
      rw [drop_endI hlt, sumF] at this
      omega
end Go.Proofs.Ytbkeijhlobdkeaa
namespace Go.Proofs.Ytbkeijhlobdkeaa
set_option linter.unusedVariables false
set_option linter.unusedSimpArgs false
open Go.RowKit
/-- a drawn network, buffers and an hour, in blocks that are new -/
def DrewS (w : World) (e : Ending) (w' : World) : Prop :=
  ∃ (A Bq Al Ah An Fa Fb : Option Addr) (c d cl ch cn ca cb : Nat) (N : Net) (ll lh ln la lb : List Int), e = .returned (.tuple #[netV A Bq N.nodes.length c N.pipes.length d, .agg #[.slice Al ll.length cl, .slice Ah lh.length ch, .slice An ln.length cn], .agg #[.slice Fa la.length ca, .slice Fb lb.length cb]]) ∧ N.nodes.length ≤ c ∧ NetAt w' A Bq N ∧ Rd w' Al (ll.map iV) ∧ Rd w' Ah (lh.map iV) ∧ Rd w' An (ln.map iV) ∧ Rd w' Fa (la.map iV) ∧ Rd w' Fb (lb.map iV) ∧ (ll.length ≤ 8 ∧ lh.length ≤ 8 ∧ ln.length ≤ 8 ∧ la.length ≤ 12 ∧ lb.length ≤ 8) ∧ Below w.heap.size w w' ∧ (∀ b off, A = some ⟨b, off, none⟩ → w.heap.size ≤ b) ∧ (∀ b off, Bq = some ⟨b, off, none⟩ → w.heap.size ≤ b) ∧ (∀ b off, Al = some ⟨b, off, none⟩ → w.heap.size ≤ b) ∧ (∀ b off, Ah = some ⟨b, off, none⟩ → w.heap.size ≤ b) ∧ (∀ b off, An = some ⟨b, off, none⟩ → w.heap.size ≤ b) ∧ (∀ b off, Fa = some ⟨b, off, none⟩ → w.heap.size ≤ b) ∧ (∀ b off, Fb = some ⟨b, off, none⟩ → w.heap.size ≤ b)
theorem sd_post {w w2 w3 : World} {A Bq Al Ah An Fa Fb : Option Addr} {c d cl ch cn ca cb : Nat} {N : Net} {ll lh ln la lb : List Int} (hk : Keep (fun k => k = w.heap.size ∨ k = w.heap.size + 1 ∨ k = w.heap.size + 2) w2 w3) (hb : Below w.heap.size w w2) (hz : w.heap.size + 2 < w2.heap.size)
    (hnc : N.nodes.length ≤ c) (hN : NetAt w2 A Bq N) (r1 : Rd w2 Al (ll.map iV)) (r2 : Rd w2 Ah (lh.map iV)) (r3 : Rd w2 An (ln.map iV)) (r4 : Rd w2 Fa (la.map iV)) (r5 : Rd w2 Fb (lb.map iV)) (hlen : ll.length ≤ 8 ∧ lh.length ≤ 8 ∧ ln.length ≤ 8 ∧ la.length ≤ 12 ∧ lb.length ≤ 8)
    (hA : ∀ b off, A = some ⟨b, off, none⟩ → w.heap.size + 2 < b) (hB : ∀ b off, Bq = some ⟨b, off, none⟩ → w.heap.size + 2 < b) (h1 : ∀ b off, Al = some ⟨b, off, none⟩ → w.heap.size + 2 < b) (h2 : ∀ b off, Ah = some ⟨b, off, none⟩ → w.heap.size + 2 < b) (h3 : ∀ b off, An = some ⟨b, off, none⟩ → w.heap.size + 2 < b) (h4 : ∀ b off, Fa = some ⟨b, off, none⟩ → w.heap.size + 2 < b) (h5 : ∀ b off, Fb = some ⟨b, off, none⟩ → w.heap.size + 2 < b) :
    DrewS w (.returned (.tuple #[netV A Bq N.nodes.length c N.pipes.length d, .agg #[.slice Al ll.length cl, .slice Ah lh.length ch, .slice An ln.length cn], .agg #[.slice Fa la.length ca, .slice Fb lb.length cb]])) w3 :=
  ⟨A, Bq, Al, Ah, An, Fa, Fb, c, d, cl, ch, cn, ca, cb, N, ll, lh, ln, la, lb, rfl, hnc, hN.keepC hk (fun b off e q => by have := hA b off e; omega) (fun b off e q => by have := hB b off e; omega), r1.keep hk (fun b off e q => by have := h1 b off e; omega), r2.keep hk (fun b off e q => by have := h2 b off e; omega), r3.keep hk (fun b off e q => by have := h3 b off e; omega), r4.keep hk (fun b off e q => by have := h4 b off e; omega), r5.keep hk (fun b off e q => by have := h5 b off e; omega), hlen, hk.below hb (by omega) (by intro k q; omega), fun b off e => by have := hA b off e; omega, fun b off e => by have := hB b off e; omega, fun b off e => by have := h1 b off e; omega, fun b off e => by have := h2 b off e; omega, fun b off e => by have := h3 b off e; omega, fun b off e => by have := h4 b off e; omega, fun b off e => by have := h5 b off e; omega⟩
set_option maxRecDepth 100000 in
set_option maxHeartbeats 8000000 in
theorem spec_DrawStepHour (A0 : Option Addr) (c0 : Nat) (l0 : List Int) (w : World) (h : BytesIn w A0 l0) (hl : l0.length ≤ 4096) :
    Calls Try.prog 50 #[.slice A0 l0.length c0] w (DrewS w) := by
  have HI := Lib.hid h
  clear h
  go_enter Try.func50, Try.ntmps50
  go_wp2_with fail
  refine (spec_l01From A0 c0 l0 _ (HI.out.below (by (repeat' (first | (with_reducible exact Below.refl _ _) | (with_reducible assumption) | (with_reducible refine Below.alloc ?_ ?_ _) | (with_reducible refine Below.drew ?_) | (with_reducible refine Below.drewN' ?_ _) | (with_reducible refine Below.setCell ?_ ?_ _) | (refine Below.via ?_ (by with_reducible assumption) ?_) | (with_reducible refine Below.via ?_ (Wd.h _) ?_) | go_size)))) hl).mono ?_
  rintro e w1 ⟨rfl, hs1, hb1⟩
  have hs1 : Src w1 (w.heap.size + 3) := by simpa using hs1
  have HS1 := Lib.hid hs1
  have hp1 := hs1.lt
  clear hs1
  (obtain ⟨hcn, hfn⟩ := bcell hb1; have hz1 := hb1.size; (try simp at hz1); have Ncw0_0 := hcn (w.heap.size) (0) (by first | omega | (simp; done) | (simp; omega)); have Nfw0_0 := hfn (w.heap.size) (0) (by first | omega | (simp; done) | (simp; omega)); have Nhy0 : w.heap.size < w1.heap.size := (by omega); have Ncw0_1 := hcn (w.heap.size) (1) (by first | omega | (simp; done) | (simp; omega)); have Nfw0_1 := hfn (w.heap.size) (1) (by first | omega | (simp; done) | (simp; omega)); have Ncw1_0 := hcn (w.heap.size + 1) (0) (by first | omega | (simp; done) | (simp; omega)); have Nfw1_0 := hfn (w.heap.size + 1) (0) (by first | omega | (simp; done) | (simp; omega)); have Nhy1 : w.heap.size + 1 < w1.heap.size := (by omega); have Ncw1_1 := hcn (w.heap.size + 1) (1) (by first | omega | (simp; done) | (simp; omega)); have Nfw1_1 := hfn (w.heap.size + 1) (1) (by first | omega | (simp; done) | (simp; omega)); have Ncw1_2 := hcn (w.heap.size + 1) (2) (by first | omega | (simp; done) | (simp; omega)); have Nfw1_2 := hfn (w.heap.size + 1) (2) (by first | omega | (simp; done) | (simp; omega)); have Ncw2_0 := hcn (w.heap.size + 2) (0) (by first | omega | (simp; done) | (simp; omega)); have Nfw2_0 := hfn (w.heap.size + 2) (0) (by first | omega | (simp; done) | (simp; omega)); have Nhy2 : w.heap.size + 2 < w1.heap.size := (by omega); have Ncw2_1 := hcn (w.heap.size + 2) (1) (by first | omega | (simp; done) | (simp; omega)); have Nfw2_1 := hfn (w.heap.size + 2) (1) (by first | omega | (simp; done) | (simp; omega)); simp [go_sem] at Ncw0_0 Nfw0_0 Ncw0_1 Nfw0_1 Ncw1_0 Nfw1_0 Ncw1_1 Nfw1_1 Ncw1_2 Nfw1_2 Ncw2_0 Nfw2_0 Ncw2_1 Nfw2_1; clear hcn hfn; have cw0_0 := Ncw0_0; have fw0_0 := Nfw0_0; have cw0_1 := Ncw0_1; have fw0_1 := Nfw0_1; have cw1_0 := Ncw1_0; have fw1_0 := Nfw1_0; have cw1_1 := Ncw1_1; have fw1_1 := Nfw1_1; have cw1_2 := Ncw1_2; have fw1_2 := Nfw1_2; have cw2_0 := Ncw2_0; have fw2_0 := Nfw2_0; have cw2_1 := Ncw2_1; have fw2_1 := Nfw2_1; have hy0 := Nhy0; have hy1 := Nhy1; have hy2 := Nhy2; clear Ncw0_0 Nfw0_0 Ncw0_1 Nfw0_1 Ncw1_0 Nfw1_0 Ncw1_1 Nfw1_1 Ncw1_2 Nfw1_2 Ncw2_0 Nfw2_0 Ncw2_1 Nfw2_1 Nhy0 Nhy1 Nhy2)
  have HB0 := Lib.hid (show Bx w1 w.heap.size [.slice none 0 0, .slice none 0 0] from bx2 hy0 cw0_0 fw0_0 cw0_1 fw0_1)
  have HB1 := Lib.hid (show Bx w1 (w.heap.size + 1) [.slice none 0 0, .slice none 0 0, .slice none 0 0] from bx3 hy1 cw1_0 fw1_0 cw1_1 fw1_1 cw1_2 fw1_2)
  have HB2 := Lib.hid (show Bx w1 (w.heap.size + 2) [.slice none 0 0, .slice none 0 0] from bx2 hy2 cw2_0 fw2_0 cw2_1 fw2_1)
  have HBW := Lib.hid (show Below w.heap.size w w1 by (repeat' (first | (with_reducible exact Below.refl _ _) | (with_reducible assumption) | (with_reducible refine Below.alloc ?_ ?_ _) | (with_reducible refine Below.drew ?_) | (with_reducible refine Below.drewN' ?_ _) | (with_reducible refine Below.setCell ?_ ?_ _) | (refine Below.via ?_ (by with_reducible assumption) ?_) | (with_reducible refine Below.via ?_ (Wd.h _) ?_) | go_size)))
  clear hb1 hy0 cw0_0 fw0_0 cw0_1 fw0_1 hy1 cw1_0 fw1_0 cw1_1 fw1_1 cw1_2 fw1_2 hy2 cw2_0 fw2_0 cw2_1 fw2_1
  go_wp2_with fail
  refine (spec_l19Draw (w.heap.size + 3) _ HS1.out).mono ?_
  rintro e w2 ⟨A, Bq, Al, Ah, An, Fa, Fb, c, d, cl, ch, cn, ca, cb, N, ll, lh, ln, la, lb, rfl, hnc, hN, r1, r2, r3, r4, r5, hlen, hs2, hk2, hA, hB, h1, h2, h3, h4, h5⟩
  have hb0 := HB0.out.keep hk2 (by omega)
  have hb1 := HB1.out.keep hk2 (by omega)
  have hb2 := HB2.out.keep hk2 (by omega)
  have hy0 := hb0.lt
  have hy1 := hb1.lt
  have hy2 := hb2.lt
  have cw0_0 := hb0.cell 0 rfl
  have cw0_1 := hb0.cell 1 rfl
  have fw0_0 := hb0.frozen 0 rfl
  have fw0_1 := hb0.frozen 1 rfl
  have cw1_0 := hb1.cell 0 rfl
  have cw1_1 := hb1.cell 1 rfl
  have cw1_2 := hb1.cell 2 rfl
  have fw1_0 := hb1.frozen 0 rfl
  have fw1_1 := hb1.frozen 1 rfl
  have fw1_2 := hb1.frozen 2 rfl
  have cw2_0 := hb2.cell 0 rfl
  have cw2_1 := hb2.cell 1 rfl
  have fw2_0 := hb2.frozen 0 rfl
  have fw2_1 := hb2.frozen 1 rfl
  clear hb0 hb1 hb2
  have HBX := Lib.hid (show Below w.heap.size w w2 from hk2.below HBW.out (by omega) (by intro k q; omega))
  clear hk2
  go_wp2
  refine bodyPost_ret (by simp [results, Try.results50, go_sem, cw0_0, cw0_1, cw1_0, cw1_1, cw1_2, cw2_0, cw2_1]; try rfl) rfl ?_
  exact sd_post (w2 := w2) (cl := cl) (ch := ch) (cn := cn) (ca := ca) (cb := cb) ((((((((Keep.refl (fun k => k = w.heap.size ∨ k = w.heap.size + 1 ∨ k = w.heap.size + 2) _).setCell (by first | exact .inl rfl | exact .inr (.inl rfl) | exact .inr (.inr rfl)) _).setCell (by first | exact .inl rfl | exact .inr (.inl rfl) | exact .inr (.inr rfl)) _).setCell (by first | exact .inl rfl | exact .inr (.inl rfl) | exact .inr (.inr rfl)) _).setCell (by first | exact .inl rfl | exact .inr (.inl rfl) | exact .inr (.inr rfl)) _).setCell (by first | exact .inl rfl | exact .inr (.inl rfl) | exact .inr (.inr rfl)) _).setCell (by first | exact .inl rfl | exact .inr (.inl rfl) | exact .inr (.inr rfl)) _).setCell (by first | exact .inl rfl | exact .inr (.inl rfl) | exact .inr (.inr rfl)) _) HBX.out hy2 hnc hN r1 r2 r3 r4 r5 hlen (fun b off e => by have := hA b off e; omega) (fun b off e => by have := hB b off e; omega) (fun b off e => by have := h1 b off e; omega) (fun b off e => by have := h2 b off e; omega) (fun b off e => by have := h3 b off e; omega) (fun b off e => by have := h4 b off e; omega) (fun b off e => by have := h5 b off e; omega)
set_option maxRecDepth 100000 in
set_option maxHeartbeats 8000000 in
theorem spec_DrawClosestSupplies (A0 : Option Addr) (c0 : Nat) (l0 : List Int) (w : World) (h : BytesIn w A0 l0) (hl : l0.length ≤ 4096) :
    Calls Try.prog 13 #[.slice A0 l0.length c0] w (DrewS w) := by
  have HI := Lib.hid h
  clear h
  go_enter Try.func13, Try.ntmps13
  go_wp2_with fail
  refine (spec_DrawStepHour A0 c0 l0 _ (HI.out.below (by (repeat' (first | (with_reducible exact Below.refl _ _) | (with_reducible assumption) | (with_reducible refine Below.alloc ?_ ?_ _) | (with_reducible refine Below.drew ?_) | (with_reducible refine Below.drewN' ?_ _) | (with_reducible refine Below.setCell ?_ ?_ _) | (refine Below.via ?_ (by with_reducible assumption) ?_) | (with_reducible refine Below.via ?_ (Wd.h _) ?_) | go_size)))) hl).mono ?_
  rintro e w1 ⟨A, Bq, Al, Ah, An, Fa, Fb, c, d, cl, ch, cn, ca, cb, N, ll, lh, ln, la, lb, rfl, hnc, hN, r1, r2, r3, r4, r5, hlen, hb1, hA, hB, h1, h2, h3, h4, h5⟩
  (obtain ⟨hcn, hfn⟩ := bcell hb1; have hz1 := hb1.size; (try simp at hz1); have Ncw0_0 := hcn (w.heap.size) (0) (by first | omega | (simp; done) | (simp; omega)); have Nfw0_0 := hfn (w.heap.size) (0) (by first | omega | (simp; done) | (simp; omega)); have Nhy0 : w.heap.size < w1.heap.size := (by omega); have Ncw0_1 := hcn (w.heap.size) (1) (by first | omega | (simp; done) | (simp; omega)); have Nfw0_1 := hfn (w.heap.size) (1) (by first | omega | (simp; done) | (simp; omega)); have Ncw1_0 := hcn (w.heap.size + 1) (0) (by first | omega | (simp; done) | (simp; omega)); have Nfw1_0 := hfn (w.heap.size + 1) (0) (by first | omega | (simp; done) | (simp; omega)); have Nhy1 : w.heap.size + 1 < w1.heap.size := (by omega); have Ncw1_1 := hcn (w.heap.size + 1) (1) (by first | omega | (simp; done) | (simp; omega)); have Nfw1_1 := hfn (w.heap.size + 1) (1) (by first | omega | (simp; done) | (simp; omega)); have Ncw1_2 := hcn (w.heap.size + 1) (2) (by first | omega | (simp; done) | (simp; omega)); have Nfw1_2 := hfn (w.heap.size + 1) (2) (by first | omega | (simp; done) | (simp; omega)); have Ncw2_0 := hcn (w.heap.size + 2) (0) (by first | omega | (simp; done) | (simp; omega)); have Nfw2_0 := hfn (w.heap.size + 2) (0) (by first | omega | (simp; done) | (simp; omega)); have Nhy2 : w.heap.size + 2 < w1.heap.size := (by omega); have Ncw2_1 := hcn (w.heap.size + 2) (1) (by first | omega | (simp; done) | (simp; omega)); have Nfw2_1 := hfn (w.heap.size + 2) (1) (by first | omega | (simp; done) | (simp; omega)); simp [go_sem] at Ncw0_0 Nfw0_0 Ncw0_1 Nfw0_1 Ncw1_0 Nfw1_0 Ncw1_1 Nfw1_1 Ncw1_2 Nfw1_2 Ncw2_0 Nfw2_0 Ncw2_1 Nfw2_1; clear hcn hfn; have cw0_0 := Ncw0_0; have fw0_0 := Nfw0_0; have cw0_1 := Ncw0_1; have fw0_1 := Nfw0_1; have cw1_0 := Ncw1_0; have fw1_0 := Nfw1_0; have cw1_1 := Ncw1_1; have fw1_1 := Nfw1_1; have cw1_2 := Ncw1_2; have fw1_2 := Nfw1_2; have cw2_0 := Ncw2_0; have fw2_0 := Nfw2_0; have cw2_1 := Ncw2_1; have fw2_1 := Nfw2_1; have hy0 := Nhy0; have hy1 := Nhy1; have hy2 := Nhy2; clear Ncw0_0 Nfw0_0 Ncw0_1 Nfw0_1 Ncw1_0 Nfw1_0 Ncw1_1 Nfw1_1 Ncw1_2 Nfw1_2 Ncw2_0 Nfw2_0 Ncw2_1 Nfw2_1 Nhy0 Nhy1 Nhy2)
  have HBX := Lib.hid (show Below w.heap.size w w1 by (repeat' (first | (with_reducible exact Below.refl _ _) | (with_reducible assumption) | (with_reducible refine Below.alloc ?_ ?_ _) | (with_reducible refine Below.drew ?_) | (with_reducible refine Below.drewN' ?_ _) | (with_reducible refine Below.setCell ?_ ?_ _) | (refine Below.via ?_ (by with_reducible assumption) ?_) | (with_reducible refine Below.via ?_ (Wd.h _) ?_) | go_size)))
  simp at hA hB h1 h2 h3 h4 h5
  clear hb1
  go_wp2
  refine bodyPost_ret (by simp [results, Try.results13, go_sem, cw0_0, cw0_1, cw1_0, cw1_1, cw1_2, cw2_0, cw2_1]; try rfl) rfl ?_
  exact sd_post (w2 := w1) (cl := cl) (ch := ch) (cn := cn) (ca := ca) (cb := cb) ((((((((Keep.refl (fun k => k = w.heap.size ∨ k = w.heap.size + 1 ∨ k = w.heap.size + 2) _).setCell (by first | exact .inl rfl | exact .inr (.inl rfl) | exact .inr (.inr rfl)) _).setCell (by first | exact .inl rfl | exact .inr (.inl rfl) | exact .inr (.inr rfl)) _).setCell (by first | exact .inl rfl | exact .inr (.inl rfl) | exact .inr (.inr rfl)) _).setCell (by first | exact .inl rfl | exact .inr (.inl rfl) | exact .inr (.inr rfl)) _).setCell (by first | exact .inl rfl | exact .inr (.inl rfl) | exact .inr (.inr rfl)) _).setCell (by first | exact .inl rfl | exact .inr (.inl rfl) | exact .inr (.inr rfl)) _).setCell (by first | exact .inl rfl | exact .inr (.inl rfl) | exact .inr (.inr rfl)) _) HBX.out hy2 hnc hN r1 r2 r3 r4 r5 hlen (fun b off e => by have := hA b off e; omega) (fun b off e => by have := hB b off e; omega) (fun b off e => by have := h1 b off e; omega) (fun b off e => by have := h2 b off e; omega) (fun b off e => by have := h3 b off e; omega) (fun b off e => by have := h4 b off e; omega) (fun b off e => by have := h5 b off e; omega)
end Go.Proofs.Ytbkeijhlobdkeaa
namespace Go.Proofs.Ytbkeijhlobdkeaa
set_option linter.unusedVariables false
set_option linter.unusedSimpArgs false
open Go.RowKit
theorem laws_bigC (A : Option Addr) (n c : Nat) (w : World) : Calls Try.prog 7 #[.slice A n c] w fun e w' => e = .returned (.bool (decide (4096 < n))) ∧ w = w' := by
  go_enter Try.func7, Try.ntmps7
  go_wp2
  go_ret
  refine ⟨rb ?_, rfl⟩
  simp; omega
set_option maxRecDepth 100000 in
set_option maxHeartbeats 8000000 in
theorem walk_FnClosest (w : World) (A0 : Option Addr) (c0 : Nat) (l0 : List Int) (h0 : BytesIn w A0 l0) :
    Calls Try.prog 4 #[.slice A0 l0.length c0] w fun e w' => e = .returned (.bool true) ∧ Below w.heap.size w w' := by
  have HI := Lib.hid h0
  clear h0
  by_cases hbig : 4096 < l0.length
  · have b0 : decide (4096 < l0.length) = true := by simpa using hbig
    go_enter Try.func4, Try.ntmps4
    go_wp2_with ((go_at_call 7; refine (laws_bigC _ _ _ _).mono ?_; rintro e w' ⟨rfl, rfl⟩))
    go_ret
    exact ⟨rfl, by (repeat' (first | (with_reducible exact Below.refl _ _) | (with_reducible assumption) | (with_reducible refine Below.alloc ?_ ?_ _) | (with_reducible refine Below.drew ?_) | (with_reducible refine Below.drewN' ?_ _) | (with_reducible refine Below.setCell ?_ ?_ _) | (refine Below.via ?_ (by with_reducible assumption) ?_) | (with_reducible refine Below.via ?_ (Wd.h _) ?_) | go_size))⟩
  have b0 : decide (4096 < l0.length) = false := by simpa using hbig
  go_enter Try.func4, Try.ntmps4
  go_wp2_with ((go_at_call 7; refine (laws_bigC _ _ _ _).mono ?_; rintro e w' ⟨rfl, rfl⟩))
  
  refine (spec_DrawClosestSupplies A0 c0 l0 _ (HI.out.below (by (repeat' (first | (with_reducible exact Below.refl _ _) | (with_reducible assumption) | (with_reducible refine Below.alloc ?_ ?_ _) | (with_reducible refine Below.drew ?_) | (with_reducible refine Below.drewN' ?_ _) | (with_reducible refine Below.setCell ?_ ?_ _) | (refine Below.via ?_ (by with_reducible assumption) ?_) | (with_reducible refine Below.via ?_ (Wd.h _) ?_) | go_size)))) (by omega)).mono ?_
  rintro e w1 ⟨A, Bq, Al, Ah, An, Fa, Fb, c, d, cl, ch, cn, ca, cb, N, ll, lh, ln, la, lb, rfl, hnc, hN, r1, r2, r3, r4, r5, hlen, hb1, -, -, -, -, -, -, -⟩
  have hz1 := hb1.size
  have HN := Lib.hid hN
  have HB := Lib.hid (show BufAt w1 Al Ah An ll lh ln from ⟨r1, r2, r3, by omega, by omega, by omega⟩)
  have HH := Lib.hid (show HouAt w1 Fa Fb la lb from ⟨r4, r5, by omega, by omega⟩)
  obtain ⟨L, code, hR⟩ : ∃ L code, csQ N ll lh ln la lb = (L, code) := ⟨_, _, rfl⟩
  obtain ⟨k, one, hS⟩ : ∃ k one, sdQ N ll lh ln la lb = (k, one) := ⟨_, _, rfl⟩
  obtain ⟨sb, four, hQ⟩ : ∃ sb four, shQ N ll lh ln la lb = (sb, four) := ⟨_, _, rfl⟩
  have HR := Lib.hid hR
  have HS := Lib.hid hS
  have HQ := Lib.hid hQ
  have hL : L.length ≤ 1048576 := by have := csQ_len (N := N) (ll := ll) (lh := lh) (ln := ln) (la := la) (lb := lb); rw [hR] at this; exact this
  clear hN r1 r2 r3 r4 r5 hR hS hQ
  go_wp2_with fail
  
  refine ((impl_ClosestSuppliesL _ _ _ _ _ _ _ _ _ _ _ _ _ _ _ _ _ _ _ N ll lh ln la lb _ (HN.out.below (by (repeat' (first | (with_reducible exact Below.refl _ _) | (with_reducible assumption) | (with_reducible refine Below.alloc ?_ ?_ _) | (with_reducible refine Below.drew ?_) | (with_reducible refine Below.drewN' ?_ _) | (with_reducible refine Below.setCell ?_ ?_ _) | (refine Below.via ?_ (by with_reducible assumption) ?_) | (with_reducible refine Below.via ?_ (Wd.h _) ?_) | go_size)))) rfl rfl hnc (HB.out.below (by (repeat' (first | (with_reducible exact Below.refl _ _) | (with_reducible assumption) | (with_reducible refine Below.alloc ?_ ?_ _) | (with_reducible refine Below.drew ?_) | (with_reducible refine Below.drewN' ?_ _) | (with_reducible refine Below.setCell ?_ ?_ _) | (refine Below.via ?_ (by with_reducible assumption) ?_) | (with_reducible refine Below.via ?_ (Wd.h _) ?_) | go_size)))) rfl rfl rfl (HH.out.below (by (repeat' (first | (with_reducible exact Below.refl _ _) | (with_reducible assumption) | (with_reducible refine Below.alloc ?_ ?_ _) | (with_reducible refine Below.drew ?_) | (with_reducible refine Below.drewN' ?_ _) | (with_reducible refine Below.setCell ?_ ?_ _) | (refine Below.via ?_ (by with_reducible assumption) ?_) | (with_reducible refine Below.via ?_ (Wd.h _) ?_) | go_size))))).made HR.out).mono ?_
  rintro e w2 ⟨A2, c2, rfl, hc2, hW2, hb2⟩
  have HR2 := Lib.hid hW2.rd
  clear hW2
  (obtain ⟨hcn, hfn⟩ := bcell hb2; have hz2 := hb2.size; (try simp at hz2); have Na_0 := hcn (w1.heap.size) (0) (by first | omega | (simp; done) | (simp; omega)); have Na_0f := hfn (w1.heap.size) (0) (by first | omega | (simp; done) | (simp; omega)); have Nhy_a : w1.heap.size < w2.heap.size := (by omega); have Na_1 := hcn (w1.heap.size) (1) (by first | omega | (simp; done) | (simp; omega)); have Na_1f := hfn (w1.heap.size) (1) (by first | omega | (simp; done) | (simp; omega)); have Nb_0 := hcn (w1.heap.size + 1) (0) (by first | omega | (simp; done) | (simp; omega)); have Nb_0f := hfn (w1.heap.size + 1) (0) (by first | omega | (simp; done) | (simp; omega)); have Nhy_b : w1.heap.size + 1 < w2.heap.size := (by omega); have Nb_1 := hcn (w1.heap.size + 1) (1) (by first | omega | (simp; done) | (simp; omega)); have Nb_1f := hfn (w1.heap.size + 1) (1) (by first | omega | (simp; done) | (simp; omega)); have Nb_2 := hcn (w1.heap.size + 1) (2) (by first | omega | (simp; done) | (simp; omega)); have Nb_2f := hfn (w1.heap.size + 1) (2) (by first | omega | (simp; done) | (simp; omega)); have Nh_0 := hcn (w1.heap.size + 2) (0) (by first | omega | (simp; done) | (simp; omega)); have Nh_0f := hfn (w1.heap.size + 2) (0) (by first | omega | (simp; done) | (simp; omega)); have Nhy_h : w1.heap.size + 2 < w2.heap.size := (by omega); have Nh_1 := hcn (w1.heap.size + 2) (1) (by first | omega | (simp; done) | (simp; omega)); have Nh_1f := hfn (w1.heap.size + 2) (1) (by first | omega | (simp; done) | (simp; omega)); simp [go_sem] at Na_0 Na_0f Na_1 Na_1f Nb_0 Nb_0f Nb_1 Nb_1f Nb_2 Nb_2f Nh_0 Nh_0f Nh_1 Nh_1f; clear hcn hfn; have a_0 := Na_0; have a_0f := Na_0f; have a_1 := Na_1; have a_1f := Na_1f; have b_0 := Nb_0; have b_0f := Nb_0f; have b_1 := Nb_1; have b_1f := Nb_1f; have b_2 := Nb_2; have b_2f := Nb_2f; have h_0 := Nh_0; have h_0f := Nh_0f; have h_1 := Nh_1; have h_1f := Nh_1f; have hy_a := Nhy_a; have hy_b := Nhy_b; have hy_h := Nhy_h; clear Na_0 Na_0f Na_1 Na_1f Nb_0 Nb_0f Nb_1 Nb_1f Nb_2 Nb_2f Nh_0 Nh_0f Nh_1 Nh_1f Nhy_a Nhy_b Nhy_h)
  go_wp2_with fail
  refine ((spec_ClosestSuppliesL _ _ _ _ _ _ _ _ _ _ _ _ _ _ _ _ _ _ _ N ll lh ln la lb _ (HN.out.below (by (repeat' (first | (with_reducible exact Below.refl _ _) | (with_reducible assumption) | (with_reducible refine Below.alloc ?_ ?_ _) | (with_reducible refine Below.drew ?_) | (with_reducible refine Below.drewN' ?_ _) | (with_reducible refine Below.setCell ?_ ?_ _) | (refine Below.via ?_ (by with_reducible assumption) ?_) | (with_reducible refine Below.via ?_ (Wd.h _) ?_) | go_size)))) rfl rfl (HB.out.below (by (repeat' (first | (with_reducible exact Below.refl _ _) | (with_reducible assumption) | (with_reducible refine Below.alloc ?_ ?_ _) | (with_reducible refine Below.drew ?_) | (with_reducible refine Below.drewN' ?_ _) | (with_reducible refine Below.setCell ?_ ?_ _) | (refine Below.via ?_ (by with_reducible assumption) ?_) | (with_reducible refine Below.via ?_ (Wd.h _) ?_) | go_size)))) rfl rfl rfl (HH.out.below (by (repeat' (first | (with_reducible exact Below.refl _ _) | (with_reducible assumption) | (with_reducible refine Below.alloc ?_ ?_ _) | (with_reducible refine Below.drew ?_) | (with_reducible refine Below.drewN' ?_ _) | (with_reducible refine Below.setCell ?_ ?_ _) | (refine Below.via ?_ (by with_reducible assumption) ?_) | (with_reducible refine Below.via ?_ (Wd.h _) ?_) | go_size))))).made HR.out).mono ?_
  rintro e w3 ⟨A3, c3, rfl, hc3, hW3, hb3⟩
  have HR3 := Lib.hid hW3.rd
  clear hW3
  (obtain ⟨hcn, hfn⟩ := bcell hb3; have hz3 := hb3.size; (try simp at hz3); have Na_0 := hcn (w1.heap.size) (0) (by first | omega | (simp; done) | (simp; omega)); have Na_0f := hfn (w1.heap.size) (0) (by first | omega | (simp; done) | (simp; omega)); have Nhy_a : w1.heap.size < w3.heap.size := (by omega); have Na_1 := hcn (w1.heap.size) (1) (by first | omega | (simp; done) | (simp; omega)); have Na_1f := hfn (w1.heap.size) (1) (by first | omega | (simp; done) | (simp; omega)); have Nb_0 := hcn (w1.heap.size + 1) (0) (by first | omega | (simp; done) | (simp; omega)); have Nb_0f := hfn (w1.heap.size + 1) (0) (by first | omega | (simp; done) | (simp; omega)); have Nhy_b : w1.heap.size + 1 < w3.heap.size := (by omega); have Nb_1 := hcn (w1.heap.size + 1) (1) (by first | omega | (simp; done) | (simp; omega)); have Nb_1f := hfn (w1.heap.size + 1) (1) (by first | omega | (simp; done) | (simp; omega)); have Nb_2 := hcn (w1.heap.size + 1) (2) (by first | omega | (simp; done) | (simp; omega)); have Nb_2f := hfn (w1.heap.size + 1) (2) (by first | omega | (simp; done) | (simp; omega)); have Nh_0 := hcn (w1.heap.size + 2) (0) (by first | omega | (simp; done) | (simp; omega)); have Nh_0f := hfn (w1.heap.size + 2) (0) (by first | omega | (simp; done) | (simp; omega)); have Nhy_h : w1.heap.size + 2 < w3.heap.size := (by omega); have Nh_1 := hcn (w1.heap.size + 2) (1) (by first | omega | (simp; done) | (simp; omega)); have Nh_1f := hfn (w1.heap.size + 2) (1) (by first | omega | (simp; done) | (simp; omega)); simp [go_sem, a_0, a_0f, a_1, a_1f, b_0, b_0f, b_1, b_1f, b_2, b_2f, h_0, h_0f, h_1, h_1f, hy_a, hy_b, hy_h] at Na_0 Na_0f Na_1 Na_1f Nb_0 Nb_0f Nb_1 Nb_1f Nb_2 Nb_2f Nh_0 Nh_0f Nh_1 Nh_1f; clear a_0 a_0f a_1 a_1f b_0 b_0f b_1 b_1f b_2 b_2f h_0 h_0f h_1 h_1f hy_a hy_b hy_h; clear hcn hfn; have a_0 := Na_0; have a_0f := Na_0f; have a_1 := Na_1; have a_1f := Na_1f; have b_0 := Nb_0; have b_0f := Nb_0f; have b_1 := Nb_1; have b_1f := Nb_1f; have b_2 := Nb_2; have b_2f := Nb_2f; have h_0 := Nh_0; have h_0f := Nh_0f; have h_1 := Nh_1; have h_1f := Nh_1f; have hy_a := Nhy_a; have hy_b := Nhy_b; have hy_h := Nhy_h; clear Na_0 Na_0f Na_1 Na_1f Nb_0 Nb_0f Nb_1 Nb_1f Nb_2 Nb_2f Nh_0 Nh_0f Nh_1 Nh_1f Nhy_a Nhy_b Nhy_h)
  go_wp2_with fail
  refine (impl_SteadyHoursL _ _ _ _ _ _ _ _ _ _ _ _ _ _ _ _ _ _ _ N ll lh ln la lb _ (HN.out.below (by (repeat' (first | (with_reducible exact Below.refl _ _) | (with_reducible assumption) | (with_reducible refine Below.alloc ?_ ?_ _) | (with_reducible refine Below.drew ?_) | (with_reducible refine Below.drewN' ?_ _) | (with_reducible refine Below.setCell ?_ ?_ _) | (refine Below.via ?_ (by with_reducible assumption) ?_) | (with_reducible refine Below.via ?_ (Wd.h _) ?_) | go_size)))) rfl rfl hnc (HB.out.below (by (repeat' (first | (with_reducible exact Below.refl _ _) | (with_reducible assumption) | (with_reducible refine Below.alloc ?_ ?_ _) | (with_reducible refine Below.drew ?_) | (with_reducible refine Below.drewN' ?_ _) | (with_reducible refine Below.setCell ?_ ?_ _) | (refine Below.via ?_ (by with_reducible assumption) ?_) | (with_reducible refine Below.via ?_ (Wd.h _) ?_) | go_size)))) rfl rfl rfl (HH.out.below (by (repeat' (first | (with_reducible exact Below.refl _ _) | (with_reducible assumption) | (with_reducible refine Below.alloc ?_ ?_ _) | (with_reducible refine Below.drew ?_) | (with_reducible refine Below.drewN' ?_ _) | (with_reducible refine Below.setCell ?_ ?_ _) | (refine Below.via ?_ (by with_reducible assumption) ?_) | (with_reducible refine Below.via ?_ (Wd.h _) ?_) | go_size))))).mono ?_
  rintro e w4 ⟨rfl, hb4⟩
  rw [HS.out]
  (obtain ⟨hcn, hfn⟩ := bcell hb4; have hz4 := hb4.size; (try simp at hz4); have Na_0 := hcn (w1.heap.size) (0) (by first | omega | (simp; done) | (simp; omega)); have Na_0f := hfn (w1.heap.size) (0) (by first | omega | (simp; done) | (simp; omega)); have Nhy_a : w1.heap.size < w4.heap.size := (by omega); have Na_1 := hcn (w1.heap.size) (1) (by first | omega | (simp; done) | (simp; omega)); have Na_1f := hfn (w1.heap.size) (1) (by first | omega | (simp; done) | (simp; omega)); have Nb_0 := hcn (w1.heap.size + 1) (0) (by first | omega | (simp; done) | (simp; omega)); have Nb_0f := hfn (w1.heap.size + 1) (0) (by first | omega | (simp; done) | (simp; omega)); have Nhy_b : w1.heap.size + 1 < w4.heap.size := (by omega); have Nb_1 := hcn (w1.heap.size + 1) (1) (by first | omega | (simp; done) | (simp; omega)); have Nb_1f := hfn (w1.heap.size + 1) (1) (by first | omega | (simp; done) | (simp; omega)); have Nb_2 := hcn (w1.heap.size + 1) (2) (by first | omega | (simp; done) | (simp; omega)); have Nb_2f := hfn (w1.heap.size + 1) (2) (by first | omega | (simp; done) | (simp; omega)); have Nh_0 := hcn (w1.heap.size + 2) (0) (by first | omega | (simp; done) | (simp; omega)); have Nh_0f := hfn (w1.heap.size + 2) (0) (by first | omega | (simp; done) | (simp; omega)); have Nhy_h : w1.heap.size + 2 < w4.heap.size := (by omega); have Nh_1 := hcn (w1.heap.size + 2) (1) (by first | omega | (simp; done) | (simp; omega)); have Nh_1f := hfn (w1.heap.size + 2) (1) (by first | omega | (simp; done) | (simp; omega)); simp [go_sem, a_0, a_0f, a_1, a_1f, b_0, b_0f, b_1, b_1f, b_2, b_2f, h_0, h_0f, h_1, h_1f, hy_a, hy_b, hy_h] at Na_0 Na_0f Na_1 Na_1f Nb_0 Nb_0f Nb_1 Nb_1f Nb_2 Nb_2f Nh_0 Nh_0f Nh_1 Nh_1f; clear a_0 a_0f a_1 a_1f b_0 b_0f b_1 b_1f b_2 b_2f h_0 h_0f h_1 h_1f hy_a hy_b hy_h; clear hcn hfn; have a_0 := Na_0; have a_0f := Na_0f; have a_1 := Na_1; have a_1f := Na_1f; have b_0 := Nb_0; have b_0f := Nb_0f; have b_1 := Nb_1; have b_1f := Nb_1f; have b_2 := Nb_2; have b_2f := Nb_2f; have h_0 := Nh_0; have h_0f := Nh_0f; have h_1 := Nh_1; have h_1f := Nh_1f; have hy_a := Nhy_a; have hy_b := Nhy_b; have hy_h := Nhy_h; clear Na_0 Na_0f Na_1 Na_1f Nb_0 Nb_0f Nb_1 Nb_1f Nb_2 Nb_2f Nh_0 Nh_0f Nh_1 Nh_1f Nhy_a Nhy_b Nhy_h)
  go_wp2_with fail
  refine (spec_SteadyHoursL _ _ _ _ _ _ _ _ _ _ _ _ _ _ _ _ _ _ _ N ll lh ln la lb _ (HN.out.below (by (repeat' (first | (with_reducible exact Below.refl _ _) | (with_reducible assumption) | (with_reducible refine Below.alloc ?_ ?_ _) | (with_reducible refine Below.drew ?_) | (with_reducible refine Below.drewN' ?_ _) | (with_reducible refine Below.setCell ?_ ?_ _) | (refine Below.via ?_ (by with_reducible assumption) ?_) | (with_reducible refine Below.via ?_ (Wd.h _) ?_) | go_size)))) rfl rfl (HB.out.below (by (repeat' (first | (with_reducible exact Below.refl _ _) | (with_reducible assumption) | (with_reducible refine Below.alloc ?_ ?_ _) | (with_reducible refine Below.drew ?_) | (with_reducible refine Below.drewN' ?_ _) | (with_reducible refine Below.setCell ?_ ?_ _) | (refine Below.via ?_ (by with_reducible assumption) ?_) | (with_reducible refine Below.via ?_ (Wd.h _) ?_) | go_size)))) rfl rfl rfl (HH.out.below (by (repeat' (first | (with_reducible exact Below.refl _ _) | (with_reducible assumption) | (with_reducible refine Below.alloc ?_ ?_ _) | (with_reducible refine Below.drew ?_) | (with_reducible refine Below.drewN' ?_ _) | (with_reducible refine Below.setCell ?_ ?_ _) | (refine Below.via ?_ (by with_reducible assumption) ?_) | (with_reducible refine Below.via ?_ (Wd.h _) ?_) | go_size))))).mono ?_
  rintro e w5 ⟨rfl, hb5⟩
  rw [HS.out]
  (obtain ⟨hcn, hfn⟩ := bcell hb5; have hz5 := hb5.size; (try simp at hz5); have Na_0 := hcn (w1.heap.size) (0) (by first | omega | (simp; done) | (simp; omega)); have Na_0f := hfn (w1.heap.size) (0) (by first | omega | (simp; done) | (simp; omega)); have Nhy_a : w1.heap.size < w5.heap.size := (by omega); have Na_1 := hcn (w1.heap.size) (1) (by first | omega | (simp; done) | (simp; omega)); have Na_1f := hfn (w1.heap.size) (1) (by first | omega | (simp; done) | (simp; omega)); have Nb_0 := hcn (w1.heap.size + 1) (0) (by first | omega | (simp; done) | (simp; omega)); have Nb_0f := hfn (w1.heap.size + 1) (0) (by first | omega | (simp; done) | (simp; omega)); have Nhy_b : w1.heap.size + 1 < w5.heap.size := (by omega); have Nb_1 := hcn (w1.heap.size + 1) (1) (by first | omega | (simp; done) | (simp; omega)); have Nb_1f := hfn (w1.heap.size + 1) (1) (by first | omega | (simp; done) | (simp; omega)); have Nb_2 := hcn (w1.heap.size + 1) (2) (by first | omega | (simp; done) | (simp; omega)); have Nb_2f := hfn (w1.heap.size + 1) (2) (by first | omega | (simp; done) | (simp; omega)); have Nh_0 := hcn (w1.heap.size + 2) (0) (by first | omega | (simp; done) | (simp; omega)); have Nh_0f := hfn (w1.heap.size + 2) (0) (by first | omega | (simp; done) | (simp; omega)); have Nhy_h : w1.heap.size + 2 < w5.heap.size := (by omega); have Nh_1 := hcn (w1.heap.size + 2) (1) (by first | omega | (simp; done) | (simp; omega)); have Nh_1f := hfn (w1.heap.size + 2) (1) (by first | omega | (simp; done) | (simp; omega)); simp [go_sem, a_0, a_0f, a_1, a_1f, b_0, b_0f, b_1, b_1f, b_2, b_2f, h_0, h_0f, h_1, h_1f, hy_a, hy_b, hy_h] at Na_0 Na_0f Na_1 Na_1f Nb_0 Nb_0f Nb_1 Nb_1f Nb_2 Nb_2f Nh_0 Nh_0f Nh_1 Nh_1f; clear a_0 a_0f a_1 a_1f b_0 b_0f b_1 b_1f b_2 b_2f h_0 h_0f h_1 h_1f hy_a hy_b hy_h; clear hcn hfn; have a_0 := Na_0; have a_0f := Na_0f; have a_1 := Na_1; have a_1f := Na_1f; have b_0 := Nb_0; have b_0f := Nb_0f; have b_1 := Nb_1; have b_1f := Nb_1f; have b_2 := Nb_2; have b_2f := Nb_2f; have h_0 := Nh_0; have h_0f := Nh_0f; have h_1 := Nh_1; have h_1f := Nh_1f; have hy_a := Nhy_a; have hy_b := Nhy_b; have hy_h := Nhy_h; clear Na_0 Na_0f Na_1 Na_1f Nb_0 Nb_0f Nb_1 Nb_1f Nb_2 Nb_2f Nh_0 Nh_0f Nh_1 Nh_1f Nhy_a Nhy_b Nhy_h)
  go_wp2_with fail
  refine (laws_likeInts A2 A3 c2 c3 _ _ L _ (HR2.out.below (by (repeat' (first | (with_reducible exact Below.refl _ _) | (with_reducible assumption) | (with_reducible refine Below.alloc ?_ ?_ _) | (with_reducible refine Below.drew ?_) | (with_reducible refine Below.drewN' ?_ _) | (with_reducible refine Below.setCell ?_ ?_ _) | (refine Below.via ?_ (by with_reducible assumption) ?_) | (with_reducible refine Below.via ?_ (Wd.h _) ?_) | go_size)))) (HR3.out.below (by (repeat' (first | (with_reducible exact Below.refl _ _) | (with_reducible assumption) | (with_reducible refine Below.alloc ?_ ?_ _) | (with_reducible refine Below.drew ?_) | (with_reducible refine Below.drewN' ?_ _) | (with_reducible refine Below.setCell ?_ ?_ _) | (refine Below.via ?_ (by with_reducible assumption) ?_) | (with_reducible refine Below.via ?_ (Wd.h _) ?_) | go_size)))) rfl rfl hL).mono ?_
  rintro e w6 ⟨rfl, hb6⟩
  (obtain ⟨hcn, hfn⟩ := bcell hb6; have hz6 := hb6.size; (try simp at hz6); have Na_0 := hcn (w1.heap.size) (0) (by first | omega | (simp; done) | (simp; omega)); have Na_0f := hfn (w1.heap.size) (0) (by first | omega | (simp; done) | (simp; omega)); have Nhy_a : w1.heap.size < w6.heap.size := (by omega); have Na_1 := hcn (w1.heap.size) (1) (by first | omega | (simp; done) | (simp; omega)); have Na_1f := hfn (w1.heap.size) (1) (by first | omega | (simp; done) | (simp; omega)); have Nb_0 := hcn (w1.heap.size + 1) (0) (by first | omega | (simp; done) | (simp; omega)); have Nb_0f := hfn (w1.heap.size + 1) (0) (by first | omega | (simp; done) | (simp; omega)); have Nhy_b : w1.heap.size + 1 < w6.heap.size := (by omega); have Nb_1 := hcn (w1.heap.size + 1) (1) (by first | omega | (simp; done) | (simp; omega)); have Nb_1f := hfn (w1.heap.size + 1) (1) (by first | omega | (simp; done) | (simp; omega)); have Nb_2 := hcn (w1.heap.size + 1) (2) (by first | omega | (simp; done) | (simp; omega)); have Nb_2f := hfn (w1.heap.size + 1) (2) (by first | omega | (simp; done) | (simp; omega)); have Nh_0 := hcn (w1.heap.size + 2) (0) (by first | omega | (simp; done) | (simp; omega)); have Nh_0f := hfn (w1.heap.size + 2) (0) (by first | omega | (simp; done) | (simp; omega)); have Nhy_h : w1.heap.size + 2 < w6.heap.size := (by omega); have Nh_1 := hcn (w1.heap.size + 2) (1) (by first | omega | (simp; done) | (simp; omega)); have Nh_1f := hfn (w1.heap.size + 2) (1) (by first | omega | (simp; done) | (simp; omega)); simp [go_sem, a_0, a_0f, a_1, a_1f, b_0, b_0f, b_1, b_1f, b_2, b_2f, h_0, h_0f, h_1, h_1f, hy_a, hy_b, hy_h] at Na_0 Na_0f Na_1 Na_1f Nb_0 Nb_0f Nb_1 Nb_1f Nb_2 Nb_2f Nh_0 Nh_0f Nh_1 Nh_1f; clear a_0 a_0f a_1 a_1f b_0 b_0f b_1 b_1f b_2 b_2f h_0 h_0f h_1 h_1f hy_a hy_b hy_h; clear hcn hfn; have a_0 := Na_0; have a_0f := Na_0f; have a_1 := Na_1; have a_1f := Na_1f; have b_0 := Nb_0; have b_0f := Nb_0f; have b_1 := Nb_1; have b_1f := Nb_1f; have b_2 := Nb_2; have b_2f := Nb_2f; have h_0 := Nh_0; have h_0f := Nh_0f; have h_1 := Nh_1; have h_1f := Nh_1f; have hy_a := Nhy_a; have hy_b := Nhy_b; have hy_h := Nhy_h; clear Na_0 Na_0f Na_1 Na_1f Nb_0 Nb_0f Nb_1 Nb_1f Nb_2 Nb_2f Nh_0 Nh_0f Nh_1 Nh_1f Nhy_a Nhy_b Nhy_h)
  by_cases e0 : code = 0
  · subst e0
    have HF := Lib.hid (ft_closest HR.out)
    have hsd := sd_sh (cs_of HR.out).1
    rw [HS.out, HQ.out] at hsd
    dsimp only at hsd
    have HSD := Lib.hid hsd
    clear hsd
    go_wp2_with fail
    refine (impl_FirstTroubleL _ _ _ _ _ Fa A2 _ _ _ _ _ _ _ _ _ _ ca c2 N ll lh ln la L _ (HN.out.below (by (repeat' (first | (with_reducible exact Below.refl _ _) | (with_reducible assumption) | (with_reducible refine Below.alloc ?_ ?_ _) | (with_reducible refine Below.drew ?_) | (with_reducible refine Below.drewN' ?_ _) | (with_reducible refine Below.setCell ?_ ?_ _) | (refine Below.via ?_ (by with_reducible assumption) ?_) | (with_reducible refine Below.via ?_ (Wd.h _) ?_) | go_size)))) rfl rfl hnc (HB.out.below (by (repeat' (first | (with_reducible exact Below.refl _ _) | (with_reducible assumption) | (with_reducible refine Below.alloc ?_ ?_ _) | (with_reducible refine Below.drew ?_) | (with_reducible refine Below.drewN' ?_ _) | (with_reducible refine Below.setCell ?_ ?_ _) | (refine Below.via ?_ (by with_reducible assumption) ?_) | (with_reducible refine Below.via ?_ (Wd.h _) ?_) | go_size)))) rfl rfl rfl ⟨HH.out.r1.below (by (repeat' (first | (with_reducible exact Below.refl _ _) | (with_reducible assumption) | (with_reducible refine Below.alloc ?_ ?_ _) | (with_reducible refine Below.drew ?_) | (with_reducible refine Below.drewN' ?_ _) | (with_reducible refine Below.setCell ?_ ?_ _) | (refine Below.via ?_ (by with_reducible assumption) ?_) | (with_reducible refine Below.via ?_ (Wd.h _) ?_) | go_size))), HR2.out.below (by (repeat' (first | (with_reducible exact Below.refl _ _) | (with_reducible assumption) | (with_reducible refine Below.alloc ?_ ?_ _) | (with_reducible refine Below.drew ?_) | (with_reducible refine Below.drewN' ?_ _) | (with_reducible refine Below.setCell ?_ ?_ _) | (refine Below.via ?_ (by with_reducible assumption) ?_) | (with_reducible refine Below.via ?_ (Wd.h _) ?_) | go_size))), HH.out.s1, hL⟩).mono ?_
    rintro e w7 ⟨rfl, hb7⟩
    rw [HF.out]
    (obtain ⟨hcn, hfn⟩ := bcell hb7; have hz7 := hb7.size; (try simp at hz7); have Na_0 := hcn (w1.heap.size) (0) (by first | omega | (simp; done) | (simp; omega)); have Na_0f := hfn (w1.heap.size) (0) (by first | omega | (simp; done) | (simp; omega)); have Nhy_a : w1.heap.size < w7.heap.size := (by omega); have Na_1 := hcn (w1.heap.size) (1) (by first | omega | (simp; done) | (simp; omega)); have Na_1f := hfn (w1.heap.size) (1) (by first | omega | (simp; done) | (simp; omega)); have Nb_0 := hcn (w1.heap.size + 1) (0) (by first | omega | (simp; done) | (simp; omega)); have Nb_0f := hfn (w1.heap.size + 1) (0) (by first | omega | (simp; done) | (simp; omega)); have Nhy_b : w1.heap.size + 1 < w7.heap.size := (by omega); have Nb_1 := hcn (w1.heap.size + 1) (1) (by first | omega | (simp; done) | (simp; omega)); have Nb_1f := hfn (w1.heap.size + 1) (1) (by first | omega | (simp; done) | (simp; omega)); have Nb_2 := hcn (w1.heap.size + 1) (2) (by first | omega | (simp; done) | (simp; omega)); have Nb_2f := hfn (w1.heap.size + 1) (2) (by first | omega | (simp; done) | (simp; omega)); have Nh_0 := hcn (w1.heap.size + 2) (0) (by first | omega | (simp; done) | (simp; omega)); have Nh_0f := hfn (w1.heap.size + 2) (0) (by first | omega | (simp; done) | (simp; omega)); have Nhy_h : w1.heap.size + 2 < w7.heap.size := (by omega); have Nh_1 := hcn (w1.heap.size + 2) (1) (by first | omega | (simp; done) | (simp; omega)); have Nh_1f := hfn (w1.heap.size + 2) (1) (by first | omega | (simp; done) | (simp; omega)); simp [go_sem, a_0, a_0f, a_1, a_1f, b_0, b_0f, b_1, b_1f, b_2, b_2f, h_0, h_0f, h_1, h_1f, hy_a, hy_b, hy_h] at Na_0 Na_0f Na_1 Na_1f Nb_0 Nb_0f Nb_1 Nb_1f Nb_2 Nb_2f Nh_0 Nh_0f Nh_1 Nh_1f; clear a_0 a_0f a_1 a_1f b_0 b_0f b_1 b_1f b_2 b_2f h_0 h_0f h_1 h_1f hy_a hy_b hy_h; clear hcn hfn; have a_0 := Na_0; have a_0f := Na_0f; have a_1 := Na_1; have a_1f := Na_1f; have b_0 := Nb_0; have b_0f := Nb_0f; have b_1 := Nb_1; have b_1f := Nb_1f; have b_2 := Nb_2; have b_2f := Nb_2f; have h_0 := Nh_0; have h_0f := Nh_0f; have h_1 := Nh_1; have h_1f := Nh_1f; have hy_a := Nhy_a; have hy_b := Nhy_b; have hy_h := Nhy_h; clear Na_0 Na_0f Na_1 Na_1f Nb_0 Nb_0f Nb_1 Nb_1f Nb_2 Nb_2f Nh_0 Nh_0f Nh_1 Nh_1f Nhy_a Nhy_b Nhy_h)
    go_wp2_with fail
    refine (impl_StepHourL _ _ _ _ _ _ _ _ _ _ _ _ _ _ _ _ _ _ _ N ll lh ln la lb _ (HN.out.below (by (repeat' (first | (with_reducible exact Below.refl _ _) | (with_reducible assumption) | (with_reducible refine Below.alloc ?_ ?_ _) | (with_reducible refine Below.drew ?_) | (with_reducible refine Below.drewN' ?_ _) | (with_reducible refine Below.setCell ?_ ?_ _) | (refine Below.via ?_ (by with_reducible assumption) ?_) | (with_reducible refine Below.via ?_ (Wd.h _) ?_) | go_size)))) rfl rfl hnc (HB.out.below (by (repeat' (first | (with_reducible exact Below.refl _ _) | (with_reducible assumption) | (with_reducible refine Below.alloc ?_ ?_ _) | (with_reducible refine Below.drew ?_) | (with_reducible refine Below.drewN' ?_ _) | (with_reducible refine Below.setCell ?_ ?_ _) | (refine Below.via ?_ (by with_reducible assumption) ?_) | (with_reducible refine Below.via ?_ (Wd.h _) ?_) | go_size)))) rfl rfl rfl (HH.out.below (by (repeat' (first | (with_reducible exact Below.refl _ _) | (with_reducible assumption) | (with_reducible refine Below.alloc ?_ ?_ _) | (with_reducible refine Below.drew ?_) | (with_reducible refine Below.drewN' ?_ _) | (with_reducible refine Below.setCell ?_ ?_ _) | (refine Below.via ?_ (by with_reducible assumption) ?_) | (with_reducible refine Below.via ?_ (Wd.h _) ?_) | go_size))))).mono ?_
    rw [HQ.out]
    rintro e w8 ⟨G1, G2, G3, k1, k2, k3, rfl, -, hb8⟩
    (obtain ⟨hcn, hfn⟩ := bcell hb8; have hz8 := hb8.size; (try simp at hz8); have Na_0 := hcn (w1.heap.size) (0) (by first | omega | (simp; done) | (simp; omega)); have Na_0f := hfn (w1.heap.size) (0) (by first | omega | (simp; done) | (simp; omega)); have Nhy_a : w1.heap.size < w8.heap.size := (by omega); have Na_1 := hcn (w1.heap.size) (1) (by first | omega | (simp; done) | (simp; omega)); have Na_1f := hfn (w1.heap.size) (1) (by first | omega | (simp; done) | (simp; omega)); have Nb_0 := hcn (w1.heap.size + 1) (0) (by first | omega | (simp; done) | (simp; omega)); have Nb_0f := hfn (w1.heap.size + 1) (0) (by first | omega | (simp; done) | (simp; omega)); have Nhy_b : w1.heap.size + 1 < w8.heap.size := (by omega); have Nb_1 := hcn (w1.heap.size + 1) (1) (by first | omega | (simp; done) | (simp; omega)); have Nb_1f := hfn (w1.heap.size + 1) (1) (by first | omega | (simp; done) | (simp; omega)); have Nb_2 := hcn (w1.heap.size + 1) (2) (by first | omega | (simp; done) | (simp; omega)); have Nb_2f := hfn (w1.heap.size + 1) (2) (by first | omega | (simp; done) | (simp; omega)); have Nh_0 := hcn (w1.heap.size + 2) (0) (by first | omega | (simp; done) | (simp; omega)); have Nh_0f := hfn (w1.heap.size + 2) (0) (by first | omega | (simp; done) | (simp; omega)); have Nhy_h : w1.heap.size + 2 < w8.heap.size := (by omega); have Nh_1 := hcn (w1.heap.size + 2) (1) (by first | omega | (simp; done) | (simp; omega)); have Nh_1f := hfn (w1.heap.size + 2) (1) (by first | omega | (simp; done) | (simp; omega)); simp [go_sem, a_0, a_0f, a_1, a_1f, b_0, b_0f, b_1, b_1f, b_2, b_2f, h_0, h_0f, h_1, h_1f, hy_a, hy_b, hy_h] at Na_0 Na_0f Na_1 Na_1f Nb_0 Nb_0f Nb_1 Nb_1f Nb_2 Nb_2f Nh_0 Nh_0f Nh_1 Nh_1f; clear a_0 a_0f a_1 a_1f b_0 b_0f b_1 b_1f b_2 b_2f h_0 h_0f h_1 h_1f hy_a hy_b hy_h; clear hcn hfn; have a_0 := Na_0; have a_0f := Na_0f; have a_1 := Na_1; have a_1f := Na_1f; have b_0 := Nb_0; have b_0f := Nb_0f; have b_1 := Nb_1; have b_1f := Nb_1f; have b_2 := Nb_2; have b_2f := Nb_2f; have h_0 := Nh_0; have h_0f := Nh_0f; have h_1 := Nh_1; have h_1f := Nh_1f; have hy_a := Nhy_a; have hy_b := Nhy_b; have hy_h := Nhy_h; clear Na_0 Na_0f Na_1 Na_1f Nb_0 Nb_0f Nb_1 Nb_1f Nb_2 Nb_2f Nh_0 Nh_0f Nh_1 Nh_1f Nhy_a Nhy_b Nhy_h)
    by_cases hk : 0 < k
    · obtain rfl : four = 0 := by have := HSD.out; simpa [hk] using this
      go_wp2
      go_ret
      exact ⟨rfl, by (repeat' (first | (with_reducible exact Below.refl _ _) | (with_reducible assumption) | (with_reducible refine Below.alloc ?_ ?_ _) | (with_reducible refine Below.drew ?_) | (with_reducible refine Below.drewN' ?_ _) | (with_reducible refine Below.setCell ?_ ?_ _) | (refine Below.via ?_ (by with_reducible assumption) ?_) | (with_reducible refine Below.via ?_ (Wd.h _) ?_) | go_size))⟩
    · have hf : (four == 0) = false := by have := HSD.out; rw [← this]; simpa using hk
      have hf2 : ¬ four = 0 := by simpa using hf
      go_wp2
      go_ret
      exact ⟨rb (by simpa using hk), by (repeat' (first | (with_reducible exact Below.refl _ _) | (with_reducible assumption) | (with_reducible refine Below.alloc ?_ ?_ _) | (with_reducible refine Below.drew ?_) | (with_reducible refine Below.drewN' ?_ _) | (with_reducible refine Below.setCell ?_ ?_ _) | (refine Below.via ?_ (by with_reducible assumption) ?_) | (with_reducible refine Below.via ?_ (Wd.h _) ?_) | go_size))⟩
  · have b1 : (code != 0) = true := by simp [e0]
    go_wp2
    go_ret
    exact ⟨rfl, by (repeat' (first | (with_reducible exact Below.refl _ _) | (with_reducible assumption) | (with_reducible refine Below.alloc ?_ ?_ _) | (with_reducible refine Below.drew ?_) | (with_reducible refine Below.drewN' ?_ _) | (with_reducible refine Below.setCell ?_ ?_ _) | (refine Below.via ?_ (by with_reducible assumption) ?_) | (with_reducible refine Below.via ?_ (Wd.h _) ?_) | go_size))⟩
end Go.Proofs.Ytbkeijhlobdkeaa

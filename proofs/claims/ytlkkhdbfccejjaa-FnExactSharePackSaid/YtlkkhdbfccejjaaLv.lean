/- Levels: their checks; LinepackOf. -/
import Derived.Test.YtlkkhdbfccejjaaLp
import Derived.Test.YtlkkhdbfccejjaaCt1
namespace Go.Proofs.Ytlkkhdbfccejjaa
set_option linter.unusedVariables false
set_option linter.unusedSimpArgs false
open Go.RowKit
noncomputable def lvC (N : Net) (lv : List Int) : Int := if netB N = false then 1 else if lv.length ≠ N.nodes.length then 3 else if allB 0 100000000 lv = false then 2 else 0
theorem lv_of {N : Net} {lv : List Int} (h : lvC N lv = 0) : N.Ok ∧ LvOk lv N.nodes.length := by
  unfold lvC at h
  by_cases h1 : netB N = false
  · simp [h1] at h
  · by_cases h2 : lv.length = N.nodes.length
    · by_cases h3 : allB 0 100000000 lv = false
      · simp [h1, h2, h3] at h
      · exact ⟨netB_ok (by simpa using h1), h2, allB_iff.1 (by simpa using h3)⟩
    · simp [h1, h2] at h
theorem lenN (a b : Nat) : ((a : Int) != (b : Int)) = !decide (a = b) := by
  by_cases h : a = b
  · simp [h]
  · have : ¬ (a : Int) = b := by omega
    simp [h, this]
set_option maxRecDepth 100000 in
set_option maxHeartbeats 1000000 in
theorem impl_checkLevels (A B C : Option Addr) (n c m d e : Nat) (N : Net) (lv : List Int) (w : World) (hN : NetAt w A B N) (hn : n = N.nodes.length) (hm : m = N.pipes.length) (hc : n ≤ c) (h : Rd w C (lv.map iV)) (hl : lv.length ≤ 1048576) :
    Calls Try.prog 107 #[netV A B n c m d, .slice C lv.length e] w fun e w' => e = .returned (.int .i64 (lvC N lv)) ∧ Below w.heap.size w w' := by
  subst hn hm
  have HN := Lib.hid hN
  have HL := Lib.hid h
  have hln := hN.ln
  have hlp := hN.lp
  clear hN h
  cases hb : netB N
  · (go_enter Try.func107, Try.ntmps107; go_wp2_with (first | (go_at_call 94; ((with_reducible refine (impl_IsNetwork _ _ _ _ _ _ N _ (by exact HN.out.below (by (repeat' (first | (with_reducible exact Below.refl _ _) | (with_reducible assumption) | (with_reducible refine Below.alloc ?_ ?_ _) | (with_reducible refine Below.drew ?_) | (with_reducible refine Below.drewN' ?_ _) | (with_reducible refine Below.setCell ?_ ?_ _) | (refine Below.via ?_ (by with_reducible assumption) ?_) | (with_reducible refine Below.via ?_ (Wd.h _) ?_) | go_size)))) rfl rfl (by omega)).mono ?_)); rintro e wn ⟨rfl, hbn⟩; (obtain ⟨hcn, hfn⟩ := bcell hbn; have hzn := hbn.size; (try simp at hzn); have Ncw0_0 := hcn (w.heap.size) (0) (by first | omega | (simp; done) | (simp; omega)); have Nfw0_0 := hfn (w.heap.size) (0) (by first | omega | (simp; done) | (simp; omega)); have Nhy0 : w.heap.size < wn.heap.size := (by omega); have Ncw0_1 := hcn (w.heap.size) (1) (by first | omega | (simp; done) | (simp; omega)); have Nfw0_1 := hfn (w.heap.size) (1) (by first | omega | (simp; done) | (simp; omega)); (first | (simp [go_sem, cw0_0, fw0_0, cw0_1, fw0_1, hy0] at Ncw0_0 Nfw0_0 Ncw0_1 Nfw0_1; clear cw0_0 fw0_0 cw0_1 fw0_1) | (simp [go_sem] at Ncw0_0 Nfw0_0 Ncw0_1 Nfw0_1)); clear hcn hfn; have cw0_0 := Ncw0_0; have fw0_0 := Nfw0_0; have cw0_1 := Ncw0_1; have fw0_1 := Nfw0_1; have hy0 := Nhy0; clear Ncw0_0 Nfw0_0 Ncw0_1 Nfw0_1 Nhy0)) | (go_at_call 110; ((with_reducible refine (impl_allWithin _ _ lv _ _ _ (by exact HL.out.below (by (repeat' (first | (with_reducible exact Below.refl _ _) | (with_reducible assumption) | (with_reducible refine Below.alloc ?_ ?_ _) | (with_reducible refine Below.drew ?_) | (with_reducible refine Below.drewN' ?_ _) | (with_reducible refine Below.setCell ?_ ?_ _) | (refine Below.via ?_ (by with_reducible assumption) ?_) | (with_reducible refine Below.via ?_ (Wd.h _) ?_) | go_size)))) (by omega)).mono ?_)); rintro e wn ⟨rfl, rfl⟩) | (go_at_call 110; ((with_reducible refine (impl_allWithin _ _ lv2 _ _ _ (by exact HL2.out.below (by (repeat' (first | (with_reducible exact Below.refl _ _) | (with_reducible assumption) | (with_reducible refine Below.alloc ?_ ?_ _) | (with_reducible refine Below.drew ?_) | (with_reducible refine Below.drewN' ?_ _) | (with_reducible refine Below.setCell ?_ ?_ _) | (refine Below.via ?_ (by with_reducible assumption) ?_) | (with_reducible refine Below.via ?_ (Wd.h _) ?_) | go_size)))) (by omega)).mono ?_)); rintro e wn ⟨rfl, rfl⟩)))
    go_ret
    exact ⟨ri (by simp [lvC, hb]), by (repeat' (first | (with_reducible exact Below.refl _ _) | (with_reducible assumption) | (with_reducible refine Below.alloc ?_ ?_ _) | (with_reducible refine Below.drew ?_) | (with_reducible refine Below.drewN' ?_ _) | (with_reducible refine Below.setCell ?_ ?_ _) | (refine Below.via ?_ (by with_reducible assumption) ?_) | (with_reducible refine Below.via ?_ (Wd.h _) ?_) | go_size))⟩
  by_cases he : lv.length = N.nodes.length
  · have b0 : ((lv.length : Int) != (N.nodes.length : Int)) = false := by rw [lenN]; simpa using he
    have HR := Lib.hid (show lvC N lv = if allB 0 100000000 lv = false then 2 else 0 by simp [lvC, hb, he])
    clear he
    cases ha : allB 0 100000000 lv
    all_goals
      (go_enter Try.func107, Try.ntmps107; go_wp2_with (first | (go_at_call 94; ((with_reducible refine (impl_IsNetwork _ _ _ _ _ _ N _ (by exact HN.out.below (by (repeat' (first | (with_reducible exact Below.refl _ _) | (with_reducible assumption) | (with_reducible refine Below.alloc ?_ ?_ _) | (with_reducible refine Below.drew ?_) | (with_reducible refine Below.drewN' ?_ _) | (with_reducible refine Below.setCell ?_ ?_ _) | (refine Below.via ?_ (by with_reducible assumption) ?_) | (with_reducible refine Below.via ?_ (Wd.h _) ?_) | go_size)))) rfl rfl (by omega)).mono ?_)); rintro e wn ⟨rfl, hbn⟩; (obtain ⟨hcn, hfn⟩ := bcell hbn; have hzn := hbn.size; (try simp at hzn); have Ncw0_0 := hcn (w.heap.size) (0) (by first | omega | (simp; done) | (simp; omega)); have Nfw0_0 := hfn (w.heap.size) (0) (by first | omega | (simp; done) | (simp; omega)); have Nhy0 : w.heap.size < wn.heap.size := (by omega); have Ncw0_1 := hcn (w.heap.size) (1) (by first | omega | (simp; done) | (simp; omega)); have Nfw0_1 := hfn (w.heap.size) (1) (by first | omega | (simp; done) | (simp; omega)); (first | (simp [go_sem, cw0_0, fw0_0, cw0_1, fw0_1, hy0] at Ncw0_0 Nfw0_0 Ncw0_1 Nfw0_1; clear cw0_0 fw0_0 cw0_1 fw0_1) | (simp [go_sem] at Ncw0_0 Nfw0_0 Ncw0_1 Nfw0_1)); clear hcn hfn; have cw0_0 := Ncw0_0; have fw0_0 := Nfw0_0; have cw0_1 := Ncw0_1; have fw0_1 := Nfw0_1; have hy0 := Nhy0; clear Ncw0_0 Nfw0_0 Ncw0_1 Nfw0_1 Nhy0)) | (go_at_call 110; ((with_reducible refine (impl_allWithin _ _ lv _ _ _ (by exact HL.out.below (by (repeat' (first | (with_reducible exact Below.refl _ _) | (with_reducible assumption) | (with_reducible refine Below.alloc ?_ ?_ _) | (with_reducible refine Below.drew ?_) | (with_reducible refine Below.drewN' ?_ _) | (with_reducible refine Below.setCell ?_ ?_ _) | (refine Below.via ?_ (by with_reducible assumption) ?_) | (with_reducible refine Below.via ?_ (Wd.h _) ?_) | go_size)))) (by omega)).mono ?_)); rintro e wn ⟨rfl, rfl⟩) | (go_at_call 110; ((with_reducible refine (impl_allWithin _ _ lv2 _ _ _ (by exact HL2.out.below (by (repeat' (first | (with_reducible exact Below.refl _ _) | (with_reducible assumption) | (with_reducible refine Below.alloc ?_ ?_ _) | (with_reducible refine Below.drew ?_) | (with_reducible refine Below.drewN' ?_ _) | (with_reducible refine Below.setCell ?_ ?_ _) | (refine Below.via ?_ (by with_reducible assumption) ?_) | (with_reducible refine Below.via ?_ (Wd.h _) ?_) | go_size)))) (by omega)).mono ?_)); rintro e wn ⟨rfl, rfl⟩)))
      go_ret
      exact ⟨ri (by rw [HR.out, ha]; rfl), by (repeat' (first | (with_reducible exact Below.refl _ _) | (with_reducible assumption) | (with_reducible refine Below.alloc ?_ ?_ _) | (with_reducible refine Below.drew ?_) | (with_reducible refine Below.drewN' ?_ _) | (with_reducible refine Below.setCell ?_ ?_ _) | (refine Below.via ?_ (by with_reducible assumption) ?_) | (with_reducible refine Below.via ?_ (Wd.h _) ?_) | go_size))⟩
  · have b0 : ((lv.length : Int) != (N.nodes.length : Int)) = true := by rw [lenN]; simpa using he
    (go_enter Try.func107, Try.ntmps107; go_wp2_with (first | (go_at_call 94; ((with_reducible refine (impl_IsNetwork _ _ _ _ _ _ N _ (by exact HN.out.below (by (repeat' (first | (with_reducible exact Below.refl _ _) | (with_reducible assumption) | (with_reducible refine Below.alloc ?_ ?_ _) | (with_reducible refine Below.drew ?_) | (with_reducible refine Below.drewN' ?_ _) | (with_reducible refine Below.setCell ?_ ?_ _) | (refine Below.via ?_ (by with_reducible assumption) ?_) | (with_reducible refine Below.via ?_ (Wd.h _) ?_) | go_size)))) rfl rfl (by omega)).mono ?_)); rintro e wn ⟨rfl, hbn⟩; (obtain ⟨hcn, hfn⟩ := bcell hbn; have hzn := hbn.size; (try simp at hzn); have Ncw0_0 := hcn (w.heap.size) (0) (by first | omega | (simp; done) | (simp; omega)); have Nfw0_0 := hfn (w.heap.size) (0) (by first | omega | (simp; done) | (simp; omega)); have Nhy0 : w.heap.size < wn.heap.size := (by omega); have Ncw0_1 := hcn (w.heap.size) (1) (by first | omega | (simp; done) | (simp; omega)); have Nfw0_1 := hfn (w.heap.size) (1) (by first | omega | (simp; done) | (simp; omega)); (first | (simp [go_sem, cw0_0, fw0_0, cw0_1, fw0_1, hy0] at Ncw0_0 Nfw0_0 Ncw0_1 Nfw0_1; clear cw0_0 fw0_0 cw0_1 fw0_1) | (simp [go_sem] at Ncw0_0 Nfw0_0 Ncw0_1 Nfw0_1)); clear hcn hfn; have cw0_0 := Ncw0_0; have fw0_0 := Nfw0_0; have cw0_1 := Ncw0_1; have fw0_1 := Nfw0_1; have hy0 := Nhy0; clear Ncw0_0 Nfw0_0 Ncw0_1 Nfw0_1 Nhy0)) | (go_at_call 110; ((with_reducible refine (impl_allWithin _ _ lv _ _ _ (by exact HL.out.below (by (repeat' (first | (with_reducible exact Below.refl _ _) | (with_reducible assumption) | (with_reducible refine Below.alloc ?_ ?_ _) | (with_reducible refine Below.drew ?_) | (with_reducible refine Below.drewN' ?_ _) | (with_reducible refine Below.setCell ?_ ?_ _) | (refine Below.via ?_ (by with_reducible assumption) ?_) | (with_reducible refine Below.via ?_ (Wd.h _) ?_) | go_size)))) (by omega)).mono ?_)); rintro e wn ⟨rfl, rfl⟩) | (go_at_call 110; ((with_reducible refine (impl_allWithin _ _ lv2 _ _ _ (by exact HL2.out.below (by (repeat' (first | (with_reducible exact Below.refl _ _) | (with_reducible assumption) | (with_reducible refine Below.alloc ?_ ?_ _) | (with_reducible refine Below.drew ?_) | (with_reducible refine Below.drewN' ?_ _) | (with_reducible refine Below.setCell ?_ ?_ _) | (refine Below.via ?_ (by with_reducible assumption) ?_) | (with_reducible refine Below.via ?_ (Wd.h _) ?_) | go_size)))) (by omega)).mono ?_)); rintro e wn ⟨rfl, rfl⟩)))
    go_ret
    exact ⟨ri (by simp [lvC, hb, he]), by (repeat' (first | (with_reducible exact Below.refl _ _) | (with_reducible assumption) | (with_reducible refine Below.alloc ?_ ?_ _) | (with_reducible refine Below.drew ?_) | (with_reducible refine Below.drewN' ?_ _) | (with_reducible refine Below.setCell ?_ ?_ _) | (refine Below.via ?_ (by with_reducible assumption) ?_) | (with_reducible refine Below.via ?_ (Wd.h _) ?_) | go_size))⟩
set_option maxRecDepth 100000 in
set_option maxHeartbeats 1000000 in
theorem spec_l18Levels (A B C : Option Addr) (n c m d e : Nat) (N : Net) (lv : List Int) (w : World) (hN : NetAt w A B N) (hn : n = N.nodes.length) (hm : m = N.pipes.length) (h : Rd w C (lv.map iV)) (hl : lv.length ≤ 1048576) :
    Calls Try.prog 104 #[netV A B n c m d, .slice C lv.length e] w fun e w' => e = .returned (.int .i64 (lvC N lv)) ∧ Below w.heap.size w w' := by
  subst hn hm
  have HN := Lib.hid hN
  have HL := Lib.hid h
  have hln := hN.ln
  have hlp := hN.lp
  clear hN h
  cases hb : netB N
  · (go_enter Try.func104, Try.ntmps104; go_wp2_with (first | (go_at_call 89; ((with_reducible refine (spec_IsNetwork _ _ _ _ _ _ N _ (by exact HN.out.below (by (repeat' (first | (with_reducible exact Below.refl _ _) | (with_reducible assumption) | (with_reducible refine Below.alloc ?_ ?_ _) | (with_reducible refine Below.drew ?_) | (with_reducible refine Below.drewN' ?_ _) | (with_reducible refine Below.setCell ?_ ?_ _) | (refine Below.via ?_ (by with_reducible assumption) ?_) | (with_reducible refine Below.via ?_ (Wd.h _) ?_) | go_size)))) rfl rfl).mono ?_)); rintro e wn ⟨rfl, hbn⟩; (obtain ⟨hcn, hfn⟩ := bcell hbn; have hzn := hbn.size; (try simp at hzn); have Ncw0_0 := hcn (w.heap.size) (0) (by first | omega | (simp; done) | (simp; omega)); have Nfw0_0 := hfn (w.heap.size) (0) (by first | omega | (simp; done) | (simp; omega)); have Nhy0 : w.heap.size < wn.heap.size := (by omega); have Ncw0_1 := hcn (w.heap.size) (1) (by first | omega | (simp; done) | (simp; omega)); have Nfw0_1 := hfn (w.heap.size) (1) (by first | omega | (simp; done) | (simp; omega)); (first | (simp [go_sem, cw0_0, fw0_0, cw0_1, fw0_1, hy0] at Ncw0_0 Nfw0_0 Ncw0_1 Nfw0_1; clear cw0_0 fw0_0 cw0_1 fw0_1) | (simp [go_sem] at Ncw0_0 Nfw0_0 Ncw0_1 Nfw0_1)); clear hcn hfn; have cw0_0 := Ncw0_0; have fw0_0 := Nfw0_0; have cw0_1 := Ncw0_1; have fw0_1 := Nfw0_1; have hy0 := Nhy0; clear Ncw0_0 Nfw0_0 Ncw0_1 Nfw0_1 Nhy0)) | (go_at_call 142; ((with_reducible refine (l01In_any _ _ _ _).mono ?_)); rintro e wn ⟨rfl, rfl⟩) | (go_at_call 142; ((with_reducible refine (l01In_any _ _ _ _).mono ?_)); rintro e wn ⟨rfl, rfl⟩)))
    go_ret
    exact ⟨ri (by simp [lvC, hb]), by (repeat' (first | (with_reducible exact Below.refl _ _) | (with_reducible assumption) | (with_reducible refine Below.alloc ?_ ?_ _) | (with_reducible refine Below.drew ?_) | (with_reducible refine Below.drewN' ?_ _) | (with_reducible refine Below.setCell ?_ ?_ _) | (refine Below.via ?_ (by with_reducible assumption) ?_) | (with_reducible refine Below.via ?_ (Wd.h _) ?_) | go_size))⟩
  by_cases he : lv.length = N.nodes.length
  · have b0 : ((lv.length : Int) != (N.nodes.length : Int)) = false := by rw [lenN]; simpa using he
    have HR := Lib.hid (show lvC N lv = if allB 0 100000000 lv = false then 2 else 0 by simp [lvC, hb, he])
    clear he
    (go_enter Try.func104, Try.ntmps104; go_wp2_with (first | (go_at_call 89; ((with_reducible refine (spec_IsNetwork _ _ _ _ _ _ N _ (by exact HN.out.below (by (repeat' (first | (with_reducible exact Below.refl _ _) | (with_reducible assumption) | (with_reducible refine Below.alloc ?_ ?_ _) | (with_reducible refine Below.drew ?_) | (with_reducible refine Below.drewN' ?_ _) | (with_reducible refine Below.setCell ?_ ?_ _) | (refine Below.via ?_ (by with_reducible assumption) ?_) | (with_reducible refine Below.via ?_ (Wd.h _) ?_) | go_size)))) rfl rfl).mono ?_)); rintro e wn ⟨rfl, hbn⟩; (obtain ⟨hcn, hfn⟩ := bcell hbn; have hzn := hbn.size; (try simp at hzn); have Ncw0_0 := hcn (w.heap.size) (0) (by first | omega | (simp; done) | (simp; omega)); have Nfw0_0 := hfn (w.heap.size) (0) (by first | omega | (simp; done) | (simp; omega)); have Nhy0 : w.heap.size < wn.heap.size := (by omega); have Ncw0_1 := hcn (w.heap.size) (1) (by first | omega | (simp; done) | (simp; omega)); have Nfw0_1 := hfn (w.heap.size) (1) (by first | omega | (simp; done) | (simp; omega)); (first | (simp [go_sem, cw0_0, fw0_0, cw0_1, fw0_1, hy0] at Ncw0_0 Nfw0_0 Ncw0_1 Nfw0_1; clear cw0_0 fw0_0 cw0_1 fw0_1) | (simp [go_sem] at Ncw0_0 Nfw0_0 Ncw0_1 Nfw0_1)); clear hcn hfn; have cw0_0 := Ncw0_0; have fw0_0 := Nfw0_0; have cw0_1 := Ncw0_1; have fw0_1 := Nfw0_1; have hy0 := Nhy0; clear Ncw0_0 Nfw0_0 Ncw0_1 Nfw0_1 Nhy0)) | (go_at_call 142; ((with_reducible refine (l01In_any _ _ _ _).mono ?_)); rintro e wn ⟨rfl, rfl⟩) | (go_at_call 142; ((with_reducible refine (l01In_any _ _ _ _).mono ?_)); rintro e wn ⟨rfl, rfl⟩)))
    have hbn1 : Below w.heap.size w wn := by (repeat' (first | (with_reducible exact Below.refl _ _) | (with_reducible assumption) | (with_reducible refine Below.alloc ?_ ?_ _) | (with_reducible refine Below.drew ?_) | (with_reducible refine Below.drewN' ?_ _) | (with_reducible refine Below.setCell ?_ ?_ _) | (refine Below.via ?_ (by with_reducible assumption) ?_) | (with_reducible refine Below.via ?_ (Wd.h _) ?_) | go_size))
    have HBN := Lib.hid hbn1
    clear hy0 cw0_0 fw0_0 cw0_1 fw0_1
    clear hbn hbn1
    go_loopw [5] (fun v wr => ∃ k : Nat, k ≤ lv.length ∧ v = .int .i64 k ∧ allB 0 100000000 (lv.drop k) = allB 0 100000000 lv ∧ Below w.heap.size w wr) (fun v _ => lv.length - (intOf v).toNat)
    case atStart => exact ⟨0, by omega, rfl, rfl, HBN.out⟩
    case round =>
      obtain ⟨k, hk, rfl, hF, hbw⟩ := hrel
      have hbH := Lib.hid hbw
      have HF := Lib.hid hF
      clear hF
      by_cases hlt : k < lv.length
      · obtain ⟨x, hx⟩ := get_some hlt
        obtain ⟨b, off, rfl, hb, hat⟩ := HL.out.opened (k := k) (by simpa using hlt)
        have t0 := ints_at (hat.below hbw hb) hx
        have HD := Lib.hid (drop_consI hx)
        have g1 : (k : Int) < lv.length := by omega
        clear hx hat hbw
        cases hin : inB x 0 100000000
        · go_wp2_with ((go_at_call 142; refine (l01In_any _ _ _ _).mono ?_; rintro e w' ⟨rfl, rfl⟩))
          go_ret
          refine ⟨ri ?_, hbH.out⟩
          have : allB 0 100000000 lv = false := by rw [← HF.out, HD.out, allB, hin, Bool.false_and]
          rw [HR.out, if_pos this]
        · go_wp2_with ((go_at_call 142; refine (l01In_any _ _ _ _).mono ?_; rintro e w' ⟨rfl, rfl⟩))
          go_roundw
          case rel =>
            refine ⟨k + 1, by omega, by go_num, ?_, hbH.out⟩
            rw [← HF.out, HD.out, allB, hin, Bool.true_and]
          case measure => simp [intOf]; omega
      · clear hbw
        go_wp2
        go_ret
        refine ⟨ri ?_, hbH.out⟩
        have : allB 0 100000000 lv = true := by rw [← HF.out, drop_endI hlt, allB]
        rw [HR.out, this]; rfl
  · have b0 : ((lv.length : Int) != (N.nodes.length : Int)) = true := by rw [lenN]; simpa using he
    (go_enter Try.func104, Try.ntmps104; go_wp2_with (first | (go_at_call 89; ((with_reducible refine (spec_IsNetwork _ _ _ _ _ _ N _ (by exact HN.out.below (by (repeat' (first | (with_reducible exact Below.refl _ _) | (with_reducible assumption) | (with_reducible refine Below.alloc ?_ ?_ _) | (with_reducible refine Below.drew ?_) | (with_reducible refine Below.drewN' ?_ _) | (with_reducible refine Below.setCell ?_ ?_ _) | (refine Below.via ?_ (by with_reducible assumption) ?_) | (with_reducible refine Below.via ?_ (Wd.h _) ?_) | go_size)))) rfl rfl).mono ?_)); rintro e wn ⟨rfl, hbn⟩; (obtain ⟨hcn, hfn⟩ := bcell hbn; have hzn := hbn.size; (try simp at hzn); have Ncw0_0 := hcn (w.heap.size) (0) (by first | omega | (simp; done) | (simp; omega)); have Nfw0_0 := hfn (w.heap.size) (0) (by first | omega | (simp; done) | (simp; omega)); have Nhy0 : w.heap.size < wn.heap.size := (by omega); have Ncw0_1 := hcn (w.heap.size) (1) (by first | omega | (simp; done) | (simp; omega)); have Nfw0_1 := hfn (w.heap.size) (1) (by first | omega | (simp; done) | (simp; omega)); (first | (simp [go_sem, cw0_0, fw0_0, cw0_1, fw0_1, hy0] at Ncw0_0 Nfw0_0 Ncw0_1 Nfw0_1; clear cw0_0 fw0_0 cw0_1 fw0_1) | (simp [go_sem] at Ncw0_0 Nfw0_0 Ncw0_1 Nfw0_1)); clear hcn hfn; have cw0_0 := Ncw0_0; have fw0_0 := Nfw0_0; have cw0_1 := Ncw0_1; have fw0_1 := Nfw0_1; have hy0 := Nhy0; clear Ncw0_0 Nfw0_0 Ncw0_1 Nfw0_1 Nhy0)) | (go_at_call 142; ((with_reducible refine (l01In_any _ _ _ _).mono ?_)); rintro e wn ⟨rfl, rfl⟩) | (go_at_call 142; ((with_reducible refine (l01In_any _ _ _ _).mono ?_)); rintro e wn ⟨rfl, rfl⟩)))
    go_ret
    exact ⟨ri (by simp [lvC, hb, he]), by (repeat' (first | (with_reducible exact Below.refl _ _) | (with_reducible assumption) | (with_reducible refine Below.alloc ?_ ?_ _) | (with_reducible refine Below.drew ?_) | (with_reducible refine Below.drewN' ?_ _) | (with_reducible refine Below.setCell ?_ ?_ _) | (refine Below.via ?_ (by with_reducible assumption) ?_) | (with_reducible refine Below.via ?_ (Wd.h _) ?_) | go_size))⟩
noncomputable def lineR (N : Net) (lv : List Int) : Int × Int := if lvC N lv ≠ 0 then (0, lvC N lv) else (lineF lv N.pipes, 0)
end Go.Proofs.Ytlkkhdbfccejjaa

/- Flow lists and supplies; limits of pipes. -/
import Derived.Test.YtijhadafmhbceaaCt1
import Derived.Test.YtijhadafmhbceaaSu
namespace Go.Proofs.Ytijhadafmhbceaa
set_option linter.unusedVariables false
set_option linter.unusedSimpArgs false
open Go.RowKit
def listB (m : Nat) (l : List Int) : Bool := decide (l.length = m) && allB (-30000) 30000 l
theorem listB_of {m : Nat} {l : List Int} (h : listB m l = true) : l.length = m ∧ ∀ x ∈ l, -30000 ≤ x ∧ x ≤ 30000 := by
  simp [listB] at h; exact ⟨h.1, allB_iff.1 h.2⟩
theorem lenB (a b : Nat) : ((a : Int) == (b : Int)) = decide (a = b) := by
  by_cases h : a = b
  · simp [h]
  · have : ¬ (a : Int) = b := by omega
    simp [h, this]
set_option maxRecDepth 100000 in
set_option maxHeartbeats 1000000 in
theorem impl_isFlowList (A B C : Option Addr) (n c m d e : Nat) (fl : List Int) (w : World) (hm : m ≤ 1048576) (h : Rd w C (fl.map iV)) (hl : fl.length ≤ 1048576) :
    Calls Try.prog 53 #[netV A B n c m d, .slice C fl.length e] w fun e w' => e = .returned (.bool (listB m fl)) ∧ Below w.heap.size w w' := by
  have H := Lib.hid h
  clear h
  by_cases hm' : fl.length = m
  · have b0 : ((fl.length : Int) == (m : Int)) = true := by rw [lenB]; simpa using hm'
    have HR := Lib.hid (show listB m fl = allB (-30000) 30000 fl by simp [listB, hm'])
    clear hm'
    go_enter Try.func53, Try.ntmps53
    go_wp2_with ((go_at_call 78; refine (impl_allWithin _ _ fl _ _ _ (by exact H.out.below (by (repeat' (first | (with_reducible exact Below.refl _ _) | (with_reducible assumption) | (with_reducible refine Below.alloc ?_ ?_ _) | (with_reducible refine Below.drew ?_) | (with_reducible refine Below.drewN' ?_ _) | (with_reducible refine Below.setCell ?_ ?_ _) | (refine Below.via ?_ (by with_reducible assumption) ?_) | (with_reducible refine Below.via ?_ (Wd.h _) ?_) | go_size)))) hl).mono ?_; rintro e w' ⟨rfl, rfl⟩))
    go_ret
    exact ⟨by rw [HR.out]; rfl, by (repeat' (first | (with_reducible exact Below.refl _ _) | (with_reducible assumption) | (with_reducible refine Below.alloc ?_ ?_ _) | (with_reducible refine Below.drew ?_) | (with_reducible refine Below.drewN' ?_ _) | (with_reducible refine Below.setCell ?_ ?_ _) | (refine Below.via ?_ (by with_reducible assumption) ?_) | (with_reducible refine Below.via ?_ (Wd.h _) ?_) | go_size))⟩
  · have b0 : ((fl.length : Int) == (m : Int)) = false := by rw [lenB]; simpa using hm'
    go_enter Try.func53, Try.ntmps53
    go_wp2
    go_ret
    exact ⟨rbf (by simp [listB, hm']), by (repeat' (first | (with_reducible exact Below.refl _ _) | (with_reducible assumption) | (with_reducible refine Below.alloc ?_ ?_ _) | (with_reducible refine Below.drew ?_) | (with_reducible refine Below.drewN' ?_ _) | (with_reducible refine Below.setCell ?_ ?_ _) | (refine Below.via ?_ (by with_reducible assumption) ?_) | (with_reducible refine Below.via ?_ (Wd.h _) ?_) | go_size))⟩
set_option maxRecDepth 100000 in
set_option maxHeartbeats 1000000 in
theorem spec_l05List (A B C : Option Addr) (n c m d e : Nat) (fl : List Int) (w : World) (hm : m ≤ 1048576) (h : Rd w C (fl.map iV)) (hl : fl.length ≤ 1048576) :
    Calls Try.prog 60 #[netV A B n c m d, .slice C fl.length e] w fun e w' => e = .returned (.bool (listB m fl)) ∧ Below w.heap.size w w' := by
  have H := Lib.hid h
  clear h
  go_enter Try.func60, Try.ntmps60
  go_wp2
  go_loopw [5] (fun v wr => ∃ k : Nat, k ≤ fl.length ∧ v = .int .i64 k ∧ allB (-30000) 30000 (fl.drop k) = allB (-30000) 30000 fl ∧ Bx wr w.heap.size [.slice A n c, .slice B m d] ∧ Below w.heap.size w wr) (fun v _ => fl.length - (intOf v).toNat)
  case atStart => exact ⟨0, by omega, rfl, rfl, (bx2 (by first | exact hy0 | go_size) (by first | (with_reducible exact cw0_0) | go_cell_look | (simp [go_sem, hy0, cw0_0, fw0_0, cw0_1, fw0_1]; done) | (simp [go_sem]; done)) (by first | (with_reducible exact fw0_0) | (simp only [World.frozen?_setCell, fw0_0]; done) | (simp [go_sem, hy0, cw0_0, fw0_0, cw0_1, fw0_1]; done) | (simp [go_sem]; done)) (by first | (with_reducible exact cw0_1) | go_cell_look | (simp [go_sem, hy0, cw0_0, fw0_0, cw0_1, fw0_1]; done) | (simp [go_sem]; done)) (by first | (with_reducible exact fw0_1) | (simp only [World.frozen?_setCell, fw0_1]; done) | (simp [go_sem, hy0, cw0_0, fw0_0, cw0_1, fw0_1]; done) | (simp [go_sem]; done))), by (repeat' (first | (with_reducible exact Below.refl _ _) | (with_reducible assumption) | (with_reducible refine Below.alloc ?_ ?_ _) | (with_reducible refine Below.drew ?_) | (with_reducible refine Below.drewN' ?_ _) | (with_reducible refine Below.setCell ?_ ?_ _) | (refine Below.via ?_ (by with_reducible assumption) ?_) | (with_reducible refine Below.via ?_ (Wd.h _) ?_) | go_size))⟩
  case round =>
    obtain ⟨k, hk, rfl, hF, hB, hbw⟩ := hrel
    have hbH := Lib.hid hbw
    have HF := Lib.hid hF
    have HBX := Lib.hid hB
    have hy0 := hB.lt; have cw0_0 := hB.cell 0 rfl; have fw0_0 := hB.frozen 0 rfl; have cw0_1 := hB.cell 1 rfl; have fw0_1 := hB.frozen 1 rfl
    clear hF hB
    by_cases hlt : k < fl.length
    · obtain ⟨x, hx⟩ := get_some hlt
      obtain ⟨b, off, rfl, hb, hat⟩ := H.out.opened (k := k) (by simpa using hlt)
      have t0 := ints_at (hat.below hbw hb) hx
      have HD := Lib.hid (drop_consI hx)
      have g1 : (k : Int) < fl.length := by omega
      clear hx hat hbw
      cases hin : inB x (-30000) 30000
      · go_wp2_with (first | (go_at_call 82; ((with_reducible refine (spec_l05Flow _ _).mono ?_)); rintro e wn ⟨rfl, rfl⟩))
        go_ret
        refine ⟨rbf ?_, hbH.out⟩
        have : allB (-30000) 30000 fl = false := by rw [← HF.out, HD.out, allB, hin, Bool.false_and]
        simp [listB, this]
      · go_wp2_with (first | (go_at_call 82; ((with_reducible refine (spec_l05Flow _ _).mono ?_)); rintro e wn ⟨rfl, rfl⟩))
        go_roundw
        case rel =>
          refine ⟨k + 1, by omega, by go_num, ?_, HBX.out, hbH.out⟩
          rw [← HF.out, HD.out, allB, hin, Bool.true_and]
        case measure => simp [intOf]; omega
    · clear hbw
      go_wp2
      go_ret
      refine ⟨rb ?_, hbH.out⟩
      have : allB (-30000) 30000 fl = true := by rw [← HF.out, drop_endI hlt, allB]
      rw [lenB]; simp [listB, this]
noncomputable def flowC (N : Net) (fl : List Int) : Int := if netB N = false then 1 else if listB N.pipes.length fl = false then 3 else 0
def KeepOk (ps : List Pp) (fl : List Int) : Prop := ∀ (i : Nat) (x : Int) (p : Pp), fl[i]? = some x → ps[i]? = some p → absI x ≤ p.lim
open Classical in
noncomputable def keepB (N : Net) (fl : List Int) : Bool := decide (flowC N fl = 0 ∧ KeepOk N.pipes fl)
theorem flow_of {N : Net} {fl : List Int} (h : flowC N fl = 0) : N.Ok ∧ fl.length = N.pipes.length ∧ ∀ x ∈ fl, -30000 ≤ x ∧ x ≤ 30000 := by
  unfold flowC at h
  by_cases h1 : netB N = false
  · simp [h1] at h
  · by_cases h2 : listB N.pipes.length fl = false
    · simp [h1, h2] at h
    · exact ⟨netB_ok (by simpa using h1), listB_of (by simpa using h2)⟩
end Go.Proofs.Ytijhadafmhbceaa

/- The laws' helpers on Order: copies, sizes, comparison. -/
import Derived.Test.YtjnfmfjefibbhaaRows
import Derived.Test.YtjnfmfjefibbhaaDat
import Derived.Test.YtjnfmfjefibbhaaAQ
import Derived.WalkKit
namespace Go.Proofs.Ytjnfmfjefibbhaa
set_option linter.unusedVariables false
set_option linter.unusedSimpArgs false
open Go.RowKit
set_option maxRecDepth 100000 in
set_option maxHeartbeats 1000000 in
theorem laws_eqOrder (a0 : Int) (a1 : Int) (a2 : Int) (a3 : Int) (w : World) :
    Calls Try.prog 87 #[.agg #[.int .i64 a0, .int .i64 a1, .int .i64 a2, .int .i64 a3], .agg #[.int .i64 a0, .int .i64 a1, .int .i64 a2, .int .i64 a3]] w fun e w' => e = .returned (.bool true) ∧ Below w.heap.size w w' := by
  go_enter Try.func87, Try.ntmps87
  go_wp2
  go_ret
  exact ⟨rfl, by go_grown⟩
set_option maxRecDepth 100000 in
set_option maxHeartbeats 1000000 in
theorem laws_eqOrderS (A B : Option Addr) (c d : Nat) (l : List Ord) (w : World) (h : Rd w A (l.flatMap Ord.cells)) (h' : Rd w B (l.flatMap Ord.cells)) (hl : l.length ≤ 1048576) :
    Calls Try.prog 37 #[.slice A l.length c, .slice B l.length d] w fun e w' => e = .returned (.bool true) ∧ Below w.heap.size w w' := by
  have H := Lib.hid h
  have H' := Lib.hid h'
  clear h h'
  go_enter Try.func37, Try.ntmps37
  go_wp2
  go_loopw [5] (fun v wr => ∃ k : Nat, k ≤ l.length ∧ v = .int .i64 k ∧ Below w.heap.size w wr) (fun v _ => l.length - (intOf v).toNat)
  case atStart => exact ⟨0, by omega, rfl, Below.refl _ _⟩
  case round =>
    obtain ⟨k, hk, rfl, hbw⟩ := hrel
    have hbH := Lib.hid hbw
    by_cases hlt : k < l.length
    · obtain ⟨x, hx⟩ := get_some hlt
      obtain ⟨b, off, rfl, hb, hat⟩ := H.out.opened (k := k) (by rw [flat_len Ord.len]; omega)
      obtain ⟨b', off', rfl, hb', hat'⟩ := H'.out.opened (k := k) (by rw [flat_len Ord.len]; omega)
      have hat2 := hat.below hbw hb
      have hat2' := hat'.below hbw hb'
      have hbr : b < wr.heap.size := Nat.lt_of_lt_of_le hb hbw.size
      have hbr' : b' < wr.heap.size := Nat.lt_of_lt_of_le hb' hbw.size
      have q0_0 := Wd.cell hbr (hat2.elem0 Ord.len hx rfl)
      have q0_1 := Wd.cell hbr' (hat2'.elem0 Ord.len hx rfl)
      have q1_0 := Wd.cell hbr (hat2.elem Ord.len hx 1 rfl)
      have q1_1 := Wd.cell hbr' (hat2'.elem Ord.len hx 1 rfl)
      have q2_0 := Wd.cell hbr (hat2.elem Ord.len hx 2 rfl)
      have q2_1 := Wd.cell hbr' (hat2'.elem Ord.len hx 2 rfl)
      have q3_0 := Wd.cell hbr (hat2.elem Ord.len hx 3 rfl)
      have q3_1 := Wd.cell hbr' (hat2'.elem Ord.len hx 3 rfl)
      clear hx hat hat' hat2 hat2' hbw hbr hbr'
      go_wp2_with fail
      ((refine wp_region_wd (by kernel_rfl) (by kernel_rfl) ?_); (repeat (go_big_quiet_step ((first | fail | (go_at_call 87; apply wd_below; with_reducible exact (laws_eqOrder _ _ _ _ _)) | (go_at_call 87; exact wd_below (laws_eqOrder _ _ _ _ _)))))); (refine wpQuiet_nil ?_); rintro wn ⟨⟨w'', hbn⟩, hw''⟩; obtain rfl : wn = w'' := hw''; (obtain ⟨hcn, hfn⟩ := bcell hbn; have hzn := hbn.size; (try simp at hzn); clear hcn hfn))
      go_wp2
      go_roundw
      case rel => exact ⟨k + 1, by omega, by go_num, Below.via hbH.out hbn hbH.out.size⟩
      case measure => simp [intOf]; omega
    · clear hbw
      go_wp2
      go_ret
      exact ⟨rfl, hbH.out⟩
end Go.Proofs.Ytjnfmfjefibbhaa

/- The laws' helpers on Pipe: copies, sizes, comparison. -/
import Derived.Test.YtapdcndagnlmaaaRows
import Derived.Test.YtapdcndagnlmaaaDat
import Derived.Test.YtapdcndagnlmaaaAQ
import Derived.WalkKit
namespace Go.Proofs.Ytapdcndagnlmaaa
set_option linter.unusedVariables false
set_option linter.unusedSimpArgs false
open Go.RowKit
set_option maxRecDepth 100000 in
set_option maxHeartbeats 1000000 in
theorem laws_toPipe (a0 : Int) (a1 : Int) (a2 : Int) (a3 : Int) (a4 : Int) (w : World) :
    Calls Try.prog 52 #[.agg #[.int .i64 a0, .int .i64 a1, .int .i64 a2, .int .i64 a3, .int .i64 a4]] w fun e w' => e = .returned (.agg #[.int .i64 a0, .int .i64 a1, .int .i64 a2, .int .i64 a3, .int .i64 a4]) ∧ Below w.heap.size w w' := by
  go_enter Try.func52, Try.ntmps52
  go_wp2
  go_returns
  exact ⟨rfl, by go_grown⟩
theorem info_Pipe : (Try.prog.info? 84).map (fun i => (i.zero, i.size, i.bytes)) = some (some (.agg #[.int .i64 0, .int .i64 0, .int .i64 0, .int .i64 0, .int .i64 0]), 5, 40) := by kernel_rfl
set_option maxRecDepth 100000 in
set_option maxHeartbeats 1000000 in
theorem laws_toPipeS (A : Option Addr) (c : Nat) (l : List Pp) (w : World) (h : Rd w A (l.flatMap Pp.cells)) (hl : l.length ≤ 1048576) :
    Calls Try.prog 32 #[.slice A l.length c] w (MadeS w l.length (l.length * 5) (l.flatMap Pp.cells)) := by
  have hmk := make_rule (P := Try.prog) info_Pipe Try.underlying38 l.length (by omega) (by omega)
  have H := Lib.hid h
  clear h
  go_enter Try.func32, Try.ntmps32
  go_wp2
  have ha := Arr.made w (.agg #[.int .i64 0, .int .i64 0, .int .i64 0, .int .i64 0, .int .i64 0]) l.length 5 84 rfl (by omega)
  have hb0 := (Below.refl w.heap.size w).alloc (Nat.le_refl _) (.cells (madeCells (Value.agg #[.int .i64 0, .int .i64 0, .int .i64 0, .int .i64 0, .int .i64 0]).cells (l.length * 5)) 84)
  clear hmk
  go_loopw [4] (fun v wr => ∃ k : Nat, k ≤ l.length ∧ v = .int .i64 k ∧ Arr wr w.heap.size (l.length * 5) ((l.take k).flatMap Pp.cells) ∧ Below w.heap.size w wr) (fun v _ => l.length - (intOf v).toNat)
  case atStart => exact ⟨0, by omega, rfl, by simpa [Value.cells] using ha, by simpa [Value.cells] using hb0⟩
  case round =>
    obtain ⟨k, hk, rfl, hA, hbw⟩ := hrel
    have HA := Lib.hid hA
    have hbH := Lib.hid hbw
    clear ha hb0
    by_cases hlt : k < l.length
    · obtain ⟨x, hx⟩ := get_some hlt
      obtain ⟨b, off, rfl, hb, hat⟩ := H.out.opened (k := k) (by rw [flat_len Pp.len]; omega)
      have hat' := hat.below hbw hb
      have t0 := hat'.elem0 Pp.len hx rfl
      have t1 := hat'.elem Pp.len hx 1 rfl
      have t2 := hat'.elem Pp.len hx 2 rfl
      have t3 := hat'.elem Pp.len hx 3 rfl
      have t4 := hat'.elem Pp.len hx 4 rfl
      have HX := Lib.hid hx
      clear hx hA hat hat' hbw
      go_wp2_with fail
      refine (laws_toPipe _ _ _ _ _ _).mono ?_
      rintro e wn ⟨rfl, hbn⟩
      have hA2 := HA.out.below hbn HA.out.lt
      have HA2 := Lib.hid hA2
      obtain ⟨u0, s0⟩ := hA2.some_ (j := k * 5) (by omega)
      have g0 := hA2.free (j := k * 5) (by omega)
      obtain ⟨u1, s1⟩ := hA2.some_ (j := k * 5 + 1) (by omega)
      have g1 := hA2.free (j := k * 5 + 1) (by omega)
      obtain ⟨u2, s2⟩ := hA2.some_ (j := k * 5 + 2) (by omega)
      have g2 := hA2.free (j := k * 5 + 2) (by omega)
      obtain ⟨u3, s3⟩ := hA2.some_ (j := k * 5 + 3) (by omega)
      have g3 := hA2.free (j := k * 5 + 3) (by omega)
      obtain ⟨u4, s4⟩ := hA2.some_ (j := k * 5 + 4) (by omega)
      have g4 := hA2.free (j := k * 5 + 4) (by omega)
      clear hA2
      have hbn2 : Below w.heap.size w wn := Below.via hbH.out hbn hbH.out.size
      have HB2 := Lib.hid hbn2
      clear hbn hbn2
      go_wp2
      go_roundw
      case rel =>
        refine ⟨k + 1, by omega, by go_num, ?_, ?_⟩
        · rw [flat_snoc _ _ _ HX.out]
          have hlen : ((l.take k).flatMap Pp.cells).length = k * 5 := by rw [flat_len Pp.len]; simp; omega
          have := (((((HA2.out.push (k * 5) (by simp [hlen]) (by omega) (.int .i64 x.f)).push (k * 5 + 1) (by simp [hlen]) (by omega) (.int .i64 x.t)).push (k * 5 + 2) (by simp [hlen]) (by omega) (.int .i64 x.k)).push (k * 5 + 3) (by simp [hlen]) (by omega) (.int .i64 x.vol)).push (k * 5 + 4) (by simp [hlen]) (by omega) (.int .i64 x.lim))
          simpa [Pp.cells, List.append_assoc] using this
        · have := HB2.out; (repeat' (first | (with_reducible exact Below.refl _ _) | (with_reducible assumption) | (with_reducible refine Below.alloc ?_ ?_ _) | (with_reducible refine Below.drew ?_) | (with_reducible refine Below.drewN' ?_ _) | (with_reducible refine Below.setCell ?_ ?_ _) | (refine Below.via ?_ (by with_reducible assumption) ?_) | (with_reducible refine Below.via ?_ (Wd.h _) ?_) | go_size))
      case measure => simp [intOf]; omega
    · have hkl : k = l.length := by omega
      clear hA hbw
      go_wp2
      go_ret
      refine ⟨w.heap.size, rfl, Nat.le_refl _, ?_, hbH.out⟩
      have := HA.out
      rw [hkl, List.take_length] at this
      exact this
set_option maxRecDepth 100000 in
set_option maxHeartbeats 1000000 in
theorem laws_eqPipe (a0 : Int) (a1 : Int) (a2 : Int) (a3 : Int) (a4 : Int) (w : World) :
    Calls Try.prog 60 #[.agg #[.int .i64 a0, .int .i64 a1, .int .i64 a2, .int .i64 a3, .int .i64 a4], .agg #[.int .i64 a0, .int .i64 a1, .int .i64 a2, .int .i64 a3, .int .i64 a4]] w fun e w' => e = .returned (.bool true) ∧ Below w.heap.size w w' := by
  go_enter Try.func60, Try.ntmps60
  go_wp2
  go_ret
  exact ⟨rfl, by go_grown⟩
set_option maxRecDepth 100000 in
set_option maxHeartbeats 1000000 in
theorem laws_eqPipeS (A B : Option Addr) (c d : Nat) (l : List Pp) (w : World) (h : Rd w A (l.flatMap Pp.cells)) (h' : Rd w B (l.flatMap Pp.cells)) (hl : l.length ≤ 1048576) :
    Calls Try.prog 38 #[.slice A l.length c, .slice B l.length d] w fun e w' => e = .returned (.bool true) ∧ Below w.heap.size w w' := by
  have H := Lib.hid h
  have H' := Lib.hid h'
  clear h h'
  go_enter Try.func38, Try.ntmps38
  go_wp2
  go_loopw [5] (fun v wr => ∃ k : Nat, k ≤ l.length ∧ v = .int .i64 k ∧ Below w.heap.size w wr) (fun v _ => l.length - (intOf v).toNat)
  case atStart => exact ⟨0, by omega, rfl, Below.refl _ _⟩
  case round =>
    obtain ⟨k, hk, rfl, hbw⟩ := hrel
    have hbH := Lib.hid hbw
    by_cases hlt : k < l.length
    · obtain ⟨x, hx⟩ := get_some hlt
      obtain ⟨b, off, rfl, hb, hat⟩ := H.out.opened (k := k) (by rw [flat_len Pp.len]; omega)
      obtain ⟨b', off', rfl, hb', hat'⟩ := H'.out.opened (k := k) (by rw [flat_len Pp.len]; omega)
      have hat2 := hat.below hbw hb
      have hat2' := hat'.below hbw hb'
      have hbr : b < wr.heap.size := Nat.lt_of_lt_of_le hb hbw.size
      have hbr' : b' < wr.heap.size := Nat.lt_of_lt_of_le hb' hbw.size
      have q0_0 := Wd.cell hbr (hat2.elem0 Pp.len hx rfl)
      have q0_1 := Wd.cell hbr' (hat2'.elem0 Pp.len hx rfl)
      have q1_0 := Wd.cell hbr (hat2.elem Pp.len hx 1 rfl)
      have q1_1 := Wd.cell hbr' (hat2'.elem Pp.len hx 1 rfl)
      have q2_0 := Wd.cell hbr (hat2.elem Pp.len hx 2 rfl)
      have q2_1 := Wd.cell hbr' (hat2'.elem Pp.len hx 2 rfl)
      have q3_0 := Wd.cell hbr (hat2.elem Pp.len hx 3 rfl)
      have q3_1 := Wd.cell hbr' (hat2'.elem Pp.len hx 3 rfl)
      have q4_0 := Wd.cell hbr (hat2.elem Pp.len hx 4 rfl)
      have q4_1 := Wd.cell hbr' (hat2'.elem Pp.len hx 4 rfl)
      clear hx hat hat' hat2 hat2' hbw hbr hbr'
      go_wp2_with fail
      ((refine wp_region_wd (by kernel_rfl) (by kernel_rfl) ?_); (repeat (go_big_quiet_step ((first | fail | (go_at_call 60; apply wd_below; with_reducible exact (laws_eqPipe _ _ _ _ _ _)) | (go_at_call 60; exact wd_below (laws_eqPipe _ _ _ _ _ _)))))); (refine wpQuiet_nil ?_); rintro wn ⟨⟨w'', hbn⟩, hw''⟩; obtain rfl : wn = w'' := hw''; (obtain ⟨hcn, hfn⟩ := bcell hbn; have hzn := hbn.size; (try simp at hzn); clear hcn hfn))
      go_wp2
      go_roundw
      case rel => exact ⟨k + 1, by omega, by go_num, Below.via hbH.out hbn hbH.out.size⟩
      case measure => simp [intOf]; omega
    · clear hbw
      go_wp2
      go_ret
      exact ⟨rfl, hbH.out⟩
set_option maxRecDepth 100000 in
set_option maxHeartbeats 1000000 in
theorem laws_szPipeS (A : Option Addr) (c n : Nat) (left : Int) (w : World) (h0 : 0 ≤ left) (h1 : left ≤ 1048576) (hn : n ≤ 9223372036854775807) :
    Calls Try.prog 27 #[.slice A n c, .int .i64 left] w (SzPost w left n) := by
  by_cases h : left - (n : Int) < 0
  · go_enter Try.func27, Try.ntmps27
    go_wp2
    go_ret
    exact ⟨-1, rfl, .inl rfl, Below.refl _ _⟩
  · go_enter Try.func27, Try.ntmps27
    go_wp2
    go_ret
    exact ⟨_, rfl, .inr ⟨by omega, by omega⟩, Below.refl _ _⟩
end Go.Proofs.Ytapdcndagnlmaaa

/- Opening of a list of hours: what the form's reading of an argument tells. -/
import Derived.Test.YtijhadafmhbceaaRows
import Derived.Test.YtijhadafmhbceaaDat
import Derived.Test.YtijhadafmhbceaaAQ
import Derived.WalkKit
import Derived.Test.YtijhadafmhbceaaNt3
import Derived.Deep.RegionHeld3
import Derived.Test.YtijhadafmhbceaaBf
import Derived.Test.YtijhadafmhbceaaOpenN
import Derived.Test.YtijhadafmhbceaaLI
import Derived.Test.YtijhadafmhbceaaHo
import Derived.Test.YtijhadafmhbceaaSt
import Derived.Test.YtijhadafmhbceaaRh
import Derived.Test.YtijhadafmhbceaaMkB
import Derived.Test.YtijhadafmhbceaaRhi
import Derived.Test.YtijhadafmhbceaaRhs
import Derived.Test.YtijhadafmhbceaaHr
namespace Go.Proofs.Ytijhadafmhbceaa
set_option linter.unusedVariables false
set_option linter.unusedSimpArgs false
open Go.RowKit
set_option maxRecDepth 100000 in
set_option maxHeartbeats 1000000 in
theorem laws_toNode (a0 : ByteArray) (a1 : Int) (a2 : Int) (w : World) :
    Calls Try.prog 65 #[.agg #[.string a0, .int .i64 a1, .int .i64 a2]] w fun e w' => e = .returned (.agg #[.string a0, .int .i64 a1, .int .i64 a2]) ∧ Below w.heap.size w w' := by
  go_enter Try.func65, Try.ntmps65
  go_wp2
  go_returns
  exact ⟨rfl, by go_grown⟩
theorem info_Node : (Try.prog.info? 101).map (fun i => (i.zero, i.size, i.bytes)) = some (some (.agg #[.string ⟨#[]⟩, .int .i64 0, .int .i64 0]), 3, 32) := by kernel_rfl
set_option maxRecDepth 100000 in
set_option maxHeartbeats 1000000 in
theorem laws_toNodeS (A : Option Addr) (c : Nat) (l : List Nd) (w : World) (h : Rd w A (l.flatMap Nd.cells)) (hl : l.length ≤ 1048576) :
    Calls Try.prog 37 #[.slice A l.length c] w (MadeS w l.length (l.length * 3) (l.flatMap Nd.cells)) := by
  have hmk := make_rule (P := Try.prog) info_Node Try.underlying24 l.length (by omega) (by omega)
  have H := Lib.hid h
  clear h
  go_enter Try.func37, Try.ntmps37
  go_wp2
  have ha := Arr.made w (.agg #[.string ⟨#[]⟩, .int .i64 0, .int .i64 0]) l.length 3 101 rfl (by omega)
  have hb0 := (Below.refl w.heap.size w).alloc (Nat.le_refl _) (.cells (madeCells (Value.agg #[.string ⟨#[]⟩, .int .i64 0, .int .i64 0]).cells (l.length * 3)) 101)
  clear hmk
  go_loopw [4] (fun v wr => ∃ k : Nat, k ≤ l.length ∧ v = .int .i64 k ∧ Arr wr w.heap.size (l.length * 3) ((l.take k).flatMap Nd.cells) ∧ Below w.heap.size w wr) (fun v _ => l.length - (intOf v).toNat)
  case atStart => exact ⟨0, by omega, rfl, by simpa [Value.cells] using ha, by simpa [Value.cells] using hb0⟩
  case round =>
    obtain ⟨k, hk, rfl, hA, hbw⟩ := hrel
    have HA := Lib.hid hA
    have hbH := Lib.hid hbw
    clear ha hb0
    by_cases hlt : k < l.length
    · obtain ⟨x, hx⟩ := get_some hlt
      obtain ⟨b, off, rfl, hb, hat⟩ := H.out.opened (k := k) (by rw [flat_len Nd.len]; omega)
      have hat' := hat.below hbw hb
      have t0 := hat'.elem0 Nd.len hx rfl
      have t1 := hat'.elem Nd.len hx 1 rfl
      have t2 := hat'.elem Nd.len hx 2 rfl
      have HX := Lib.hid hx
      clear hx hA hat hat' hbw
      go_wp2_with fail
      refine (laws_toNode _ _ _ _).mono ?_
      rintro e wn ⟨rfl, hbn⟩
      have hA2 := HA.out.below hbn HA.out.lt
      have HA2 := Lib.hid hA2
      obtain ⟨u0, s0⟩ := hA2.some_ (j := k * 3) (by omega)
      have g0 := hA2.free (j := k * 3) (by omega)
      obtain ⟨u1, s1⟩ := hA2.some_ (j := k * 3 + 1) (by omega)
      have g1 := hA2.free (j := k * 3 + 1) (by omega)
      obtain ⟨u2, s2⟩ := hA2.some_ (j := k * 3 + 2) (by omega)
      have g2 := hA2.free (j := k * 3 + 2) (by omega)
      clear hA2
      have hbn2 : Below w.heap.size w wn := Below.via hbH.out hbn hbH.out.size
      have HB2 := Lib.hid hbn2
      clear hbn hbn2
      go_wp2
      go_roundw
      case rel =>
        refine ⟨k + 1, by omega, by go_num, ?_, ?_⟩
        · rw [flat_snoc _ _ _ HX.out]
          have hlen : ((l.take k).flatMap Nd.cells).length = k * 3 := by rw [flat_len Nd.len]; simp; omega
          have := (((HA2.out.push (k * 3) (by simp [hlen]) (by omega) (.string x.name)).push (k * 3 + 1) (by simp [hlen]) (by omega) (.int .i64 x.lo)).push (k * 3 + 2) (by simp [hlen]) (by omega) (.int .i64 x.hi))
          simpa [Nd.cells, List.append_assoc] using this
        · have := HB2.out; (repeat' (first | (with_reducible exact Below.refl _ _) | (with_reducible assumption) | (with_reducible refine Below.alloc ?_ ?_ _) | (with_reducible refine Below.drew ?_) | (with_reducible refine Below.drewN' ?_ _) | (with_reducible refine Below.setCell ?_ ?_ _) | (refine Below.via ?_ (by with_reducible assumption) ?_) | (with_reducible refine Below.via ?_ (Wd.h _) ?_) | go_size))
      case measure => simp [intOf]; omega
    · have hkl : k = l.length := by omega
      clear hA hbw
      go_wp2
      go_ret
      refine ⟨w.heap.size, rfl, Nat.le_refl _, ?_, hbH.out⟩
      have := HA.out
      rw [hkl, List.take_length] at this
      exact this
set_option maxRecDepth 100000 in
set_option maxHeartbeats 1000000 in
theorem laws_eqNode (a0 : ByteArray) (a1 : Int) (a2 : Int) (w : World) :
    Calls Try.prog 67 #[.agg #[.string a0, .int .i64 a1, .int .i64 a2], .agg #[.string a0, .int .i64 a1, .int .i64 a2]] w fun e w' => e = .returned (.bool true) ∧ Below w.heap.size w w' := by
  go_enter Try.func67, Try.ntmps67
  go_wp2
  go_ret
  exact ⟨rfl, by go_grown⟩
set_option maxRecDepth 100000 in
set_option maxHeartbeats 1000000 in
theorem laws_eqNodeS (A B : Option Addr) (c d : Nat) (l : List Nd) (w : World) (h : Rd w A (l.flatMap Nd.cells)) (h' : Rd w B (l.flatMap Nd.cells)) (hl : l.length ≤ 1048576) :
    Calls Try.prog 42 #[.slice A l.length c, .slice B l.length d] w fun e w' => e = .returned (.bool true) ∧ Below w.heap.size w w' := by
  have H := Lib.hid h
  have H' := Lib.hid h'
  clear h h'
  go_enter Try.func42, Try.ntmps42
  go_wp2
  go_loopw [5] (fun v wr => ∃ k : Nat, k ≤ l.length ∧ v = .int .i64 k ∧ Below w.heap.size w wr) (fun v _ => l.length - (intOf v).toNat)
  case atStart => exact ⟨0, by omega, rfl, Below.refl _ _⟩
  case round =>
    obtain ⟨k, hk, rfl, hbw⟩ := hrel
    have hbH := Lib.hid hbw
    by_cases hlt : k < l.length
    · obtain ⟨x, hx⟩ := get_some hlt
      obtain ⟨b, off, rfl, hb, hat⟩ := H.out.opened (k := k) (by rw [flat_len Nd.len]; omega)
      obtain ⟨b', off', rfl, hb', hat'⟩ := H'.out.opened (k := k) (by rw [flat_len Nd.len]; omega)
      have hat2 := hat.below hbw hb
      have hat2' := hat'.below hbw hb'
      have hbr : b < wr.heap.size := Nat.lt_of_lt_of_le hb hbw.size
      have hbr' : b' < wr.heap.size := Nat.lt_of_lt_of_le hb' hbw.size
      have q0_0 := Wd.cell hbr (hat2.elem0 Nd.len hx rfl)
      have q0_1 := Wd.cell hbr' (hat2'.elem0 Nd.len hx rfl)
      have q1_0 := Wd.cell hbr (hat2.elem Nd.len hx 1 rfl)
      have q1_1 := Wd.cell hbr' (hat2'.elem Nd.len hx 1 rfl)
      have q2_0 := Wd.cell hbr (hat2.elem Nd.len hx 2 rfl)
      have q2_1 := Wd.cell hbr' (hat2'.elem Nd.len hx 2 rfl)
      clear hx hat hat' hat2 hat2' hbw hbr hbr'
      go_wp2_with fail
      ((refine wp_region_wd (by kernel_rfl) (by kernel_rfl) ?_); (repeat (go_big_quiet_step ((first | fail | (go_at_call 67; apply wd_below; with_reducible exact (laws_eqNode _ _ _ _)) | (go_at_call 67; exact wd_below (laws_eqNode _ _ _ _)))))); (refine wpQuiet_nil ?_); rintro wn ⟨⟨w'', hbn⟩, hw''⟩; obtain rfl : wn = w'' := hw''; (obtain ⟨hcn, hfn⟩ := bcell hbn; have hzn := hbn.size; (try simp at hzn); clear hcn hfn))
      go_wp2
      go_roundw
      case rel => exact ⟨k + 1, by omega, by go_num, Below.via hbH.out hbn hbH.out.size⟩
      case measure => simp [intOf]; omega
    · clear hbw
      go_wp2
      go_ret
      exact ⟨rfl, hbH.out⟩
def szStr (left : Int) (n : Nat) : Int := if left - n < 0 then -1 else left - n
set_option maxRecDepth 100000 in
set_option maxHeartbeats 1000000 in
theorem laws_szNode (nm : ByteArray) (lo hi left : Int) (w : World) (h0 : 0 ≤ left) (h1 : left ≤ 1048576) (hn : nm.size ≤ 9223372036854775807) :
    Calls Try.prog 64 #[.agg #[.string nm, .int .i64 lo, .int .i64 hi], .int .i64 left] w fun e w' => e = .returned (.int .i64 (szStr left nm.size)) ∧ Below w.heap.size w w' := by
  go_enter Try.func64, Try.ntmps64
  go_wp2
  all_goals go_ret
  all_goals refine ⟨ri ?_, by go_grown⟩
  all_goals (unfold szStr; split <;> omega)
set_option maxRecDepth 100000 in
set_option maxHeartbeats 1000000 in
theorem laws_szNodeS (A : Option Addr) (c : Nat) (l : List Nd) (left : Int) (w : World) (h : Rd w A (l.flatMap Nd.cells)) (h0 : 0 ≤ left) (h1 : left ≤ 1048576) (hl : l.length ≤ 9223372036854775807) (hok : ∀ x ∈ l, x.ok) :
    Calls Try.prog 33 #[.slice A l.length c, .int .i64 left] w (SzPost w left l.length) := by
  have H := Lib.hid h
  have HO := Lib.hid hok
  clear h hok
  by_cases hn : left - (l.length : Int) < 0
  · go_enter Try.func33, Try.ntmps33
    go_wp2
    go_ret
    exact ⟨-1, rfl, .inl rfl, Below.refl _ _⟩
  · go_enter Try.func33, Try.ntmps33
    go_wp2
    go_loopw [1, 5] (fun u v wr => ∃ (k : Nat) (r : Int), k ≤ l.length ∧ v = .int .i64 k ∧ u = .int .i64 r ∧ 0 ≤ r ∧ r + l.length ≤ left ∧ Below w.heap.size w wr) (fun _ v _ => l.length - (intOf v).toNat)
    case atStart => exact ⟨0, _, by omega, rfl, rfl, by omega, by omega, Below.refl _ _⟩
    case round =>
      obtain ⟨k, r, hk, rfl, rfl, hr0, hr1, hbw⟩ := hrel
      have hbH := Lib.hid hbw
      by_cases hlt : k < l.length
      · obtain ⟨x, hx⟩ := get_some hlt
        obtain ⟨b, off, rfl, hb, hat⟩ := H.out.opened (k := k) (by rw [flat_len Nd.len]; omega)
        have hat' := hat.below hbw hb
        have t0 := hat'.elem0 Nd.len hx rfl
        have t1 := hat'.elem Nd.len hx 1 rfl
        have t2 := hat'.elem Nd.len hx 2 rfl
        have hsz : x.name.size ≤ 9223372036854775807 := (HO.out x (List.mem_of_getElem? hx)).1
        clear hx hat hat' hbw
        by_cases hz : szStr r x.name.size < 0
        · go_wp2_with fail
          refine (laws_szNode _ _ _ _ _ (by omega) (by omega) hsz).mono ?_
          rintro e wn ⟨rfl, hbn⟩
          go_wp2
          go_ret
          exact ⟨-1, rfl, .inl rfl, Below.via hbH.out hbn hbH.out.size⟩
        · have hz' : 0 ≤ szStr r x.name.size ∧ szStr r x.name.size ≤ r := by unfold szStr at *; split at hz <;> (first | omega | (split <;> omega))
          obtain ⟨hz1, hz2⟩ := hz'
          go_wp2_with fail
          refine (laws_szNode _ _ _ _ _ (by omega) (by omega) hsz).mono ?_
          rintro e wn ⟨rfl, hbn⟩
          go_wp2
          go_roundw
          case rel => exact ⟨k + 1, _, by omega, by go_num, rfl, by omega, by omega, Below.via hbH.out hbn hbH.out.size⟩
          case measure => simp [intOf]; omega
      · clear hbw
        go_wp2
        go_ret
        exact ⟨r, rfl, .inr ⟨by omega, by omega⟩, hbH.out⟩
end Go.Proofs.Ytijhadafmhbceaa
namespace Go.Proofs.Ytijhadafmhbceaa
set_option linter.unusedVariables false
set_option linter.unusedSimpArgs false
open Go.RowKit
set_option maxRecDepth 100000 in
set_option maxHeartbeats 1000000 in
theorem laws_toPipe (a0 : Int) (a1 : Int) (a2 : Int) (a3 : Int) (a4 : Int) (w : World) :
    Calls Try.prog 66 #[.agg #[.int .i64 a0, .int .i64 a1, .int .i64 a2, .int .i64 a3, .int .i64 a4]] w fun e w' => e = .returned (.agg #[.int .i64 a0, .int .i64 a1, .int .i64 a2, .int .i64 a3, .int .i64 a4]) ∧ Below w.heap.size w w' := by
  go_enter Try.func66, Try.ntmps66
  go_wp2
  go_returns
  exact ⟨rfl, by go_grown⟩
theorem info_Pipe : (Try.prog.info? 90).map (fun i => (i.zero, i.size, i.bytes)) = some (some (.agg #[.int .i64 0, .int .i64 0, .int .i64 0, .int .i64 0, .int .i64 0]), 5, 40) := by kernel_rfl
set_option maxRecDepth 100000 in
set_option maxHeartbeats 1000000 in
theorem laws_toPipeS (A : Option Addr) (c : Nat) (l : List Pp) (w : World) (h : Rd w A (l.flatMap Pp.cells)) (hl : l.length ≤ 1048576) :
    Calls Try.prog 38 #[.slice A l.length c] w (MadeS w l.length (l.length * 5) (l.flatMap Pp.cells)) := by
  have hmk := make_rule (P := Try.prog) info_Pipe Try.underlying25 l.length (by omega) (by omega)
  have H := Lib.hid h
  clear h
  go_enter Try.func38, Try.ntmps38
  go_wp2
  have ha := Arr.made w (.agg #[.int .i64 0, .int .i64 0, .int .i64 0, .int .i64 0, .int .i64 0]) l.length 5 90 rfl (by omega)
  have hb0 := (Below.refl w.heap.size w).alloc (Nat.le_refl _) (.cells (madeCells (Value.agg #[.int .i64 0, .int .i64 0, .int .i64 0, .int .i64 0, .int .i64 0]).cells (l.length * 5)) 90)
  clear hmk
  go_loopw [4] (fun v wr => ∃ k : Nat, k ≤ l.length ∧ v = .int .i64 k ∧ Arr wr w.heap.size (l.length * 5) ((l.take k).flatMap Pp.cells) ∧ Below w.heap.size w wr) (fun v _ => l.length - (intOf v).toNat)
  case atStart => exact ⟨0, by omega, rfl, by simpa [Value.cells] using ha, by simpa [Value.cells] using hb0⟩
  case round =>
    obtain ⟨k, hk, rfl, hA, hbw⟩ := hrel
    have HA := Lib.hid hA
    have hbH := Lib.hid hbw
    clear ha hb0
    by_cases hlt : k < l.length
    · obtain ⟨x, hx⟩ := get_some hlt
      obtain ⟨b, off, rfl, hb, hat⟩ := H.out.opened (k := k) (by rw [flat_len Pp.len]; omega)
      have hat' := hat.below hbw hb
      have t0 := hat'.elem0 Pp.len hx rfl
      have t1 := hat'.elem Pp.len hx 1 rfl
      have t2 := hat'.elem Pp.len hx 2 rfl
      have t3 := hat'.elem Pp.len hx 3 rfl
      have t4 := hat'.elem Pp.len hx 4 rfl
      have HX := Lib.hid hx
      clear hx hA hat hat' hbw
      go_wp2_with fail
      refine (laws_toPipe _ _ _ _ _ _).mono ?_
      rintro e wn ⟨rfl, hbn⟩
      have hA2 := HA.out.below hbn HA.out.lt
      have HA2 := Lib.hid hA2
      obtain ⟨u0, s0⟩ := hA2.some_ (j := k * 5) (by omega)
      have g0 := hA2.free (j := k * 5) (by omega)
      obtain ⟨u1, s1⟩ := hA2.some_ (j := k * 5 + 1) (by omega)
      have g1 := hA2.free (j := k * 5 + 1) (by omega)
      obtain ⟨u2, s2⟩ := hA2.some_ (j := k * 5 + 2) (by omega)
      have g2 := hA2.free (j := k * 5 + 2) (by omega)
      obtain ⟨u3, s3⟩ := hA2.some_ (j := k * 5 + 3) (by omega)
      have g3 := hA2.free (j := k * 5 + 3) (by omega)
      obtain ⟨u4, s4⟩ := hA2.some_ (j := k * 5 + 4) (by omega)
      have g4 := hA2.free (j := k * 5 + 4) (by omega)
      clear hA2
      have hbn2 : Below w.heap.size w wn := Below.via hbH.out hbn hbH.out.size
      have HB2 := Lib.hid hbn2
      clear hbn hbn2
      go_wp2
      go_roundw
      case rel =>
        refine ⟨k + 1, by omega, by go_num, ?_, ?_⟩
        · rw [flat_snoc _ _ _ HX.out]
          have hlen : ((l.take k).flatMap Pp.cells).length = k * 5 := by rw [flat_len Pp.len]; simp; omega
          have := (((((HA2.out.push (k * 5) (by simp [hlen]) (by omega) (.int .i64 x.f)).push (k * 5 + 1) (by simp [hlen]) (by omega) (.int .i64 x.t)).push (k * 5 + 2) (by simp [hlen]) (by omega) (.int .i64 x.k)).push (k * 5 + 3) (by simp [hlen]) (by omega) (.int .i64 x.vol)).push (k * 5 + 4) (by simp [hlen]) (by omega) (.int .i64 x.lim))
          simpa [Pp.cells, List.append_assoc] using this
        · have := HB2.out; (repeat' (first | (with_reducible exact Below.refl _ _) | (with_reducible assumption) | (with_reducible refine Below.alloc ?_ ?_ _) | (with_reducible refine Below.drew ?_) | (with_reducible refine Below.drewN' ?_ _) | (with_reducible refine Below.setCell ?_ ?_ _) | (refine Below.via ?_ (by with_reducible assumption) ?_) | (with_reducible refine Below.via ?_ (Wd.h _) ?_) | go_size))
      case measure => simp [intOf]; omega
    · have hkl : k = l.length := by omega
      clear hA hbw
      go_wp2
      go_ret
      refine ⟨w.heap.size, rfl, Nat.le_refl _, ?_, hbH.out⟩
      have := HA.out
      rw [hkl, List.take_length] at this
      exact this
set_option maxRecDepth 100000 in
set_option maxHeartbeats 1000000 in
theorem laws_eqPipe (a0 : Int) (a1 : Int) (a2 : Int) (a3 : Int) (a4 : Int) (w : World) :
    Calls Try.prog 68 #[.agg #[.int .i64 a0, .int .i64 a1, .int .i64 a2, .int .i64 a3, .int .i64 a4], .agg #[.int .i64 a0, .int .i64 a1, .int .i64 a2, .int .i64 a3, .int .i64 a4]] w fun e w' => e = .returned (.bool true) ∧ Below w.heap.size w w' := by
  go_enter Try.func68, Try.ntmps68
  go_wp2
  go_ret
  exact ⟨rfl, by go_grown⟩
set_option maxRecDepth 100000 in
set_option maxHeartbeats 1000000 in
theorem laws_eqPipeS (A B : Option Addr) (c d : Nat) (l : List Pp) (w : World) (h : Rd w A (l.flatMap Pp.cells)) (h' : Rd w B (l.flatMap Pp.cells)) (hl : l.length ≤ 1048576) :
    Calls Try.prog 43 #[.slice A l.length c, .slice B l.length d] w fun e w' => e = .returned (.bool true) ∧ Below w.heap.size w w' := by
  have H := Lib.hid h
  have H' := Lib.hid h'
  clear h h'
  go_enter Try.func43, Try.ntmps43
  go_wp2
  go_loopw [5] (fun v wr => ∃ k : Nat, k ≤ l.length ∧ v = .int .i64 k ∧ Below w.heap.size w wr) (fun v _ => l.length - (intOf v).toNat)
  case atStart => exact ⟨0, by omega, rfl, Below.refl _ _⟩
  case round =>
    obtain ⟨k, hk, rfl, hbw⟩ := hrel
    have hbH := Lib.hid hbw
    by_cases hlt : k < l.length
    · obtain ⟨x, hx⟩ := get_some hlt
      obtain ⟨b, off, rfl, hb, hat⟩ := H.out.opened (k := k) (by rw [flat_len Pp.len]; omega)
      obtain ⟨b', off', rfl, hb', hat'⟩ := H'.out.opened (k := k) (by rw [flat_len Pp.len]; omega)
      have hat2 := hat.below hbw hb
      have hat2' := hat'.below hbw hb'
      have hbr : b < wr.heap.size := Nat.lt_of_lt_of_le hb hbw.size
      have hbr' : b' < wr.heap.size := Nat.lt_of_lt_of_le hb' hbw.size
      have q0_0 := Wd.cell hbr (hat2.elem0 Pp.len hx rfl)
      have q0_1 := Wd.cell hbr' (hat2'.elem0 Pp.len hx rfl)
      have q1_0 := Wd.cell hbr (hat2.elem Pp.len hx 1 rfl)
      have q1_1 := Wd.cell hbr' (hat2'.elem Pp.len hx 1 rfl)
      have q2_0 := Wd.cell hbr (hat2.elem Pp.len hx 2 rfl)
      have q2_1 := Wd.cell hbr' (hat2'.elem Pp.len hx 2 rfl)
      have q3_0 := Wd.cell hbr (hat2.elem Pp.len hx 3 rfl)
      have q3_1 := Wd.cell hbr' (hat2'.elem Pp.len hx 3 rfl)
      have q4_0 := Wd.cell hbr (hat2.elem Pp.len hx 4 rfl)
      have q4_1 := Wd.cell hbr' (hat2'.elem Pp.len hx 4 rfl)
      clear hx hat hat' hat2 hat2' hbw hbr hbr'
      go_wp2_with fail
      ((refine wp_region_wd (by kernel_rfl) (by kernel_rfl) ?_); (repeat (go_big_quiet_step ((first | fail | (go_at_call 68; apply wd_below; with_reducible exact (laws_eqPipe _ _ _ _ _ _)) | (go_at_call 68; exact wd_below (laws_eqPipe _ _ _ _ _ _)))))); (refine wpQuiet_nil ?_); rintro wn ⟨⟨w'', hbn⟩, hw''⟩; obtain rfl : wn = w'' := hw''; (obtain ⟨hcn, hfn⟩ := bcell hbn; have hzn := hbn.size; (try simp at hzn); clear hcn hfn))
      go_wp2
      go_roundw
      case rel => exact ⟨k + 1, by omega, by go_num, Below.via hbH.out hbn hbH.out.size⟩
      case measure => simp [intOf]; omega
    · clear hbw
      go_wp2
      go_ret
      exact ⟨rfl, hbH.out⟩
set_option maxRecDepth 100000 in
set_option maxHeartbeats 1000000 in
theorem laws_szPipeS (A : Option Addr) (c n : Nat) (left : Int) (w : World) (h0 : 0 ≤ left) (h1 : left ≤ 1048576) (hn : n ≤ 9223372036854775807) :
    Calls Try.prog 34 #[.slice A n c, .int .i64 left] w (SzPost w left n) := by
  by_cases h : left - (n : Int) < 0
  · go_enter Try.func34, Try.ntmps34
    go_wp2
    go_ret
    exact ⟨-1, rfl, .inl rfl, Below.refl _ _⟩
  · go_enter Try.func34, Try.ntmps34
    go_wp2
    go_ret
    exact ⟨_, rfl, .inr ⟨by omega, by omega⟩, Below.refl _ _⟩
end Go.Proofs.Ytijhadafmhbceaa
namespace Go.Proofs.Ytijhadafmhbceaa
set_option linter.unusedVariables false
set_option linter.unusedSimpArgs false
open Go.RowKit

/-- a network as it came in -/
structure NetIn (w : World) (A B : Option Addr) (N : Net) : Prop where
  nodes : Rd w A (N.nodes.flatMap Nd.cells)
  pipes : Rd w B (N.pipes.flatMap Pp.cells)
  ln : N.nodes.length ≤ 9223372036854775807
  lp : N.pipes.length ≤ 9223372036854775807
  nm : ∀ x ∈ N.nodes, x.ok
theorem NetIn.below {w w' : World} {A B : Option Addr} {N : Net} (h : NetIn w A B N) (hb : Below w.heap.size w w') : NetIn w' A B N :=
  ⟨h.nodes.below hb, h.pipes.below hb, h.ln, h.lp, h.nm⟩
theorem NetIn.at_ {w : World} {A B : Option Addr} {N : Net} (h : NetIn w A B N) (hl : N.nodes.length + N.pipes.length ≤ 1048576) : NetAt w A B N :=
  ⟨h.nodes, h.pipes, by omega, by omega, fun x hx => (h.nm x hx).1⟩

/-- a network in new memory -/
def MadeNet (w : World) (N : Net) (e : Ending) (w' : World) : Prop :=
  ∃ g g', e = .returned (netV (some ⟨g, 0, none⟩) (some ⟨g', 0, none⟩) N.nodes.length N.nodes.length N.pipes.length N.pipes.length) ∧ w.heap.size ≤ g ∧ w.heap.size ≤ g' ∧ g ≠ g' ∧
    Arr w' g (N.nodes.length * 3) (N.nodes.flatMap Nd.cells) ∧ Arr w' g' (N.pipes.length * 5) (N.pipes.flatMap Pp.cells) ∧ Below w.heap.size w w'

theorem MadeNet.at_ {w : World} {g g' : Nat} {N : Net} (h : Arr w g (N.nodes.length * 3) (N.nodes.flatMap Nd.cells)) (h' : Arr w g' (N.pipes.length * 5) (N.pipes.flatMap Pp.cells))
    (w0 : World) (A B : Option Addr) (h0 : NetAt w0 A B N) : NetAt w (some ⟨g, 0, none⟩) (some ⟨g', 0, none⟩) N := ⟨h.rd, h'.rd, h0.ln, h0.lp, h0.nm⟩
set_option maxRecDepth 100000 in
set_option maxHeartbeats 1000000 in
theorem laws_szNetwork (A B : Option Addr) (n c m d : Nat) (N : Net) (left : Int) (w : World) (h : NetIn w A B N) (hn : n = N.nodes.length) (hm : m = N.pipes.length) (h0 : 0 ≤ left) (h1 : left ≤ 1048576) :
    Calls Try.prog 11 #[netV A B n c m d, .int .i64 left] w (SzPost w left (N.nodes.length + N.pipes.length)) := by
  subst hn hm
  have H := Lib.hid h
  have hl1 := h.ln
  have hl2 := h.lp
  clear h
  go_enter Try.func11, Try.ntmps11
  go_wp2_with fail
  refine (laws_szNodeS _ _ N.nodes _ _ (H.out.nodes.below (by (repeat' (first | (with_reducible exact Below.refl _ _) | (with_reducible assumption) | (with_reducible refine Below.alloc ?_ ?_ _) | (with_reducible refine Below.drew ?_) | (with_reducible refine Below.drewN' ?_ _) | (with_reducible refine Below.setCell ?_ ?_ _) | (refine Below.via ?_ (by with_reducible assumption) ?_) | (with_reducible refine Below.via ?_ (Wd.h _) ?_) | go_size)))) h0 h1 hl1 H.out.nm).mono ?_
  rintro e wn ⟨r, rfl, hr, hbn⟩
  (obtain ⟨hcn, hfn⟩ := bcell hbn; have hzn := hbn.size; (try simp at hzn); have Ncw0_0 := hcn (w.heap.size) (0) (by first | omega | (simp; done) | (simp; omega)); have Nfw0_0 := hfn (w.heap.size) (0) (by first | omega | (simp; done) | (simp; omega)); have Nhy0 : w.heap.size < wn.heap.size := (by omega); have Ncw0_1 := hcn (w.heap.size) (1) (by first | omega | (simp; done) | (simp; omega)); have Nfw0_1 := hfn (w.heap.size) (1) (by first | omega | (simp; done) | (simp; omega)); (first | (simp [go_sem, cw0_0, fw0_0, cw0_1, fw0_1, hy0] at Ncw0_0 Nfw0_0 Ncw0_1 Nfw0_1; clear cw0_0 fw0_0 cw0_1 fw0_1) | (simp [go_sem] at Ncw0_0 Nfw0_0 Ncw0_1 Nfw0_1)); clear hcn hfn; have cw0_0 := Ncw0_0; have fw0_0 := Nfw0_0; have cw0_1 := Ncw0_1; have fw0_1 := Nfw0_1; have hy0 := Nhy0; clear Ncw0_0 Nfw0_0 Ncw0_1 Nfw0_1 Nhy0)
  by_cases hr0 : r < 0
  · go_wp2
    go_ret
    exact ⟨-1, rfl, .inl rfl, by (repeat' (first | (with_reducible exact Below.refl _ _) | (with_reducible assumption) | (with_reducible refine Below.alloc ?_ ?_ _) | (with_reducible refine Below.drew ?_) | (with_reducible refine Below.drewN' ?_ _) | (with_reducible refine Below.setCell ?_ ?_ _) | (refine Below.via ?_ (by with_reducible assumption) ?_) | (with_reducible refine Below.via ?_ (Wd.h _) ?_) | go_size))⟩
  · obtain ⟨hr1, hr2⟩ : 0 ≤ r ∧ r + N.nodes.length ≤ left := by omega
    go_wp2_with fail
    refine (laws_szPipeS _ _ _ _ _ hr1 (by omega) hl2).mono ?_
    rintro e wn ⟨r', rfl, hr', hbn⟩
    (obtain ⟨hcn, hfn⟩ := bcell hbn; have hzn := hbn.size; (try simp at hzn); have Ncw0_0 := hcn (w.heap.size) (0) (by first | omega | (simp; done) | (simp; omega)); have Nfw0_0 := hfn (w.heap.size) (0) (by first | omega | (simp; done) | (simp; omega)); have Nhy0 : w.heap.size < wn.heap.size := (by omega); have Ncw0_1 := hcn (w.heap.size) (1) (by first | omega | (simp; done) | (simp; omega)); have Nfw0_1 := hfn (w.heap.size) (1) (by first | omega | (simp; done) | (simp; omega)); (first | (simp [go_sem, cw0_0, fw0_0, cw0_1, fw0_1, hy0] at Ncw0_0 Nfw0_0 Ncw0_1 Nfw0_1; clear cw0_0 fw0_0 cw0_1 fw0_1) | (simp [go_sem] at Ncw0_0 Nfw0_0 Ncw0_1 Nfw0_1)); clear hcn hfn; have cw0_0 := Ncw0_0; have fw0_0 := Nfw0_0; have cw0_1 := Ncw0_1; have fw0_1 := Nfw0_1; have hy0 := Nhy0; clear Ncw0_0 Nfw0_0 Ncw0_1 Nfw0_1 Nhy0)
    by_cases hr0' : r' < 0
    · go_wp2
      go_ret
      exact ⟨-1, rfl, .inl rfl, by (repeat' (first | (with_reducible exact Below.refl _ _) | (with_reducible assumption) | (with_reducible refine Below.alloc ?_ ?_ _) | (with_reducible refine Below.drew ?_) | (with_reducible refine Below.drewN' ?_ _) | (with_reducible refine Below.setCell ?_ ?_ _) | (refine Below.via ?_ (by with_reducible assumption) ?_) | (with_reducible refine Below.via ?_ (Wd.h _) ?_) | go_size))⟩
    · go_wp2
      go_ret
      exact ⟨r', rfl, .inr ⟨by omega, by omega⟩, by (repeat' (first | (with_reducible exact Below.refl _ _) | (with_reducible assumption) | (with_reducible refine Below.alloc ?_ ?_ _) | (with_reducible refine Below.drew ?_) | (with_reducible refine Below.drewN' ?_ _) | (with_reducible refine Below.setCell ?_ ?_ _) | (refine Below.via ?_ (by with_reducible assumption) ?_) | (with_reducible refine Below.via ?_ (Wd.h _) ?_) | go_size))⟩

set_option maxRecDepth 100000 in
set_option maxHeartbeats 1000000 in
theorem laws_toNetwork (A B : Option Addr) (n c m d : Nat) (N : Net) (w : World) (h : NetAt w A B N) (hn : n = N.nodes.length) (hm : m = N.pipes.length) :
    Calls Try.prog 14 #[netV A B n c m d] w (MadeNet w N) := by
  subst hn hm
  have H := Lib.hid h
  have hl1 := h.ln
  have hl2 := h.lp
  clear h
  go_enter Try.func14, Try.ntmps14
  
  go_wp2_with fail
  refine (laws_toNodeS _ _ N.nodes _ (H.out.nodes.below (by (repeat' (first | (with_reducible exact Below.refl _ _) | (with_reducible assumption) | (with_reducible refine Below.alloc ?_ ?_ _) | (with_reducible refine Below.drew ?_) | (with_reducible refine Below.drewN' ?_ _) | (with_reducible refine Below.setCell ?_ ?_ _) | (refine Below.via ?_ (by with_reducible assumption) ?_) | (with_reducible refine Below.via ?_ (Wd.h _) ?_) | go_size)))) hl1).mono ?_
  rintro e wn ⟨g, rfl, hg, hA, hbn⟩
  simp at hg
  (obtain ⟨hcn, hfn⟩ := bcell hbn; have hzn := hbn.size; (try simp at hzn); have Ncw0_0 := hcn (w.heap.size) (0) (by first | omega | (simp; done) | (simp; omega)); have Nfw0_0 := hfn (w.heap.size) (0) (by first | omega | (simp; done) | (simp; omega)); have Nhy0 : w.heap.size < wn.heap.size := (by omega); have Ncw0_1 := hcn (w.heap.size) (1) (by first | omega | (simp; done) | (simp; omega)); have Nfw0_1 := hfn (w.heap.size) (1) (by first | omega | (simp; done) | (simp; omega)); have Ncw1_0 := hcn (w.heap.size + 1) (0) (by first | omega | (simp; done) | (simp; omega)); have Nfw1_0 := hfn (w.heap.size + 1) (0) (by first | omega | (simp; done) | (simp; omega)); have Nhy1 : w.heap.size + 1 < wn.heap.size := (by omega); have Ncw1_1 := hcn (w.heap.size + 1) (1) (by first | omega | (simp; done) | (simp; omega)); have Nfw1_1 := hfn (w.heap.size + 1) (1) (by first | omega | (simp; done) | (simp; omega)); have Ncx_0 := hcn (w.heap.size + 2) (0) (by first | omega | (simp; done) | (simp; omega)); have Ncx_0f := hfn (w.heap.size + 2) (0) (by first | omega | (simp; done) | (simp; omega)); have Nhy_cx : w.heap.size + 2 < wn.heap.size := (by omega); have Ncx_1 := hcn (w.heap.size + 2) (1) (by first | omega | (simp; done) | (simp; omega)); have Ncx_1f := hfn (w.heap.size + 2) (1) (by first | omega | (simp; done) | (simp; omega)); (first | (simp [go_sem, cw0_0, fw0_0, cw0_1, fw0_1, cw1_0, fw1_0, cw1_1, fw1_1, cx_0, cx_0f, cx_1, cx_1f, hy0, hy1, hy_cx] at Ncw0_0 Nfw0_0 Ncw0_1 Nfw0_1 Ncw1_0 Nfw1_0 Ncw1_1 Nfw1_1 Ncx_0 Ncx_0f Ncx_1 Ncx_1f; clear cw0_0 fw0_0 cw0_1 fw0_1 cw1_0 fw1_0 cw1_1 fw1_1 cx_0 cx_0f cx_1 cx_1f) | (simp [go_sem] at Ncw0_0 Nfw0_0 Ncw0_1 Nfw0_1 Ncw1_0 Nfw1_0 Ncw1_1 Nfw1_1 Ncx_0 Ncx_0f Ncx_1 Ncx_1f)); clear hcn hfn; have cw0_0 := Ncw0_0; have fw0_0 := Nfw0_0; have cw0_1 := Ncw0_1; have fw0_1 := Nfw0_1; have cw1_0 := Ncw1_0; have fw1_0 := Nfw1_0; have cw1_1 := Ncw1_1; have fw1_1 := Nfw1_1; have cx_0 := Ncx_0; have cx_0f := Ncx_0f; have cx_1 := Ncx_1; have cx_1f := Ncx_1f; have hy0 := Nhy0; have hy1 := Nhy1; have hy_cx := Nhy_cx; clear Ncw0_0 Nfw0_0 Ncw0_1 Nfw0_1 Ncw1_0 Nfw1_0 Ncw1_1 Nfw1_1 Ncx_0 Ncx_0f Ncx_1 Ncx_1f Nhy0 Nhy1 Nhy_cx)
  go_wp2_with fail
  have hb1 : Below w.heap.size w (wn.setCell ⟨w.heap.size + 2, 0, none⟩ (.slice (some ⟨g, 0, none⟩) N.nodes.length N.nodes.length)) := by (repeat' (first | (with_reducible exact Below.refl _ _) | (with_reducible assumption) | (with_reducible refine Below.alloc ?_ ?_ _) | (with_reducible refine Below.drew ?_) | (with_reducible refine Below.drewN' ?_ _) | (with_reducible refine Below.setCell ?_ ?_ _) | (refine Below.via ?_ (by with_reducible assumption) ?_) | (with_reducible refine Below.via ?_ (Wd.h _) ?_) | go_size))
  have hA1 := hA.far (p := ⟨w.heap.size + 2, 0, none⟩) (by simp; omega) (.slice (some ⟨g, 0, none⟩) N.nodes.length N.nodes.length)
  refine (laws_toPipeS _ _ N.pipes _ (H.out.pipes.below hb1) hl2).mono ?_
  rintro e wn ⟨g', rfl, hg', hA', hbn⟩
  have hA2 := hA1.below hbn hA1.lt
  have hz := hA1.lt
  simp at hg' hz
  have HA' := Lib.hid hA'
  have HA2 := Lib.hid hA2
  have HB1 := Lib.hid (Below.via hb1 hbn hb1.size)
  (obtain ⟨hcn, hfn⟩ := bcell hbn; have hzn := hbn.size; (try simp at hzn); have Ncw0_0 := hcn (w.heap.size) (0) (by first | omega | (simp; done) | (simp; omega)); have Nfw0_0 := hfn (w.heap.size) (0) (by first | omega | (simp; done) | (simp; omega)); have Nhy0 : w.heap.size < wn.heap.size := (by omega); have Ncw0_1 := hcn (w.heap.size) (1) (by first | omega | (simp; done) | (simp; omega)); have Nfw0_1 := hfn (w.heap.size) (1) (by first | omega | (simp; done) | (simp; omega)); have Ncw1_0 := hcn (w.heap.size + 1) (0) (by first | omega | (simp; done) | (simp; omega)); have Nfw1_0 := hfn (w.heap.size + 1) (0) (by first | omega | (simp; done) | (simp; omega)); have Nhy1 : w.heap.size + 1 < wn.heap.size := (by omega); have Ncw1_1 := hcn (w.heap.size + 1) (1) (by first | omega | (simp; done) | (simp; omega)); have Nfw1_1 := hfn (w.heap.size + 1) (1) (by first | omega | (simp; done) | (simp; omega)); have Ncx_0 := hcn (w.heap.size + 2) (0) (by first | omega | (simp; done) | (simp; omega)); have Ncx_0f := hfn (w.heap.size + 2) (0) (by first | omega | (simp; done) | (simp; omega)); have Nhy_cx : w.heap.size + 2 < wn.heap.size := (by omega); have Ncx_1 := hcn (w.heap.size + 2) (1) (by first | omega | (simp; done) | (simp; omega)); have Ncx_1f := hfn (w.heap.size + 2) (1) (by first | omega | (simp; done) | (simp; omega)); (first | (simp [go_sem, cw0_0, fw0_0, cw0_1, fw0_1, cw1_0, fw1_0, cw1_1, fw1_1, cx_0, cx_0f, cx_1, cx_1f, hy0, hy1, hy_cx] at Ncw0_0 Nfw0_0 Ncw0_1 Nfw0_1 Ncw1_0 Nfw1_0 Ncw1_1 Nfw1_1 Ncx_0 Ncx_0f Ncx_1 Ncx_1f; clear cw0_0 fw0_0 cw0_1 fw0_1 cw1_0 fw1_0 cw1_1 fw1_1 cx_0 cx_0f cx_1 cx_1f) | (simp [go_sem] at Ncw0_0 Nfw0_0 Ncw0_1 Nfw0_1 Ncw1_0 Nfw1_0 Ncw1_1 Nfw1_1 Ncx_0 Ncx_0f Ncx_1 Ncx_1f)); clear hcn hfn; have cw0_0 := Ncw0_0; have fw0_0 := Nfw0_0; have cw0_1 := Ncw0_1; have fw0_1 := Nfw0_1; have cw1_0 := Ncw1_0; have fw1_0 := Nfw1_0; have cw1_1 := Ncw1_1; have fw1_1 := Nfw1_1; have cx_0 := Ncx_0; have cx_0f := Ncx_0f; have cx_1 := Ncx_1; have cx_1f := Ncx_1f; have hy0 := Nhy0; have hy1 := Nhy1; have hy_cx := Nhy_cx; clear Ncw0_0 Nfw0_0 Ncw0_1 Nfw0_1 Ncw1_0 Nfw1_0 Ncw1_1 Nfw1_1 Ncx_0 Ncx_0f Ncx_1 Ncx_1f Nhy0 Nhy1 Nhy_cx)
  clear hA hA1 hA2 hA' hb1
  go_wp2
  (first | (refine bodyPost_ret (by simp [results, Try.results14, go_sem, cw0_0, cw0_1, cw1_0, cw1_1]; try rfl) rfl ?_) | (refine bodyPost_ret (by simp [results, Try.results14, go_sem]; try rfl) rfl ?_))
  refine ⟨g, g', rfl, by omega, by omega, by omega, ?_, ?_, ?_⟩
  · exact ((((HA2.out.far (by simp; omega) _).far (by simp; omega) _).far (by simp; omega) _))
  · exact ((((HA'.out.far (by simp; omega) _).far (by simp; omega) _).far (by simp; omega) _))
  · have := HB1.out; (repeat' (first | (with_reducible exact Below.refl _ _) | (with_reducible assumption) | (with_reducible refine Below.alloc ?_ ?_ _) | (with_reducible refine Below.drew ?_) | (with_reducible refine Below.drewN' ?_ _) | (with_reducible refine Below.setCell ?_ ?_ _) | (refine Below.via ?_ (by with_reducible assumption) ?_) | (with_reducible refine Below.via ?_ (Wd.h _) ?_) | go_size))


set_option maxRecDepth 100000 in
set_option maxHeartbeats 1000000 in
theorem laws_eqNetwork (A B A' B' : Option Addr) (n c m d c' d' : Nat) (N : Net) (w : World) (h : NetAt w A B N) (h' : NetAt w A' B' N) (hn : n = N.nodes.length) (hm : m = N.pipes.length) :
    Calls Try.prog 18 #[netV A B n c m d, netV A' B' n c' m d'] w fun e w' => e = .returned (.bool true) ∧ Below w.heap.size w w' := by
  subst hn hm
  have H := Lib.hid h
  have H' := Lib.hid h'
  have hl1 := h.ln
  have hl2 := h.lp
  clear h h'
  go_enter Try.func18, Try.ntmps18
  go_wp2_with fail
  refine (laws_eqNodeS _ _ _ _ N.nodes _ (H.out.nodes.below (by (repeat' (first | (with_reducible exact Below.refl _ _) | (with_reducible assumption) | (with_reducible refine Below.alloc ?_ ?_ _) | (with_reducible refine Below.drew ?_) | (with_reducible refine Below.drewN' ?_ _) | (with_reducible refine Below.setCell ?_ ?_ _) | (refine Below.via ?_ (by with_reducible assumption) ?_) | (with_reducible refine Below.via ?_ (Wd.h _) ?_) | go_size)))) (H'.out.nodes.below (by (repeat' (first | (with_reducible exact Below.refl _ _) | (with_reducible assumption) | (with_reducible refine Below.alloc ?_ ?_ _) | (with_reducible refine Below.drew ?_) | (with_reducible refine Below.drewN' ?_ _) | (with_reducible refine Below.setCell ?_ ?_ _) | (refine Below.via ?_ (by with_reducible assumption) ?_) | (with_reducible refine Below.via ?_ (Wd.h _) ?_) | go_size)))) hl1).mono ?_
  rintro e wn ⟨rfl, hbn⟩
  (obtain ⟨hcn, hfn⟩ := bcell hbn; have hzn := hbn.size; (try simp at hzn); have Ncw0_0 := hcn (w.heap.size) (0) (by first | omega | (simp; done) | (simp; omega)); have Nfw0_0 := hfn (w.heap.size) (0) (by first | omega | (simp; done) | (simp; omega)); have Nhy0 : w.heap.size < wn.heap.size := (by omega); have Ncw0_1 := hcn (w.heap.size) (1) (by first | omega | (simp; done) | (simp; omega)); have Nfw0_1 := hfn (w.heap.size) (1) (by first | omega | (simp; done) | (simp; omega)); have Ncw1_0 := hcn (w.heap.size + 1) (0) (by first | omega | (simp; done) | (simp; omega)); have Nfw1_0 := hfn (w.heap.size + 1) (0) (by first | omega | (simp; done) | (simp; omega)); have Nhy1 : w.heap.size + 1 < wn.heap.size := (by omega); have Ncw1_1 := hcn (w.heap.size + 1) (1) (by first | omega | (simp; done) | (simp; omega)); have Nfw1_1 := hfn (w.heap.size + 1) (1) (by first | omega | (simp; done) | (simp; omega)); (first | (simp [go_sem, cw0_0, fw0_0, cw0_1, fw0_1, cw1_0, fw1_0, cw1_1, fw1_1, hy0, hy1] at Ncw0_0 Nfw0_0 Ncw0_1 Nfw0_1 Ncw1_0 Nfw1_0 Ncw1_1 Nfw1_1; clear cw0_0 fw0_0 cw0_1 fw0_1 cw1_0 fw1_0 cw1_1 fw1_1) | (simp [go_sem] at Ncw0_0 Nfw0_0 Ncw0_1 Nfw0_1 Ncw1_0 Nfw1_0 Ncw1_1 Nfw1_1)); clear hcn hfn; have cw0_0 := Ncw0_0; have fw0_0 := Nfw0_0; have cw0_1 := Ncw0_1; have fw0_1 := Nfw0_1; have cw1_0 := Ncw1_0; have fw1_0 := Nfw1_0; have cw1_1 := Ncw1_1; have fw1_1 := Nfw1_1; have hy0 := Nhy0; have hy1 := Nhy1; clear Ncw0_0 Nfw0_0 Ncw0_1 Nfw0_1 Ncw1_0 Nfw1_0 Ncw1_1 Nfw1_1 Nhy0 Nhy1)
  go_wp2_with fail
  refine (laws_eqPipeS _ _ _ _ N.pipes _ (H.out.pipes.below (by (repeat' (first | (with_reducible exact Below.refl _ _) | (with_reducible assumption) | (with_reducible refine Below.alloc ?_ ?_ _) | (with_reducible refine Below.drew ?_) | (with_reducible refine Below.drewN' ?_ _) | (with_reducible refine Below.setCell ?_ ?_ _) | (refine Below.via ?_ (by with_reducible assumption) ?_) | (with_reducible refine Below.via ?_ (Wd.h _) ?_) | go_size)))) (H'.out.pipes.below (by (repeat' (first | (with_reducible exact Below.refl _ _) | (with_reducible assumption) | (with_reducible refine Below.alloc ?_ ?_ _) | (with_reducible refine Below.drew ?_) | (with_reducible refine Below.drewN' ?_ _) | (with_reducible refine Below.setCell ?_ ?_ _) | (refine Below.via ?_ (by with_reducible assumption) ?_) | (with_reducible refine Below.via ?_ (Wd.h _) ?_) | go_size)))) hl2).mono ?_
  rintro e wn ⟨rfl, hbn⟩
  (obtain ⟨hcn, hfn⟩ := bcell hbn; have hzn := hbn.size; (try simp at hzn); have Ncw0_0 := hcn (w.heap.size) (0) (by first | omega | (simp; done) | (simp; omega)); have Nfw0_0 := hfn (w.heap.size) (0) (by first | omega | (simp; done) | (simp; omega)); have Nhy0 : w.heap.size < wn.heap.size := (by omega); have Ncw0_1 := hcn (w.heap.size) (1) (by first | omega | (simp; done) | (simp; omega)); have Nfw0_1 := hfn (w.heap.size) (1) (by first | omega | (simp; done) | (simp; omega)); have Ncw1_0 := hcn (w.heap.size + 1) (0) (by first | omega | (simp; done) | (simp; omega)); have Nfw1_0 := hfn (w.heap.size + 1) (0) (by first | omega | (simp; done) | (simp; omega)); have Nhy1 : w.heap.size + 1 < wn.heap.size := (by omega); have Ncw1_1 := hcn (w.heap.size + 1) (1) (by first | omega | (simp; done) | (simp; omega)); have Nfw1_1 := hfn (w.heap.size + 1) (1) (by first | omega | (simp; done) | (simp; omega)); (first | (simp [go_sem, cw0_0, fw0_0, cw0_1, fw0_1, cw1_0, fw1_0, cw1_1, fw1_1, hy0, hy1] at Ncw0_0 Nfw0_0 Ncw0_1 Nfw0_1 Ncw1_0 Nfw1_0 Ncw1_1 Nfw1_1; clear cw0_0 fw0_0 cw0_1 fw0_1 cw1_0 fw1_0 cw1_1 fw1_1) | (simp [go_sem] at Ncw0_0 Nfw0_0 Ncw0_1 Nfw0_1 Ncw1_0 Nfw1_0 Ncw1_1 Nfw1_1)); clear hcn hfn; have cw0_0 := Ncw0_0; have fw0_0 := Nfw0_0; have cw0_1 := Ncw0_1; have fw0_1 := Nfw0_1; have cw1_0 := Ncw1_0; have fw1_0 := Nfw1_0; have cw1_1 := Ncw1_1; have fw1_1 := Nfw1_1; have hy0 := Nhy0; have hy1 := Nhy1; clear Ncw0_0 Nfw0_0 Ncw0_1 Nfw0_1 Ncw1_0 Nfw1_0 Ncw1_1 Nfw1_1 Nhy0 Nhy1)
  go_wp2
  go_ret
  exact ⟨rfl, by (repeat' (first | (with_reducible exact Below.refl _ _) | (with_reducible assumption) | (with_reducible refine Below.alloc ?_ ?_ _) | (with_reducible refine Below.drew ?_) | (with_reducible refine Below.drewN' ?_ _) | (with_reducible refine Below.setCell ?_ ?_ _) | (refine Below.via ?_ (by with_reducible assumption) ?_) | (with_reducible refine Below.via ?_ (Wd.h _) ?_) | go_size))⟩
end Go.Proofs.Ytijhadafmhbceaa
namespace Go.Proofs.Ytijhadafmhbceaa
set_option linter.unusedVariables false
set_option linter.unusedSimpArgs false
open Go.RowKit
structure MadeBuffers (w w' : World) (ga gb gc : Nat) (la lb lc : List Int) : Prop where
  ara : Arr w' ga la.length (la.map iV)
  gea : w.heap.size ≤ ga
  arb : Arr w' gb lb.length (lb.map iV)
  geb : w.heap.size ≤ gb
  arc : Arr w' gc lc.length (lc.map iV)
  gec : w.heap.size ≤ gc
  neab : ga ≠ gb
  neac : ga ≠ gc
  nebc : gb ≠ gc
  sza : la.length ≤ 1048576
  szb : lb.length ≤ 1048576
  szc : lc.length ≤ 1048576
theorem MadeBuffers.at_ {w w' : World} {ga gb gc : Nat} {la lb lc : List Int} (h : MadeBuffers w w' ga gb gc la lb lc) : BufAt w' (some ⟨ga, 0, none⟩) (some ⟨gb, 0, none⟩) (some ⟨gc, 0, none⟩) la lb lc :=
  ⟨h.ara.rd, h.arb.rd, h.arc.rd, h.sza, h.szb, h.szc⟩
set_option maxRecDepth 100000 in
set_option maxHeartbeats 2000000 in
theorem laws_toBuffers (Aa Ab Ac : Option Addr) (ca cb cc : Nat) (la lb lc : List Int) (w : World) (ha : Rd w Aa (la.map iV)) (hb : Rd w Ab (lb.map iV)) (hc : Rd w Ac (lc.map iV)) (sa : la.length ≤ 1048576) (sb : lb.length ≤ 1048576) (sc : lc.length ≤ 1048576) :
    Calls Try.prog 15 #[.agg #[.slice Aa la.length ca, .slice Ab lb.length cb, .slice Ac lc.length cc]] w fun e w' => ∃ ga gb gc : Nat, e = .returned (.agg #[.slice (some ⟨ga, 0, none⟩) la.length la.length, .slice (some ⟨gb, 0, none⟩) lb.length lb.length, .slice (some ⟨gc, 0, none⟩) lc.length lc.length]) ∧ MadeBuffers w w' ga gb gc la lb lc ∧ Below w.heap.size w w' := by
  have Ha := Lib.hid ha
  clear ha
  have Hb := Lib.hid hb
  clear hb
  have Hc := Lib.hid hc
  clear hc
  go_enter Try.func15, Try.ntmps15
  
  go_wp2_with fail
  refine (laws_toInt64S _ _ la _ (Ha.out.below (by (repeat' (first | (with_reducible exact Below.refl _ _) | (with_reducible assumption) | (with_reducible refine Below.alloc ?_ ?_ _) | (with_reducible refine Below.drew ?_) | (with_reducible refine Below.drewN' ?_ _) | (with_reducible refine Below.setCell ?_ ?_ _) | (refine Below.via ?_ (by with_reducible assumption) ?_) | (with_reducible refine Below.via ?_ (Wd.h _) ?_) | go_size)))) sa).mono ?_
  rintro e w1 ⟨ga, rfl, hga, hAa, hb1⟩
  simp at hga
  have hlta := hAa.lt
  (obtain ⟨hcn, hfn⟩ := bcell hb1; have hz1 := hb1.size; (try simp at hz1); have Ncw0_0 := hcn (w.heap.size) (0) (by first | omega | (simp; done) | (simp; omega)); have Nfw0_0 := hfn (w.heap.size) (0) (by first | omega | (simp; done) | (simp; omega)); have Nhy0 : w.heap.size < w1.heap.size := (by omega); have Ncw0_1 := hcn (w.heap.size) (1) (by first | omega | (simp; done) | (simp; omega)); have Nfw0_1 := hfn (w.heap.size) (1) (by first | omega | (simp; done) | (simp; omega)); have Ncw0_2 := hcn (w.heap.size) (2) (by first | omega | (simp; done) | (simp; omega)); have Nfw0_2 := hfn (w.heap.size) (2) (by first | omega | (simp; done) | (simp; omega)); have Ncw1_0 := hcn (w.heap.size + 1) (0) (by first | omega | (simp; done) | (simp; omega)); have Nfw1_0 := hfn (w.heap.size + 1) (0) (by first | omega | (simp; done) | (simp; omega)); have Nhy1 : w.heap.size + 1 < w1.heap.size := (by omega); have Ncw1_1 := hcn (w.heap.size + 1) (1) (by first | omega | (simp; done) | (simp; omega)); have Nfw1_1 := hfn (w.heap.size + 1) (1) (by first | omega | (simp; done) | (simp; omega)); have Ncw1_2 := hcn (w.heap.size + 1) (2) (by first | omega | (simp; done) | (simp; omega)); have Nfw1_2 := hfn (w.heap.size + 1) (2) (by first | omega | (simp; done) | (simp; omega)); have Ncx_0 := hcn (w.heap.size + 2) (0) (by first | omega | (simp; done) | (simp; omega)); have Ncx_0f := hfn (w.heap.size + 2) (0) (by first | omega | (simp; done) | (simp; omega)); have Nhy_cx : w.heap.size + 2 < w1.heap.size := (by omega); have Ncx_1 := hcn (w.heap.size + 2) (1) (by first | omega | (simp; done) | (simp; omega)); have Ncx_1f := hfn (w.heap.size + 2) (1) (by first | omega | (simp; done) | (simp; omega)); have Ncx_2 := hcn (w.heap.size + 2) (2) (by first | omega | (simp; done) | (simp; omega)); have Ncx_2f := hfn (w.heap.size + 2) (2) (by first | omega | (simp; done) | (simp; omega)); simp [go_sem] at Ncw0_0 Nfw0_0 Ncw0_1 Nfw0_1 Ncw0_2 Nfw0_2 Ncw1_0 Nfw1_0 Ncw1_1 Nfw1_1 Ncw1_2 Nfw1_2 Ncx_0 Ncx_0f Ncx_1 Ncx_1f Ncx_2 Ncx_2f; clear hcn hfn; have cw0_0 := Ncw0_0; have fw0_0 := Nfw0_0; have cw0_1 := Ncw0_1; have fw0_1 := Nfw0_1; have cw0_2 := Ncw0_2; have fw0_2 := Nfw0_2; have cw1_0 := Ncw1_0; have fw1_0 := Nfw1_0; have cw1_1 := Ncw1_1; have fw1_1 := Nfw1_1; have cw1_2 := Ncw1_2; have fw1_2 := Nfw1_2; have cx_0 := Ncx_0; have cx_0f := Ncx_0f; have cx_1 := Ncx_1; have cx_1f := Ncx_1f; have cx_2 := Ncx_2; have cx_2f := Ncx_2f; have hy0 := Nhy0; have hy1 := Nhy1; have hy_cx := Nhy_cx; clear Ncw0_0 Nfw0_0 Ncw0_1 Nfw0_1 Ncw0_2 Nfw0_2 Ncw1_0 Nfw1_0 Ncw1_1 Nfw1_1 Ncw1_2 Nfw1_2 Ncx_0 Ncx_0f Ncx_1 Ncx_1f Ncx_2 Ncx_2f Nhy0 Nhy1 Nhy_cx)
  go_wp2_with fail
  refine (laws_toInt64S _ _ lb _ (Hb.out.below (by (repeat' (first | (with_reducible exact Below.refl _ _) | (with_reducible assumption) | (with_reducible refine Below.alloc ?_ ?_ _) | (with_reducible refine Below.drew ?_) | (with_reducible refine Below.drewN' ?_ _) | (with_reducible refine Below.setCell ?_ ?_ _) | (refine Below.via ?_ (by with_reducible assumption) ?_) | (with_reducible refine Below.via ?_ (Wd.h _) ?_) | go_size)))) sb).mono ?_
  rintro e w2 ⟨gb, rfl, hgb, hAb, hb2⟩
  simp at hgb
  have hAa := (hAa.far (p := ⟨w.heap.size + 2, 0, none⟩) (by simp; omega) (.slice (some ⟨ga, 0, none⟩) la.length la.length)).below hb2 (by simp; omega)
  have hltb := hAb.lt
  (obtain ⟨hcn, hfn⟩ := bcell hb2; have hz2 := hb2.size; (try simp at hz2); have Ncw0_0 := hcn (w.heap.size) (0) (by first | omega | (simp; done) | (simp; omega)); have Nfw0_0 := hfn (w.heap.size) (0) (by first | omega | (simp; done) | (simp; omega)); have Nhy0 : w.heap.size < w2.heap.size := (by omega); have Ncw0_1 := hcn (w.heap.size) (1) (by first | omega | (simp; done) | (simp; omega)); have Nfw0_1 := hfn (w.heap.size) (1) (by first | omega | (simp; done) | (simp; omega)); have Ncw0_2 := hcn (w.heap.size) (2) (by first | omega | (simp; done) | (simp; omega)); have Nfw0_2 := hfn (w.heap.size) (2) (by first | omega | (simp; done) | (simp; omega)); have Ncw1_0 := hcn (w.heap.size + 1) (0) (by first | omega | (simp; done) | (simp; omega)); have Nfw1_0 := hfn (w.heap.size + 1) (0) (by first | omega | (simp; done) | (simp; omega)); have Nhy1 : w.heap.size + 1 < w2.heap.size := (by omega); have Ncw1_1 := hcn (w.heap.size + 1) (1) (by first | omega | (simp; done) | (simp; omega)); have Nfw1_1 := hfn (w.heap.size + 1) (1) (by first | omega | (simp; done) | (simp; omega)); have Ncw1_2 := hcn (w.heap.size + 1) (2) (by first | omega | (simp; done) | (simp; omega)); have Nfw1_2 := hfn (w.heap.size + 1) (2) (by first | omega | (simp; done) | (simp; omega)); have Ncx_0 := hcn (w.heap.size + 2) (0) (by first | omega | (simp; done) | (simp; omega)); have Ncx_0f := hfn (w.heap.size + 2) (0) (by first | omega | (simp; done) | (simp; omega)); have Nhy_cx : w.heap.size + 2 < w2.heap.size := (by omega); have Ncx_1 := hcn (w.heap.size + 2) (1) (by first | omega | (simp; done) | (simp; omega)); have Ncx_1f := hfn (w.heap.size + 2) (1) (by first | omega | (simp; done) | (simp; omega)); have Ncx_2 := hcn (w.heap.size + 2) (2) (by first | omega | (simp; done) | (simp; omega)); have Ncx_2f := hfn (w.heap.size + 2) (2) (by first | omega | (simp; done) | (simp; omega)); simp [go_sem, cw0_0, fw0_0, cw0_1, fw0_1, cw0_2, fw0_2, cw1_0, fw1_0, cw1_1, fw1_1, cw1_2, fw1_2, cx_0, cx_0f, cx_1, cx_1f, cx_2, cx_2f, hy0, hy1, hy_cx] at Ncw0_0 Nfw0_0 Ncw0_1 Nfw0_1 Ncw0_2 Nfw0_2 Ncw1_0 Nfw1_0 Ncw1_1 Nfw1_1 Ncw1_2 Nfw1_2 Ncx_0 Ncx_0f Ncx_1 Ncx_1f Ncx_2 Ncx_2f; clear cw0_0 fw0_0 cw0_1 fw0_1 cw0_2 fw0_2 cw1_0 fw1_0 cw1_1 fw1_1 cw1_2 fw1_2 cx_0 cx_0f cx_1 cx_1f cx_2 cx_2f hy0 hy1 hy_cx; clear hcn hfn; have cw0_0 := Ncw0_0; have fw0_0 := Nfw0_0; have cw0_1 := Ncw0_1; have fw0_1 := Nfw0_1; have cw0_2 := Ncw0_2; have fw0_2 := Nfw0_2; have cw1_0 := Ncw1_0; have fw1_0 := Nfw1_0; have cw1_1 := Ncw1_1; have fw1_1 := Nfw1_1; have cw1_2 := Ncw1_2; have fw1_2 := Nfw1_2; have cx_0 := Ncx_0; have cx_0f := Ncx_0f; have cx_1 := Ncx_1; have cx_1f := Ncx_1f; have cx_2 := Ncx_2; have cx_2f := Ncx_2f; have hy0 := Nhy0; have hy1 := Nhy1; have hy_cx := Nhy_cx; clear Ncw0_0 Nfw0_0 Ncw0_1 Nfw0_1 Ncw0_2 Nfw0_2 Ncw1_0 Nfw1_0 Ncw1_1 Nfw1_1 Ncw1_2 Nfw1_2 Ncx_0 Ncx_0f Ncx_1 Ncx_1f Ncx_2 Ncx_2f Nhy0 Nhy1 Nhy_cx)
  go_wp2_with fail
  refine (laws_toInt64S _ _ lc _ (Hc.out.below (by (repeat' (first | (with_reducible exact Below.refl _ _) | (with_reducible assumption) | (with_reducible refine Below.alloc ?_ ?_ _) | (with_reducible refine Below.drew ?_) | (with_reducible refine Below.drewN' ?_ _) | (with_reducible refine Below.setCell ?_ ?_ _) | (refine Below.via ?_ (by with_reducible assumption) ?_) | (with_reducible refine Below.via ?_ (Wd.h _) ?_) | go_size)))) sc).mono ?_
  rintro e w3 ⟨gc, rfl, hgc, hAc, hb3⟩
  simp at hgc
  have hAa := (hAa.far (p := ⟨w.heap.size + 2, 1, none⟩) (by simp; omega) (.slice (some ⟨gb, 0, none⟩) lb.length lb.length)).below hb3 (by simp; omega)
  have hAb := (hAb.far (p := ⟨w.heap.size + 2, 1, none⟩) (by simp; omega) (.slice (some ⟨gb, 0, none⟩) lb.length lb.length)).below hb3 (by simp; omega)
  have hltc := hAc.lt
  (obtain ⟨hcn, hfn⟩ := bcell hb3; have hz3 := hb3.size; (try simp at hz3); have Ncw0_0 := hcn (w.heap.size) (0) (by first | omega | (simp; done) | (simp; omega)); have Nfw0_0 := hfn (w.heap.size) (0) (by first | omega | (simp; done) | (simp; omega)); have Nhy0 : w.heap.size < w3.heap.size := (by omega); have Ncw0_1 := hcn (w.heap.size) (1) (by first | omega | (simp; done) | (simp; omega)); have Nfw0_1 := hfn (w.heap.size) (1) (by first | omega | (simp; done) | (simp; omega)); have Ncw0_2 := hcn (w.heap.size) (2) (by first | omega | (simp; done) | (simp; omega)); have Nfw0_2 := hfn (w.heap.size) (2) (by first | omega | (simp; done) | (simp; omega)); have Ncw1_0 := hcn (w.heap.size + 1) (0) (by first | omega | (simp; done) | (simp; omega)); have Nfw1_0 := hfn (w.heap.size + 1) (0) (by first | omega | (simp; done) | (simp; omega)); have Nhy1 : w.heap.size + 1 < w3.heap.size := (by omega); have Ncw1_1 := hcn (w.heap.size + 1) (1) (by first | omega | (simp; done) | (simp; omega)); have Nfw1_1 := hfn (w.heap.size + 1) (1) (by first | omega | (simp; done) | (simp; omega)); have Ncw1_2 := hcn (w.heap.size + 1) (2) (by first | omega | (simp; done) | (simp; omega)); have Nfw1_2 := hfn (w.heap.size + 1) (2) (by first | omega | (simp; done) | (simp; omega)); have Ncx_0 := hcn (w.heap.size + 2) (0) (by first | omega | (simp; done) | (simp; omega)); have Ncx_0f := hfn (w.heap.size + 2) (0) (by first | omega | (simp; done) | (simp; omega)); have Nhy_cx : w.heap.size + 2 < w3.heap.size := (by omega); have Ncx_1 := hcn (w.heap.size + 2) (1) (by first | omega | (simp; done) | (simp; omega)); have Ncx_1f := hfn (w.heap.size + 2) (1) (by first | omega | (simp; done) | (simp; omega)); have Ncx_2 := hcn (w.heap.size + 2) (2) (by first | omega | (simp; done) | (simp; omega)); have Ncx_2f := hfn (w.heap.size + 2) (2) (by first | omega | (simp; done) | (simp; omega)); simp [go_sem, cw0_0, fw0_0, cw0_1, fw0_1, cw0_2, fw0_2, cw1_0, fw1_0, cw1_1, fw1_1, cw1_2, fw1_2, cx_0, cx_0f, cx_1, cx_1f, cx_2, cx_2f, hy0, hy1, hy_cx] at Ncw0_0 Nfw0_0 Ncw0_1 Nfw0_1 Ncw0_2 Nfw0_2 Ncw1_0 Nfw1_0 Ncw1_1 Nfw1_1 Ncw1_2 Nfw1_2 Ncx_0 Ncx_0f Ncx_1 Ncx_1f Ncx_2 Ncx_2f; clear cw0_0 fw0_0 cw0_1 fw0_1 cw0_2 fw0_2 cw1_0 fw1_0 cw1_1 fw1_1 cw1_2 fw1_2 cx_0 cx_0f cx_1 cx_1f cx_2 cx_2f hy0 hy1 hy_cx; clear hcn hfn; have cw0_0 := Ncw0_0; have fw0_0 := Nfw0_0; have cw0_1 := Ncw0_1; have fw0_1 := Nfw0_1; have cw0_2 := Ncw0_2; have fw0_2 := Nfw0_2; have cw1_0 := Ncw1_0; have fw1_0 := Nfw1_0; have cw1_1 := Ncw1_1; have fw1_1 := Nfw1_1; have cw1_2 := Ncw1_2; have fw1_2 := Nfw1_2; have cx_0 := Ncx_0; have cx_0f := Ncx_0f; have cx_1 := Ncx_1; have cx_1f := Ncx_1f; have cx_2 := Ncx_2; have cx_2f := Ncx_2f; have hy0 := Nhy0; have hy1 := Nhy1; have hy_cx := Nhy_cx; clear Ncw0_0 Nfw0_0 Ncw0_1 Nfw0_1 Ncw0_2 Nfw0_2 Ncw1_0 Nfw1_0 Ncw1_1 Nfw1_1 Ncw1_2 Nfw1_2 Ncx_0 Ncx_0f Ncx_1 Ncx_1f Ncx_2 Ncx_2f Nhy0 Nhy1 Nhy_cx)
  have HAa := Lib.hid hAa; have HAb := Lib.hid hAb; have HAc := Lib.hid hAc
  clear hAa hAb hAc
  go_wp2
  (first | (refine bodyPost_ret (by simp [results, Try.results15, go_sem, cw0_0, cw0_1, cw0_2, cw1_0, cw1_1, cw1_2]; try rfl) rfl ?_) | (refine bodyPost_ret (by simp [results, Try.results15, go_sem]; try rfl) rfl ?_))
  refine ⟨ga, gb, gc, rfl, ⟨?_, ?_, ?_, ?_, ?_, ?_, ?_, ?_, ?_, ?_, ?_, ?_⟩, by (repeat' (first | (with_reducible exact Below.refl _ _) | (with_reducible assumption) | (with_reducible refine Below.alloc ?_ ?_ _) | (with_reducible refine Below.drew ?_) | (with_reducible refine Below.drewN' ?_ _) | (with_reducible refine Below.setCell ?_ ?_ _) | (refine Below.via ?_ (by with_reducible assumption) ?_) | (with_reducible refine Below.via ?_ (Wd.h _) ?_) | go_size))⟩
  · exact ((((HAa.out.far (by simp; omega) _).far (by simp; omega) _).far (by simp; omega) _).far (by simp; omega) _)
  · omega
  · exact ((((HAb.out.far (by simp; omega) _).far (by simp; omega) _).far (by simp; omega) _).far (by simp; omega) _)
  · omega
  · exact ((((HAc.out.far (by simp; omega) _).far (by simp; omega) _).far (by simp; omega) _).far (by simp; omega) _)
  · omega
  · omega
  · omega
  · omega
  · exact sa
  · exact sb
  · exact sc
set_option maxRecDepth 100000 in
set_option maxHeartbeats 2000000 in
theorem laws_szBuffers (Aa Ab Ac : Option Addr) (ca cb cc : Nat) (la lb lc : List Int) (left : Int) (w : World) (h0 : 0 ≤ left) (h1 : left ≤ 1048576) (sa : la.length ≤ 9223372036854775807) (sb : lb.length ≤ 9223372036854775807) (sc : lc.length ≤ 9223372036854775807) :
    Calls Try.prog 12 #[.agg #[.slice Aa la.length ca, .slice Ab lb.length cb, .slice Ac lc.length cc], .int .i64 left] w (SzPost w left (la.length + lb.length + lc.length)) := by
  by_cases hra : szN left la.length < 0
  · (go_enter Try.func12, Try.ntmps12; go_wp2_with (first | (go_at_call 35; ((with_reducible refine (laws_szInt64S _ _ _ _ _ (by omega) (by omega) (by omega)).mono ?_)); rintro e wn ⟨rfl, rfl⟩)))
    all_goals first | (go_ret; exact ⟨-1, rfl, .inl rfl, by (repeat' (first | (with_reducible exact Below.refl _ _) | (with_reducible assumption) | (with_reducible refine Below.alloc ?_ ?_ _) | (with_reducible refine Below.drew ?_) | (with_reducible refine Below.drewN' ?_ _) | (with_reducible refine Below.setCell ?_ ?_ _) | (refine Below.via ?_ (by with_reducible assumption) ?_) | (with_reducible refine Below.via ?_ (Wd.h _) ?_) | go_size))⟩) | (exfalso; omega)
  have ea : szN (left) la.length = left - la.length := by unfold szN at hra ⊢; split at hra <;> (first | omega | (split <;> omega))
  have fa : 0 ≤ szN (left) la.length := by omega
  by_cases hrb : szN (szN (left) la.length) lb.length < 0
  · have Ea := Lib.hid ea; clear ea
    have hlea : szN (left) la.length ≤ 1048576 := by have := Ea.out; omega
    (go_enter Try.func12, Try.ntmps12; go_wp2_with (first | (go_at_call 35; ((with_reducible refine (laws_szInt64S _ _ _ _ _ (by omega) (by omega) (by omega)).mono ?_)); rintro e wn ⟨rfl, rfl⟩)))
    all_goals first | (go_ret; exact ⟨-1, rfl, .inl rfl, by (repeat' (first | (with_reducible exact Below.refl _ _) | (with_reducible assumption) | (with_reducible refine Below.alloc ?_ ?_ _) | (with_reducible refine Below.drew ?_) | (with_reducible refine Below.drewN' ?_ _) | (with_reducible refine Below.setCell ?_ ?_ _) | (refine Below.via ?_ (by with_reducible assumption) ?_) | (with_reducible refine Below.via ?_ (Wd.h _) ?_) | go_size))⟩) | (exfalso; omega)
  have eb : szN (szN (left) la.length) lb.length = szN (left) la.length - lb.length := by unfold szN at hrb ⊢; split at hrb <;> (first | omega | (split <;> omega))
  have fb : 0 ≤ szN (szN (left) la.length) lb.length := by omega
  by_cases hrc : szN (szN (szN (left) la.length) lb.length) lc.length < 0
  · have Ea := Lib.hid ea; clear ea; have Eb := Lib.hid eb; clear eb
    have hlea : szN (left) la.length ≤ 1048576 := by have := Ea.out; omega
    have hleb : szN (szN (left) la.length) lb.length ≤ 1048576 := by have := Ea.out; have := Eb.out; omega
    (go_enter Try.func12, Try.ntmps12; go_wp2_with (first | (go_at_call 35; ((with_reducible refine (laws_szInt64S _ _ _ _ _ (by omega) (by omega) (by omega)).mono ?_)); rintro e wn ⟨rfl, rfl⟩)))
    all_goals first | (go_ret; exact ⟨-1, rfl, .inl rfl, by (repeat' (first | (with_reducible exact Below.refl _ _) | (with_reducible assumption) | (with_reducible refine Below.alloc ?_ ?_ _) | (with_reducible refine Below.drew ?_) | (with_reducible refine Below.drewN' ?_ _) | (with_reducible refine Below.setCell ?_ ?_ _) | (refine Below.via ?_ (by with_reducible assumption) ?_) | (with_reducible refine Below.via ?_ (Wd.h _) ?_) | go_size))⟩) | (exfalso; omega)
  have ec : szN (szN (szN (left) la.length) lb.length) lc.length = szN (szN (left) la.length) lb.length - lc.length := by unfold szN at hrc ⊢; split at hrc <;> (first | omega | (split <;> omega))
  have fc : 0 ≤ szN (szN (szN (left) la.length) lb.length) lc.length := by omega
  have Ea := Lib.hid ea; clear ea; have Eb := Lib.hid eb; clear eb; have Ec := Lib.hid ec; clear ec
  have lea : szN (left) la.length ≤ 1048576 := by have := Ea.out; omega
  have leb : szN (szN (left) la.length) lb.length ≤ 1048576 := by have := Ea.out; have := Eb.out; omega
  have lec : szN (szN (szN (left) la.length) lb.length) lc.length ≤ 1048576 := by have := Ea.out; have := Eb.out; have := Ec.out; omega
  (go_enter Try.func12, Try.ntmps12; go_wp2_with (first | (go_at_call 35; ((with_reducible refine (laws_szInt64S _ _ _ _ _ (by omega) (by omega) (by omega)).mono ?_)); rintro e wn ⟨rfl, rfl⟩)))
  all_goals first | (go_ret; exact ⟨_, rfl, .inr ⟨by omega, by have := Ea.out; have := Eb.out; have := Ec.out; omega⟩, by (repeat' (first | (with_reducible exact Below.refl _ _) | (with_reducible assumption) | (with_reducible refine Below.alloc ?_ ?_ _) | (with_reducible refine Below.drew ?_) | (with_reducible refine Below.drewN' ?_ _) | (with_reducible refine Below.setCell ?_ ?_ _) | (refine Below.via ?_ (by with_reducible assumption) ?_) | (with_reducible refine Below.via ?_ (Wd.h _) ?_) | go_size))⟩) | (exfalso; omega)
set_option maxRecDepth 100000 in
set_option maxHeartbeats 2000000 in
theorem laws_eqBuffers (Aa Ab Ac Ba Bb Bc : Option Addr) (ca cb cc da db dc : Nat) (la lb lc : List Int) (w : World) (h : BufAt w Aa Ab Ac la lb lc) (h' : BufAt w Ba Bb Bc la lb lc) :
    Calls Try.prog 17 #[.agg #[.slice Aa la.length ca, .slice Ab lb.length cb, .slice Ac lc.length cc], .agg #[.slice Ba la.length da, .slice Bb lb.length db, .slice Bc lc.length dc]] w fun e w' => e = .returned (.bool true) ∧ Below w.heap.size w w' := by
  have H := Lib.hid h
  have H' := Lib.hid h'
  clear h h'
  go_enter Try.func17, Try.ntmps17
  go_wp2_with fail
  refine (laws_eqInt64S _ _ _ _ la _ (H.out.r1.below (by (repeat' (first | (with_reducible exact Below.refl _ _) | (with_reducible assumption) | (with_reducible refine Below.alloc ?_ ?_ _) | (with_reducible refine Below.drew ?_) | (with_reducible refine Below.drewN' ?_ _) | (with_reducible refine Below.setCell ?_ ?_ _) | (refine Below.via ?_ (by with_reducible assumption) ?_) | (with_reducible refine Below.via ?_ (Wd.h _) ?_) | go_size)))) (H'.out.r1.below (by (repeat' (first | (with_reducible exact Below.refl _ _) | (with_reducible assumption) | (with_reducible refine Below.alloc ?_ ?_ _) | (with_reducible refine Below.drew ?_) | (with_reducible refine Below.drewN' ?_ _) | (with_reducible refine Below.setCell ?_ ?_ _) | (refine Below.via ?_ (by with_reducible assumption) ?_) | (with_reducible refine Below.via ?_ (Wd.h _) ?_) | go_size)))) H.out.s1).mono ?_
  rintro e wn ⟨rfl, hbn⟩
  (obtain ⟨hcn, hfn⟩ := bcell hbn; have hzn := hbn.size; (try simp at hzn); have Ncw0_0 := hcn (w.heap.size) (0) (by first | omega | (simp; done) | (simp; omega)); have Nfw0_0 := hfn (w.heap.size) (0) (by first | omega | (simp; done) | (simp; omega)); have Nhy0 : w.heap.size < wn.heap.size := (by omega); have Ncw0_1 := hcn (w.heap.size) (1) (by first | omega | (simp; done) | (simp; omega)); have Nfw0_1 := hfn (w.heap.size) (1) (by first | omega | (simp; done) | (simp; omega)); have Ncw0_2 := hcn (w.heap.size) (2) (by first | omega | (simp; done) | (simp; omega)); have Nfw0_2 := hfn (w.heap.size) (2) (by first | omega | (simp; done) | (simp; omega)); have Ncw1_0 := hcn (w.heap.size + 1) (0) (by first | omega | (simp; done) | (simp; omega)); have Nfw1_0 := hfn (w.heap.size + 1) (0) (by first | omega | (simp; done) | (simp; omega)); have Nhy1 : w.heap.size + 1 < wn.heap.size := (by omega); have Ncw1_1 := hcn (w.heap.size + 1) (1) (by first | omega | (simp; done) | (simp; omega)); have Nfw1_1 := hfn (w.heap.size + 1) (1) (by first | omega | (simp; done) | (simp; omega)); have Ncw1_2 := hcn (w.heap.size + 1) (2) (by first | omega | (simp; done) | (simp; omega)); have Nfw1_2 := hfn (w.heap.size + 1) (2) (by first | omega | (simp; done) | (simp; omega)); (first | (simp [go_sem, cw0_0, fw0_0, cw0_1, fw0_1, cw0_2, fw0_2, cw1_0, fw1_0, cw1_1, fw1_1, cw1_2, fw1_2, hy0, hy1] at Ncw0_0 Nfw0_0 Ncw0_1 Nfw0_1 Ncw0_2 Nfw0_2 Ncw1_0 Nfw1_0 Ncw1_1 Nfw1_1 Ncw1_2 Nfw1_2; clear cw0_0 fw0_0 cw0_1 fw0_1 cw0_2 fw0_2 cw1_0 fw1_0 cw1_1 fw1_1 cw1_2 fw1_2) | (simp [go_sem] at Ncw0_0 Nfw0_0 Ncw0_1 Nfw0_1 Ncw0_2 Nfw0_2 Ncw1_0 Nfw1_0 Ncw1_1 Nfw1_1 Ncw1_2 Nfw1_2)); clear hcn hfn; have cw0_0 := Ncw0_0; have fw0_0 := Nfw0_0; have cw0_1 := Ncw0_1; have fw0_1 := Nfw0_1; have cw0_2 := Ncw0_2; have fw0_2 := Nfw0_2; have cw1_0 := Ncw1_0; have fw1_0 := Nfw1_0; have cw1_1 := Ncw1_1; have fw1_1 := Nfw1_1; have cw1_2 := Ncw1_2; have fw1_2 := Nfw1_2; have hy0 := Nhy0; have hy1 := Nhy1; clear Ncw0_0 Nfw0_0 Ncw0_1 Nfw0_1 Ncw0_2 Nfw0_2 Ncw1_0 Nfw1_0 Ncw1_1 Nfw1_1 Ncw1_2 Nfw1_2 Nhy0 Nhy1)
  go_wp2_with fail
  refine (laws_eqInt64S _ _ _ _ lb _ (H.out.r2.below (by (repeat' (first | (with_reducible exact Below.refl _ _) | (with_reducible assumption) | (with_reducible refine Below.alloc ?_ ?_ _) | (with_reducible refine Below.drew ?_) | (with_reducible refine Below.drewN' ?_ _) | (with_reducible refine Below.setCell ?_ ?_ _) | (refine Below.via ?_ (by with_reducible assumption) ?_) | (with_reducible refine Below.via ?_ (Wd.h _) ?_) | go_size)))) (H'.out.r2.below (by (repeat' (first | (with_reducible exact Below.refl _ _) | (with_reducible assumption) | (with_reducible refine Below.alloc ?_ ?_ _) | (with_reducible refine Below.drew ?_) | (with_reducible refine Below.drewN' ?_ _) | (with_reducible refine Below.setCell ?_ ?_ _) | (refine Below.via ?_ (by with_reducible assumption) ?_) | (with_reducible refine Below.via ?_ (Wd.h _) ?_) | go_size)))) H.out.s2).mono ?_
  rintro e wn ⟨rfl, hbn⟩
  (obtain ⟨hcn, hfn⟩ := bcell hbn; have hzn := hbn.size; (try simp at hzn); have Ncw0_0 := hcn (w.heap.size) (0) (by first | omega | (simp; done) | (simp; omega)); have Nfw0_0 := hfn (w.heap.size) (0) (by first | omega | (simp; done) | (simp; omega)); have Nhy0 : w.heap.size < wn.heap.size := (by omega); have Ncw0_1 := hcn (w.heap.size) (1) (by first | omega | (simp; done) | (simp; omega)); have Nfw0_1 := hfn (w.heap.size) (1) (by first | omega | (simp; done) | (simp; omega)); have Ncw0_2 := hcn (w.heap.size) (2) (by first | omega | (simp; done) | (simp; omega)); have Nfw0_2 := hfn (w.heap.size) (2) (by first | omega | (simp; done) | (simp; omega)); have Ncw1_0 := hcn (w.heap.size + 1) (0) (by first | omega | (simp; done) | (simp; omega)); have Nfw1_0 := hfn (w.heap.size + 1) (0) (by first | omega | (simp; done) | (simp; omega)); have Nhy1 : w.heap.size + 1 < wn.heap.size := (by omega); have Ncw1_1 := hcn (w.heap.size + 1) (1) (by first | omega | (simp; done) | (simp; omega)); have Nfw1_1 := hfn (w.heap.size + 1) (1) (by first | omega | (simp; done) | (simp; omega)); have Ncw1_2 := hcn (w.heap.size + 1) (2) (by first | omega | (simp; done) | (simp; omega)); have Nfw1_2 := hfn (w.heap.size + 1) (2) (by first | omega | (simp; done) | (simp; omega)); (first | (simp [go_sem, cw0_0, fw0_0, cw0_1, fw0_1, cw0_2, fw0_2, cw1_0, fw1_0, cw1_1, fw1_1, cw1_2, fw1_2, hy0, hy1] at Ncw0_0 Nfw0_0 Ncw0_1 Nfw0_1 Ncw0_2 Nfw0_2 Ncw1_0 Nfw1_0 Ncw1_1 Nfw1_1 Ncw1_2 Nfw1_2; clear cw0_0 fw0_0 cw0_1 fw0_1 cw0_2 fw0_2 cw1_0 fw1_0 cw1_1 fw1_1 cw1_2 fw1_2) | (simp [go_sem] at Ncw0_0 Nfw0_0 Ncw0_1 Nfw0_1 Ncw0_2 Nfw0_2 Ncw1_0 Nfw1_0 Ncw1_1 Nfw1_1 Ncw1_2 Nfw1_2)); clear hcn hfn; have cw0_0 := Ncw0_0; have fw0_0 := Nfw0_0; have cw0_1 := Ncw0_1; have fw0_1 := Nfw0_1; have cw0_2 := Ncw0_2; have fw0_2 := Nfw0_2; have cw1_0 := Ncw1_0; have fw1_0 := Nfw1_0; have cw1_1 := Ncw1_1; have fw1_1 := Nfw1_1; have cw1_2 := Ncw1_2; have fw1_2 := Nfw1_2; have hy0 := Nhy0; have hy1 := Nhy1; clear Ncw0_0 Nfw0_0 Ncw0_1 Nfw0_1 Ncw0_2 Nfw0_2 Ncw1_0 Nfw1_0 Ncw1_1 Nfw1_1 Ncw1_2 Nfw1_2 Nhy0 Nhy1)
  go_wp2_with fail
  refine (laws_eqInt64S _ _ _ _ lc _ (H.out.r3.below (by (repeat' (first | (with_reducible exact Below.refl _ _) | (with_reducible assumption) | (with_reducible refine Below.alloc ?_ ?_ _) | (with_reducible refine Below.drew ?_) | (with_reducible refine Below.drewN' ?_ _) | (with_reducible refine Below.setCell ?_ ?_ _) | (refine Below.via ?_ (by with_reducible assumption) ?_) | (with_reducible refine Below.via ?_ (Wd.h _) ?_) | go_size)))) (H'.out.r3.below (by (repeat' (first | (with_reducible exact Below.refl _ _) | (with_reducible assumption) | (with_reducible refine Below.alloc ?_ ?_ _) | (with_reducible refine Below.drew ?_) | (with_reducible refine Below.drewN' ?_ _) | (with_reducible refine Below.setCell ?_ ?_ _) | (refine Below.via ?_ (by with_reducible assumption) ?_) | (with_reducible refine Below.via ?_ (Wd.h _) ?_) | go_size)))) H.out.s3).mono ?_
  rintro e wn ⟨rfl, hbn⟩
  (obtain ⟨hcn, hfn⟩ := bcell hbn; have hzn := hbn.size; (try simp at hzn); have Ncw0_0 := hcn (w.heap.size) (0) (by first | omega | (simp; done) | (simp; omega)); have Nfw0_0 := hfn (w.heap.size) (0) (by first | omega | (simp; done) | (simp; omega)); have Nhy0 : w.heap.size < wn.heap.size := (by omega); have Ncw0_1 := hcn (w.heap.size) (1) (by first | omega | (simp; done) | (simp; omega)); have Nfw0_1 := hfn (w.heap.size) (1) (by first | omega | (simp; done) | (simp; omega)); have Ncw0_2 := hcn (w.heap.size) (2) (by first | omega | (simp; done) | (simp; omega)); have Nfw0_2 := hfn (w.heap.size) (2) (by first | omega | (simp; done) | (simp; omega)); have Ncw1_0 := hcn (w.heap.size + 1) (0) (by first | omega | (simp; done) | (simp; omega)); have Nfw1_0 := hfn (w.heap.size + 1) (0) (by first | omega | (simp; done) | (simp; omega)); have Nhy1 : w.heap.size + 1 < wn.heap.size := (by omega); have Ncw1_1 := hcn (w.heap.size + 1) (1) (by first | omega | (simp; done) | (simp; omega)); have Nfw1_1 := hfn (w.heap.size + 1) (1) (by first | omega | (simp; done) | (simp; omega)); have Ncw1_2 := hcn (w.heap.size + 1) (2) (by first | omega | (simp; done) | (simp; omega)); have Nfw1_2 := hfn (w.heap.size + 1) (2) (by first | omega | (simp; done) | (simp; omega)); (first | (simp [go_sem, cw0_0, fw0_0, cw0_1, fw0_1, cw0_2, fw0_2, cw1_0, fw1_0, cw1_1, fw1_1, cw1_2, fw1_2, hy0, hy1] at Ncw0_0 Nfw0_0 Ncw0_1 Nfw0_1 Ncw0_2 Nfw0_2 Ncw1_0 Nfw1_0 Ncw1_1 Nfw1_1 Ncw1_2 Nfw1_2; clear cw0_0 fw0_0 cw0_1 fw0_1 cw0_2 fw0_2 cw1_0 fw1_0 cw1_1 fw1_1 cw1_2 fw1_2) | (simp [go_sem] at Ncw0_0 Nfw0_0 Ncw0_1 Nfw0_1 Ncw0_2 Nfw0_2 Ncw1_0 Nfw1_0 Ncw1_1 Nfw1_1 Ncw1_2 Nfw1_2)); clear hcn hfn; have cw0_0 := Ncw0_0; have fw0_0 := Nfw0_0; have cw0_1 := Ncw0_1; have fw0_1 := Nfw0_1; have cw0_2 := Ncw0_2; have fw0_2 := Nfw0_2; have cw1_0 := Ncw1_0; have fw1_0 := Nfw1_0; have cw1_1 := Ncw1_1; have fw1_1 := Nfw1_1; have cw1_2 := Ncw1_2; have fw1_2 := Nfw1_2; have hy0 := Nhy0; have hy1 := Nhy1; clear Ncw0_0 Nfw0_0 Ncw0_1 Nfw0_1 Ncw0_2 Nfw0_2 Ncw1_0 Nfw1_0 Ncw1_1 Nfw1_1 Ncw1_2 Nfw1_2 Nhy0 Nhy1)
  go_wp2
  go_ret
  exact ⟨rfl, by (repeat' (first | (with_reducible exact Below.refl _ _) | (with_reducible assumption) | (with_reducible refine Below.alloc ?_ ?_ _) | (with_reducible refine Below.drew ?_) | (with_reducible refine Below.drewN' ?_ _) | (with_reducible refine Below.setCell ?_ ?_ _) | (refine Below.via ?_ (by with_reducible assumption) ?_) | (with_reducible refine Below.via ?_ (Wd.h _) ?_) | go_size))⟩
set_option maxRecDepth 100000
section
open Go.Joins Go.ChangeShapes Go.WideShapes Go.ChangeAt Go.Deep
variable {H : Type} {enc : TypeId × Value → H} {w : World}
theorem cells_Buffers : Try.prog.cellsOf 45 = 3 := by kernel_rfl
theorem open_buffers' {r : Reach} {b0 : Nat} {v : Value} {d : DataW H} {p : List MemPlace} (hv : Value.okWide Try.prog w r b0 45 v) (h : DataW.Trod enc Try.prog w 0 (fun _ => true) true 45 v d p) :
    ∃ Aa ca la Ab cb lb Ac cc lc, v = .agg #[.slice Aa la.length ca, .slice Ab lb.length cb, .slice Ac lc.length cc] ∧ IntsIn w Aa la ∧ IntsIn w Ab lb ∧ IntsIn w Ac lc := by
  obtain ⟨cs, n, rfl, hl, hf⟩ := agg_list Try.underlying45 (by kernel_rfl) cells_Buffers hv h
  obtain ⟨u0, y0, c0, t0⟩ := hf 0 _ rfl
  obtain ⟨u1, y1, c1, t1⟩ := hf 1 _ rfl
  obtain ⟨u2, y2, c2, t2⟩ := hf 2 _ rfl
  obtain ⟨Aa, ca, la, rfl, aa⟩ := trod_ints t0
  obtain ⟨Ab, cb, lb, rfl, ab⟩ := trod_ints t1
  obtain ⟨Ac, cc, lc, rfl, ac⟩ := trod_ints t2
  match cs, hl with
  | [z0, z1, z2], _ =>
    simp at c0 c1 c2
    subst c0 c1 c2
    exact ⟨Aa, ca, la, Ab, cb, lb, Ac, cc, lc, rfl, aa, ab, ac⟩
end
end Go.Proofs.Ytijhadafmhbceaa
namespace Go.Proofs.Ytijhadafmhbceaa
set_option linter.unusedVariables false
set_option linter.unusedSimpArgs false
open Go.RowKit
structure MadeHour (w w' : World) (ga gb : Nat) (la lb : List Int) : Prop where
  ara : Arr w' ga la.length (la.map iV)
  gea : w.heap.size ≤ ga
  arb : Arr w' gb lb.length (lb.map iV)
  geb : w.heap.size ≤ gb
  neab : ga ≠ gb
  sza : la.length ≤ 1048576
  szb : lb.length ≤ 1048576
theorem MadeHour.at_ {w w' : World} {ga gb : Nat} {la lb : List Int} (h : MadeHour w w' ga gb la lb) : HouAt w' (some ⟨ga, 0, none⟩) (some ⟨gb, 0, none⟩) la lb :=
  ⟨h.ara.rd, h.arb.rd, h.sza, h.szb⟩
set_option maxRecDepth 100000 in
set_option maxHeartbeats 2000000 in
theorem laws_toHour (Aa Ab : Option Addr) (ca cb : Nat) (la lb : List Int) (w : World) (ha : Rd w Aa (la.map iV)) (hb : Rd w Ab (lb.map iV)) (sa : la.length ≤ 1048576) (sb : lb.length ≤ 1048576) :
    Calls Try.prog 40 #[.agg #[.slice Aa la.length ca, .slice Ab lb.length cb]] w fun e w' => ∃ ga gb : Nat, e = .returned (.agg #[.slice (some ⟨ga, 0, none⟩) la.length la.length, .slice (some ⟨gb, 0, none⟩) lb.length lb.length]) ∧ MadeHour w w' ga gb la lb ∧ Below w.heap.size w w' := by
  have Ha := Lib.hid ha
  clear ha
  have Hb := Lib.hid hb
  clear hb
  go_enter Try.func40, Try.ntmps40
  
  go_wp2_with fail
  refine (laws_toInt64S _ _ la _ (Ha.out.below (by (repeat' (first | (with_reducible exact Below.refl _ _) | (with_reducible assumption) | (with_reducible refine Below.alloc ?_ ?_ _) | (with_reducible refine Below.drew ?_) | (with_reducible refine Below.drewN' ?_ _) | (with_reducible refine Below.setCell ?_ ?_ _) | (refine Below.via ?_ (by with_reducible assumption) ?_) | (with_reducible refine Below.via ?_ (Wd.h _) ?_) | go_size)))) sa).mono ?_
  rintro e w1 ⟨ga, rfl, hga, hAa, hb1⟩
  simp at hga
  have hlta := hAa.lt
  (obtain ⟨hcn, hfn⟩ := bcell hb1; have hz1 := hb1.size; (try simp at hz1); have Ncw0_0 := hcn (w.heap.size) (0) (by first | omega | (simp; done) | (simp; omega)); have Nfw0_0 := hfn (w.heap.size) (0) (by first | omega | (simp; done) | (simp; omega)); have Nhy0 : w.heap.size < w1.heap.size := (by omega); have Ncw0_1 := hcn (w.heap.size) (1) (by first | omega | (simp; done) | (simp; omega)); have Nfw0_1 := hfn (w.heap.size) (1) (by first | omega | (simp; done) | (simp; omega)); have Ncw1_0 := hcn (w.heap.size + 1) (0) (by first | omega | (simp; done) | (simp; omega)); have Nfw1_0 := hfn (w.heap.size + 1) (0) (by first | omega | (simp; done) | (simp; omega)); have Nhy1 : w.heap.size + 1 < w1.heap.size := (by omega); have Ncw1_1 := hcn (w.heap.size + 1) (1) (by first | omega | (simp; done) | (simp; omega)); have Nfw1_1 := hfn (w.heap.size + 1) (1) (by first | omega | (simp; done) | (simp; omega)); have Ncx_0 := hcn (w.heap.size + 2) (0) (by first | omega | (simp; done) | (simp; omega)); have Ncx_0f := hfn (w.heap.size + 2) (0) (by first | omega | (simp; done) | (simp; omega)); have Nhy_cx : w.heap.size + 2 < w1.heap.size := (by omega); have Ncx_1 := hcn (w.heap.size + 2) (1) (by first | omega | (simp; done) | (simp; omega)); have Ncx_1f := hfn (w.heap.size + 2) (1) (by first | omega | (simp; done) | (simp; omega)); simp [go_sem] at Ncw0_0 Nfw0_0 Ncw0_1 Nfw0_1 Ncw1_0 Nfw1_0 Ncw1_1 Nfw1_1 Ncx_0 Ncx_0f Ncx_1 Ncx_1f; clear hcn hfn; have cw0_0 := Ncw0_0; have fw0_0 := Nfw0_0; have cw0_1 := Ncw0_1; have fw0_1 := Nfw0_1; have cw1_0 := Ncw1_0; have fw1_0 := Nfw1_0; have cw1_1 := Ncw1_1; have fw1_1 := Nfw1_1; have cx_0 := Ncx_0; have cx_0f := Ncx_0f; have cx_1 := Ncx_1; have cx_1f := Ncx_1f; have hy0 := Nhy0; have hy1 := Nhy1; have hy_cx := Nhy_cx; clear Ncw0_0 Nfw0_0 Ncw0_1 Nfw0_1 Ncw1_0 Nfw1_0 Ncw1_1 Nfw1_1 Ncx_0 Ncx_0f Ncx_1 Ncx_1f Nhy0 Nhy1 Nhy_cx)
  go_wp2_with fail
  refine (laws_toInt64S _ _ lb _ (Hb.out.below (by (repeat' (first | (with_reducible exact Below.refl _ _) | (with_reducible assumption) | (with_reducible refine Below.alloc ?_ ?_ _) | (with_reducible refine Below.drew ?_) | (with_reducible refine Below.drewN' ?_ _) | (with_reducible refine Below.setCell ?_ ?_ _) | (refine Below.via ?_ (by with_reducible assumption) ?_) | (with_reducible refine Below.via ?_ (Wd.h _) ?_) | go_size)))) sb).mono ?_
  rintro e w2 ⟨gb, rfl, hgb, hAb, hb2⟩
  simp at hgb
  have hAa := (hAa.far (p := ⟨w.heap.size + 2, 0, none⟩) (by simp; omega) (.slice (some ⟨ga, 0, none⟩) la.length la.length)).below hb2 (by simp; omega)
  have hltb := hAb.lt
  (obtain ⟨hcn, hfn⟩ := bcell hb2; have hz2 := hb2.size; (try simp at hz2); have Ncw0_0 := hcn (w.heap.size) (0) (by first | omega | (simp; done) | (simp; omega)); have Nfw0_0 := hfn (w.heap.size) (0) (by first | omega | (simp; done) | (simp; omega)); have Nhy0 : w.heap.size < w2.heap.size := (by omega); have Ncw0_1 := hcn (w.heap.size) (1) (by first | omega | (simp; done) | (simp; omega)); have Nfw0_1 := hfn (w.heap.size) (1) (by first | omega | (simp; done) | (simp; omega)); have Ncw1_0 := hcn (w.heap.size + 1) (0) (by first | omega | (simp; done) | (simp; omega)); have Nfw1_0 := hfn (w.heap.size + 1) (0) (by first | omega | (simp; done) | (simp; omega)); have Nhy1 : w.heap.size + 1 < w2.heap.size := (by omega); have Ncw1_1 := hcn (w.heap.size + 1) (1) (by first | omega | (simp; done) | (simp; omega)); have Nfw1_1 := hfn (w.heap.size + 1) (1) (by first | omega | (simp; done) | (simp; omega)); have Ncx_0 := hcn (w.heap.size + 2) (0) (by first | omega | (simp; done) | (simp; omega)); have Ncx_0f := hfn (w.heap.size + 2) (0) (by first | omega | (simp; done) | (simp; omega)); have Nhy_cx : w.heap.size + 2 < w2.heap.size := (by omega); have Ncx_1 := hcn (w.heap.size + 2) (1) (by first | omega | (simp; done) | (simp; omega)); have Ncx_1f := hfn (w.heap.size + 2) (1) (by first | omega | (simp; done) | (simp; omega)); simp [go_sem, cw0_0, fw0_0, cw0_1, fw0_1, cw1_0, fw1_0, cw1_1, fw1_1, cx_0, cx_0f, cx_1, cx_1f, hy0, hy1, hy_cx] at Ncw0_0 Nfw0_0 Ncw0_1 Nfw0_1 Ncw1_0 Nfw1_0 Ncw1_1 Nfw1_1 Ncx_0 Ncx_0f Ncx_1 Ncx_1f; clear cw0_0 fw0_0 cw0_1 fw0_1 cw1_0 fw1_0 cw1_1 fw1_1 cx_0 cx_0f cx_1 cx_1f hy0 hy1 hy_cx; clear hcn hfn; have cw0_0 := Ncw0_0; have fw0_0 := Nfw0_0; have cw0_1 := Ncw0_1; have fw0_1 := Nfw0_1; have cw1_0 := Ncw1_0; have fw1_0 := Nfw1_0; have cw1_1 := Ncw1_1; have fw1_1 := Nfw1_1; have cx_0 := Ncx_0; have cx_0f := Ncx_0f; have cx_1 := Ncx_1; have cx_1f := Ncx_1f; have hy0 := Nhy0; have hy1 := Nhy1; have hy_cx := Nhy_cx; clear Ncw0_0 Nfw0_0 Ncw0_1 Nfw0_1 Ncw1_0 Nfw1_0 Ncw1_1 Nfw1_1 Ncx_0 Ncx_0f Ncx_1 Ncx_1f Nhy0 Nhy1 Nhy_cx)
  have HAa := Lib.hid hAa; have HAb := Lib.hid hAb
  clear hAa hAb
  go_wp2
  (first | (refine bodyPost_ret (by simp [results, Try.results40, go_sem, cw0_0, cw0_1, cw1_0, cw1_1]; try rfl) rfl ?_) | (refine bodyPost_ret (by simp [results, Try.results40, go_sem]; try rfl) rfl ?_))
  refine ⟨ga, gb, rfl, ⟨?_, ?_, ?_, ?_, ?_, ?_, ?_⟩, by (repeat' (first | (with_reducible exact Below.refl _ _) | (with_reducible assumption) | (with_reducible refine Below.alloc ?_ ?_ _) | (with_reducible refine Below.drew ?_) | (with_reducible refine Below.drewN' ?_ _) | (with_reducible refine Below.setCell ?_ ?_ _) | (refine Below.via ?_ (by with_reducible assumption) ?_) | (with_reducible refine Below.via ?_ (Wd.h _) ?_) | go_size))⟩
  · exact (((HAa.out.far (by simp; omega) _).far (by simp; omega) _).far (by simp; omega) _)
  · omega
  · exact (((HAb.out.far (by simp; omega) _).far (by simp; omega) _).far (by simp; omega) _)
  · omega
  · omega
  · exact sa
  · exact sb
set_option maxRecDepth 100000 in
set_option maxHeartbeats 2000000 in
theorem laws_szHour (Aa Ab : Option Addr) (ca cb : Nat) (la lb : List Int) (left : Int) (w : World) (h0 : 0 ≤ left) (h1 : left ≤ 1048576) (sa : la.length ≤ 9223372036854775807) (sb : lb.length ≤ 9223372036854775807) :
    Calls Try.prog 36 #[.agg #[.slice Aa la.length ca, .slice Ab lb.length cb], .int .i64 left] w (SzPost w left (la.length + lb.length)) := by
  by_cases hra : szN left la.length < 0
  · (go_enter Try.func36, Try.ntmps36; go_wp2_with (first | (go_at_call 35; ((with_reducible refine (laws_szInt64S _ _ _ _ _ (by omega) (by omega) (by omega)).mono ?_)); rintro e wn ⟨rfl, rfl⟩)))
    all_goals first | (go_ret; exact ⟨-1, rfl, .inl rfl, by (repeat' (first | (with_reducible exact Below.refl _ _) | (with_reducible assumption) | (with_reducible refine Below.alloc ?_ ?_ _) | (with_reducible refine Below.drew ?_) | (with_reducible refine Below.drewN' ?_ _) | (with_reducible refine Below.setCell ?_ ?_ _) | (refine Below.via ?_ (by with_reducible assumption) ?_) | (with_reducible refine Below.via ?_ (Wd.h _) ?_) | go_size))⟩) | (exfalso; omega)
  have ea : szN (left) la.length = left - la.length := by unfold szN at hra ⊢; split at hra <;> (first | omega | (split <;> omega))
  have fa : 0 ≤ szN (left) la.length := by omega
  by_cases hrb : szN (szN (left) la.length) lb.length < 0
  · have Ea := Lib.hid ea; clear ea
    have hlea : szN (left) la.length ≤ 1048576 := by have := Ea.out; omega
    (go_enter Try.func36, Try.ntmps36; go_wp2_with (first | (go_at_call 35; ((with_reducible refine (laws_szInt64S _ _ _ _ _ (by omega) (by omega) (by omega)).mono ?_)); rintro e wn ⟨rfl, rfl⟩)))
    all_goals first | (go_ret; exact ⟨-1, rfl, .inl rfl, by (repeat' (first | (with_reducible exact Below.refl _ _) | (with_reducible assumption) | (with_reducible refine Below.alloc ?_ ?_ _) | (with_reducible refine Below.drew ?_) | (with_reducible refine Below.drewN' ?_ _) | (with_reducible refine Below.setCell ?_ ?_ _) | (refine Below.via ?_ (by with_reducible assumption) ?_) | (with_reducible refine Below.via ?_ (Wd.h _) ?_) | go_size))⟩) | (exfalso; omega)
  have eb : szN (szN (left) la.length) lb.length = szN (left) la.length - lb.length := by unfold szN at hrb ⊢; split at hrb <;> (first | omega | (split <;> omega))
  have fb : 0 ≤ szN (szN (left) la.length) lb.length := by omega
  have Ea := Lib.hid ea; clear ea; have Eb := Lib.hid eb; clear eb
  have lea : szN (left) la.length ≤ 1048576 := by have := Ea.out; omega
  have leb : szN (szN (left) la.length) lb.length ≤ 1048576 := by have := Ea.out; have := Eb.out; omega
  (go_enter Try.func36, Try.ntmps36; go_wp2_with (first | (go_at_call 35; ((with_reducible refine (laws_szInt64S _ _ _ _ _ (by omega) (by omega) (by omega)).mono ?_)); rintro e wn ⟨rfl, rfl⟩)))
  all_goals first | (go_ret; exact ⟨_, rfl, .inr ⟨by omega, by have := Ea.out; have := Eb.out; omega⟩, by (repeat' (first | (with_reducible exact Below.refl _ _) | (with_reducible assumption) | (with_reducible refine Below.alloc ?_ ?_ _) | (with_reducible refine Below.drew ?_) | (with_reducible refine Below.drewN' ?_ _) | (with_reducible refine Below.setCell ?_ ?_ _) | (refine Below.via ?_ (by with_reducible assumption) ?_) | (with_reducible refine Below.via ?_ (Wd.h _) ?_) | go_size))⟩) | (exfalso; omega)
set_option maxRecDepth 100000 in
set_option maxHeartbeats 2000000 in
theorem laws_eqHour (Aa Ab Ba Bb : Option Addr) (ca cb da db : Nat) (la lb : List Int) (w : World) (h : HouAt w Aa Ab la lb) (h' : HouAt w Ba Bb la lb) :
    Calls Try.prog 44 #[.agg #[.slice Aa la.length ca, .slice Ab lb.length cb], .agg #[.slice Ba la.length da, .slice Bb lb.length db]] w fun e w' => e = .returned (.bool true) ∧ Below w.heap.size w w' := by
  have H := Lib.hid h
  have H' := Lib.hid h'
  clear h h'
  go_enter Try.func44, Try.ntmps44
  go_wp2_with fail
  refine (laws_eqInt64S _ _ _ _ la _ (H.out.r1.below (by (repeat' (first | (with_reducible exact Below.refl _ _) | (with_reducible assumption) | (with_reducible refine Below.alloc ?_ ?_ _) | (with_reducible refine Below.drew ?_) | (with_reducible refine Below.drewN' ?_ _) | (with_reducible refine Below.setCell ?_ ?_ _) | (refine Below.via ?_ (by with_reducible assumption) ?_) | (with_reducible refine Below.via ?_ (Wd.h _) ?_) | go_size)))) (H'.out.r1.below (by (repeat' (first | (with_reducible exact Below.refl _ _) | (with_reducible assumption) | (with_reducible refine Below.alloc ?_ ?_ _) | (with_reducible refine Below.drew ?_) | (with_reducible refine Below.drewN' ?_ _) | (with_reducible refine Below.setCell ?_ ?_ _) | (refine Below.via ?_ (by with_reducible assumption) ?_) | (with_reducible refine Below.via ?_ (Wd.h _) ?_) | go_size)))) H.out.s1).mono ?_
  rintro e wn ⟨rfl, hbn⟩
  (obtain ⟨hcn, hfn⟩ := bcell hbn; have hzn := hbn.size; (try simp at hzn); have Ncw0_0 := hcn (w.heap.size) (0) (by first | omega | (simp; done) | (simp; omega)); have Nfw0_0 := hfn (w.heap.size) (0) (by first | omega | (simp; done) | (simp; omega)); have Nhy0 : w.heap.size < wn.heap.size := (by omega); have Ncw0_1 := hcn (w.heap.size) (1) (by first | omega | (simp; done) | (simp; omega)); have Nfw0_1 := hfn (w.heap.size) (1) (by first | omega | (simp; done) | (simp; omega)); have Ncw1_0 := hcn (w.heap.size + 1) (0) (by first | omega | (simp; done) | (simp; omega)); have Nfw1_0 := hfn (w.heap.size + 1) (0) (by first | omega | (simp; done) | (simp; omega)); have Nhy1 : w.heap.size + 1 < wn.heap.size := (by omega); have Ncw1_1 := hcn (w.heap.size + 1) (1) (by first | omega | (simp; done) | (simp; omega)); have Nfw1_1 := hfn (w.heap.size + 1) (1) (by first | omega | (simp; done) | (simp; omega)); (first | (simp [go_sem, cw0_0, fw0_0, cw0_1, fw0_1, cw1_0, fw1_0, cw1_1, fw1_1, hy0, hy1] at Ncw0_0 Nfw0_0 Ncw0_1 Nfw0_1 Ncw1_0 Nfw1_0 Ncw1_1 Nfw1_1; clear cw0_0 fw0_0 cw0_1 fw0_1 cw1_0 fw1_0 cw1_1 fw1_1) | (simp [go_sem] at Ncw0_0 Nfw0_0 Ncw0_1 Nfw0_1 Ncw1_0 Nfw1_0 Ncw1_1 Nfw1_1)); clear hcn hfn; have cw0_0 := Ncw0_0; have fw0_0 := Nfw0_0; have cw0_1 := Ncw0_1; have fw0_1 := Nfw0_1; have cw1_0 := Ncw1_0; have fw1_0 := Nfw1_0; have cw1_1 := Ncw1_1; have fw1_1 := Nfw1_1; have hy0 := Nhy0; have hy1 := Nhy1; clear Ncw0_0 Nfw0_0 Ncw0_1 Nfw0_1 Ncw1_0 Nfw1_0 Ncw1_1 Nfw1_1 Nhy0 Nhy1)
  go_wp2_with fail
  refine (laws_eqInt64S _ _ _ _ lb _ (H.out.r2.below (by (repeat' (first | (with_reducible exact Below.refl _ _) | (with_reducible assumption) | (with_reducible refine Below.alloc ?_ ?_ _) | (with_reducible refine Below.drew ?_) | (with_reducible refine Below.drewN' ?_ _) | (with_reducible refine Below.setCell ?_ ?_ _) | (refine Below.via ?_ (by with_reducible assumption) ?_) | (with_reducible refine Below.via ?_ (Wd.h _) ?_) | go_size)))) (H'.out.r2.below (by (repeat' (first | (with_reducible exact Below.refl _ _) | (with_reducible assumption) | (with_reducible refine Below.alloc ?_ ?_ _) | (with_reducible refine Below.drew ?_) | (with_reducible refine Below.drewN' ?_ _) | (with_reducible refine Below.setCell ?_ ?_ _) | (refine Below.via ?_ (by with_reducible assumption) ?_) | (with_reducible refine Below.via ?_ (Wd.h _) ?_) | go_size)))) H.out.s2).mono ?_
  rintro e wn ⟨rfl, hbn⟩
  (obtain ⟨hcn, hfn⟩ := bcell hbn; have hzn := hbn.size; (try simp at hzn); have Ncw0_0 := hcn (w.heap.size) (0) (by first | omega | (simp; done) | (simp; omega)); have Nfw0_0 := hfn (w.heap.size) (0) (by first | omega | (simp; done) | (simp; omega)); have Nhy0 : w.heap.size < wn.heap.size := (by omega); have Ncw0_1 := hcn (w.heap.size) (1) (by first | omega | (simp; done) | (simp; omega)); have Nfw0_1 := hfn (w.heap.size) (1) (by first | omega | (simp; done) | (simp; omega)); have Ncw1_0 := hcn (w.heap.size + 1) (0) (by first | omega | (simp; done) | (simp; omega)); have Nfw1_0 := hfn (w.heap.size + 1) (0) (by first | omega | (simp; done) | (simp; omega)); have Nhy1 : w.heap.size + 1 < wn.heap.size := (by omega); have Ncw1_1 := hcn (w.heap.size + 1) (1) (by first | omega | (simp; done) | (simp; omega)); have Nfw1_1 := hfn (w.heap.size + 1) (1) (by first | omega | (simp; done) | (simp; omega)); (first | (simp [go_sem, cw0_0, fw0_0, cw0_1, fw0_1, cw1_0, fw1_0, cw1_1, fw1_1, hy0, hy1] at Ncw0_0 Nfw0_0 Ncw0_1 Nfw0_1 Ncw1_0 Nfw1_0 Ncw1_1 Nfw1_1; clear cw0_0 fw0_0 cw0_1 fw0_1 cw1_0 fw1_0 cw1_1 fw1_1) | (simp [go_sem] at Ncw0_0 Nfw0_0 Ncw0_1 Nfw0_1 Ncw1_0 Nfw1_0 Ncw1_1 Nfw1_1)); clear hcn hfn; have cw0_0 := Ncw0_0; have fw0_0 := Nfw0_0; have cw0_1 := Ncw0_1; have fw0_1 := Nfw0_1; have cw1_0 := Ncw1_0; have fw1_0 := Nfw1_0; have cw1_1 := Ncw1_1; have fw1_1 := Nfw1_1; have hy0 := Nhy0; have hy1 := Nhy1; clear Ncw0_0 Nfw0_0 Ncw0_1 Nfw0_1 Ncw1_0 Nfw1_0 Ncw1_1 Nfw1_1 Nhy0 Nhy1)
  go_wp2
  go_ret
  exact ⟨rfl, by (repeat' (first | (with_reducible exact Below.refl _ _) | (with_reducible assumption) | (with_reducible refine Below.alloc ?_ ?_ _) | (with_reducible refine Below.drew ?_) | (with_reducible refine Below.drewN' ?_ _) | (with_reducible refine Below.setCell ?_ ?_ _) | (refine Below.via ?_ (by with_reducible assumption) ?_) | (with_reducible refine Below.via ?_ (Wd.h _) ?_) | go_size))⟩
set_option maxRecDepth 100000
section
open Go.Joins Go.ChangeShapes Go.WideShapes Go.ChangeAt Go.Deep
variable {H : Type} {enc : TypeId × Value → H} {w : World}
theorem cells_Hour : Try.prog.cellsOf 75 = 2 := by kernel_rfl
theorem open_hour' {r : Reach} {b0 : Nat} {v : Value} {d : DataW H} {p : List MemPlace} (hv : Value.okWide Try.prog w r b0 75 v) (h : DataW.Trod enc Try.prog w 0 (fun _ => true) true 75 v d p) :
    ∃ Aa ca la Ab cb lb, v = .agg #[.slice Aa la.length ca, .slice Ab lb.length cb] ∧ IntsIn w Aa la ∧ IntsIn w Ab lb := by
  obtain ⟨cs, n, rfl, hl, hf⟩ := agg_list Try.underlying75 (by kernel_rfl) cells_Hour hv h
  obtain ⟨u0, y0, c0, t0⟩ := hf 0 _ rfl
  obtain ⟨u1, y1, c1, t1⟩ := hf 1 _ rfl
  obtain ⟨Aa, ca, la, rfl, aa⟩ := trod_ints t0
  obtain ⟨Ab, cb, lb, rfl, ab⟩ := trod_ints t1
  match cs, hl with
  | [z0, z1], _ =>
    simp at c0 c1
    subst c0 c1
    exact ⟨Aa, ca, la, Ab, cb, lb, rfl, aa, ab⟩
end
end Go.Proofs.Ytijhadafmhbceaa
namespace Go.Proofs.Ytijhadafmhbceaa
set_option linter.unusedVariables false
set_option linter.unusedSimpArgs false
open Go.RowKit
def hsz (l : List Hr) : Nat := (l.map fun x => x.fl.length + x.su.length).sum
theorem hsz_snoc {l : List Hr} {k : Nat} {x : Hr} (h : l[k]? = some x) : hsz (l.take (k + 1)) = hsz (l.take k) + (x.fl.length + x.su.length) := by
  rw [List.take_add_one, h]; simp [hsz]
set_option maxRecDepth 100000 in
set_option maxHeartbeats 1000000 in
theorem laws_szHourS (A : Option Addr) (c : Nat) (l : List Hr) (left : Int) (w : World) (h : Rd w A (l.flatMap Hr.cells)) (h0 : 0 ≤ left) (h1 : left ≤ 1048576) (hl : l.length ≤ 9223372036854775807) (hok : ∀ x ∈ l, x.fl.length ≤ 9223372036854775807 ∧ x.su.length ≤ 9223372036854775807) :
    Calls Try.prog 13 #[.slice A l.length c, .int .i64 left] w (SzPost w left (l.length + hsz l)) := by
  have H := Lib.hid h
  have HO := Lib.hid hok
  clear h hok
  by_cases hn : left - (l.length : Int) < 0
  · go_enter Try.func13, Try.ntmps13
    go_wp2
    go_ret
    exact ⟨-1, rfl, .inl rfl, Below.refl _ _⟩
  · go_enter Try.func13, Try.ntmps13
    go_wp2
    go_loopw [1, 5] (fun u v wr => ∃ (k : Nat) (r : Int), k ≤ l.length ∧ v = .int .i64 k ∧ u = .int .i64 r ∧ 0 ≤ r ∧ r + l.length + hsz (l.take k) ≤ left ∧ Below w.heap.size w wr) (fun _ v _ => l.length - (intOf v).toNat)
    case atStart => exact ⟨0, _, by omega, rfl, rfl, by omega, (by first | (simp [hsz]; done) | (simp [hsz]; omega)), Below.refl _ _⟩
    case round =>
      obtain ⟨k, r, hk, rfl, rfl, hr0, hr1, hbw⟩ := hrel
      have hbH := Lib.hid hbw
      by_cases hlt : k < l.length
      · obtain ⟨x, hx⟩ := get_some hlt
        obtain ⟨b, off, rfl, hb, hat⟩ := H.out.opened (k := k) (by rw [flat_len Hr.len]; omega)
        have hat' := hat.below hbw hb
        have t0 := hat'.elem0 Hr.len hx rfl
        have t1 := hat'.elem Hr.len hx 1 rfl
        obtain ⟨hz1, hz2⟩ := HO.out x (List.mem_of_getElem? hx)
        have HSN := Lib.hid (hsz_snoc hx)
        have HR1 := Lib.hid hr1
        clear hx hat hat' hbw hr1
        have hr2 : r ≤ 1048576 := by have := HR1.out; omega
        go_wp2_with fail
        refine (laws_szHour _ _ _ _ x.fl x.su _ _ (by omega) (by omega) hz1 hz2).mono ?_
        rintro e wn ⟨r', rfl, hr', hbn⟩
        by_cases hneg : r' < 0
        · go_wp2
          go_ret
          exact ⟨-1, rfl, .inl rfl, Below.via hbH.out hbn hbH.out.size⟩
        · have hr3 : 0 ≤ r' ∧ r' + (x.fl.length + x.su.length : Nat) ≤ r := by omega
          obtain ⟨hr4, hr5⟩ := hr3
          have HR5 := Lib.hid hr5
          clear hr' hr5
          go_wp2
          go_roundw
          case rel => exact ⟨k + 1, _, by omega, by go_num, rfl, by omega, by have a := HSN.out; have b := HR1.out; have c := HR5.out; omega, Below.via hbH.out hbn hbH.out.size⟩
          case measure => simp [intOf]; omega
      · have hkl : k = l.length := by omega
        clear hbw
        go_wp2
        go_ret
        subst hkl
        rw [List.take_length] at hr1
        exact ⟨r, rfl, .inr ⟨by omega, by omega⟩, hbH.out⟩
/-- the blocks of an hour's lists -/
def onH (x : Hr) (k : Nat) : Prop := onA x.A k ∨ onA x.B k
/-- an hour in memory of the call's own -/
structure OwnHr (base : Nat) (w : World) (x : Hr) : Prop where
  r1 : Wr base w x.A x.fl.length (x.fl.map iV)
  r2 : Wr base w x.B x.su.length (x.su.map iV)
  d12 : ∀ k, onA x.A k → ¬ onA x.B k
  s1 : x.fl.length ≤ 1048576
  s2 : x.su.length ≤ 1048576
theorem OwnHr.at_ {base : Nat} {w : World} {x : Hr} (h : OwnHr base w x) : HrAt w x := ⟨h.r1.rd, h.r2.rd, h.s1, h.s2⟩
theorem OwnHr.below {base : Nat} {w w' : World} {x : Hr} (h : OwnHr base w x) (hb : Below w.heap.size w w') : OwnHr base w' x := ⟨h.r1.below hb, h.r2.below hb, h.d12, h.s1, h.s2⟩
theorem OwnHr.set_ {base : Nat} {w : World} {x : Hr} (h : OwnHr base w x) {p : Addr} (hp : p.block < base) (u : Value) : OwnHr base (w.setCell p u) x :=
  ⟨h.r1.set_ (fun k hk => by have := h.r1.lo k hk; omega) u, h.r2.set_ (fun k hk => by have := h.r2.lo k hk; omega) u, h.d12, h.s1, h.s2⟩
theorem OwnHr.keep {base : Nat} {S : Nat → Prop} {w w' : World} {x : Hr} (h : OwnHr base w x) (hk : Keep S w w') (hA : ∀ k, onH x k → ¬ S k) : OwnHr base w' x :=
  ⟨h.r1.keep hk (fun k q => hA k (.inl q)), h.r2.keep hk (fun k q => hA k (.inr q)), h.d12, h.s1, h.s2⟩
theorem OwnHr.lo {base : Nat} {w : World} {x : Hr} (h : OwnHr base w x) {k : Nat} (hk : onH x k) : base ≤ k := hk.elim (h.r1.lo k) (h.r2.lo k)
theorem OwnHr.hi {base : Nat} {w : World} {x : Hr} (h : OwnHr base w x) {k : Nat} (hk : onH x k) : k < w.heap.size := hk.elim (h.r1.hi k) (h.r2.hi k)
theorem OwnHr.lower {base base' : Nat} {w : World} {x : Hr} (h : OwnHr base w x) (hb : base' ≤ base) : OwnHr base' w x := ⟨h.r1.lower hb, h.r2.lower hb, h.d12, h.s1, h.s2⟩
/-- hours of the call's own that read as l -/
structure MadeHrs (w : World) (l ys : List Hr) (g : Nat) (w' : World) : Prop where
  q : ys.map Hr.q = l.map Hr.q
  ge : w.heap.size ≤ g
  arr : Arr w' g (l.length * 2) (ys.flatMap Hr.cells)
  own : ∀ x ∈ ys, OwnHr (w.heap.size + 1) w' x
  pw : ys.Pairwise fun x y => ∀ k, onH x k → ¬ onH y k
  gs : g = w.heap.size
  bl : Below w.heap.size w w'
theorem MadeHrs.len {w w' : World} {l ys : List Hr} {g : Nat} (h : MadeHrs w l ys g w') : ys.length = l.length := by have := congrArg List.length h.q; simpa using this
theorem info_Hour : (Try.prog.info? 40).map (fun i => (i.zero, i.size, i.bytes)) = some (some (.agg #[.slice none 0 0, .slice none 0 0]), 2, 48) := by kernel_rfl
set_option maxRecDepth 100000 in
set_option maxHeartbeats 2000000 in
theorem laws_toHourS (A : Option Addr) (c : Nat) (l : List Hr) (w : World) (h : Rd w A (l.flatMap Hr.cells)) (ha : ∀ x ∈ l, HrAt w x) (hl : l.length ≤ 1048576) :
    Calls Try.prog 16 #[.slice A l.length c] w fun e w' => ∃ (g : Nat) (ys : List Hr), e = .returned (.slice (some ⟨g, 0, none⟩) l.length l.length) ∧ MadeHrs w l ys g w' := by
  have hmk := make_rule (P := Try.prog) info_Hour Try.underlying31 l.length (by omega) (by omega)
  have H := Lib.hid h
  have HA := Lib.hid ha
  clear h ha
  go_enter Try.func16, Try.ntmps16
  go_wp2
  have ha := Arr.made w (.agg #[.slice none 0 0, .slice none 0 0]) l.length 2 40 rfl (by omega)
  have hb0 := (Below.refl w.heap.size w).alloc (Nat.le_refl _) (.cells (madeCells (Value.agg #[.slice none 0 0, .slice none 0 0]).cells (l.length * 2)) 40)
  clear hmk
  go_loopw [4] (fun v wr => ∃ (k : Nat) (ys : List Hr), k ≤ l.length ∧ v = .int .i64 k ∧ ys.map Hr.q = (l.take k).map Hr.q ∧ Arr wr w.heap.size (l.length * 2) (ys.flatMap Hr.cells) ∧ (∀ x ∈ ys, OwnHr (w.heap.size + 1) wr x) ∧ (ys.Pairwise fun x y => ∀ k, onH x k → ¬ onH y k) ∧ Below w.heap.size w wr) (fun v _ => l.length - (intOf v).toNat)
  case atStart => exact ⟨0, [], by omega, rfl, rfl, by simpa [Value.cells] using ha, (by intro x hx; cases hx), List.Pairwise.nil, by simpa [Value.cells] using hb0⟩
  case round =>
    obtain ⟨k, ys, hk, rfl, hq, hA, hO, hP, hbw⟩ := hrel
    have HPW := Lib.hid hP
    have HAR := Lib.hid hA
    have HOW := Lib.hid hO
    have HQ := Lib.hid hq
    have hbH := Lib.hid hbw
    have hyl : ys.length = k := by have := congrArg List.length hq; simp at this; omega
    have HYL := Lib.hid hyl
    clear ha hb0 hq hO hyl hP
    by_cases hlt : k < l.length
    · obtain ⟨x, hx⟩ := get_some hlt
      obtain ⟨b, off, rfl, hb, hat⟩ := H.out.opened (k := k) (by rw [flat_len Hr.len]; omega)
      have hat' := hat.below hbw hb
      have t0 := hat'.elem0 Hr.len hx rfl
      have t1 := hat'.elem Hr.len hx 1 rfl
      have hax := HA.out x (List.mem_of_getElem? hx)
      have HAX := Lib.hid (hax.below hbw)
      have HX := Lib.hid hx
      clear hx hA hat hat' hbw hax
      go_wp2_with fail
      refine (laws_toHour _ _ _ _ x.fl x.su _ HAX.out.r1 HAX.out.r2 HAX.out.s1 HAX.out.s2).mono ?_
      rintro e wn ⟨ga, gb, rfl, hm, hbn⟩
      have hA2 := HAR.out.below hbn HAR.out.lt
      have HA2 := Lib.hid hA2
      have HM := Lib.hid hm
      obtain ⟨u0, s0⟩ := hA2.some_ (j := k * 2) (by omega)
      have g0 := hA2.free (j := k * 2) (by omega)
      obtain ⟨u1, s1⟩ := hA2.some_ (j := k * 2 + 1) (by omega)
      have g1 := hA2.free (j := k * 2 + 1) (by omega)
      have hlw := HAR.out.lt
      clear hA2 hm
      have hbn2 : Below w.heap.size w wn := Below.via hbH.out hbn hbH.out.size
      have HB2 := Lib.hid hbn2
      have HBN := Lib.hid hbn
      clear hbn hbn2
      go_wp2
      go_roundw
      case rel =>
        refine ⟨k + 1, ys ++ [⟨some ⟨ga, 0, none⟩, some ⟨gb, 0, none⟩, x.fl.length, x.su.length, x.fl, x.su⟩], by omega, by go_num, ?_, ?_, ?_, ?_, ?_⟩
        · rw [List.take_add_one, HX.out]; simp [HQ.out]
        · have hlen : (ys.flatMap Hr.cells).length = k * 2 := by rw [flat_len Hr.len, HYL.out]
          have := ((HA2.out.push (k * 2) (by simp [hlen]) (by omega) (.slice (some ⟨ga, 0, none⟩) x.fl.length x.fl.length)).push (k * 2 + 1) (by simp [hlen]) (by omega) (.slice (some ⟨gb, 0, none⟩) x.su.length x.su.length))
          simpa [Hr.cells, List.append_assoc] using this
        · intro y hy
          have hm := HM.out
          refine OwnHr.set_ (OwnHr.set_ ?_ (by simp) _) (by simp) _
          rcases List.mem_append.1 hy with h1 | h1
          · exact (HOW.out y h1).below HBN.out
          · obtain rfl := List.mem_singleton.1 h1
            have ga1 := hm.gea
            have gb1 := hm.geb
            refine ⟨Wr.of_arr (by omega) hm.ara, Wr.of_arr (by omega) hm.arb, fun k a b => ?_, hm.sza, hm.szb⟩
            rw [onA_some] at a b
            exact hm.neab (a.symm.trans b)
        · refine List.pairwise_append.2 ⟨HPW.out, List.pairwise_singleton _ _, fun y hy z hz k a b => ?_⟩
          obtain rfl := List.mem_singleton.1 hz
          have h1 := (HOW.out y hy).hi a
          have ga1 := HM.out.gea
          have gb1 := HM.out.geb
          rcases b with b | b <;> (rw [onA_some] at b; omega)
        · have := HB2.out; (repeat' (first | (with_reducible exact Below.refl _ _) | (with_reducible assumption) | (with_reducible refine Below.alloc ?_ ?_ _) | (with_reducible refine Below.drew ?_) | (with_reducible refine Below.drewN' ?_ _) | (with_reducible refine Below.setCell ?_ ?_ _) | (refine Below.via ?_ (by with_reducible assumption) ?_) | (with_reducible refine Below.via ?_ (Wd.h _) ?_) | go_size))
      case measure => simp [intOf]; omega
    · have hkl : k = l.length := by omega
      clear hA hbw
      go_wp2
      go_ret
      refine ⟨w.heap.size, ys, rfl, ?_, Nat.le_refl _, HAR.out, HOW.out, HPW.out, rfl, hbH.out⟩
      rw [HQ.out, hkl, List.take_length]
set_option maxRecDepth 100000 in
set_option maxHeartbeats 2000000 in
theorem laws_eqHourS (A B : Option Addr) (c d : Nat) (l ys : List Hr) (w : World) (h : Rd w A (l.flatMap Hr.cells)) (h' : Rd w B (ys.flatMap Hr.cells)) (ha : ∀ x ∈ l, HrAt w x) (hb : ∀ x ∈ ys, HrAt w x) (hq : l.map Hr.q = ys.map Hr.q) (hl : l.length ≤ 1048576) :
    Calls Try.prog 19 #[.slice A l.length c, .slice B ys.length d] w fun e w' => e = .returned (.bool true) ∧ Below w.heap.size w w' := by
  have H := Lib.hid h
  have H' := Lib.hid h'
  have HA := Lib.hid ha
  have HB := Lib.hid hb
  have HQ := Lib.hid hq
  have hyl : ys.length = l.length := by have := congrArg List.length hq; simpa using this.symm
  have hyl1 : ys.length ≤ l.length := by omega
  have hyl2 : l.length ≤ ys.length := by omega
  have b0 : ((l.length : Int) == (ys.length : Int)) = true := by simp; omega
  rw [hyl]
  clear h h' ha hb hq hyl b0
  go_enter Try.func19, Try.ntmps19
  go_wp2
  go_loopw [5] (fun v wr => ∃ k : Nat, k ≤ l.length ∧ v = .int .i64 k ∧ Below w.heap.size w wr) (fun v _ => l.length - (intOf v).toNat)
  case atStart => exact ⟨0, by omega, rfl, Below.refl _ _⟩
  case round =>
    obtain ⟨k, hk, rfl, hbw⟩ := hrel
    have hbH := Lib.hid hbw
    by_cases hlt : k < l.length
    · obtain ⟨x, hx⟩ := get_some hlt
      obtain ⟨y, hy⟩ := get_some (show k < ys.length by omega)
      obtain ⟨b, off, rfl, hb, hat⟩ := H.out.opened (k := k) (by rw [flat_len Hr.len]; omega)
      obtain ⟨b', off', rfl, hb', hat'⟩ := H'.out.opened (k := k) (by rw [flat_len Hr.len]; omega)
      have hat2 := hat.below hbw hb
      have hat2' := hat'.below hbw hb'
      have hbr : b < wr.heap.size := Nat.lt_of_lt_of_le hb hbw.size
      have hbr' : b' < wr.heap.size := Nat.lt_of_lt_of_le hb' hbw.size
      have q0_0 := Wd.cell hbr (hat2.elem0 Hr.len hx rfl)
      have q0_1 := Wd.cell hbr' (hat2'.elem0 Hr.len hy rfl)
      have q1_0 := Wd.cell hbr (hat2.elem Hr.len hx 1 rfl)
      have q1_1 := Wd.cell hbr' (hat2'.elem Hr.len hy 1 rfl)
      have hxy : Hr.q x = Hr.q y := by
        have e1 := q_at hx
        have e2 := q_at hy
        rw [HQ.out] at e1
        rw [e1] at e2
        exact Option.some.inj e2
      have hax := (HA.out x (List.mem_of_getElem? hx)).below hbw
      have hay := (HB.out y (List.mem_of_getElem? hy)).below hbw
      obtain ⟨xA, xB, xc, xd, fl, su⟩ := x
      obtain ⟨yA, yB, yc, yd, fl', su'⟩ := y
      obtain ⟨rfl, rfl⟩ : fl = fl' ∧ su = su' := ⟨congrArg Prod.fst hxy, congrArg Prod.snd hxy⟩
      have HH := Lib.hid (show HouAt wr xA xB fl su from ⟨hax.r1, hax.r2, hax.s1, hax.s2⟩)
      have HH' := Lib.hid (show HouAt wr yA yB fl su from ⟨hay.r1, hay.r2, hay.s1, hay.s2⟩)
      clear hx hy hat hat' hat2 hat2' hbw hbr hbr' hxy hax hay
      go_wp2_with fail
      refine wp_region_wd (by kernel_rfl) (by kernel_rfl) ?_
      repeat (go_big_quiet_step ((go_at_call 44; exact wd_below (laws_eqHour _ _ _ _ _ _ _ _ fl su _ (HH.out.below (Wd.h _)) (HH'.out.below (Wd.h _))))))
      refine wpQuiet_nil ?_
      rintro w2 ⟨⟨w'', hbn⟩, hw''⟩
      obtain rfl : w2 = w'' := hw''
      clear q0_0 q0_1 q1_0 q1_1
      go_wp2
      go_roundw
      case rel => exact ⟨k + 1, by omega, by go_num, Below.via hbH.out hbn hbH.out.size⟩
      case measure => simp [intOf]; omega
    · clear hbw
      go_wp2
      go_ret
      exact ⟨rfl, hbH.out⟩
theorem pw_take {l : List Hr} {k : Nat} {x y : Hr} {R : Hr → Hr → Prop} (h : l.Pairwise R) (hx : l[k]? = some x) (hy : y ∈ l.take k) : R y x := by
  have e := List.take_append_drop k l
  rw [drop_consI hx] at e
  rw [← e] at h
  exact (List.pairwise_append.1 h).2.2 y hy x (List.mem_cons_self ..)
set_option maxRecDepth 100000 in
set_option maxHeartbeats 4000000 in
theorem laws_markHourS (base : Nat) (A : Option Addr) (c : Nat) (k0 : Int) (ys : List Hr) (w : World) (h : Rd w A (ys.flatMap Hr.cells)) (hA : ∀ k, onA A k → ∀ x ∈ ys, ¬ onH x k) (ho : ∀ x ∈ ys, OwnHr base w x) (hp : ys.Pairwise fun x y => ∀ k, onH x k → ¬ onH y k) (hl : ys.length ≤ 1048576) (hs : hsz ys ≤ 2097152) (h0 : 0 ≤ k0) (h1 : k0 ≤ 100000000000) :
    Calls Try.prog 22 #[.slice A ys.length c, .int .i64 k0] w (MarkIn w (fun k => ∃ x ∈ ys, onH x k) k0 (hsz ys)) := by
  have H := Lib.hid h
  have HA := Lib.hid hA
  have HO := Lib.hid ho
  have HP := Lib.hid hp
  have HS := Lib.hid hs
  clear h hA ho hp hs
  go_enter Try.func22, Try.ntmps22
  go_wp2
  go_loopw [1, 5] (fun u v wr => ∃ (k : Nat) (z : Int), k ≤ ys.length ∧ v = .int .i64 k ∧ u = .int .i64 z ∧ z = k0 + hsz (ys.take k) ∧ Keep (fun q => ∃ x ∈ ys.take k, onH x q) w wr) (fun _ v _ => ys.length - (intOf v).toNat)
  case atStart => exact ⟨0, k0, by omega, rfl, rfl, by simp [hsz], Keep.refl _ _⟩
  case round =>
    obtain ⟨k, z, hk, rfl, rfl, hz, hK⟩ := hrel
    have HK := Lib.hid hK
    have HZ := Lib.hid hz
    clear hz
    by_cases hlt : k < ys.length
    · obtain ⟨x, hx⟩ := get_some hlt
      obtain ⟨b, off, rfl, hb, hat⟩ := H.out.opened (k := k) (by rw [flat_len Hr.len]; omega)
      have hmem := List.mem_of_getElem? hx
      have hnb : ¬ ∃ y ∈ ys.take k, onH y b := fun ⟨y, hy, hq⟩ => HA.out b ⟨off, rfl⟩ y (List.mem_of_mem_take hy) hq
      have hnx : ¬ onA x.A b := fun q => HA.out b ⟨off, rfl⟩ x hmem (.inl q)
      have t0 := (hK.cell b _ hb hnb).trans (hat.elem0 Hr.len hx rfl)
      have t1 := (hK.cell b _ hb hnb).trans (hat.elem Hr.len hx 1 rfl)
      have hox : OwnHr base wr x := (HO.out x hmem).keep hK (fun q a ⟨y, hy, c⟩ => pw_take HP.out hx hy q c a)
      have HOX := Lib.hid hox
      have hbr : b < wr.heap.size := Nat.lt_of_lt_of_le hb hK.size
      have HSN := Lib.hid (hsz_snoc hx)
      have hle : hsz (ys.take k) + (x.fl.length + x.su.length) ≤ hsz ys := by
        rw [← hsz_snoc hx]
        have e : hsz ys = hsz (ys.take (k + 1)) + hsz (ys.drop (k + 1)) := by
          unfold hsz
          rw [← List.sum_append, ← List.map_append, List.take_append_drop]
        omega
      have hz2 : 0 ≤ z ∧ z ≤ 100002097152 := by have := HZ.out; have := HS.out; omega
      obtain ⟨hz3, hz4⟩ := hz2
      have HX := Lib.hid hx
      have HNX := Lib.hid hnx
      clear hx hat hK hnb hmem hle hox hnx
      go_wp2_with fail
      refine (laws_markInt64S base _ _ _ _ _ _ HOX.out.r1 HOX.out.s1 (by omega) (by omega)).mono ?_
      rintro e w1 ⟨rfl, hm1, hk1⟩
      have t2 := (hk1.cell b _ hbr HNX.out).trans t1
      have t3 := (hk1.cell b _ hbr HNX.out).trans t0
      have HR2 := Lib.hid (HOX.out.r2.keep hk1 (fun q a c => HOX.out.d12 q c a))
      have HK1 := Lib.hid hk1
      have hbr1 : b < w1.heap.size := Nat.lt_of_lt_of_le hbr hk1.size
      have hs1 := HOX.out.s1
      clear hm1 hk1 t0 t1
      go_wp2_with fail
      refine (laws_markInt64S base _ _ _ _ _ _ HR2.out HOX.out.s2 (by omega) (by omega)).mono ?_
      rintro e w2 ⟨rfl, hm2, hk2⟩
      have HK2 := Lib.hid hk2
      have hs2 := HOX.out.s2
      clear hm2 hk2 t2 t3
      go_wp2
      go_roundw
      case rel =>
        refine ⟨k + 1, _, by omega, by go_num, rfl, by have a := HSN.out; have b := HZ.out; omega, ?_⟩
        have hin : x ∈ ys.take (k + 1) := by rw [List.take_add_one, HX.out]; simp
        have hsub : ∀ y, y ∈ ys.take k → y ∈ ys.take (k + 1) := fun y hy => by rw [List.take_add_one]; exact List.mem_append_left _ hy
        exact ((HK.out.mono fun q ⟨y, hy, c⟩ => ⟨y, hsub y hy, c⟩).trans (HK1.out.mono fun q c => ⟨x, hin, .inl c⟩)).trans (HK2.out.mono fun q c => ⟨x, hin, .inr c⟩)
      case measure => simp [intOf]; omega
    · have hkl : k = ys.length := by omega
      clear hK
      go_wp2
      go_ret
      subst hkl
      have hz5 := HZ.out
      have hk5 := HK.out
      rw [List.take_length] at hz5 hk5
      exact ⟨_, rfl, by omega, by omega, hk5⟩
end Go.Proofs.Ytijhadafmhbceaa
namespace Go.Proofs.Ytijhadafmhbceaa
set_option linter.unusedVariables false
set_option linter.unusedSimpArgs false
open Go.RowKit
/-- hours in memory that read as l, their lists' addresses told by ys -/
structure HrsAt (w : World) (A : Option Addr) (ys l : List Hr) : Prop where
  rd : Rd w A (ys.flatMap Hr.cells)
  at_ : ∀ x ∈ ys, HrAt w x
  q : ys.map Hr.q = l.map Hr.q
theorem HrsAt.below {w w' : World} {A : Option Addr} {ys l : List Hr} (h : HrsAt w A ys l) (hb : Below w.heap.size w w') : HrsAt w' A ys l := ⟨h.rd.below hb, fun x hx => (h.at_ x hx).below hb, h.q⟩
theorem HrsAt.len {w : World} {A : Option Addr} {ys l : List Hr} (h : HrsAt w A ys l) : ys.length = l.length := by have := congrArg List.length h.q; simpa using this
theorem MadeHrs.hrs {w w' : World} {l ys : List Hr} {g : Nat} (h : MadeHrs w l ys g w') : HrsAt w' (some ⟨g, 0, none⟩) ys l :=
  ⟨(Wr.of_arr h.ge h.arr).rd, fun x hx => (h.own x hx).at_, h.q⟩
theorem impl_RunHoursQ (A B Al Ah An H : Option Addr) (n c m d nl nh nn cl ch cn nH ce : Nat) (N : Net) (ll lh ln : List Int) (ys l : List Hr) (w : World) (hN : NetAt w A B N) (hn : n = N.nodes.length) (hm : m = N.pipes.length) (hc : n ≤ c) (h : BufAt w Al Ah An ll lh ln) (e1 : nl = ll.length) (e2 : nh = lh.length) (e3 : nn = ln.length) (hH : HrsAt w H ys l) (hl : l.length ≤ 1048576) (eH : nH = l.length) :
    Calls Try.prog 7 #[netV A B n c m d, bufV Al Ah An nl nh nn cl ch cn, .slice H nH ce] w (MadeBII w (rhR N ll lh ln (l.map Hr.q)).1 (rhR N ll lh ln (l.map Hr.q)).2.1 (rhR N ll lh ln (l.map Hr.q)).2.2) := by
  have e := hH.len
  rw [eH, ← e, ← hH.q]
  exact impl_RunHours A B Al Ah An H n c m d nl nh nn cl ch cn ce N ll lh ln ys w hN hn hm hc h e1 e2 e3 hH.rd hH.at_ (by omega)
theorem spec_RunHoursQ (A B Al Ah An H : Option Addr) (n c m d nl nh nn cl ch cn nH ce : Nat) (N : Net) (ll lh ln : List Int) (ys l : List Hr) (w : World) (hN : NetAt w A B N) (hn : n = N.nodes.length) (hm : m = N.pipes.length) (h : BufAt w Al Ah An ll lh ln) (e1 : nl = ll.length) (e2 : nh = lh.length) (e3 : nn = ln.length) (hH : HrsAt w H ys l) (hl : l.length ≤ 1048576) (eH : nH = l.length) :
    Calls Try.prog 8 #[netV A B n c m d, bufV Al Ah An nl nh nn cl ch cn, .slice H nH ce] w (MadeBII w (rhR N ll lh ln (l.map Hr.q)).1 (rhR N ll lh ln (l.map Hr.q)).2.1 (rhR N ll lh ln (l.map Hr.q)).2.2) := by
  have e := hH.len
  rw [eH, ← e, ← hH.q]
  exact spec_RunHours A B Al Ah An H n c m d nl nh nn cl ch cn ce N ll lh ln ys w hN hn hm h e1 e2 e3 hH.rd hH.at_ (by omega)
abbrev csR (R : Bfs) (ρ : Rz) : List Value := [.slice (ρ.a 0) R.lo.length (ρ.c 0), .slice (ρ.a 1) R.hi.length (ρ.c 1), .slice (ρ.a 2) R.nw.length (ρ.c 2)]
abbrev z3 : List Value := [.slice none 0 0, .slice none 0 0, .slice none 0 0]
/-- what holds while the operations of such a region come up -/
structure W3 (w0 : World) (N : Net) (ll lh ln : List Int) (l : List Hr) (R : Bfs) (L : Nat → Bool) (ρ : Rz × List Hr) (w : World) : Prop where
  wb : WB w0 [(6, 0, R.lo), (6, 1, R.hi), (6, 2, R.nw)] 11 12 z3 (csR R) L ρ.1 w
  p1 : L 1 = true → L 6 = false → NetAt w (ρ.1.a 20) (ρ.1.a 21) N
  p3 : L 3 = true → L 6 = false → BufAt w (ρ.1.a 22) (ρ.1.a 23) (ρ.1.a 24) ll lh ln
  p5 : L 5 = true → L 6 = false → HrsAt w (ρ.1.a 25) ρ.2 l
section
variable {w0 w w' : World} {N : Net} {ll lh ln : List Int} {l : List Hr} {R : Bfs} {L : Nat → Bool} {ρ : Rz × List Hr}
theorem W3.bl (h : W3 w0 N ll lh ln l R L ρ w) : Below w0.heap.size w0 w := h.wb.bl
theorem W3.start (h : Below w0.heap.size w0 w) : W3 w0 N ll lh ln l R (fun _ => false) ρ w := ⟨WB.start h, (fun e => by cases e), (fun e => by cases e), (fun e => by cases e)⟩
theorem W3.pure (h : W3 w0 N ll lh ln l R L ρ w) {i : Nat} (h0 : [1, 3, 5, 6, 11, 12].contains i = false) : W3 w0 N ll lh ln l R (upd L i) ρ w := by
  simp at h0
  obtain ⟨h1, h3, h5, h6, h11, h12⟩ := h0
  refine ⟨h.wb.pure (by simp; omega) (by omega) (by omega), ?_, ?_, ?_⟩ <;> simp only [upd_ne (Ne.symm h1), upd_ne (Ne.symm h3), upd_ne (Ne.symm h5), upd_ne (Ne.symm h6)]
  · exact h.p1
  · exact h.p3
  · exact h.p5
theorem W3.l1 (h : W3 w0 N ll lh ln l R L ρ w) {A B : Option Addr} (hb : Below w.heap.size w w') (hN : NetAt w' A B N) : W3 w0 N ll lh ln l R (upd L 1) ((ρ.1.list 20 A 0).list 21 B 0, ρ.2) w' := by
  refine ⟨(h.wb.below (i := 1) rfl (by omega) (by omega) hb).other (fun i j l' hm => by simp at hm; rcases hm with ⟨-, rfl, -⟩ | ⟨-, rfl, -⟩ | ⟨-, rfl, -⟩ <;> rfl) rfl rfl, fun _ _ => hN, ?_, ?_⟩
  · rw [upd_ne (by omega), upd_ne (by omega)]; exact fun a b => (h.p3 a b).below hb
  · rw [upd_ne (by omega), upd_ne (by omega)]; exact fun a b => (h.p5 a b).below hb
theorem W3.l3 (h : W3 w0 N ll lh ln l R L ρ w) {A B C : Option Addr} (hb : Below w.heap.size w w') (hN : BufAt w' A B C ll lh ln) : W3 w0 N ll lh ln l R (upd L 3) (((ρ.1.list 22 A 0).list 23 B 0).list 24 C 0, ρ.2) w' := by
  refine ⟨(h.wb.below (i := 3) rfl (by omega) (by omega) hb).other (fun i j l' hm => by simp at hm; rcases hm with ⟨-, rfl, -⟩ | ⟨-, rfl, -⟩ | ⟨-, rfl, -⟩ <;> rfl) rfl rfl, ?_, fun _ _ => hN, ?_⟩
  · rw [upd_ne (by omega), upd_ne (by omega)]; exact fun a b => (h.p1 a b).below hb
  · rw [upd_ne (by omega), upd_ne (by omega)]; exact fun a b => (h.p5 a b).below hb
theorem W3.l5 (h : W3 w0 N ll lh ln l R L ρ w) {A : Option Addr} {ys : List Hr} (hb : Below w.heap.size w w') (hN : HrsAt w' A ys l) : W3 w0 N ll lh ln l R (upd L 5) (ρ.1.list 25 A 0, ys) w' := by
  refine ⟨(h.wb.below (i := 5) rfl (by omega) (by omega) hb).other (fun i j l' hm => by simp at hm; rcases hm with ⟨-, rfl, -⟩ | ⟨-, rfl, -⟩ | ⟨-, rfl, -⟩ <;> rfl) rfl rfl, ?_, ?_, fun _ _ => hN⟩
  · rw [upd_ne (by omega), upd_ne (by omega)]; exact fun a b => (h.p1 a b).below hb
  · rw [upd_ne (by omega), upd_ne (by omega)]; exact fun a b => (h.p3 a b).below hb
theorem W3.l6 (h : W3 w0 N ll lh ln l R L ρ w) {A B C : Option Addr} {c1 c2 c3 : Nat} (hks : L 12 = false) (hb : Below w.heap.size w w') (hw : BufW w.heap.size w' A B C R.lo R.hi R.nw) : W3 w0 N ll lh ln l R (upd L 6) (((ρ.1.list 0 A c1).list 1 B c2).list 2 C c3, ρ.2) w' :=
  ⟨h.wb.three (by omega) (by omega) hks hb hw, (fun _ e => by rw [upd_self] at e; cases e), (fun _ e => by rw [upd_self] at e; cases e), (fun _ e => by rw [upd_self] at e; cases e)⟩
theorem W3.l11 (h : W3 w0 N ll lh ln l R L ρ w) (hks : L 12 = false) (hb : Below w.heap.size w w') (hx : Bx w' w.heap.size z3) : W3 w0 N ll lh ln l R (upd L 11) (ρ.1.box w.heap.size, ρ.2) w' := by
  refine ⟨h.wb.boxed rfl (by omega) hks hb hx, ?_, ?_, ?_⟩
  · rw [upd_ne (by omega), upd_ne (by omega)]; exact fun a b => (h.p1 a b).below hb
  · rw [upd_ne (by omega), upd_ne (by omega)]; exact fun a b => (h.p3 a b).below hb
  · rw [upd_ne (by omega), upd_ne (by omega)]; exact fun a b => (h.p5 a b).below hb
theorem W3.l12 (h : W3 w0 N ll lh ln l R L ρ w) (h6 : L 6 = true) (hL : L 11 = true) (hk : Keep (· = ρ.1.b) w w') (hx : Bx w' ρ.1.b (csR R ρ.1)) : W3 w0 N ll lh ln l R (upd L 12) ρ w' := by
  refine ⟨h.wb.store rfl (by omega) hL hk hx, ?_, ?_, ?_⟩ <;> (rw [upd_ne (by omega), upd_ne (by omega)]; intro a b; rw [h6] at b; cases b)
/-- at the region's end -/
theorem W3.fin (h : W3 w0 N ll lh ln l R L ρ w) (hall : ∀ i, i < 15 → L i = true) : w0.heap.size ≤ ρ.1.b ∧ Bx w ρ.1.b (csR R ρ.1) ∧ BufW w0.heap.size w (ρ.1.a 0) (ρ.1.a 1) (ρ.1.a 2) R.lo R.hi R.nw ∧ Off ρ.1.b (ρ.1.a 0) (ρ.1.a 1) (ρ.1.a 2) := by
  have h6 := hall 6 (by omega)
  obtain ⟨p, q, r⟩ := h.wb.b0 (hall 11 (by omega))
  have d := h.wb.ds
  refine ⟨p, h.wb.b2 (hall 12 (by omega)), ⟨h.wb.md 6 0 R.lo (by simp) h6, h.wb.md 6 1 R.hi (by simp) h6, h.wb.md 6 2 R.nw (by simp) h6, d 6 0 R.lo 6 1 R.hi (by simp) (by simp) h6 h6 (by omega), d 6 0 R.lo 6 2 R.nw (by simp) (by simp) h6 h6 (by omega), d 6 1 R.hi 6 2 R.nw (by simp) (by simp) h6 h6 (by omega)⟩, ⟨?_, ?_, ?_⟩⟩
  · intro k hk e; exact r 6 0 R.lo (by simp) h6 (e ▸ hk)
  · intro k hk e; exact r 6 1 R.hi (by simp) h6 (e ▸ hk)
  · intro k hk e; exact r 6 2 R.nw (by simp) h6 (e ▸ hk)
end
end Go.Proofs.Ytijhadafmhbceaa
namespace Go.Proofs.Ytijhadafmhbceaa
set_option linter.unusedVariables false
set_option linter.unusedSimpArgs false
open Go.Joins Go.ChangeShapes Go.WideShapes Go.ChangeAt Go.RowKit Go.Deep
set_option maxRecDepth 100000
/-- an hour as it came in -/
structure HrIn (w : World) (x : Hr) : Prop where
  a : IntsIn w x.A x.fl
  b : IntsIn w x.B x.su
section
variable {H : Type} {enc : TypeId × Value → H} {w : World}
theorem cells_Hour' : Try.prog.cellsOf 75 = 2 := by kernel_rfl
theorem trod_HourS {fuel : Nat} {v : Value} {y : DataW H × List MemPlace} (h : DataW.trod enc Try.prog w 0 (fun _ => true) true fuel 46 [v] = some y) :
    ∃ A c, ∃ l : List Hr, v = .slice A l.length c ∧ Rd w A (l.flatMap Hr.cells) ∧ l.length ≤ 9223372036854775807 ∧ ∀ x ∈ l, HrIn w x := by
  rcases open_recs Try.underlying46 Try.underlying75 (by kernel_rfl) cells_Hour' h with hcs | ⟨a, len, c, hcs, hl, hm, hi⟩
  · simp at hcs
    exact ⟨none, 0, [], by rw [hcs]; rfl, Rd.nil, Nat.zero_le _, by simp⟩
  · simp at hcs
    have hcap : c ≤ 9223372036854775807 := by unfold maxLen at hm; omega
    by_cases h0 : len = 0
    · subst h0
      exact ⟨some a, c, [], by rw [hcs]; rfl, Rd.nil, Nat.zero_le _, by simp⟩
    · obtain ⟨b, off, spot⟩ := a
      obtain ⟨n0, hi0⟩ := hi 0 (by omega)
      obtain ⟨v0, _, h00, _⟩ := hi0 0 _ rfl
      have h00' : w.cell? ⟨b, off, spot⟩ = some v0 := by simpa [Addr.add] using h00
      have hsp : spot = none := World.cell?_spot h00'
      subst hsp
      obtain ⟨l, hll, hlo, hr⟩ := rows_of Hr.cells (HrIn w) 2 Hr.len w b off len (fun i hlt => by
        obtain ⟨n, hf⟩ := hi i hlt
        obtain ⟨u0, y0, c0, t0⟩ := hf 0 _ rfl
        obtain ⟨u1, y1, c1, t1⟩ := hf 1 _ rfl
        obtain ⟨Aa, ca, la, rfl, aa⟩ := trod_ints t0
        obtain ⟨Ab, cb, lb, rfl, ab⟩ := trod_ints t1
        rw [add_none] at c0
        rw [add_none] at c1
        refine ⟨⟨Aa, Ab, ca, cb, la, lb⟩, ⟨aa, ab⟩, fun j v e => ?_⟩
        match j, e with
        | 0, e => simp [Hr.cells] at e; subst e; exact c0
        | 1, e => simp [Hr.cells] at e; subst e; exact c1
        | j + 2, e => simp [Hr.cells] at e)
      subst hll
      exact ⟨some ⟨b, off, none⟩, c, l, hcs, Rd.mk hr (block_lt h00'), by omega, hlo⟩
theorem open_HourS' {r : Reach} {b0 : Nat} {v : Value} {d : DataW H} {p : List MemPlace} (hv : Value.okWide Try.prog w r b0 46 v) (h : DataW.Trod enc Try.prog w 0 (fun _ => true) true 46 v d p) :
    ∃ A c, ∃ l : List Hr, v = .slice A l.length c ∧ Rd w A (l.flatMap Hr.cells) ∧ l.length ≤ 9223372036854775807 ∧ ∀ x ∈ l, HrIn w x := by
  obtain ⟨A, len, cap, rfl⟩ := okWide_slice Try.underlying46 hv
  obtain ⟨fuel, hf⟩ := h
  exact trod_HourS hf
end
end Go.Proofs.Ytijhadafmhbceaa

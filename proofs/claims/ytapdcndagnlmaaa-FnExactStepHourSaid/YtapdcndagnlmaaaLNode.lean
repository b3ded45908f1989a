/- The laws' helpers on Node: copies, sizes, comparison. -/
import Derived.Test.YtapdcndagnlmaaaRows
import Derived.Test.YtapdcndagnlmaaaDat
import Derived.Test.YtapdcndagnlmaaaAQ
import Derived.WalkKit
namespace Go.Proofs.Ytapdcndagnlmaaa
set_option linter.unusedVariables false
set_option linter.unusedSimpArgs false
open Go.RowKit
set_option maxRecDepth 100000 in
set_option maxHeartbeats 1000000 in
theorem laws_toNode (a0 : ByteArray) (a1 : Int) (a2 : Int) (w : World) :
    Calls Try.prog 51 #[.agg #[.string a0, .int .i64 a1, .int .i64 a2]] w fun e w' => e = .returned (.agg #[.string a0, .int .i64 a1, .int .i64 a2]) ∧ Below w.heap.size w w' := by
  go_enter Try.func51, Try.ntmps51
  go_wp2
  go_returns
  exact ⟨rfl, by go_grown⟩
theorem info_Node : (Try.prog.info? 87).map (fun i => (i.zero, i.size, i.bytes)) = some (some (.agg #[.string ⟨#[]⟩, .int .i64 0, .int .i64 0]), 3, 32) := by kernel_rfl
set_option maxRecDepth 100000 in
set_option maxHeartbeats 1000000 in
theorem laws_toNodeS (A : Option Addr) (c : Nat) (l : List Nd) (w : World) (h : Rd w A (l.flatMap Nd.cells)) (hl : l.length ≤ 1048576) :
    Calls Try.prog 31 #[.slice A l.length c] w (MadeS w l.length (l.length * 3) (l.flatMap Nd.cells)) := by
  have hmk := make_rule (P := Try.prog) info_Node Try.underlying37 l.length (by omega) (by omega)
  have H := Lib.hid h
  clear h
  go_enter Try.func31, Try.ntmps31
  go_wp2
  have ha := Arr.made w (.agg #[.string ⟨#[]⟩, .int .i64 0, .int .i64 0]) l.length 3 87 rfl (by omega)
  have hb0 := (Below.refl w.heap.size w).alloc (Nat.le_refl _) (.cells (madeCells (Value.agg #[.string ⟨#[]⟩, .int .i64 0, .int .i64 0]).cells (l.length * 3)) 87)
  clear hmk
  go_loopw [4] (fun v wr => ∃ k : Nat, k ≤ l.length ∧ v = .int .i64 k ∧ Arr wr w.heap.size (l.length * 3) ((l.take k).flatMap Nd.cells) ∧ Below w.heap.size w wr) (fun v _ => l.length - (intOf v).toNat)
  case atStart => exact ⟨0, by omega, rfl, by simpa [Value.cells] using ha, by simpa [Value.cells] using hb0⟩
  case round =>
    obtain ⟨k, hk, rfl, hA, hbw⟩ := hrel
    have HA := Lib.hid hA
    have hbH := Lib.hid hbw
    clear ha hb0
    by_cases hlt : k < l.length
    · obtain ⟨x, hx⟩ := get_some hlt
      obtain ⟨b, off, rfl, hb, hat⟩ := H.out.opened (k := k) (by rw [flat_len Nd.len]; omega)
      have hat' := hat.below hbw hb
      have t0 := hat'.elem0 Nd.len hx rfl
      have t1 := hat'.elem Nd.len hx 1 rfl
      have t2 := hat'.elem Nd.len hx 2 rfl
      have HX := Lib.hid hx
      clear hx hA hat hat' hbw
      go_wp2_with fail
      refine (laws_toNode _ _ _ _).mono ?_
      rintro e wn ⟨rfl, hbn⟩
      have hA2 := HA.out.below hbn HA.out.lt
      have HA2 := Lib.hid hA2
      obtain ⟨u0, s0⟩ := hA2.some_ (j := k * 3) (by omega)
      have g0 := hA2.free (j := k * 3) (by omega)
      obtain ⟨u1, s1⟩ := hA2.some_ (j := k * 3 + 1) (by omega)
      have g1 := hA2.free (j := k * 3 + 1) (by omega)
      obtain ⟨u2, s2⟩ := hA2.some_ (j := k * 3 + 2) (by omega)
      have g2 := hA2.free (j := k * 3 + 2) (by omega)
      clear hA2
      have hbn2 : Below w.heap.size w wn := Below.via hbH.out hbn hbH.out.size
      have HB2 := Lib.hid hbn2
      clear hbn hbn2
      go_wp2
      go_roundw
      case rel =>
        refine ⟨k + 1, by omega, by go_num, ?_, ?_⟩
        · rw [flat_snoc _ _ _ HX.out]
          have hlen : ((l.take k).flatMap Nd.cells).length = k * 3 := by rw [flat_len Nd.len]; simp; omega
          have := (((HA2.out.push (k * 3) (by simp [hlen]) (by omega) (.string x.name)).push (k * 3 + 1) (by simp [hlen]) (by omega) (.int .i64 x.lo)).push (k * 3 + 2) (by simp [hlen]) (by omega) (.int .i64 x.hi))
          simpa [Nd.cells, List.append_assoc] using this
        · have := HB2.out; (repeat' (first | (with_reducible exact Below.refl _ _) | (with_reducible assumption) | (with_reducible refine Below.alloc ?_ ?_ _) | (with_reducible refine Below.drew ?_) | (with_reducible refine Below.drewN' ?_ _) | (with_reducible refine Below.setCell ?_ ?_ _) | (refine Below.via ?_ (by with_reducible assumption) ?_) | (with_reducible refine Below.via ?_ (Wd.h _) ?_) | go_size))
      case measure => simp [intOf]; omega
    · have hkl : k = l.length := by omega
      clear hA hbw
      go_wp2
      go_ret
      refine ⟨w.heap.size, rfl, Nat.le_refl _, ?_, hbH.out⟩
      have := HA.out
      rw [hkl, List.take_length] at this
      exact this
set_option maxRecDepth 100000 in
set_option maxHeartbeats 1000000 in
theorem laws_eqNode (a0 : ByteArray) (a1 : Int) (a2 : Int) (w : World) :
    Calls Try.prog 59 #[.agg #[.string a0, .int .i64 a1, .int .i64 a2], .agg #[.string a0, .int .i64 a1, .int .i64 a2]] w fun e w' => e = .returned (.bool true) ∧ Below w.heap.size w w' := by
  go_enter Try.func59, Try.ntmps59
  go_wp2
  go_ret
  exact ⟨rfl, by go_grown⟩
set_option maxRecDepth 100000 in
set_option maxHeartbeats 1000000 in
theorem laws_eqNodeS (A B : Option Addr) (c d : Nat) (l : List Nd) (w : World) (h : Rd w A (l.flatMap Nd.cells)) (h' : Rd w B (l.flatMap Nd.cells)) (hl : l.length ≤ 1048576) :
    Calls Try.prog 37 #[.slice A l.length c, .slice B l.length d] w fun e w' => e = .returned (.bool true) ∧ Below w.heap.size w w' := by
  have H := Lib.hid h
  have H' := Lib.hid h'
  clear h h'
  go_enter Try.func37, Try.ntmps37
  go_wp2
  go_loopw [5] (fun v wr => ∃ k : Nat, k ≤ l.length ∧ v = .int .i64 k ∧ Below w.heap.size w wr) (fun v _ => l.length - (intOf v).toNat)
  case atStart => exact ⟨0, by omega, rfl, Below.refl _ _⟩
  case round =>
    obtain ⟨k, hk, rfl, hbw⟩ := hrel
    have hbH := Lib.hid hbw
    by_cases hlt : k < l.length
    · obtain ⟨x, hx⟩ := get_some hlt
      obtain ⟨b, off, rfl, hb, hat⟩ := H.out.opened (k := k) (by rw [flat_len Nd.len]; omega)
      obtain ⟨b', off', rfl, hb', hat'⟩ := H'.out.opened (k := k) (by rw [flat_len Nd.len]; omega)
      have hat2 := hat.below hbw hb
      have hat2' := hat'.below hbw hb'
      have hbr : b < wr.heap.size := Nat.lt_of_lt_of_le hb hbw.size
      have hbr' : b' < wr.heap.size := Nat.lt_of_lt_of_le hb' hbw.size
      have q0_0 := Wd.cell hbr (hat2.elem0 Nd.len hx rfl)
      have q0_1 := Wd.cell hbr' (hat2'.elem0 Nd.len hx rfl)
      have q1_0 := Wd.cell hbr (hat2.elem Nd.len hx 1 rfl)
      have q1_1 := Wd.cell hbr' (hat2'.elem Nd.len hx 1 rfl)
      have q2_0 := Wd.cell hbr (hat2.elem Nd.len hx 2 rfl)
      have q2_1 := Wd.cell hbr' (hat2'.elem Nd.len hx 2 rfl)
      clear hx hat hat' hat2 hat2' hbw hbr hbr'
      go_wp2_with fail
      ((refine wp_region_wd (by kernel_rfl) (by kernel_rfl) ?_); (repeat (go_big_quiet_step ((first | fail | (go_at_call 59; apply wd_below; with_reducible exact (laws_eqNode _ _ _ _)) | (go_at_call 59; exact wd_below (laws_eqNode _ _ _ _)))))); (refine wpQuiet_nil ?_); rintro wn ⟨⟨w'', hbn⟩, hw''⟩; obtain rfl : wn = w'' := hw''; (obtain ⟨hcn, hfn⟩ := bcell hbn; have hzn := hbn.size; (try simp at hzn); clear hcn hfn))
      go_wp2
      go_roundw
      case rel => exact ⟨k + 1, by omega, by go_num, Below.via hbH.out hbn hbH.out.size⟩
      case measure => simp [intOf]; omega
    · clear hbw
      go_wp2
      go_ret
      exact ⟨rfl, hbH.out⟩
def szStr (left : Int) (n : Nat) : Int := if left - n < 0 then -1 else left - n
set_option maxRecDepth 100000 in
set_option maxHeartbeats 1000000 in
theorem laws_szNode (nm : ByteArray) (lo hi left : Int) (w : World) (h0 : 0 ≤ left) (h1 : left ≤ 1048576) (hn : nm.size ≤ 9223372036854775807) :
    Calls Try.prog 45 #[.agg #[.string nm, .int .i64 lo, .int .i64 hi], .int .i64 left] w fun e w' => e = .returned (.int .i64 (szStr left nm.size)) ∧ Below w.heap.size w w' := by
  go_enter Try.func45, Try.ntmps45
  go_wp2
  all_goals go_ret
  all_goals refine ⟨ri ?_, by go_grown⟩
  all_goals (unfold szStr; split <;> omega)
set_option maxRecDepth 100000 in
set_option maxHeartbeats 1000000 in
theorem laws_szNodeS (A : Option Addr) (c : Nat) (l : List Nd) (left : Int) (w : World) (h : Rd w A (l.flatMap Nd.cells)) (h0 : 0 ≤ left) (h1 : left ≤ 1048576) (hl : l.length ≤ 9223372036854775807) (hok : ∀ x ∈ l, x.ok) :
    Calls Try.prog 26 #[.slice A l.length c, .int .i64 left] w (SzPost w left l.length) := by
  have H := Lib.hid h
  have HO := Lib.hid hok
  clear h hok
  by_cases hn : left - (l.length : Int) < 0
  · go_enter Try.func26, Try.ntmps26
    go_wp2
    go_ret
    exact ⟨-1, rfl, .inl rfl, Below.refl _ _⟩
  · go_enter Try.func26, Try.ntmps26
    go_wp2
    go_loopw [1, 5] (fun u v wr => ∃ (k : Nat) (r : Int), k ≤ l.length ∧ v = .int .i64 k ∧ u = .int .i64 r ∧ 0 ≤ r ∧ r + l.length ≤ left ∧ Below w.heap.size w wr) (fun _ v _ => l.length - (intOf v).toNat)
    case atStart => exact ⟨0, _, by omega, rfl, rfl, by omega, by omega, Below.refl _ _⟩
    case round =>
      obtain ⟨k, r, hk, rfl, rfl, hr0, hr1, hbw⟩ := hrel
      have hbH := Lib.hid hbw
      by_cases hlt : k < l.length
      · obtain ⟨x, hx⟩ := get_some hlt
        obtain ⟨b, off, rfl, hb, hat⟩ := H.out.opened (k := k) (by rw [flat_len Nd.len]; omega)
        have hat' := hat.below hbw hb
        have t0 := hat'.elem0 Nd.len hx rfl
        have t1 := hat'.elem Nd.len hx 1 rfl
        have t2 := hat'.elem Nd.len hx 2 rfl
        have hsz : x.name.size ≤ 9223372036854775807 := (HO.out x (List.mem_of_getElem? hx)).1
        clear hx hat hat' hbw
        by_cases hz : szStr r x.name.size < 0
        · go_wp2_with fail
          refine (laws_szNode _ _ _ _ _ (by omega) (by omega) hsz).mono ?_
          rintro e wn ⟨rfl, hbn⟩
          go_wp2
          go_ret
          exact ⟨-1, rfl, .inl rfl, Below.via hbH.out hbn hbH.out.size⟩
        · have hz' : 0 ≤ szStr r x.name.size ∧ szStr r x.name.size ≤ r := by unfold szStr at *; split at hz <;> (first | omega | (split <;> omega))
          obtain ⟨hz1, hz2⟩ := hz'
          go_wp2_with fail
          refine (laws_szNode _ _ _ _ _ (by omega) (by omega) hsz).mono ?_
          rintro e wn ⟨rfl, hbn⟩
          go_wp2
          go_roundw
          case rel => exact ⟨k + 1, _, by omega, by go_num, rfl, by omega, by omega, Below.via hbH.out hbn hbH.out.size⟩
          case measure => simp [intOf]; omega
      · clear hbw
        go_wp2
        go_ret
        exact ⟨r, rfl, .inr ⟨by omega, by omega⟩, hbH.out⟩
end Go.Proofs.Ytapdcndagnlmaaa

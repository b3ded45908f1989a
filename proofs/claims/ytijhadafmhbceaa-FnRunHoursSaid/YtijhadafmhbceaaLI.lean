/- The laws' helpers on lists of numbers: copies, sizes, comparison. -/
import Derived.Test.YtijhadafmhbceaaRows
import Derived.Test.YtijhadafmhbceaaRd
import Derived.Test.YtijhadafmhbceaaAQ
import Derived.WalkKit
namespace Go.Proofs.Ytijhadafmhbceaa
set_option linter.unusedVariables false
set_option linter.unusedSimpArgs false
open Go.RowKit
theorem info_i64 : (Try.prog.info? 2).map (fun i => (i.zero, i.size, i.bytes)) = some (some (.int .i64 0), 1, 8) := by kernel_rfl

set_option maxRecDepth 100000 in
set_option maxHeartbeats 1000000 in
theorem laws_toInt64S (A : Option Addr) (c : Nat) (l : List Int) (w : World) (h : Rd w A (l.map iV)) (hl : l.length ≤ 1048576) :
    Calls Try.prog 39 #[.slice A l.length c] w (MadeS w l.length l.length (l.map iV)) := by
  have hmk := make_rule (P := Try.prog) info_i64 Try.underlying28 l.length (by omega) (by omega)
  have H := Lib.hid h
  clear h
  go_enter Try.func39, Try.ntmps39
  go_wp2
  have ha := Arr.made w (.int .i64 0) l.length 1 2 rfl (by omega)
  have hb0 : Below w.heap.size w (w.alloc (.cells (madeCells (Value.int .i64 0).cells (l.length * 1)) 2)) := (Below.refl _ _).alloc (Nat.le_refl _) _
  clear hmk
  go_loopw [4] (fun v wr => ∃ k : Nat, k ≤ l.length ∧ v = .int .i64 k ∧ Arr wr w.heap.size (l.length * 1) ((l.take k).map iV) ∧ Below w.heap.size w wr) (fun v _ => l.length - (intOf v).toNat)
  case atStart => exact ⟨0, by omega, rfl, by simpa [Value.cells] using ha, by simpa [Value.cells] using hb0⟩
  case round =>
    obtain ⟨k, hk, rfl, hA, hbw⟩ := hrel
    have HA := Lib.hid hA
    have hbH := Lib.hid hbw
    clear ha hb0
    by_cases hlt : k < l.length
    · obtain ⟨n, hn⟩ := get_some hlt
      obtain ⟨b, off, rfl, hb, hat⟩ := H.out.opened (k := k) (by simpa using hlt)
      have t0 := ints_at (hat.below hbw hb) hn
      obtain ⟨u, t1⟩ := hA.some_ (j := k) (by omega)
      have t2 := hA.free (j := k) (by omega)
      have HN := Lib.hid hn
      clear hn hA hat hbw
      go_wp2
      go_roundw
      case rel =>
        refine ⟨k + 1, by omega, by go_num, ?_, hbH.out.setCell (by simp) _⟩
        rw [ints_snoc HN.out]
        exact HA.out.push k (by simp; omega) (by omega) _
      case measure => simp [intOf]; omega
    · have hkl : k = l.length := by omega
      clear hA hbw
      go_wp2
      go_ret
      refine ⟨w.heap.size, rfl, Nat.le_refl _, ?_, hbH.out⟩
      have := HA.out
      rw [hkl, List.take_length, Nat.mul_one] at this
      exact this
set_option maxRecDepth 100000 in
set_option maxHeartbeats 1000000 in
theorem laws_eqInt64S (A B : Option Addr) (c d : Nat) (l : List Int) (w : World) (h : Rd w A (l.map iV)) (h' : Rd w B (l.map iV)) (hl : l.length ≤ 1048576) :
    Calls Try.prog 41 #[.slice A l.length c, .slice B l.length d] w fun e w' => e = .returned (.bool true) ∧ Below w.heap.size w w' := by
  have H := Lib.hid h
  have H' := Lib.hid h'
  clear h h'
  go_enter Try.func41, Try.ntmps41
  go_wp2
  go_loopw [5] (fun v wr => ∃ k : Nat, k ≤ l.length ∧ v = .int .i64 k ∧ Below w.heap.size w wr) (fun v _ => l.length - (intOf v).toNat)
  case atStart => exact ⟨0, by omega, rfl, Below.refl _ _⟩
  case round =>
    obtain ⟨k, hk, rfl, hbw⟩ := hrel
    have hbH := Lib.hid hbw
    by_cases hlt : k < l.length
    · obtain ⟨n, hn⟩ := get_some hlt
      obtain ⟨b, off, rfl, hb, hat⟩ := H.out.opened (k := k) (by simpa using hlt)
      obtain ⟨b', off', rfl, hb', hat'⟩ := H'.out.opened (k := k) (by simpa using hlt)
      have t0 := ints_at (hat.below hbw hb) hn
      have t1 := ints_at (hat'.below hbw hb') hn
      clear hn hat hat' hbw
      go_wp2
      go_quiet (fail)
      go_wp2
      go_roundw
      case rel => exact ⟨k + 1, by omega, by go_num, Below.drewN' hbH.out _⟩
      case measure => simp [intOf]; omega
    · clear hbw
      go_wp2
      go_ret
      exact ⟨rfl, hbH.out⟩
def szN (left : Int) (n : Nat) : Int := if left - n < 0 then -1 else left - n
set_option maxRecDepth 100000 in
set_option maxHeartbeats 1000000 in
theorem laws_szInt64S (A : Option Addr) (c n : Nat) (left : Int) (w : World) (h0 : 0 ≤ left) (h1 : left ≤ 1048576) (hn : n ≤ 9223372036854775807) :
    Calls Try.prog 35 #[.slice A n c, .int .i64 left] w fun e w' => e = .returned (.int .i64 (szN left n)) ∧ w = w' := by
  go_enter Try.func35, Try.ntmps35
  go_wp2
  all_goals go_ret
  all_goals refine ⟨ri ?_, rfl⟩
  all_goals (unfold szN; split <;> omega)
end Go.Proofs.Ytijhadafmhbceaa

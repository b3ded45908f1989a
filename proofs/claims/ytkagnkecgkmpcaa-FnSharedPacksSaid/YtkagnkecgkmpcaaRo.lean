/- Square roots of whole numbers. -/
import Derived.Test.YtkagnkecgkmpcaaNt1
import Derived.Test.YtkagnkecgkmpcaaFb
import Derived.Laws.Externs
import Derived.WalkLawsBesides
namespace Go.Proofs.Ytkagnkecgkmpcaa
set_option linter.unusedVariables false
set_option linter.unusedSimpArgs false
open Go.RowKit
def rootN : Nat → Nat
  | 0 => 0
  | n + 1 => if (rootN n + 1) * (rootN n + 1) ≤ n + 1 then rootN n + 1 else rootN n
theorem rootN_sq : ∀ n : Nat, rootN n * rootN n ≤ n ∧ n < (rootN n + 1) * (rootN n + 1)
  | 0 => by simp [rootN]
  | n + 1 => by
    have := rootN_sq n
    unfold rootN
    generalize rootN n = r at this ⊢
    have e1 : (r + 1) * (r + 1) = r * r + 2 * r + 1 := by rw [Nat.add_mul, Nat.mul_add]; omega
    have e2 : (r + 1 + 1) * (r + 1 + 1) = r * r + 4 * r + 4 := by rw [Nat.add_mul (r + 1) 1, Nat.mul_add, e1]; omega
    split <;> omega
theorem rootN_eq {n r : Nat} (h1 : r * r ≤ n) (h2 : n < (r + 1) * (r + 1)) : r = rootN n := by
  have := rootN_sq n
  generalize rootN n = s at this
  rcases Nat.lt_trichotomy r s with h | h | h
  · have := Nat.mul_le_mul (show r + 1 ≤ s from h) (show r + 1 ≤ s from h); omega
  · exact h
  · have := Nat.mul_le_mul (show s + 1 ≤ r from h) (show s + 1 ≤ r from h); omega
theorem run_sqrt {x r : Nat} (h : Ieee.double.sqrt x = some r) (w : World) : (callFunc 66 #[.float .f64 x]).run Try.prog w = .ok (.value (.float .f64 r)) w := by
  rw [run_callFunc_extern Try.func66 (by kernel_rfl) (by kernel_rfl) (by kernel_rfl) (by kernel_rfl) (e := Extern.MathSqrt.sqrt)]
  have : FloatKind.f64.format.sqrt x = some r := h
  have e : Extern.MathSqrt.sqrt #[.float .f64 x] = pure (.float .f64 r) := by
    show (match FloatKind.f64.format.sqrt x with
      | some r => pure (Value.float .f64 r)
      | none => do pure (Value.float .f64 (← choose (.nanBits .f64 x x)))) = _
    rw [this]
  rw [e]
  simp [Sem.run_pure, Result.andThen]
set_option maxRecDepth 100000 in
set_option maxHeartbeats 1000000 in
theorem spec_l01Root (n : Nat) (w : World) (h : n ≤ 100000000) :
    Calls Try.prog 53 #[.int .i64 n] w fun e w' => e = .returned (.int .i64 (rootN n)) ∧ w = w' := by
  go_enter Try.func53, Try.ntmps53
  go_wp2
  go_loop [3, 4] (fun u v => ∃ lo hi : Nat, u = .int .i64 lo ∧ v = .int .i64 hi ∧ lo ≤ hi ∧ hi ≤ 1000000000 ∧ lo * lo ≤ n ∧ n < (hi + 1) * (hi + 1)) (fun u v => (intOf v - intOf u).toNat)
  case atStart => exact ⟨0, 1000000000, rfl, rfl, by omega, by omega, by omega, by omega⟩
  case round =>
    obtain ⟨lo, hi, rfl, rfl, h1, h2, h3, h4⟩ := hrel
    have H3 := Lib.hid h3
    have H4 := Lib.hid h4
    clear h3 h4
    by_cases hlt : lo < hi
    · have g1 : (lo : Int) < hi := by omega
      obtain ⟨m, hm⟩ : ∃ m : Nat, m = (lo + hi + 1) / 2 := ⟨_, rfl⟩
      have m1 : lo < m := by omega
      have m2 : m ≤ hi := by omega
      have e1 : ((lo : Int) + hi + 1).tdiv 2 = m := by rw [hm, Int.tdiv_eq_ediv_of_nonneg (by omega)]; omega
      have hmm : (m : Int) * m ≤ 1000000000000000000 := by
        have := Nat.mul_le_mul (show m ≤ 1000000000 by omega) (show m ≤ 1000000000 by omega)
        have : ((m * m : Nat) : Int) ≤ 1000000000000000000 := by omega
        simpa using this
      have hm0 : 0 ≤ (m : Int) * m := by have : 0 ≤ ((m * m : Nat) : Int) := by omega
                                         simpa using this
      have HM := Lib.hid hm
      clear hm
      cases hc : decide ((m : Int) * m ≤ n)
      · have HC := Lib.hid hc
        go_wp2
        go_round
        case rel =>
          refine ⟨lo, m - 1, rfl, by go_num, by omega, by omega, H3.out, ?_⟩
          have := HC.out
          simp at this
          have e : m - 1 + 1 = m := by omega
          rw [e]
          have : (n : Int) < ((m * m : Nat) : Int) := by simpa using this
          omega
        case measure => simp [intOf]; omega
      · have HC := Lib.hid hc
        go_wp2
        go_round
        case rel =>
          refine ⟨m, hi, rfl, rfl, by omega, by omega, ?_, H4.out⟩
          have := HC.out
          simp at this
          have : ((m * m : Nat) : Int) ≤ n := by simpa using this
          omega
        case measure => simp [intOf]; omega
    · have g1 : ¬ (lo : Int) < hi := by omega
      have HE := Lib.hid (show lo = hi by omega)
      go_wp2
      go_ret
      refine ⟨ri ?_, rfl⟩
      have h4 := H4.out
      rw [← HE.out] at h4
      rw [← rootN_eq H3.out h4]
set_option maxRecDepth 100000 in
set_option maxHeartbeats 400000 in
theorem math_Sqrt {x r : Nat} (h : Ieee.double.sqrt x = some r) (w : World) :
    Calls Try.prog 57 #[.float .f64 x] w fun e w' => e = .returned (.float .f64 r) ∧ w = w' := by
  have hd := run_sqrt h w
  clear h
  go_enter Try.func57, Try.ntmps57
  go_wp2
  go_ret
  exact ⟨rfl, rfl⟩
theorem f64_nat (n : Nat) : floatOfInt .f64 (n : Int) = Ieee.double.write (.number false n 0) := by
  show Ieee.double.write (.number (decide ((n : Int) < 0)) (n : Int).natAbs 0) = _
  have e1 : decide ((n : Int) < 0) = false := by simp
  rw [e1, Int.natAbs_natCast]
set_option maxRecDepth 100000 in
set_option maxHeartbeats 1000000 in
theorem impl_rootOf (n : Nat) (w : World) (h : n ≤ 100000000) :
    Calls Try.prog 44 #[.int .i64 n] w fun e w' => e = .returned (.int .i64 (rootN n)) ∧ w = w' := by
  obtain ⟨x, r0, hx, hr, hi⟩ := sqrt_start n h
  have hc1 : ∀ w, (convert 2 81 (.int .i64 n)).run Try.prog w = .ok (.float .f64 (Ieee.double.write (.number false n 0))) w := fun w => by
    rw [← f64_nat]; exact run_convert_int_float w _ _ _ _ _ (by rw [Try.underlying2]; rfl) Try.underlying81
  have hc2 : ∀ w, (convert 81 2 (.float .f64 x)).run Try.prog w = .ok (.int .i64 r0) w := fun w => by
    refine run_convert_float_int w _ _ _ _ _ _ (by rw [Try.underlying81]; rfl) Try.underlying2 ?_
    show (match (Ieee.double.read x).toInt .zero with
      | some n => if IntKind.i64.min ≤ n ∧ n ≤ IntKind.i64.max then some n else none
      | none => none) = _
    rw [hi]
    exact if_pos ⟨by have : IntKind.i64.min = -9223372036854775808 := rfl
                     omega, by have : IntKind.i64.max = 9223372036854775807 := rfl
                               omega⟩
  generalize Ieee.double.write (.number false n 0) = y at hx hc1
  have HX := Lib.hid hx
  clear hx hi
  go_enter Try.func44, Try.ntmps44
  go_wp2_with ((go_at_call 57; refine (math_Sqrt HX.out _).mono ?_; rintro e w' ⟨rfl, rfl⟩))
  clear hc1 hc2
  go_loop [3] (fun v => ∃ r : Nat, v = .int .i64 r ∧ r < 65536) (fun v => (intOf v).toNat)
  case atStart => exact ⟨r0, rfl, hr⟩
  case round =>
    obtain ⟨r, rfl, h1⟩ := hrel
    have hmm : (r : Int) * r ≤ 4294967296 := by
      have := Nat.mul_le_mul (show r ≤ 65536 by omega) (show r ≤ 65536 by omega)
      have : ((r * r : Nat) : Int) ≤ 4294967296 := by omega
      simpa using this
    have hm0 : 0 ≤ (r : Int) * r := by have : 0 ≤ ((r * r : Nat) : Int) := by omega
                                       simpa using this
    cases hc : decide ((n : Int) < (r : Int) * r)
    · have HC := Lib.hid (show r * r ≤ n by
        simp at hc
        have : ((r * r : Nat) : Int) ≤ n := by simpa using hc
        omega)
      go_wp2
      go_loop [3] (fun v => ∃ s : Nat, v = .int .i64 s ∧ s < 65536 ∧ s * s ≤ n) (fun v => 65536 - (intOf v).toNat)
      case atStart => exact ⟨r, rfl, h1, HC.out⟩
      case round =>
        obtain ⟨s, rfl, h2, h3⟩ := hrel
        have H3 := Lib.hid h3
        clear h3 hmm hm0 hc
        have hmm : ((s : Int) + 1) * ((s : Int) + 1) ≤ 4294967296 := by
          have := Nat.mul_le_mul (show s + 1 ≤ 65536 by omega) (show s + 1 ≤ 65536 by omega)
          have : (((s + 1) * (s + 1) : Nat) : Int) ≤ 4294967296 := by omega
          simpa using this
        have hm0 : 0 ≤ ((s : Int) + 1) * ((s : Int) + 1) := by have : 0 ≤ (((s + 1) * (s + 1) : Nat) : Int) := by omega
                                                               simpa using this
        cases hc : decide (((s : Int) + 1) * ((s : Int) + 1) ≤ n)
        · have HC := Lib.hid (show n < (s + 1) * (s + 1) by
            simp at hc
            have : (n : Int) < (((s + 1) * (s + 1) : Nat) : Int) := by simpa using hc
            omega)
          go_wp2
          go_ret
          exact ⟨ri (by rw [← rootN_eq H3.out HC.out]), rfl⟩
        · have HC := Lib.hid (show (s + 1) * (s + 1) ≤ n by
            simp at hc
            have : (((s + 1) * (s + 1) : Nat) : Int) ≤ n := by simpa using hc
            omega)
          have hs : s + 1 < 65536 := by
            refine Nat.lt_of_not_le fun hle => ?_
            have := Nat.mul_le_mul hle hle
            have := HC.out
            omega
          go_wp2
          go_round
          case rel => exact ⟨s + 1, by go_num, hs, HC.out⟩
          case measure => simp [intOf]; omega
    · have hp : 0 < r := by
        refine Nat.pos_of_ne_zero fun e => ?_
        subst e
        simp at hc
        omega
      go_wp2
      go_round
      case rel => exact ⟨r - 1, by go_num, by omega⟩
      case measure => simp [intOf]; omega
end Go.Proofs.Ytkagnkecgkmpcaa

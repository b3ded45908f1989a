/- A bound on the square root of a whole number as a float64. -/
import Derived.Laws.FloatArith
namespace Go.Proofs.Ytkagnkecgkmpcaa
set_option linter.unusedVariables false
set_option linter.unusedSimpArgs false
open Ieee

theorem cut_even_le (neg : Bool) (n drop : Nat) : Toward.even.cut neg n drop ≤ n / 2 ^ min drop (n.log2 + 2) + 1 := by
  unfold Toward.cut
  simp only [Nat.shiftLeft_eq, Nat.one_mul]
  have : ∀ b : Bool, b.toNat ≤ 1 := fun b => by cases b <;> decide
  exact Nat.add_le_add_left (this _) _

theorem cut_even_zero (neg : Bool) (n : Nat) : Toward.even.cut neg n 0 = n := by
  unfold Toward.cut
  simp [Nat.mod_one]

theorem kept_le (neg : Bool) (mag : Nat) (place last : Int) (hm : mag ≠ 0) (h : place + mag.log2 - 52 ≤ last) :
    Toward.even.cut neg (mag <<< (place - last).toNat) (last - place).toNat ≤ 2 ^ 53 := by
  have hlt : mag < 2 ^ (mag.log2 + 1) := Nat.lt_log2_self
  by_cases hc : last ≤ place
  · have e0 : (last - place).toNat = 0 := by omega
    rw [e0, cut_even_zero, Nat.shiftLeft_eq]
    have h1 : mag * 2 ^ (place - last).toNat < 2 ^ (mag.log2 + 1) * 2 ^ (place - last).toNat := Nat.mul_lt_mul_of_pos_right hlt (Nat.two_pow_pos _)
    rw [← Nat.pow_add] at h1
    have h2 : 2 ^ (mag.log2 + 1 + (place - last).toNat) ≤ 2 ^ 53 := Nat.pow_le_pow_right (by omega) (by omega)
    omega
  · have e0 : (place - last).toNat = 0 := by omega
    rw [e0, Nat.shiftLeft_zero]
    refine Nat.le_trans (cut_even_le _ _ _) ?_
    have h3 : mag / 2 ^ min (last - place).toNat (mag.log2 + 2) < 2 ^ 53 := by
      rw [Nat.div_lt_iff_lt_mul (Nat.two_pow_pos _), ← Nat.pow_add]
      exact Nat.lt_of_lt_of_le hlt (Nat.pow_le_pow_right (by omega) (by omega))
    omega

theorem read_small (M R : Nat) (hM : M ≤ 900) (hR : R ≤ (M + 1024) * 2 ^ 52) :
    ∃ (m : Nat) (p : Int), double.read R = .number false m p ∧ m < 2 ^ 53 ∧ -1074 ≤ p ∧ p ≤ (M : Int) - 51 := by
  have e1 : double.signWeight = 2 ^ 63 := rfl
  have e2 : double.binade = 2 ^ 52 := rfl
  have e3 : double.infRung = 2047 * 2 ^ 52 := rfl
  have e4 : double.leastPlace = -1074 := rfl
  have hs : R / 2 ^ 63 = 0 := by omega
  have hr : R % 2 ^ 63 = R := by omega
  unfold Format.read
  simp only [e1, e2, e3, e4, hs, hr]
  by_cases h1 : R < 2 ^ 52
  · exact ⟨R, -1074, by rw [if_pos h1]; rfl, by omega, by omega, by omega⟩
  · have h2 : R < 2047 * 2 ^ 52 := by omega
    refine ⟨2 ^ 52 + R % 2 ^ 52, -1074 + (R / 2 ^ 52 - 1 : Nat), by rw [if_neg h1, if_pos h2]; rfl, by omega, by omega, by omega⟩

theorem rung_le (L K M B C : Nat) (hl : L ≤ M + 1022) (hk : K ≤ C) (hc : C = 2 * B) : L * B + K ≤ (M + 1024) * B := by
  subst hc
  have := Nat.mul_le_mul_right B hl
  have e : (M + 1024) * B = (M + 1022) * B + 2 * B := by rw [← Nat.add_mul]
  omega
theorem nearest_le (mag : Nat) (place : Int) (M : Nat) (last : Int) (hm : mag ≠ 0) (hL : last = max (place + mag.log2 - 52) (-1074)) (hl : (last - -1074).toNat ≤ M + 1022)
    (hk : Toward.even.cut false (mag <<< (place - last).toNat) (last - place).toNat ≤ 2 ^ 53) : double.write (.number false mag place) ≤ (M + 1024) * 2 ^ 52 := by
  have e2 : double.binade = 2 ^ 52 := rfl
  have e4 : double.leastPlace = -1074 := rfl
  have e5 : (double.fractionBits : Int) = 52 := rfl
  have e : double.write (.number false mag place) = min ((last - -1074).toNat * 2 ^ 52 + Toward.even.cut false (mag <<< (place - last).toNat) (last - place).toNat) double.infRung := by
    subst hL
    unfold Format.write Format.nearest
    simp only [if_neg hm, Format.word, e2, e4, e5, Bool.false_eq_true, if_false]
  rw [e]
  generalize Toward.even.cut false (mag <<< (place - last).toNat) (last - place).toNat = K at hk ⊢
  generalize (last - -1074).toNat = L at hl ⊢
  have e6 : (2 : Nat) ^ 53 = 2 * 2 ^ 52 := by rw [Nat.pow_succ]
  exact Nat.le_trans (Nat.min_le_left _ _) (rung_le L K M (2 ^ 52) (2 ^ 53) hl hk e6)
theorem write_small (mag : Nat) (place : Int) (M : Nat) (hM : M ≤ 900) (h : mag = 0 ∨ place + mag.log2 ≤ M) :
    ∃ (m : Nat) (p : Int), double.read (double.write (.number false mag place)) = .number false m p ∧ m < 2 ^ 53 ∧ -1074 ≤ p ∧ p ≤ (M : Int) - 51 := by
  have e2 : double.binade = 2 ^ 52 := rfl
  have e4 : double.leastPlace = -1074 := rfl
  have e5 : (double.fractionBits : Int) = 52 := rfl
  by_cases hm : mag = 0
  · subst hm
    exact read_small M 0 hM (Nat.zero_le _)
  · have hE : place + mag.log2 ≤ M := h.resolve_left hm
    refine read_small M _ hM ?_
    have hk := kept_le false mag place (max (place + mag.log2 - 52) (-1074)) hm (by omega)
    have hl : (max (place + (mag.log2 : Int) - 52) (-1074) - -1074).toNat ≤ M + 1022 := by omega
    exact nearest_le mag place M _ hm rfl hl hk

theorem rootFrom_sq (n : Nat) : ∀ (todo r : Nat), r * r ≤ n → Datum.rootFrom n todo r * Datum.rootFrom n todo r ≤ n
  | 0, r, h => h
  | todo + 1, r, h => by
    unfold Datum.rootFrom
    simp only
    split
    · exact rootFrom_sq n todo _ ‹_›
    · exact rootFrom_sq n todo _ h

theorem root_small (m : Nat) (p : Int) (hm : m < 2 ^ 53) (hp : p ≤ -25) :
    ∃ (mag : Nat) (place : Int), Datum.root 54 (.number false m p) = some (.number false mag place) ∧ (mag = 0 ∨ place + mag.log2 ≤ (14 : Nat)) := by
  unfold Datum.root
  by_cases h0 : m = 0
  · exact ⟨m, p, by simp [h0], .inl h0⟩
  · simp only [h0, if_false, Bool.false_eq_true]
    refine ⟨_, _, rfl, .inr ?_⟩
    generalize 2 * 54 - m.log2 + ((p - (2 * 54 - m.log2 : Nat)) % 2).toNat = more
    generalize hN : m <<< more = N
    generalize hW : Datum.rootFrom N (N.log2 / 2 + 1) 0 = W
    have hs : W * W ≤ N := by rw [← hW]; exact rootFrom_sq _ _ _ (Nat.zero_le _)
    have hb : ∀ b : Bool, b.toNat ≤ 1 := fun b => by cases b <;> decide
    have hb := hb (W * W != N)
    generalize (W * W != N).toNat = b at hb
    have hN2 : N < 2 ^ (53 + more) := by
      rw [← hN, Nat.shiftLeft_eq, Nat.pow_add]
      exact Nat.mul_lt_mul_of_pos_right hm (Nat.two_pow_pos _)
    have hW2 : W < 2 ^ ((53 + more) / 2 + 1) := by
      refine Nat.lt_of_not_le fun hle => ?_
      have h1 := Nat.mul_le_mul hle hle
      rw [← Nat.pow_add] at h1
      have h2 : 2 ^ (53 + more) ≤ 2 ^ ((53 + more) / 2 + 1 + ((53 + more) / 2 + 1)) := Nat.pow_le_pow_right (by omega) (by omega)
      omega
    have hlog : (2 * W + b).log2 ≤ (53 + more) / 2 + 1 := by
      by_cases hz : 2 * W + b = 0
      · rw [hz]; simp
      · have h3 : 2 * W + b < 2 ^ ((53 + more) / 2 + 1 + 1) := by rw [Nat.pow_succ]; omega
        have := (Nat.log2_lt hz).2 h3
        omega
    omega

theorem toInt_small (m : Nat) (p : Int) (hm : m < 2 ^ 53) (hp : p ≤ -37) : ∃ r : Nat, Datum.toInt .zero (.number false m p) = some (r : Int) ∧ r < 65536 := by
  unfold Datum.toInt Datum.integral
  have e0 : p.toNat = 0 := by omega
  simp only [e0, Nat.shiftLeft_zero, signed, Bool.false_eq_true, if_false]
  refine ⟨_, rfl, ?_⟩
  unfold Toward.cut
  simp only [Nat.shiftLeft_eq, Nat.one_mul, Bool.toNat_false, Nat.add_zero]
  have hlt : m < 2 ^ (m.log2 + 1) := Nat.lt_log2_self
  show m / 2 ^ min (-p).toNat (m.log2 + 2) < 65536
  rw [Nat.div_lt_iff_lt_mul (Nat.two_pow_pos _)]
  rcases Nat.le_total (-p).toNat (m.log2 + 2) with h | h
  · rw [Nat.min_eq_left h]
    have : 2 ^ 37 ≤ 2 ^ (-p).toNat := Nat.pow_le_pow_right (by omega) (by omega)
    omega
  · rw [Nat.min_eq_right h]
    have : 2 ^ (m.log2 + 1) ≤ 2 ^ (m.log2 + 2) := Nat.pow_le_pow_right (by omega) (by omega)
    omega

/-- the start of the loops of rootOf -/
theorem sqrt_start (n : Nat) (h : n ≤ 100000000) : ∃ x r : Nat, double.sqrt (double.write (.number false n 0)) = some x ∧ r < 65536 ∧ (double.read x).toInt .zero = some (r : Int) := by
  have hlog : n = 0 ∨ (0 : Int) + n.log2 ≤ (26 : Nat) := by
    by_cases hz : n = 0
    · exact .inl hz
    · have := (Nat.log2_lt (k := 27) hz).2 (by omega)
      exact .inr (by omega)
  obtain ⟨m, p, e1, h1, h2, h3⟩ := write_small n 0 26 (by omega) hlog
  obtain ⟨mag, place, e2, h4⟩ := root_small m p h1 (by omega)
  obtain ⟨m', p', e3, h5, h6, h7⟩ := write_small mag place 14 (by omega) h4
  obtain ⟨r, e4, h8⟩ := toInt_small m' p' h5 (by omega)
  refine ⟨double.write (.number false mag place), r, ?_, h8, ?_⟩
  · show ((double.read _).root 54).map double.write = _
    rw [e1, e2]; rfl
  · rw [e3, e4]
end Go.Proofs.Ytkagnkecgkmpcaa

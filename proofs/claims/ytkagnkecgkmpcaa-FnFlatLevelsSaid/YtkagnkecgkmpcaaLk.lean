/- Higher levels never have a smaller linepack: the plain part. -/
import Derived.Test.YtkagnkecgkmpcaaPc
namespace Go.Proofs.Ytkagnkecgkmpcaa
set_option linter.unusedVariables false
set_option linter.unusedSimpArgs false
open Go.RowKit
theorem rootN_mono {a b : Nat} (h : a ≤ b) : rootN a ≤ rootN b := by
  refine Nat.le_of_not_lt fun hlt => ?_
  have h1 := (rootN_sq a).1
  have h2 := (rootN_sq b).2
  have h3 := Nat.mul_le_mul (show rootN b + 1 ≤ rootN a from hlt) (show rootN b + 1 ≤ rootN a from hlt)
  omega
/-- every level of hl is at least that of l, and within bounds -/
def HiL (l hl : List Int) : Prop := ∀ (k : Nat) (y : Int), hl[k]? = some y → ∃ x, l[k]? = some x ∧ x ≤ y ∧ y ≤ 100000000
theorem HiL.nil (l : List Int) : HiL l [] := fun k y h => by simp at h
theorem HiL.snoc {l hl : List Int} {x y : Int} (h : HiL l hl) (hx : l[hl.length]? = some x) (h1 : x ≤ y) (h2 : y ≤ 100000000) : HiL l (hl ++ [y]) := fun k z hz => by
  rcases Nat.lt_trichotomy k hl.length with hk | hk | hk
  · rw [List.getElem?_append_left hk] at hz; exact h k z hz
  · subst hk
    simp at hz; subst hz
    exact ⟨x, hx, h1, h2⟩
  · rw [List.getElem?_append_right (by omega)] at hz
    have : k - hl.length = (k - hl.length - 1) + 1 := by omega
    rw [this] at hz; simp at hz
theorem lvR_mono {l hl : List Int} {n : Nat} (h1 : LvOk l n) (hn : hl.length = n) (hh : HiL l hl) (i : Int) : lvR l i ≤ lvR hl i := by
  unfold lvR
  cases hy : hl[i.toNat]? with
  | none =>
    have : l[i.toNat]? = none := by
      rw [List.getElem?_eq_none_iff] at hy ⊢
      have := h1.1; omega
    simp [this]
  | some y =>
    obtain ⟨x, hx, h2, h3⟩ := hh _ _ hy
    simp only [hx]
    have := rootN_mono (show x.toNat ≤ y.toNat by omega)
    omega
theorem packF_mono {l hl : List Int} {n : Nat} {p : Pp} (hp : pipeB p n = true) (h1 : LvOk l n) (hn : hl.length = n) (hh : HiL l hl) : packF l p ≤ packF hl p := by
  simp only [pipeB, Bool.and_eq_true, inB_iff] at hp
  obtain ⟨⟨_, v1, v2⟩, _⟩ := hp
  have a := lvR_mono h1 hn hh p.f
  have b := lvR_mono h1 hn hh p.t
  have := Int.mul_le_mul_of_nonneg_left (show lvR l p.f + lvR l p.t ≤ lvR hl p.f + lvR hl p.t by omega) v1
  unfold packF
  omega
theorem lineF_mono {l hl : List Int} {n : Nat} (h1 : LvOk l n) (hn : hl.length = n) (hh : HiL l hl) : ∀ {ps : List Pp}, (∀ p ∈ ps, pipeB p n = true) → lineF l ps ≤ lineF hl ps
  | [], _ => by simp [lineF]
  | p :: ps, h => by
    have a := packF_mono (h p (by simp)) h1 hn hh
    have b := lineF_mono h1 hn hh (ps := ps) (fun q hq => h q (by simp [hq]))
    simp only [lineF]; omega
theorem HiL.ok {l hl : List Int} {n : Nat} (h1 : LvOk l n) (hn : hl.length = n) (hh : HiL l hl) : LvOk hl n :=
  ⟨hn, fun y hy => by
    obtain ⟨k, hk⟩ := List.mem_iff_getElem?.1 hy
    obtain ⟨x, hx, h2, h3⟩ := hh k y hk
    have := h1.2 x (List.mem_of_getElem? hx)
    omega⟩
theorem net_of {N : Net} {lv : List Int} (h : lvC N lv = 0) : netB N = true := by
  unfold lvC at h
  by_cases h1 : netB N = false
  · simp [h1] at h
  · simpa using h1
theorem pc_of {N : Net} {l hl : List Int} (hb : netB N = true) (h1 : LvOk l N.nodes.length) (h2 : LvOk hl N.nodes.length) : pcR N l hl = (lineF hl N.pipes - lineF l N.pipes, 0) := by
  have a : allB 0 100000000 l = true := allB_iff.2 h1.2
  have b : allB 0 100000000 hl = true := allB_iff.2 h2.2
  simp [pcR, hb, h1.1, h2.1, a, b]
end Go.Proofs.Ytkagnkecgkmpcaa

/- What reading a store or a contract computes; the closure of ReadContract; regions that read a list of numbers and write one record. -/
import Derived.Test.YtinlaokblnhgoaaDoorTre
import Derived.Test.YtinlaokblnhgoaaDoorTct
import Derived.Test.YtinlaokblnhgoaaDoorOpen
import Derived.Test.YtinlaokblnhgoaaDoorTb
namespace Go.Proofs.YtinlaokblnhgoaaDoor
set_option linter.unusedVariables false
set_option linter.unusedSimpArgs false
open Go.RowKit
theorem decLen : ∀ (k u : Nat), u < 10 ^ (k + 1) → (Lib.decDigits u).length ≤ k + 1
  | 0, u, h => by
    rw [Lib.decDigits, dif_pos (by simpa using h)]; simp
  | k + 1, u, h => by
    by_cases hu : u < 10
    · rw [Lib.decDigits, dif_pos hu]; simp
    · have := decLen k (u / 10) (by rw [Nat.div_lt_iff_lt_mul (by omega), ← Nat.pow_succ]; exact h)
      rw [Lib.decDigits, dif_neg hu, List.length_append, List.length_singleton]; omega
theorem itoa18 {x : Int} (h0 : 0 ≤ x) (h1 : x ≤ 1000000000) : (Lib.itoa x).length ≤ 18 := by
  obtain ⟨n, rfl⟩ : ∃ n : Nat, x = n := ⟨x.toNat, by omega⟩
  rw [Lib.itoa_nonneg]
  exact decLen 17 n (by have : (10 : Nat) ^ (17 + 1) = 1000000000000000000 := by decide
                        omega)
theorem NV_none {ws : List (List UInt8)} (h : mapO rdN ws = none) : mapO rdV ws = none := by
  cases e : mapO rdV ws with
  | none => rfl
  | some l => rw [((mapO_NV ws l).1 e).1] at h; cases h
theorem NV_neg {ws : List (List UInt8)} {l : List Int} (h : mapO rdN ws = some l) (hn : l.any (fun x => decide (x < 0)) = true) : mapO rdV ws = none := by
  cases e : mapO rdV ws with
  | none => rfl
  | some l' =>
    obtain ⟨a, b, c⟩ := (mapO_NV ws l').1 e
    rw [h] at a; injection a with a; subst a
    obtain ⟨x, hx, hx2⟩ := List.any_eq_true.1 hn
    have := b x hx
    simp at hx2; omega
theorem NV_long {ws : List (List UInt8)} {w : List UInt8} (hw : w ∈ ws) (h : 18 < w.length) : mapO rdV ws = none := by
  cases e : mapO rdV ws with
  | none => rfl
  | some l' => have := ((mapO_NV ws l').1 e).2.2 w hw; omega
theorem NV_some {ws : List (List UInt8)} {l : List Int} (h : mapO rdN ws = some l) (hn : l.any (fun x => decide (x < 0)) = false) (hl : ∀ w ∈ ws, w.length ≤ 18) : mapO rdV ws = some l :=
  (mapO_NV ws l).2 ⟨h, fun x hx => by
    have : ¬ x < 0 := fun q => by
      have h2 : l.any (fun x => decide (x < 0)) = true := List.any_eq_true.2 ⟨x, hx, by simpa using q⟩
      rw [hn] at h2; cases h2
    omega, hl⟩
/-- the store that numbers make -/
noncomputable def rsL (o : Option (List Int)) : Option Sto := match o with
  | some [a, b, c, d, e] => if storeB a b c d e = true then some ⟨a, b, c, d, e⟩ else none
  | _ => none
def rsV (o : Option Sto) : Value := match o with
  | some x => .tuple #[x.v, .bool true]
  | none => .tuple #[stV 0 0 0 0 0, .bool false]
theorem rsL_len {l : List Int} (h : l.length ≠ 5) : rsL (some l) = none := by
  unfold rsL; split
  · rename_i a b c d e hq; injection hq with hq; subst hq; exact absurd rfl h
  · rfl
theorem rsL_yes {a b c d e : Int} (h : storeB a b c d e = true) : rsL (some [a, b, c, d, e]) = some ⟨a, b, c, d, e⟩ := by unfold rsL; simp [h]
theorem rsL_no {a b c d e : Int} (h : storeB a b c d e = false) : rsL (some [a, b, c, d, e]) = none := by unfold rsL; simp [h]
theorem list5 {l : List Int} (h : l.length = 5) : ∃ a b c d e, l = [a, b, c, d, e] := by
  match l, h with
  | [a, b, c, d, e], _ => exact ⟨a, b, c, d, e, rfl⟩
theorem list8 {l : List Int} (h : l.length = 8) : ∃ a b c d e f g i, l = [a, b, c, d, e, f, g, i] := by
  match l, h with
  | [a, b, c, d, e, f, g, i], _ => exact ⟨a, b, c, d, e, f, g, i, rfl⟩
theorem rsL_NV (ws : List (List UInt8)) : rsL (mapO rdV ws) = rsL (mapO rdN ws) := by
  cases hN : mapO rdN ws with
  | none => rw [NV_none hN]
  | some l =>
    cases hV : mapO rdV ws with
    | some l' =>
      have := ((mapO_NV ws l').1 hV).1
      rw [hN] at this; rw [this]
    | none =>
      by_cases h5 : l.length = 5
      · obtain ⟨a, b, c, d, e, rfl⟩ := list5 h5
        cases hs : storeB a b c d e
        · rw [rsL_no hs]; rfl
        · exfalso
          have hb := store_of hs
          obtain ⟨hw, -⟩ := mapO_spell hN
          have : mapO rdV ws = some [a, b, c, d, e] := (mapO_NV ws _).2 ⟨hN, fun x hx => by
              simp only [List.mem_cons, List.not_mem_nil, or_false] at hx
              rcases hx with rfl | rfl | rfl | rfl | rfl <;> omega, fun w hwm => by
              rw [hw] at hwm
              obtain ⟨x, hx, rfl⟩ := List.mem_map.1 hwm
              simp only [List.mem_cons, List.not_mem_nil, or_false] at hx
              rcases hx with rfl | rfl | rfl | rfl | rfl <;> exact itoa18 (by omega) (by omega)⟩
          rw [hV] at this; cases this
      · rw [rsL_len h5]; rfl
/-- the contract that numbers make -/
def rcL (o : Option (List Int)) : Option Ctr := match o with
  | some [a, b, c, d, e, f, g, i] => some ⟨a, b, c, d, e, f, g, i⟩
  | _ => none
def rcV (o : Option Ctr) : Value := match o with
  | some x => .tuple #[x.val, .bool true]
  | none => .tuple #[Ctr.val ⟨0, 0, 0, 0, 0, 0, 0, 0⟩, .bool false]
theorem rcL_len {l : List Int} (h : l.length ≠ 8) : rcL (some l) = none := by
  unfold rcL; split
  · rename_i a b c d e f g i hq; injection hq with hq; subst hq; exact absurd rfl h
  · rfl
theorem rcL_lenV {ws : List (List UInt8)} {l : List Int} (hN : mapO rdN ws = some l) (h : l.length ≠ 8) : rcL (mapO rdV ws) = none := by
  cases hV : mapO rdV ws with
  | none => rfl
  | some l' =>
    have := ((mapO_NV ws l').1 hV).1
    rw [hN] at this; injection this with this; subst this
    exact rcL_len h
/-- a region that reads a list and writes one record into a block that lay there -/
structure WO (w0 : World) (b ks : Nat) (zs cs : List Value) (L : Nat → Bool) (_ρ : Nat) (w : World) : Prop where
  z0 : L ks = false → Below w0.heap.size w0 w ∧ Bx w b zs
  z1 : L ks = true → Keep (· = b) w0 w ∧ Bx w b cs
theorem WO.start {w0 w : World} {b ks : Nat} {zs cs : List Value} (h : Below w0.heap.size w0 w) (hx : Bx w b zs) : WO w0 b ks zs cs (fun _ => false) 0 w := ⟨fun _ => ⟨h, hx⟩, fun h => by cases h⟩
theorem WO.pure {w0 w : World} {b ks i ρ : Nat} {zs cs : List Value} {L : Nat → Bool} (h : WO w0 b ks zs cs L ρ w) (hi : ks ≠ i) : WO w0 b ks zs cs (upd L i) ρ w := ⟨by rw [upd_ne hi]; exact h.z0, by rw [upd_ne hi]; exact h.z1⟩
theorem WO.store {w0 w w' : World} {b ks ρ : Nat} {zs cs : List Value} {L : Nat → Bool} (h : WO w0 b ks zs cs L ρ w) (hl : L ks = false) (hk : Keep (· = b) w w') (hx : Bx w' b cs) : WO w0 b ks zs cs (upd L ks) ρ w' := ⟨(by rw [upd_self]; intro h; cases h), fun _ => ⟨(Keep.of_below _ (h.z0 hl).1).trans hk, hx⟩⟩
/-- the same with a block that the region makes -/
structure WX (w0 : World) (kb ks : Nat) (z cs : List Value) (L : Nat → Bool) (b : Nat) (w : World) : Prop where
  bl : Below w0.heap.size w0 w
  b0 : L kb = true → w0.heap.size ≤ b
  b1 : L kb = true → L ks = false → Bx w b z
  b2 : L ks = true → Bx w b cs
theorem WX.start {w0 w : World} {kb ks b : Nat} {z cs : List Value} (h : Below w0.heap.size w0 w) : WX w0 kb ks z cs (fun _ => false) b w := ⟨h, (fun h => by cases h), (fun h => by cases h), (fun h => by cases h)⟩
theorem WX.pure {w0 w : World} {kb ks b i : Nat} {z cs : List Value} {L : Nat → Bool} (h : WX w0 kb ks z cs L b w) (h1 : kb ≠ i) (h2 : ks ≠ i) : WX w0 kb ks z cs (upd L i) b w :=
  ⟨h.bl, by rw [upd_ne h1]; exact h.b0, by rw [upd_ne h1, upd_ne h2]; exact h.b1, by rw [upd_ne h2]; exact h.b2⟩
theorem WX.boxed {w0 w w' : World} {kb ks b : Nat} {z cs : List Value} {L : Nat → Bool} (h : WX w0 kb ks z cs L b w) (h2 : ks ≠ kb) (hks : L ks = false) (hb : Below w.heap.size w w') (hx : Bx w' w.heap.size z) : WX w0 kb ks z cs (upd L kb) w.heap.size w' :=
  ⟨h.bl.trans (hb.mono h.bl.size), fun _ => h.bl.size, fun _ _ => hx, (by rw [upd_ne h2, hks]; intro q; cases q)⟩
theorem WX.store {w0 w w' : World} {kb ks b : Nat} {z cs : List Value} {L : Nat → Bool} (h : WX w0 kb ks z cs L b w) (h2 : kb ≠ ks) (hL : L kb = true) (hk : Keep (· = b) w w') (hx : Bx w' b cs) : WX w0 kb ks z cs (upd L ks) b w' := by
  have hb := h.b0 hL
  refine ⟨?_, fun _ => hb, fun _ => (by rw [upd_self]; intro q; cases q), fun _ => hx⟩
  exact hk.below h.bl h.bl.size (fun k q => by rw [q]; exact hb)
end Go.Proofs.YtinlaokblnhgoaaDoor

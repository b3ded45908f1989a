/- Lists of bytes as arguments. -/
import Derived.Test.YtbdacplndmnkhaaGreatDoorOpenN
namespace Go.Proofs.YtbdacplndmnkhaaGreatDoor
set_option linter.unusedVariables false
set_option linter.unusedSimpArgs false
open Go.Joins Go.ChangeShapes Go.WideShapes Go.ChangeAt Go.RowKit Go.Deep
abbrev bV (n : Int) : Value := .int .u8 n
structure BytesIn (w : World) (A : Option Addr) (l : List Int) : Prop where
  rd : Rd w A (l.map bV)
  ln : l.length ≤ 9223372036854775807
  ok : ∀ x ∈ l, 0 ≤ x ∧ x ≤ 255
theorem BytesIn.below {w w' : World} {A : Option Addr} {l : List Int} (h : BytesIn w A l) (hb : Below w.heap.size w w') : BytesIn w' A l := ⟨h.rd.below hb, h.ln, h.ok⟩
theorem u8_wf {n : Int} (h : (Lit.int .u8 n).wf = true) : 0 ≤ n ∧ n ≤ 255 := by
  simpa [Lit.wf, IntKind.min, IntKind.max, IntKind.signed, IntKind.bits] using h
section
variable {H : Type} {enc : TypeId × Value → H} {w : World}
set_option maxRecDepth 100000
theorem trod_bytes {fuel : Nat} {v : Value} {y : DataW H × List MemPlace} (h : DataW.trod enc Tryz.prog w 0 (fun _ => true) true fuel 22 [v] = some y) : ∃ A c l, v = .slice A l.length c ∧ BytesIn w A l := by
  rcases open_ints Tryz.underlying22 Tryz.underlying5 (by kernel_rfl) h with ⟨hcs, _⟩ | ⟨a, len, c, zs, hcs, _, hl, hm, hz, _, hcell, hwz⟩
  · simp at hcs
    exact ⟨none, 0, [], by rw [hcs]; rfl, Rd.nil, Nat.zero_le _, by simp⟩
  · simp at hcs
    have hz' : len ≤ zs.length := by simp at hz; omega
    have hcap : c ≤ 9223372036854775807 := by unfold maxLen at hm; omega
    by_cases h0 : len = 0
    · subst h0
      exact ⟨some a, c, [], by rw [hcs]; rfl, Rd.nil, Nat.zero_le _, by simp⟩
    · obtain ⟨b, off, spot⟩ := a
      have h00 := hcell 0 (by omega)
      have hsp : spot = none := by simpa [Addr.add] using World.cell?_spot h00
      subst hsp
      refine ⟨some ⟨b, off, none⟩, c, zs.take len, by rw [hcs]; simp; omega, ?_, by simp; omega, fun x hx => u8_wf (hwz x (List.mem_of_mem_take hx))⟩
      refine Rd.mk (fun j v hj => ?_) ?_
      · rw [List.getElem?_map] at hj
        have hjl : j < len := by
          rcases Nat.lt_or_ge j len with h | h
          · exact h
          · rw [List.getElem?_eq_none (by simp; omega)] at hj; simp at hj
        rw [List.getElem?_take, if_pos hjl, List.getElem?_eq_getElem (by omega)] at hj
        simp at hj; subst hj
        have := hcell j (by omega)
        rw [add_none] at this
        rw [this]; simp [List.getElem?_eq_getElem (show j < zs.length by omega)]
      · have := block_lt h00; rw [add_none] at this; exact this
theorem open_bytes' {r : Reach} {b0 : Nat} {v : Value} {d : DataW H} {p : List MemPlace} (hv : Value.okWide Tryz.prog w r b0 22 v) (h : DataW.Trod enc Tryz.prog w 0 (fun _ => true) true 22 v d p) : ∃ A c l, v = .slice A l.length c ∧ BytesIn w A l := by
  obtain ⟨A, len, cap, rfl⟩ := okWide_slice Tryz.underlying22 hv
  obtain ⟨fuel, hf⟩ := h
  exact trod_bytes hf
end
end Go.Proofs.YtbdacplndmnkhaaGreatDoor

/- A text that was written from numbers is read again. -/
import Derived.Test.YtinlaokblnhgoaaDoorTrp
namespace Go.Proofs.YtinlaokblnhgoaaDoor
set_option linter.unusedVariables false
set_option linter.unusedSimpArgs false
open Go.RowKit
theorem itoa_sls {n : Int} {c : UInt8} (hc : c.toNat < 45) : ∀ b ∈ Lib.itoa n, b ≠ c := by
  intro b hb e
  subst e
  rcases itoa_bytes hb with h | h
  · omega
  · unfold isD at h; omega
theorem itoa_47 {n : Int} : ∀ b ∈ Lib.itoa n, b ≠ 47 := by
  intro b hb e
  subst e
  rcases itoa_bytes hb with h | h
  · exact absurd h (by decide)
  · exact absurd h (by decide)
/-- what was written is read again -/
theorem joinN_split {x : Int} {l : List Int} {sep : ByteArray} {c : UInt8} (hs : sep.data.toList = [c]) (h : ∀ (n : Int), ∀ b ∈ Lib.itoa n, b ≠ c) : spl c (bl (joinN (x :: l) sep)) = (x :: l).map Lib.itoa := by
  have e : bl (joinN (x :: l) sep) = Lib.join ((x :: l).map Lib.itoa) [c] := by
    show (Lib.join ((x :: l).map Lib.itoa) sep.data.toList).toArray.toList = _
    rw [hs]
  rw [e, List.map_cons]
  exact spl_join c _ _ (fun w hw b hb => by
    rcases List.mem_cons.1 hw with rfl | hw
    · exact h _ b hb
    · obtain ⟨y, _, rfl⟩ := List.mem_map.1 hw
      exact h _ b hb)
theorem mapO_itoa {l : List Int} (h : I64 l) : mapO rdN (l.map Lib.itoa) = some l := mapO_map (fun y => -9223372036854775808 ≤ y ∧ y ≤ 9223372036854775807) (fun y hy => rdN_itoa hy) l h
theorem joinN_ne {x : Int} {l : List Int} {sep : ByteArray} : joinN (x :: l) sep ≠ ⟨#[]⟩ := by
  intro h
  have h2 := congrArg bl h
  have e : bl (joinN (x :: l) sep) = Lib.itoa x ++ Lib.joinTail sep.data.toList (l.map Lib.itoa) := by
    show (Lib.join ((x :: l).map Lib.itoa) sep.data.toList).toArray.toList = _
    rw [List.map_cons, Lib.join_cons]
  rw [e] at h2
  have h3 : Lib.itoa x = [] := (List.append_eq_nil_iff.1 (h2.trans rfl)).1
  unfold Lib.itoa at h3
  split at h3
  · cases h3
  · exact dec_ne _ h3
theorem joinN_mod {l : List Int} {sep : ByteArray} (h : I64 l) (hl : l.length ≤ 1000) (hs : sep.size ≤ 1) : Mod (joinN l sep) := by
  have h2 := join_le (l := l.map Lib.itoa) (sep := sep.data.toList) (b := 21) (fun x hx => by
    obtain ⟨y, hy, rfl⟩ := List.mem_map.1 hx
    exact itoa_le (h y hy)) (by rw [Array.length_toList]; exact hs)
  rw [List.length_map] at h2
  unfold Mod
  have e : (joinN l sep).size = (Lib.join (l.map Lib.itoa) sep.data.toList).length := by simp [joinN, ByteArray.size]
  rw [e]; omega
end Go.Proofs.YtinlaokblnhgoaaDoor

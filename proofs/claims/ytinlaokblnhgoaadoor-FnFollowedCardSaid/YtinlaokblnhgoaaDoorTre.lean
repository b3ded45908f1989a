/- Lists of numbers read, texts cut: spec.l03Numbers, spec.l01Split, strings.Split. -/
import Derived.Test.YtinlaokblnhgoaaDoorTrd
namespace Go.Proofs.YtinlaokblnhgoaaDoor
set_option linter.unusedVariables false
set_option linter.unusedSimpArgs false
open Go.RowKit
theorem cut_hit {S : List UInt8} {c : UInt8} {fr k : Nat} {D R : List (List UInt8)} (hx : S[k]? = some c) (h : D ++ glue ((S.drop fr).take (k - fr)) (spl c (S.drop k)) = R) :
    (D ++ [(S.drop fr).take (k - fr)]) ++ glue ((S.drop (k + 1)).take (k + 1 - (k + 1))) (spl c (S.drop (k + 1))) = R := by
  rw [← h, drop_consI hx, spl_cons_eq, Nat.sub_self, List.take_zero, glue_nil (spl_ne c _)]
  simp [glue]
theorem cut_miss {S : List UInt8} {c x : UInt8} {fr k : Nat} {D R : List (List UInt8)} (hx : S[k]? = some x) (hc : x ≠ c) (hf : fr ≤ k) (h : D ++ glue ((S.drop fr).take (k - fr)) (spl c (S.drop k)) = R) :
    D ++ glue ((S.drop fr).take (k + 1 - fr)) (spl c (S.drop (k + 1))) = R := by
  have e : (S.drop fr)[k - fr]? = some x := by rw [List.getElem?_drop, show fr + (k - fr) = k by omega]; exact hx
  rw [← h, drop_consI hx, spl_cons_ne hc, glue_glue _ _ _ (spl_ne c _), show k + 1 - fr = (k - fr) + 1 by omega, List.take_add_one, e]
  rfl
theorem cut_end {S : List UInt8} {c : UInt8} {fr : Nat} {D R : List (List UInt8)} (h : D ++ glue ((S.drop fr).take (S.length - fr)) (spl c (S.drop S.length)) = R) :
    D ++ [(S.drop fr).take (S.length - fr)] = R := by
  rw [← h, List.drop_length]; simp [spl, glue]
theorem bl_extract (s : ByteArray) (a b : Nat) : bl (s.extract a b) = ((bl s).drop a).take (b - a) := by
  show (s.extract a b).data.toList = _
  rw [ByteArray.data_extract, Array.toList_extract, List.extract_eq_take_drop]
theorem spl_part : ∀ (c : UInt8) (l x : List UInt8), x ∈ spl c l → x.length ≤ l.length
  | c, [], x, h => by simp [spl] at h; subst h; simp
  | c, b :: l, x, h => by
    have ih := spl_part c l
    unfold spl at h
    split at h
    · rcases List.mem_cons.1 h with rfl | h'
      · simp
      · have := ih x h'; simp; omega
    · cases e : spl c l with
      | nil => exact absurd e (spl_ne c l)
      | cons y r =>
        rw [e] at h ih
        rcases List.mem_cons.1 h with rfl | h'
        · have := ih y (by simp); simp; omega
        · have := ih x (by simp [h']); simp; omega
/-- the words of a text, as it was cut -/
structure Cut (s : ByteArray) (c : UInt8) (ws : List ByteArray) : Prop where
  eq : ws.map bl = spl c (bl s)
theorem Cut.len {s : ByteArray} {c : UInt8} {ws : List ByteArray} (h : Cut s c ws) (hs : Mod s) : ws.length ≤ 1048601 := by
  have h1 := congrArg List.length h.eq
  have h2 := spl_length c (bl s)
  rw [List.length_map] at h1
  rw [bl_len] at h2
  unfold Mod at hs; omega
theorem Cut.mod {s : ByteArray} {c : UInt8} {ws : List ByteArray} (h : Cut s c ws) (hs : Mod s) : ∀ x ∈ ws, Mod x := by
  intro x hx
  have h1 : bl x ∈ spl c (bl s) := by rw [← h.eq]; exact List.mem_map.2 ⟨x, hx, rfl⟩
  have h2 := spl_part c _ _ h1
  rw [bl_len, bl_len] at h2
  unfold Mod at hs ⊢; omega
theorem split_one (s : ByteArray) (c : UInt8) (w : World) (hs : Mod s) (ht : Tabs w) :
    Calls Tryd.prog 28 #[.string s, .string ⟨#[c]⟩] w fun e w' => ∃ A d ws, e = .returned (.slice A ws.length d) ∧ Cut s c ws ∧ Rd w' A (ws.map sV) ∧ Below w.heap.size w w' := by
  unfold Mod at hs
  obtain ⟨m, hm⟩ := ht.max
  refine (Tryd.strings_Split s ⟨#[c]⟩ m w (by omega) hm (by show 1 ≤ 1; omega)).mono ?_
  rintro e w' ⟨rfl, rfl⟩
  have hl : (Lib.splitB ⟨#[c]⟩ 0 (Lib.countB s ⟨#[c]⟩) s).length = Lib.countB s ⟨#[c]⟩ + 1 := Lib.splitB_all ⟨#[c]⟩ (by show 1 ≤ 1; omega) 0 _ s rfl
  refine ⟨some ⟨w.heap.size, 0, none⟩, Lib.countB s ⟨#[c]⟩ + 1, Lib.splitB ⟨#[c]⟩ 0 (Lib.countB s ⟨#[c]⟩) s, by rw [hl], ⟨splitB_spl c s⟩, ?_, (Below.refl _ _).alloc (Nat.le_refl _) _⟩
  exact Rd.mk (fun j v e => by rw [Nat.zero_add]; simp; simpa using e) (by simp)
end Go.Proofs.YtinlaokblnhgoaaDoor

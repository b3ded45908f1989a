/- ContractText. -/
import Derived.Test.YtinlaokblnhgoaaDoorTst
import Derived.Test.YtinlaokblnhgoaaDoorDat
import Derived.Test.YtinlaokblnhgoaaDoorSu
namespace Go.Proofs.YtinlaokblnhgoaaDoor
set_option linter.unusedVariables false
set_option linter.unusedSimpArgs false
open Go.RowKit
def spc : ByteArray := ⟨#[32]⟩
/-- the numbers of a contract -/
def ctN (c : Ctr) : List Int := [c.sh, c.en, c.ex, c.am, c.cl, c.fr, c.to, c.pr]
theorem ctN_i64 {c : Ctr} (h : c.ok) : I64 (ctN c) := by
  obtain ⟨h0, h1, h2, h3, h4, h5, h6, h7⟩ := h
  intro x hx
  simp only [ctN, List.mem_cons, List.not_mem_nil, or_false] at hx
  rcases hx with rfl | rfl | rfl | rfl | rfl | rfl | rfl | rfl <;> assumption
noncomputable def ctT (c : Ctr) : ByteArray := if (ctN c).any (fun x => decide (x < 0)) = true then ⟨#[]⟩ else joinN (ctN c) spc
theorem ct_neg {c : Ctr} (h : (ctN c).any (fun x => decide (x < 0)) = true) : ctT c = ⟨#[]⟩ := by unfold ctT; rw [if_pos h]
theorem ct_pos {c : Ctr} (h : (ctN c).any (fun x => decide (x < 0)) = false) : ctT c = joinN (ctN c) spc := by unfold ctT; rw [h]; rfl
/-- a list's least number -/
theorem any_snoc {l : List Int} {k : Nat} {x : Int} (h : l[k]? = some x) : (l.take (k + 1)).any (fun x => decide (x < 0)) = ((l.take k).any (fun x => decide (x < 0)) || decide (x < 0)) := by
  rw [List.take_add_one, h, List.any_append]; simp
/-- numbers, each with a blank in front -/
def tlN (l : List Int) : ByteArray := ⟨(Lib.joinTail [32] (l.map Lib.itoa)).toArray⟩
theorem tlN_snoc {l : List Int} {k : Nat} {x : Int} (h : l[k]? = some x) : tlN (l.take k) ++ spc ++ itS x = tlN (l.take (k + 1)) := by
  have e : (l.map Lib.itoa)[k]? = some (Lib.itoa x) := by rw [List.getElem?_map, h]; rfl
  have := Lib.joinTail_take_succ [32] (l.map Lib.itoa) k (Lib.itoa x) e
  simp only [tlN, List.map_take, this]
  simp [itS, spc, ByteArray.append_eq, ByteArray.ext_iff]
theorem tlN_size {l : List Int} (h : I64 l) : (tlN l).size ≤ l.length * 22 := by
  have h1 : (tlN l).size = (Lib.joinTail [32] (l.map Lib.itoa)).length := by simp [tlN, ByteArray.size]
  have h2 := lens_le (l := l.map Lib.itoa) (b := 21) (fun x hx => by
    obtain ⟨y, hy, rfl⟩ := List.mem_map.1 hx
    exact itoa_le (h y hy))
  rw [h1, Lib.joinTail_length]
  simp only [List.length_map, List.length_cons, List.length_nil] at h2 ⊢
  omega
theorem ext_tail (b : UInt8) (a : List UInt8) : (⟨(b :: a).toArray⟩ : ByteArray).extract 1 (⟨(b :: a).toArray⟩ : ByteArray).size = ⟨a.toArray⟩ := by
  apply ByteArray.ext
  apply Array.ext'
  simp [ByteArray.size]
theorem tlN_tail {x : Int} {l : List Int} : (tlN (x :: l)).extract 1 (tlN (x :: l)).size = joinN (x :: l) spc := by
  have e : tlN (x :: l) = ⟨(32 :: (Lib.itoa x ++ Lib.joinTail [32] (l.map Lib.itoa))).toArray⟩ := by
    simp only [tlN, List.map_cons, Lib.joinTail, List.flatten_cons]; simp
  rw [e, ext_tail, joinN, List.map_cons, Lib.join_cons]; rfl
end Go.Proofs.YtinlaokblnhgoaaDoor

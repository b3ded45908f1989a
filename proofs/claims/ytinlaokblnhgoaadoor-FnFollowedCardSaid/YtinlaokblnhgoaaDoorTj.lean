/- Joining numbers: impl.joinNumbers. -/
import Derived.Test.YtinlaokblnhgoaaDoorTd
import Derived.Test.YtinlaokblnhgoaaDoorRd
namespace Go.Proofs.YtinlaokblnhgoaaDoor
set_option linter.unusedVariables false
set_option linter.unusedSimpArgs false
open Go.RowKit
/-- int64 numbers -/
def I64 (l : List Int) : Prop := ∀ x ∈ l, -9223372036854775808 ≤ x ∧ x ≤ 9223372036854775807
theorem itoa_le {n : Int} (h : -9223372036854775808 ≤ n ∧ n ≤ 9223372036854775807) : (Lib.itoa n).length ≤ 21 := Lib.itoa_length_le n h.1 h.2
theorem lens_le : ∀ {l : List (List UInt8)} {b : Nat}, (∀ x ∈ l, x.length ≤ b) → Lib.lens l ≤ l.length * b
  | [], b, _ => by simp [Lib.lens]
  | x :: l, b, h => by
    have ih := lens_le (l := l) (b := b) (fun y hy => h y (by simp [hy]))
    have := h x (by simp)
    simp only [Lib.lens, List.map_cons, List.sum_cons, List.length_cons] at ih ⊢
    rw [Nat.succ_mul]; omega
theorem join_le {l : List (List UInt8)} {sep : List UInt8} {b : Nat} (h : ∀ x ∈ l, x.length ≤ b) (hs : sep.length ≤ 1) : (Lib.join l sep).length ≤ l.length * (b + 1) := by
  cases l with
  | nil => simp [Lib.join_nil]
  | cons x l =>
    rw [Lib.join_cons, List.length_append, Lib.joinTail_length]
    have h1 := h x (by simp)
    have h2 := lens_le (l := l) (b := b) (fun y hy => h y (by simp [hy]))
    have h3 : sep.length * l.length ≤ l.length := by
      calc sep.length * l.length ≤ 1 * l.length := Nat.mul_le_mul_right _ hs
        _ = l.length := by omega
    simp only [List.length_cons]
    rw [Nat.succ_mul, Nat.mul_add, Nat.mul_one]; omega
/-- numbers in decimal, joined by a byte -/
def joinN (l : List Int) (sep : ByteArray) : ByteArray := ⟨(Lib.join (l.map Lib.itoa) sep.data.toList).toArray⟩
theorem info_str : (Tryd.prog.info? 9).map (fun i => (i.zero, i.size, i.bytes)) = some (some (.string ⟨#[]⟩), 1, 16) := by kernel_rfl
set_option maxRecDepth 100000 in
set_option maxHeartbeats 2000000 in
theorem impl_joinNumbers (A : Option Addr) (c : Nat) (l : List Int) (sep : ByteArray) (w : World) (h : Rd w A (l.map iV)) (hl : l.length ≤ 1000) (hi : I64 l) (hs : sep.size ≤ 1) (ht : Pow w) :
    Calls Tryd.prog 26 #[.slice A l.length c, .string sep] w fun e w' => e = .returned (.string (joinN l sep)) ∧ Below w.heap.size w w' := by
  have hmk := make_rule (P := Tryd.prog) info_str Tryd.underlying50 l.length (by omega) (by omega)
  have H := Lib.hid h
  have HT := Lib.hid ht
  have HI := Lib.hid hi
  clear h ht hi
  go_enter Tryd.func26, Tryd.ntmps26
  go_wp2
  have ha := Arr.made w (.string ⟨#[]⟩) l.length 1 9 rfl (by omega)
  have hb0 : Below w.heap.size w (w.alloc (.cells (madeCells (Value.string ⟨#[]⟩).cells (l.length * 1)) 9)) := (Below.refl _ _).alloc (Nat.le_refl _) _
  clear hmk
  go_loopw [13] (fun v wr => ∃ k : Nat, k ≤ l.length ∧ v = .int .i64 k ∧ Arr wr w.heap.size (l.length * 1) ((l.take k).map fun n => .string (itS n)) ∧ Below w.heap.size w wr) (fun v _ => l.length - (intOf v).toNat)
  case atStart => exact ⟨0, by omega, rfl, by simpa [Value.cells] using ha, by simpa [Value.cells] using hb0⟩
  case round =>
    obtain ⟨k, hk, rfl, hA, hbw⟩ := hrel
    have HA := Lib.hid hA
    have hbH := Lib.hid hbw
    clear ha hb0
    by_cases hlt : k < l.length
    · obtain ⟨n, hn⟩ := get_some hlt
      obtain ⟨b, off, rfl, hb, hat⟩ := H.out.opened (k := k) (by simpa using hlt)
      have t0 := ints_at (hat.below hbw hb) hn
      have HN := Lib.hid hn
      have hin := HI.out n (List.mem_of_getElem? hn)
      have HTW := Lib.hid (HT.out.below hbw)
      clear hn hat hA hbw
      go_wp2_with fail
      refine (impl_decimal n _ hin.1 hin.2 HTW.out).mono ?_
      rintro e wn ⟨rfl, hbn⟩
      have hA2 := HA.out.below hbn HA.out.lt
      have HA2 := Lib.hid hA2
      obtain ⟨u, t1⟩ := hA2.some_ (j := k) (by omega)
      have t2 := hA2.free (j := k) (by omega)
      have HB2 := Lib.hid (Below.via hbH.out hbn hbH.out.size)
      clear hA2 hbn
      go_wp2
      go_roundw
      case rel =>
        refine ⟨k + 1, by omega, by go_num, ?_, HB2.out.setCell (by simp) _⟩
        rw [List.take_add_one, HN.out, List.map_append]
        exact HA2.out.push k (by simp; omega) (by omega) _
      case measure => simp [intOf]; omega
    · have hkl : k = l.length := by omega
      have hcells : ∀ (j : Nat) x, (l.map itS)[j]? = some x → wr.cell? ⟨w.heap.size, 0 + j, none⟩ = some (.string x) := by
        intro j x hx
        rw [Nat.zero_add]
        refine hA.cell ?_
        rw [hkl, List.take_length, List.getElem?_map]
        rw [List.getElem?_map] at hx
        cases hj : l[j]? with
        | none => rw [hj] at hx; cases hx
        | some y => simpa [hj] using hx
      have hj := Tryd.strings_Join w.heap.size 0 l.length (l.map itS) sep wr hcells hA.lt (by rw [List.length_map]; omega) (by rw [List.length_map]; exact Nat.le_refl _) (by
        have h1 : ((l.map itS).map (·.data.toList)) = l.map Lib.itoa := by simp [itS_list]
        rw [h1]
        have h2 := join_le (l := l.map Lib.itoa) (sep := sep.data.toList) (b := 21) (fun x hx => by
          obtain ⟨y, hy, rfl⟩ := List.mem_map.1 hx
          exact itoa_le (HI.out y hy)) (by rw [Array.length_toList]; exact hs)
        rw [List.length_map] at h2; omega)
      have h1 : ((l.map itS).map (·.data.toList)) = l.map Lib.itoa := by simp [itS_list]
      rw [h1, List.length_map] at hj
      have HJ := Lib.hid hj
      clear hA hbw hcells hj h1
      go_wp2_with ((go_at_call 34; refine HJ.out.mono ?_; rintro e w1 ⟨rfl, hb1⟩))
      go_ret
      exact ⟨rfl, hbH.out.trans (hb1.mono hbH.out.size)⟩
end Go.Proofs.YtinlaokblnhgoaaDoor

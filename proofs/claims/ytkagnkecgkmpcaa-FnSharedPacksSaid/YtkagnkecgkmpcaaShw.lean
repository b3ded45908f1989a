/- Shares by greatest rests: the walks. -/
import Derived.Test.YtkagnkecgkmpcaaShm
import Derived.Test.YtkagnkecgkmpcaaSp
import Derived.Test.YtkagnkecgkmpcaaSc
import Derived.Deep.DeepCutAuto
import Derived.RegionTactic
namespace Go.Proofs.Ytkagnkecgkmpcaa
set_option linter.unusedVariables false
set_option linter.unusedSimpArgs false
open Go.RowKit
def maxL : List Int → Int
  | [] => 0
  | x :: l => maxF x l
set_option maxRecDepth 100000 in
set_option maxHeartbeats 1000000 in
theorem slices_MaxI (A : Option Addr) (c : Nat) (l : List Int) (w : World) (h : Rd w A (l.map iV)) (hl : l.length ≤ 1048576) (h1 : 1 ≤ l.length) :
    Calls Try.prog 52 #[.slice A l.length c] w fun e w' => e = .returned (.int .i64 (maxL l)) ∧ w = w' := by
  have H := Lib.hid h
  clear h
  obtain ⟨x0, hx0⟩ := get_some (show 0 < l.length by omega)
  obtain ⟨b, off, rfl, hb, hat⟩ := H.out.opened (k := 0) (by simp; omega)
  have t0 := ints_at hat hx0
  have t0' : w.cell? ⟨b, off, none⟩ = some (.int .i64 x0) := by simpa using t0
  have HM := Lib.hid (show maxF x0 (l.drop 1) = maxL l by
    cases l with
    | nil => simp at h1
    | cons y l => simp at hx0; subst hx0; rfl)
  have HAT := Lib.hid hat
  have g0 : ¬ (l.length : Int) < 1 := by omega
  have g0' : (0 : Int) < l.length := by omega
  clear hx0 hat
  go_enter Try.func52, Try.ntmps52
  go_wp2
  go_loop [3, 4] (fun u v => ∃ (k : Nat) (m : Int), 1 ≤ k ∧ k ≤ l.length ∧ v = .int .i64 k ∧ u = .int .i64 m ∧ maxF m (l.drop k) = maxL l) (fun _ v => l.length - (intOf v).toNat)
  case atStart => exact ⟨1, x0, by omega, by omega, rfl, rfl, HM.out⟩
  case round =>
    obtain ⟨k, m, hk1, hk, rfl, rfl, hF⟩ := hrel
    have HF := Lib.hid hF
    clear hF t0 t0'
    by_cases hlt : k < l.length
    · obtain ⟨y, hy⟩ := get_some hlt
      have t1 := ints_at HAT.out hy
      have HD := Lib.hid (drop_consI hy)
      have g1 : (k : Int) < l.length := by omega
      clear hy
      by_cases hm : m < y
      · have HE := Lib.hid (show max m y = y by omega)
        go_wp2
        go_round
        case rel =>
          refine ⟨k + 1, _, by omega, by omega, by go_num, rfl, ?_⟩
          rw [← HF.out, HD.out, maxF, HE.out]
        case measure => simp [intOf]; omega
      · have HE := Lib.hid (show max m y = m by omega)
        go_wp2
        go_round
        case rel =>
          refine ⟨k + 1, _, by omega, by omega, by go_num, rfl, ?_⟩
          rw [← HF.out, HD.out, maxF, HE.out]
        case measure => simp [intOf]; omega
    · go_wp2
      go_ret
      refine ⟨ri ?_, rfl⟩
      rw [← HF.out, drop_endI hlt, maxF]
theorem idxF_first (x : Int) : ∀ (l : List Int) (k : Nat), x ∈ l → ∃ j : Nat, idxF x l k = ((k + j : Nat) : Int) ∧ l[j]? = some x ∧ ∀ i, i < j → l[i]? ≠ some x
  | [], k, h => by simp at h
  | y :: l, k, h => by
    by_cases e : x = y
    · subst e
      exact ⟨0, by simp [idxF], by simp, fun i hi => by omega⟩
    · have e1 : (x == y) = false := by simpa using e
      have h' : x ∈ l := by
        rcases List.mem_cons.1 h with h | h
        · exact absurd h e
        · exact h
      obtain ⟨j, h1, h2, h3⟩ := idxF_first x l (k + 1) h'
      refine ⟨j + 1, by rw [idxF, e1]; simp only [Bool.false_eq_true, if_false]; rw [h1]; omega, by simpa using h2, fun i hi => ?_⟩
      cases i with
      | zero => simpa using fun q : y = x => e q.symm
      | succ i => simpa using h3 i (by omega)
theorem idx_best {l : List Int} (h : 1 ≤ l.length) : idxF (maxL l) l 0 = (best l : Int) := by
  have hne : l ≠ [] := by rintro rfl; simp at h
  have hb := best_is hne
  have hmem : maxL l ∈ l := by
    cases l with
    | nil => exact absurd rfl hne
    | cons x l => rcases maxF_mem x l with e | e <;> simp [maxL, e]
  have hge : ∀ y ∈ l, y ≤ maxL l := by
    cases l with
    | nil => exact absurd rfl hne
    | cons x l =>
      intro y hy
      rcases List.mem_cons.1 hy with rfl | hy
      · exact (maxF_ge _ l).1
      · exact (maxF_ge x l).2 y hy
  obtain ⟨j, h1, h2, h3⟩ := idxF_first (maxL l) l 0 hmem
  have : IsBest l j := ⟨maxL l, h2, hge, fun i y hi hy => by
    have a := hge y (List.mem_of_getElem? hy)
    have b : y ≠ maxL l := fun e => h3 i hi (by rw [hy, e])
    omega⟩
  rw [h1, this.uniq hb]; simp
structure ShOk (total : Int) (ws : List Int) : Prop where
  n : ws.length ≤ 64
  w0 : ∀ x ∈ ws, 0 ≤ x ∧ x ≤ 1000000000
  t0 : 0 ≤ total
  t1 : total ≤ 1000000000
  s : 0 < sumF ws
theorem ShOk.sum {total : Int} {ws : List Int} (h : ShOk total ws) : sumF ws ≤ 64000000000 := by
  have := sumF_le (m := 1000000000) (l := ws) (fun x hx => (h.w0 x hx).2)
  have := h.n
  omega
theorem ShOk.pos {total : Int} {ws : List Int} (h : ShOk total ws) : 1 ≤ ws.length := by
  have := h.s
  cases ws with
  | nil => simp [sumF] at this
  | cons x l => simp
theorem ShOk.mul {total : Int} {ws : List Int} (h : ShOk total ws) {x : Int} (hx : x ∈ ws) : 0 ≤ total * x ∧ total * x ≤ 1000000000000000000 := by
  obtain ⟨a, b⟩ := h.w0 x hx
  refine ⟨Int.mul_nonneg h.t0 a, ?_⟩
  have := Int.mul_le_mul h.t1 b a (by omega)
  omega
theorem ShOk.quo {total : Int} {ws : List Int} (h : ShOk total ws) {x : Int} (hx : x ∈ ws) : 0 ≤ total * x / sumF ws ∧ total * x / sumF ws ≤ 1000000000000000000 := by
  obtain ⟨a, b⟩ := h.mul hx
  refine ⟨Int.ediv_nonneg a (by have := h.s; omega), ?_⟩
  exact Int.le_trans (Int.ediv_le_self _ a) b
theorem sumF_append (a b : List Int) : sumF (a ++ b) = sumF a + sumF b := by
  induction a with
  | nil => simp [sumF]
  | cons x l ih => simp [sumF, ih]; omega
theorem take_snocI {l : List Int} {k : Nat} {x : Int} (h : l[k]? = some x) : l.take (k + 1) = l.take k ++ [x] := by
  obtain ⟨hk, rfl⟩ := List.getElem?_eq_some_iff.1 h
  rw [List.take_succ_eq_append_getElem hk]
/-- the loop that hands the rests out -/
structure Spr (total : Int) (ws : List Int) (j : Nat) (sh rs : List Int) : Prop where
  l1 : sh.length = ws.length
  l2 : rs.length = ws.length
  jl : j ≤ ws.length
  sp : spread j sh rs = sharesF total ws
  bd : ∀ x ∈ sh, 0 ≤ x ∧ x ≤ 1000000000000000000 + ((ws.length : Int) - j)
theorem Spr.init {total : Int} {ws : List Int} (h : ShOk total ws) : Spr total ws (total - sumF (shareF total (sumF ws) ws)).toNat (shareF total (sumF ws) ws) (restF total (sumF ws) ws) := by
  have hl := left_bd (total := total) h.s
  refine ⟨by simp [shareF], by simp [restF], by omega, rfl, fun x hx => ?_⟩
  obtain ⟨y, hy, rfl⟩ := List.mem_map.1 hx
  have := h.quo hy
  omega
theorem Spr.next {total : Int} {ws sh rs : List Int} {j : Nat} (h : Spr total ws (j + 1) sh rs) (hp : 1 ≤ ws.length) (hn : ws.length ≤ 64) : ∃ x y, sh[best rs]? = some x ∧ rs[best rs]? = some y ∧ best rs < ws.length ∧ 0 ≤ x ∧ x ≤ 1000000000000000100 ∧ Spr total ws j (sh.set (best rs) (x + 1)) (rs.set (best rs) (-1)) := by
  have hb := (best_is (l := rs) (by rintro rfl; have := h.l2; simp at this; omega)).lt
  obtain ⟨x, hx⟩ := get_some (show best rs < sh.length by rw [h.l1, ← h.l2]; exact hb)
  obtain ⟨y, hy⟩ := get_some hb
  have hbx := h.bd x (List.mem_of_getElem? hx)
  have hj := h.jl
  refine ⟨x, y, hx, hy, by rw [← h.l2]; exact hb, hbx.1, by
    have := hbx.2
    omega, by simp [h.l1], by simp [h.l2], by omega, ?_, fun z hz => ?_⟩
  · have := h.sp
    rw [spread, inc, hx] at this
    exact this
  · rcases List.mem_or_eq_of_mem_set hz with hz | hz
    · have := h.bd z hz; omega
    · omega
end Go.Proofs.Ytkagnkecgkmpcaa

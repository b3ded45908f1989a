/- Matched orders: the walk of matched. -/
import Derived.Test.YthdonmdhlgajhaaSu
import Derived.Test.YthdonmdhlgajhaaCt1
import Derived.Test.YthdonmdhlgajhaaSp
import Derived.Deep.DeepCutAuto
import Derived.RegionTactic
import Derived.Test.YthdonmdhlgajhaaNt4
import Derived.Test.YthdonmdhlgajhaaCp
import Derived.Test.YthdonmdhlgajhaaAp2
import Derived.Deep.RegionHeld3
import Derived.IntWalk
import Derived.Test.YthdonmdhlgajhaaTot
namespace Go.Proofs.Ythdonmdhlgajhaa
set_option linter.unusedVariables false
set_option linter.unusedSimpArgs false
open Go.RowKit
/-- the greatest number of x :: l -/
def maxF (x : Int) : List Int → Int
  | [] => x
  | y :: l => maxF (max x y) l
/-- the first place of the greatest number: b is the best so far, with value x; k the next place -/
def bestF (b : Nat) (x : Int) (k : Nat) : List Int → Nat
  | [] => b
  | y :: l => if x < y then bestF k y (k + 1) l else bestF b x (k + 1) l
def best : List Int → Nat
  | [] => 0
  | x :: l => bestF 0 x 1 l
theorem maxF_ge (x : Int) (l : List Int) : x ≤ maxF x l ∧ ∀ y ∈ l, y ≤ maxF x l := by
  induction l generalizing x with
  | nil => simp [maxF]
  | cons z l ih =>
    obtain ⟨h1, h2⟩ := ih (max x z)
    simp only [maxF]
    refine ⟨by omega, fun y hy => ?_⟩
    rcases List.mem_cons.1 hy with rfl | hy
    · omega
    · exact h2 y hy
theorem maxF_mem (x : Int) (l : List Int) : maxF x l = x ∨ maxF x l ∈ l := by
  induction l generalizing x with
  | nil => simp [maxF]
  | cons z l ih =>
    simp only [maxF]
    rcases ih (max x z) with h | h
    · rcases Int.le_total x z with hz | hz
      · right; rw [h, Int.max_eq_right hz]; simp
      · left; rw [h, Int.max_eq_left hz]
    · right; exact List.mem_cons_of_mem _ h
/-- k is the first place of a greatest number of l -/
def IsBest (l : List Int) (k : Nat) : Prop := ∃ x, l[k]? = some x ∧ (∀ y ∈ l, y ≤ x) ∧ ∀ j y, j < k → l[j]? = some y → y < x
theorem IsBest.uniq {l : List Int} {a b : Nat} (ha : IsBest l a) (hb : IsBest l b) : a = b := by
  obtain ⟨x, h1, h2, h3⟩ := ha
  obtain ⟨y, k1, k2, k3⟩ := hb
  have e1 := h2 y (List.mem_of_getElem? k1)
  have e2 := k2 x (List.mem_of_getElem? h1)
  rcases Nat.lt_trichotomy a b with h | h | h
  · have := k3 a x h h1; omega
  · exact h
  · have := h3 b y h k1; omega
theorem bestF_is (l0 : List Int) : ∀ (l : List Int) (b : Nat) (x : Int) (k : Nat), l0.drop k = l → b < k → l0[b]? = some x → (∀ j y, j < k → l0[j]? = some y → y ≤ x) → (∀ j y, j < b → l0[j]? = some y → y < x) → IsBest l0 (bestF b x k l) := by
  intro l
  induction l with
  | nil =>
    intro b x k hd hb hx hle hlt
    refine ⟨x, hx, fun y hy => ?_, hlt⟩
    obtain ⟨j, hj⟩ := List.getElem?_of_mem hy
    refine hle j y ?_ hj
    have : j < l0.length := (List.getElem?_eq_some_iff.1 hj).1
    have h2 : l0.length ≤ k := by
      have := congrArg List.length hd
      simp at this; omega
    omega
  | cons y l ih =>
    intro b x k hd hb hx hle hlt
    have hy : l0[k]? = some y := by
      have : (l0.drop k)[0]? = some y := by rw [hd]; rfl
      simpa using this
    have hd' : l0.drop (k + 1) = l := by rw [← List.drop_drop, hd]; rfl
    unfold bestF
    by_cases h : x < y
    · rw [if_pos h]
      refine ih k y (k + 1) hd' (by omega) hy (fun j z hj hz => ?_) (fun j z hj hz => ?_)
      · rcases Nat.lt_or_ge j k with hjk | hjk
        · have := hle j z hjk hz; omega
        · have : j = k := by omega
          subst this; rw [hy] at hz; injection hz with hz; omega
      · have := hle j z hj hz; omega
    · rw [if_neg h]
      refine ih b x (k + 1) hd' (by omega) hx (fun j z hj hz => ?_) hlt
      rcases Nat.lt_or_ge j k with hjk | hjk
      · exact hle j z hjk hz
      · have : j = k := by omega
        subst this; rw [hy] at hz; injection hz with hz; omega
theorem best_is {l : List Int} (h : l ≠ []) : IsBest l (best l) := by
  cases l with
  | nil => exact absurd rfl h
  | cons x l =>
    refine bestF_is (x :: l) l 0 x 1 rfl (by omega) rfl (fun j y hj hy => ?_) (fun j y hj _ => by omega)
    have : j = 0 := by omega
    subst this; simp at hy; omega
theorem IsBest.lt {l : List Int} {k : Nat} (h : IsBest l k) : k < l.length := by obtain ⟨x, h1, _⟩ := h; exact (List.getElem?_eq_some_iff.1 h1).1
/-- the number at a place, one more -/
def inc (l : List Int) (k : Nat) : List Int := match l[k]? with
  | some x => l.set k (x + 1)
  | none => l
theorem inc_len (l : List Int) (k : Nat) : (inc l k).length = l.length := by unfold inc; split <;> simp
/-- n rests are rounded up, the greatest first -/
def spread : Nat → List Int → List Int → List Int
  | 0, sh, _ => sh
  | n + 1, sh, rs => spread n (inc sh (best rs)) (rs.set (best rs) (-1))
theorem spread_len : ∀ (n : Nat) (sh rs : List Int), (spread n sh rs).length = sh.length
  | 0, sh, rs => rfl
  | n + 1, sh, rs => by rw [spread, spread_len n, inc_len]
def shareF (total s : Int) (ws : List Int) : List Int := ws.map fun x => total * x / s
def restF (total s : Int) (ws : List Int) : List Int := ws.map fun x => total * x % s
def sharesF (total : Int) (ws : List Int) : List Int :=
  spread (total - sumF (shareF total (sumF ws) ws)).toNat (shareF total (sumF ws) ws) (restF total (sumF ws) ws)
theorem sharesF_len (total : Int) (ws : List Int) : (sharesF total ws).length = ws.length := by rw [sharesF, spread_len, shareF, List.length_map]
theorem sumF_nonneg : ∀ {l : List Int}, (∀ x ∈ l, 0 ≤ x) → 0 ≤ sumF l
  | [], _ => by simp [sumF]
  | x :: l, h => by
    have h1 := h x (by simp)
    have h2 := sumF_nonneg (l := l) (fun y hy => h y (by simp [hy]))
    simp only [sumF]; omega
theorem sumF_le {m : Int} : ∀ {l : List Int}, (∀ x ∈ l, x ≤ m) → sumF l ≤ l.length * m
  | [], _ => by simp [sumF]
  | x :: l, h => by
    have h1 := h x (by simp)
    have h2 := sumF_le (m := m) (l := l) (fun y hy => h y (by simp [hy]))
    simp only [sumF, List.length_cons]
    have : ((l.length + 1 : Nat) : Int) * m = l.length * m + m := by rw [Int.natCast_add, Int.add_mul]; simp
    omega
theorem mem_le_sumF : ∀ {l : List Int}, (∀ x ∈ l, 0 ≤ x) → ∀ x ∈ l, x ≤ sumF l
  | [], _, x, hx => by simp at hx
  | y :: l, h, x, hx => by
    have h0 := sumF_nonneg (l := l) (fun z hz => h z (by simp [hz]))
    have h1 := h y (by simp)
    simp only [sumF]
    rcases List.mem_cons.1 hx with rfl | hx
    · omega
    · have := mem_le_sumF (l := l) (fun z hz => h z (by simp [hz])) x hx; omega
theorem sum_split (total s : Int) (hs : 0 < s) : ∀ ws : List Int, sumF (shareF total s ws) * s + sumF (restF total s ws) = total * sumF ws
  | [] => by simp [shareF, restF, sumF]
  | x :: ws => by
    have ih := sum_split total s hs ws
    have e := Int.mul_ediv_add_emod (total * x) s
    simp only [shareF, restF, List.map_cons, sumF] at ih ⊢
    rw [Int.add_mul, Int.mul_add, ← ih]
    have : total * x / s * s = s * (total * x / s) := Int.mul_comm _ _
    omega
/-- what is left over is what the rests add up to -/
theorem left_rest {total : Int} {ws : List Int} (hs : 0 < sumF ws) : (total - sumF (shareF total (sumF ws) ws)) * sumF ws = sumF (restF total (sumF ws) ws) := by
  have := sum_split total (sumF ws) hs ws
  rw [Int.sub_mul]; omega
theorem rest_bd {total s : Int} {ws : List Int} (hs : 0 < s) : ∀ x ∈ restF total s ws, 0 ≤ x ∧ x ≤ s - 1 := by
  intro x hx
  obtain ⟨y, _, rfl⟩ := List.mem_map.1 hx
  have h1 := Int.emod_nonneg (total * y) (show s ≠ 0 by omega)
  have h2 := Int.emod_lt_of_pos (total * y) hs
  omega
theorem left_bd {total : Int} {ws : List Int} (hs : 0 < sumF ws) : 0 ≤ total - sumF (shareF total (sumF ws) ws) ∧ total - sumF (shareF total (sumF ws) ws) ≤ ws.length := by
  have h1 := left_rest (total := total) hs
  have h2 := sumF_nonneg (l := restF total (sumF ws) ws) (fun x hx => (rest_bd hs x hx).1)
  have h3 := sumF_le (m := sumF ws) (l := restF total (sumF ws) ws) (fun x hx => by have := (rest_bd hs x hx).2; omega)
  have h4 : (restF total (sumF ws) ws).length = ws.length := by simp [restF]
  rw [h4] at h3
  generalize total - sumF (shareF total (sumF ws) ws) = d at h1
  constructor
  · refine Int.le_of_lt_add_one (Int.lt_of_not_ge fun h => ?_)
    have : (d + 1) * sumF ws ≤ 0 := Int.mul_nonpos_of_nonpos_of_nonneg h (by omega)
    rw [Int.add_mul] at this
    omega
  · refine Int.le_of_not_gt fun h => ?_
    have : (ws.length + 1) * sumF ws ≤ d * sumF ws := Int.mul_le_mul_of_nonneg_right (by omega) (by omega)
    rw [Int.add_mul] at this
    omega
end Go.Proofs.Ythdonmdhlgajhaa
namespace Go.Proofs.Ythdonmdhlgajhaa
set_option linter.unusedVariables false
set_option linter.unusedSimpArgs false
open Go.RowKit
def hasB (x : Int) : List Int → Bool
  | [] => false
  | y :: l => (y == x) || hasB x l
set_option maxRecDepth 100000 in
set_option maxHeartbeats 1000000 in
theorem spec_l02HasS (A : Option Addr) (c : Nat) (l : List Int) (x : Int) (w : World) (h : Rd w A (l.map iV)) (hl : l.length ≤ 1048576) :
    Calls Try.prog 65 #[.slice A l.length c, .int .i64 x] w fun e w' => e = .returned (.bool (hasB x l)) ∧ w = w' := by
  have H := Lib.hid h
  clear h
  go_enter Try.func65, Try.ntmps65
  go_wp2
  go_loop [5] (fun v => ∃ (k : Nat), k ≤ l.length ∧ v = .int .i64 k ∧ hasB x (l.drop k) = hasB x l) (fun v => l.length - (intOf v).toNat)
  case atStart => exact ⟨0, by omega, rfl, by simp⟩
  case round =>
    obtain ⟨k, hk, rfl, hF⟩ := hrel
    have HF := Lib.hid hF
    clear hF
    by_cases hlt : k < l.length
    · obtain ⟨y, hy⟩ := get_some hlt
      obtain ⟨b, off, rfl, hb, hat⟩ := H.out.opened (k := k) (by simpa using hlt)
      have t0 := ints_at hat hy
      have HD := Lib.hid (drop_consI hy)
      have g1 : (k : Int) < l.length := by omega
      clear hy hat
      cases he : (y == x)
      · go_wp2
        go_round
        case rel =>
          refine ⟨k + 1, by omega, by go_num, ?_⟩
          rw [← HF.out, HD.out, hasB, he, Bool.false_or]
        case measure => simp [intOf]; omega
      · go_wp2
        go_ret
        refine ⟨rbt ?_, rfl⟩
        rw [← HF.out, HD.out, hasB, he, Bool.true_or]
    · go_wp2
      go_ret
      refine ⟨rbf ?_, rfl⟩
      rw [← HF.out, drop_endI hlt, hasB]
def idxF (x : Int) : List Int → Nat → Int
  | [], _ => -1
  | y :: l, k => if x == y then (k : Int) else idxF x l (k + 1)
theorem idxF_bd (x : Int) : ∀ (l : List Int) (k : Nat), -1 ≤ idxF x l k ∧ idxF x l k ≤ k + l.length
  | [], k => by simp [idxF]
  | y :: l, k => by
    have := idxF_bd x l (k + 1)
    simp only [idxF, List.length_cons]
    split <;> omega
theorem idxF_has (x : Int) : ∀ (l : List Int) (k : Nat), decide (0 ≤ idxF x l k) = true ↔ hasB x l = true
  | [], k => by simp [idxF, hasB]
  | y :: l, k => by
    have := idxF_has x l (k + 1)
    by_cases h : x = y
    · simp [idxF, hasB, h]
    · have h1 : (x == y) = false := by simpa using h
      have h2 : (y == x) = false := by simpa using fun e : y = x => h e.symm
      simp only [idxF, hasB, h1, h2, Bool.false_or]; exact this
set_option maxRecDepth 100000 in
set_option maxHeartbeats 1000000 in
theorem slices_IndexI (A : Option Addr) (c : Nat) (l : List Int) (x : Int) (w : World) (h : Rd w A (l.map iV)) (hl : l.length ≤ 1048576) :
    Calls Try.prog 54 #[.slice A l.length c, .int .i64 x] w fun e w' => e = .returned (.int .i64 (idxF x l 0)) ∧ w = w' := by
  have H := Lib.hid h
  clear h
  go_enter Try.func54, Try.ntmps54
  go_wp2
  go_loop [8] (fun v => ∃ (k : Nat), k ≤ l.length ∧ v = .int .i64 k ∧ idxF x (l.drop k) k = idxF x l 0) (fun v => l.length - (intOf v).toNat)
  case atStart => exact ⟨0, by omega, rfl, by simp⟩
  case round =>
    obtain ⟨k, hk, rfl, hF⟩ := hrel
    have HF := Lib.hid hF
    clear hF
    by_cases hlt : k < l.length
    · obtain ⟨y, hy⟩ := get_some hlt
      obtain ⟨b, off, rfl, hb, hat⟩ := H.out.opened (k := k) (by simpa using hlt)
      have t0 := ints_at hat hy
      have HD := Lib.hid (drop_consI hy)
      have g1 : (k : Int) < l.length := by omega
      clear hy hat
      cases he : (x == y)
      · have HE := Lib.hid he
        go_wp2
        go_round
        case rel =>
          refine ⟨k + 1, by omega, by go_num, ?_⟩
          rw [← HF.out, HD.out, idxF, HE.out]; rfl
        case measure => simp [intOf]; omega
      · have HE := Lib.hid he
        go_wp2
        go_ret
        refine ⟨ri ?_, rfl⟩
        rw [← HF.out, HD.out, idxF, HE.out]; rfl
    · go_wp2
      go_ret
      refine ⟨ri ?_, rfl⟩
      rw [← HF.out, drop_endI hlt, idxF]
def Inc (l : List Int) : Prop := ∀ (i : Nat) (x y : Int), l[i]? = some x → l[i + 1]? = some y → x < y
open Classical in
noncomputable def incB (l : List Int) : Bool := decide (Inc l)
noncomputable def nodesC (N : Net) (fl : List Int) : Int := if netB N = false then 1 else if allB 0 ((N.nodes.length : Int) - 1) fl = false then 2 else 0
end Go.Proofs.Ythdonmdhlgajhaa
namespace Go.Proofs.Ythdonmdhlgajhaa
set_option linter.unusedVariables false
set_option linter.unusedSimpArgs false
open Go.RowKit
def maxL : List Int → Int
  | [] => 0
  | x :: l => maxF x l
set_option maxRecDepth 100000 in
set_option maxHeartbeats 1000000 in
theorem slices_MaxI (A : Option Addr) (c : Nat) (l : List Int) (w : World) (h : Rd w A (l.map iV)) (hl : l.length ≤ 1048576) (h1 : 1 ≤ l.length) :
    Calls Try.prog 55 #[.slice A l.length c] w fun e w' => e = .returned (.int .i64 (maxL l)) ∧ w = w' := by
  have H := Lib.hid h
  clear h
  obtain ⟨x0, hx0⟩ := get_some (show 0 < l.length by omega)
  obtain ⟨b, off, rfl, hb, hat⟩ := H.out.opened (k := 0) (by simp; omega)
  have t0 := ints_at hat hx0
  have t0' : w.cell? ⟨b, off, none⟩ = some (.int .i64 x0) := by simpa using t0
  have HM := Lib.hid (show maxF x0 (l.drop 1) = maxL l by
    cases l with
    | nil => simp at h1
    | cons y l => simp at hx0; subst hx0; rfl)
  have HAT := Lib.hid hat
  have g0 : ¬ (l.length : Int) < 1 := by omega
  have g0' : (0 : Int) < l.length := by omega
  clear hx0 hat
  go_enter Try.func55, Try.ntmps55
  go_wp2
  go_loop [3, 4] (fun u v => ∃ (k : Nat) (m : Int), 1 ≤ k ∧ k ≤ l.length ∧ v = .int .i64 k ∧ u = .int .i64 m ∧ maxF m (l.drop k) = maxL l) (fun _ v => l.length - (intOf v).toNat)
  case atStart => exact ⟨1, x0, by omega, by omega, rfl, rfl, HM.out⟩
  case round =>
    obtain ⟨k, m, hk1, hk, rfl, rfl, hF⟩ := hrel
    have HF := Lib.hid hF
    clear hF t0 t0'
    by_cases hlt : k < l.length
    · obtain ⟨y, hy⟩ := get_some hlt
      have t1 := ints_at HAT.out hy
      have HD := Lib.hid (drop_consI hy)
      have g1 : (k : Int) < l.length := by omega
      clear hy
      by_cases hm : m < y
      · have HE := Lib.hid (show max m y = y by omega)
        go_wp2
        go_round
        case rel =>
          refine ⟨k + 1, _, by omega, by omega, by go_num, rfl, ?_⟩
          rw [← HF.out, HD.out, maxF, HE.out]
        case measure => simp [intOf]; omega
      · have HE := Lib.hid (show max m y = m by omega)
        go_wp2
        go_round
        case rel =>
          refine ⟨k + 1, _, by omega, by omega, by go_num, rfl, ?_⟩
          rw [← HF.out, HD.out, maxF, HE.out]
        case measure => simp [intOf]; omega
    · go_wp2
      go_ret
      refine ⟨ri ?_, rfl⟩
      rw [← HF.out, drop_endI hlt, maxF]
theorem idxF_first (x : Int) : ∀ (l : List Int) (k : Nat), x ∈ l → ∃ j : Nat, idxF x l k = ((k + j : Nat) : Int) ∧ l[j]? = some x ∧ ∀ i, i < j → l[i]? ≠ some x
  | [], k, h => by simp at h
  | y :: l, k, h => by
    by_cases e : x = y
    · subst e
      exact ⟨0, by simp [idxF], by simp, fun i hi => by omega⟩
    · have e1 : (x == y) = false := by simpa using e
      have h' : x ∈ l := by
        rcases List.mem_cons.1 h with h | h
        · exact absurd h e
        · exact h
      obtain ⟨j, h1, h2, h3⟩ := idxF_first x l (k + 1) h'
      refine ⟨j + 1, by rw [idxF, e1]; simp only [Bool.false_eq_true, if_false]; rw [h1]; omega, by simpa using h2, fun i hi => ?_⟩
      cases i with
      | zero => simpa using fun q : y = x => e q.symm
      | succ i => simpa using h3 i (by omega)
theorem idx_best {l : List Int} (h : 1 ≤ l.length) : idxF (maxL l) l 0 = (best l : Int) := by
  have hne : l ≠ [] := by rintro rfl; simp at h
  have hb := best_is hne
  have hmem : maxL l ∈ l := by
    cases l with
    | nil => exact absurd rfl hne
    | cons x l => rcases maxF_mem x l with e | e <;> simp [maxL, e]
  have hge : ∀ y ∈ l, y ≤ maxL l := by
    cases l with
    | nil => exact absurd rfl hne
    | cons x l =>
      intro y hy
      rcases List.mem_cons.1 hy with rfl | hy
      · exact (maxF_ge _ l).1
      · exact (maxF_ge x l).2 y hy
  obtain ⟨j, h1, h2, h3⟩ := idxF_first (maxL l) l 0 hmem
  have : IsBest l j := ⟨maxL l, h2, hge, fun i y hi hy => by
    have a := hge y (List.mem_of_getElem? hy)
    have b : y ≠ maxL l := fun e => h3 i hi (by rw [hy, e])
    omega⟩
  rw [h1, this.uniq hb]; simp
structure ShOk (total : Int) (ws : List Int) : Prop where
  n : ws.length ≤ 64
  w0 : ∀ x ∈ ws, 0 ≤ x ∧ x ≤ 1000000000
  t0 : 0 ≤ total
  t1 : total ≤ 1000000000
  s : 0 < sumF ws
theorem ShOk.sum {total : Int} {ws : List Int} (h : ShOk total ws) : sumF ws ≤ 64000000000 := by
  have := sumF_le (m := 1000000000) (l := ws) (fun x hx => (h.w0 x hx).2)
  have := h.n
  omega
theorem ShOk.pos {total : Int} {ws : List Int} (h : ShOk total ws) : 1 ≤ ws.length := by
  have := h.s
  cases ws with
  | nil => simp [sumF] at this
  | cons x l => simp
theorem ShOk.mul {total : Int} {ws : List Int} (h : ShOk total ws) {x : Int} (hx : x ∈ ws) : 0 ≤ total * x ∧ total * x ≤ 1000000000000000000 := by
  obtain ⟨a, b⟩ := h.w0 x hx
  refine ⟨Int.mul_nonneg h.t0 a, ?_⟩
  have := Int.mul_le_mul h.t1 b a (by omega)
  omega
theorem ShOk.quo {total : Int} {ws : List Int} (h : ShOk total ws) {x : Int} (hx : x ∈ ws) : 0 ≤ total * x / sumF ws ∧ total * x / sumF ws ≤ 1000000000000000000 := by
  obtain ⟨a, b⟩ := h.mul hx
  refine ⟨Int.ediv_nonneg a (by have := h.s; omega), ?_⟩
  exact Int.le_trans (Int.ediv_le_self _ a) b
theorem sumF_append (a b : List Int) : sumF (a ++ b) = sumF a + sumF b := by
  induction a with
  | nil => simp [sumF]
  | cons x l ih => simp [sumF, ih]; omega
theorem take_snocI {l : List Int} {k : Nat} {x : Int} (h : l[k]? = some x) : l.take (k + 1) = l.take k ++ [x] := by
  obtain ⟨hk, rfl⟩ := List.getElem?_eq_some_iff.1 h
  rw [List.take_succ_eq_append_getElem hk]
/-- the loop that hands the rests out -/
structure Spr (total : Int) (ws : List Int) (j : Nat) (sh rs : List Int) : Prop where
  l1 : sh.length = ws.length
  l2 : rs.length = ws.length
  jl : j ≤ ws.length
  sp : spread j sh rs = sharesF total ws
  bd : ∀ x ∈ sh, 0 ≤ x ∧ x ≤ 1000000000000000000 + ((ws.length : Int) - j)
theorem Spr.init {total : Int} {ws : List Int} (h : ShOk total ws) : Spr total ws (total - sumF (shareF total (sumF ws) ws)).toNat (shareF total (sumF ws) ws) (restF total (sumF ws) ws) := by
  have hl := left_bd (total := total) h.s
  refine ⟨by simp [shareF], by simp [restF], by omega, rfl, fun x hx => ?_⟩
  obtain ⟨y, hy, rfl⟩ := List.mem_map.1 hx
  have := h.quo hy
  omega
theorem Spr.next {total : Int} {ws sh rs : List Int} {j : Nat} (h : Spr total ws (j + 1) sh rs) (hp : 1 ≤ ws.length) (hn : ws.length ≤ 64) : ∃ x y, sh[best rs]? = some x ∧ rs[best rs]? = some y ∧ best rs < ws.length ∧ 0 ≤ x ∧ x ≤ 1000000000000000100 ∧ Spr total ws j (sh.set (best rs) (x + 1)) (rs.set (best rs) (-1)) := by
  have hb := (best_is (l := rs) (by rintro rfl; have := h.l2; simp at this; omega)).lt
  obtain ⟨x, hx⟩ := get_some (show best rs < sh.length by rw [h.l1, ← h.l2]; exact hb)
  obtain ⟨y, hy⟩ := get_some hb
  have hbx := h.bd x (List.mem_of_getElem? hx)
  have hj := h.jl
  refine ⟨x, y, hx, hy, by rw [← h.l2]; exact hb, hbx.1, by
    have := hbx.2
    omega, by simp [h.l1], by simp [h.l2], by omega, ?_, fun z hz => ?_⟩
  · have := h.sp
    rw [spread, inc, hx] at this
    exact this
  · rcases List.mem_or_eq_of_mem_set hz with hz | hz
    · have := h.bd z hz; omega
    · omega
end Go.Proofs.Ythdonmdhlgajhaa
namespace Go.Proofs.Ythdonmdhlgajhaa
set_option linter.unusedVariables false
set_option linter.unusedSimpArgs false
open Go.RowKit

abbrev bufV (Al Ah An : Option Addr) (nl nh nn cl ch cn : Nat) : Value := .agg #[.slice Al nl cl, .slice Ah nh ch, .slice An nn cn]
structure BufOk (n : Nat) (ll lh ln : List Int) : Prop where
  l1 : ll.length = n
  l2 : lh.length = n
  l3 : ln.length = n
  el : ∀ (i : Nat) (a b c : Int), ll[i]? = some a → lh[i]? = some b → ln[i]? = some c → 0 ≤ a ∧ a ≤ c ∧ c ≤ b ∧ b ≤ 1000000000
open Classical in
noncomputable def bufB (n : Nat) (ll lh ln : List Int) : Bool := decide (BufOk n ll lh ln)
theorem bufB_t {n : Nat} {ll lh ln : List Int} (h : BufOk n ll lh ln) : bufB n ll lh ln = true := by simp [bufB, h]
theorem bufB_f {n : Nat} {ll lh ln : List Int} (h : ¬ BufOk n ll lh ln) : bufB n ll lh ln = false := by simp [bufB, h]
theorem bufB_ok {n : Nat} {ll lh ln : List Int} (h : bufB n ll lh ln = true) : BufOk n ll lh ln := by simpa [bufB] using h
structure BufAt (w : World) (Al Ah An : Option Addr) (ll lh ln : List Int) : Prop where
  r1 : Rd w Al (ll.map iV)
  r2 : Rd w Ah (lh.map iV)
  r3 : Rd w An (ln.map iV)
  s1 : ll.length ≤ 1048576
  s2 : lh.length ≤ 1048576
  s3 : ln.length ≤ 1048576
theorem BufAt.below {w w' : World} {Al Ah An : Option Addr} {ll lh ln : List Int} (h : BufAt w Al Ah An ll lh ln) (hb : Below w.heap.size w w') : BufAt w' Al Ah An ll lh ln :=
  ⟨h.r1.below hb, h.r2.below hb, h.r3.below hb, h.s1, h.s2, h.s3⟩



noncomputable def bufC (N : Net) (ll lh ln : List Int) : Int := if netB N = false then 1 else if bufB N.nodes.length ll lh ln = false then 3 else 0
theorem bufC_of {N : Net} {ll lh ln : List Int} (h : bufC N ll lh ln = 0) : N.Ok ∧ BufOk N.nodes.length ll lh ln := by
  unfold bufC at h
  by_cases h1 : netB N = false
  · simp [h1] at h
  · by_cases h2 : bufB N.nodes.length ll lh ln = false
    · simp [h1, h2] at h
    · exact ⟨netB_ok (by simpa using h1), bufB_ok (by simpa using h2)⟩





end Go.Proofs.Ythdonmdhlgajhaa
namespace Go.Proofs.Ythdonmdhlgajhaa
set_option linter.unusedVariables false
set_option linter.unusedSimpArgs false
open Go.RowKit
def listB (m : Nat) (l : List Int) : Bool := decide (l.length = m) && allB (-30000) 30000 l
theorem listB_of {m : Nat} {l : List Int} (h : listB m l = true) : l.length = m ∧ ∀ x ∈ l, -30000 ≤ x ∧ x ≤ 30000 := by
  simp [listB] at h; exact ⟨h.1, allB_iff.1 h.2⟩
theorem lenB (a b : Nat) : ((a : Int) == (b : Int)) = decide (a = b) := by
  by_cases h : a = b
  · simp [h]
  · have : ¬ (a : Int) = b := by omega
    simp [h, this]
noncomputable def flowC (N : Net) (fl : List Int) : Int := if netB N = false then 1 else if listB N.pipes.length fl = false then 3 else 0
def KeepOk (ps : List Pp) (fl : List Int) : Prop := ∀ (i : Nat) (x : Int) (p : Pp), fl[i]? = some x → ps[i]? = some p → absI x ≤ p.lim
open Classical in
noncomputable def keepB (N : Net) (fl : List Int) : Bool := decide (flowC N fl = 0 ∧ KeepOk N.pipes fl)
theorem flow_of {N : Net} {fl : List Int} (h : flowC N fl = 0) : N.Ok ∧ fl.length = N.pipes.length ∧ ∀ x ∈ fl, -30000 ≤ x ∧ x ≤ 30000 := by
  unfold flowC at h
  by_cases h1 : netB N = false
  · simp [h1] at h
  · by_cases h2 : listB N.pipes.length fl = false
    · simp [h1, h2] at h
    · exact ⟨netB_ok (by simpa using h1), listB_of (by simpa using h2)⟩
end Go.Proofs.Ythdonmdhlgajhaa
namespace Go.Proofs.Ythdonmdhlgajhaa
set_option linter.unusedVariables false
set_option linter.unusedSimpArgs false
open Go.RowKit
structure Hr where
  A : Option Addr
  B : Option Addr
  c : Nat
  d : Nat
  fl : List Int
  su : List Int
abbrev Hr.val (x : Hr) : Value := .agg #[.slice x.A x.fl.length x.c, .slice x.B x.su.length x.d]
def Hr.cells (x : Hr) : List Value := [.slice x.A x.fl.length x.c, .slice x.B x.su.length x.d]
theorem Hr.len (x : Hr) : x.cells.length = 2 := rfl
structure HrAt (w : World) (x : Hr) : Prop where
  r1 : Rd w x.A (x.fl.map iV)
  r2 : Rd w x.B (x.su.map iV)
  s1 : x.fl.length ≤ 1048576
  s2 : x.su.length ≤ 1048576
theorem HrAt.below {w w' : World} {x : Hr} (h : HrAt w x) (hb : Below w.heap.size w w') : HrAt w' x := ⟨h.r1.below hb, h.r2.below hb, h.s1, h.s2⟩
def hrB (m n : Nat) (x : Hr) : Bool := listB m x.fl && supB n x.su
def hrsF (m n : Nat) : List Hr → Bool
  | [] => true
  | x :: l => hrB m n x && hrsF m n l
theorem hrsF_all {m n : Nat} : ∀ {l : List Hr}, hrsF m n l = true ↔ ∀ x ∈ l, hrB m n x = true
  | [] => by simp [hrsF]
  | x :: l => by simp [hrsF, hrsF_all (l := l)]
theorem supB_of {n : Nat} {l : List Int} (h : supB n l = true) : l.length = n ∧ ∀ x ∈ l, -30000 ≤ x ∧ x ≤ 30000 := by
  simp [supB] at h; exact ⟨h.1, allB_iff.1 h.2⟩
theorem hrB_of {m n : Nat} {x : Hr} (h : hrB m n x = true) : (x.fl.length = m ∧ ∀ y ∈ x.fl, -30000 ≤ y ∧ y ≤ 30000) ∧ (x.su.length = n ∧ ∀ y ∈ x.su, -30000 ≤ y ∧ y ≤ 30000) := by
  simp only [hrB, Bool.and_eq_true] at h; exact ⟨listB_of h.1, supB_of h.2⟩
noncomputable def hrsC (N : Net) (ll lh ln : List Int) (hs : List Hr) : Int := if bufC N ll lh ln ≠ 0 then bufC N ll lh ln else if hrsF N.pipes.length N.nodes.length hs = false then 2 else 0
noncomputable def hrC (N : Net) (ll lh ln : List Int) (x : Hr) : Int := if bufC N ll lh ln ≠ 0 then bufC N ll lh ln else if hrB N.pipes.length N.nodes.length x = false then 2 else 0
theorem hrsC_one (N : Net) (ll lh ln : List Int) (x : Hr) : hrsC N ll lh ln [x] = hrC N ll lh ln x := by simp [hrsC, hrC, hrsF]
theorem hrC_of {N : Net} {ll lh ln : List Int} {x : Hr} (h : hrC N ll lh ln x = 0) : bufC N ll lh ln = 0 ∧ hrB N.pipes.length N.nodes.length x = true := by
  unfold hrC at h
  by_cases h1 : bufC N ll lh ln = 0
  · simp only [h1, ne_eq, not_true, if_false] at h
    cases h2 : hrB N.pipes.length N.nodes.length x
    · simp [h2] at h
    · exact ⟨h1, rfl⟩
  · simp [h1] at h
end Go.Proofs.Ythdonmdhlgajhaa
namespace Go.Proofs.Ythdonmdhlgajhaa
set_option linter.unusedVariables false
set_option linter.unusedSimpArgs false
open Go.RowKit
def outF : List Int → List Pp → List Int → List Int
  | acc, p :: ps, x :: xs => outF (addAt (addAt acc p.f.toNat x) p.t.toNat (-x)) ps xs
  | acc, _, _ => acc
theorem outF_len : ∀ (ps : List Pp) (xs acc : List Int), (outF acc ps xs).length = acc.length
  | [], _, acc => by simp [outF]
  | p :: ps, [], acc => by simp [outF]
  | p :: ps, x :: xs, acc => by rw [outF, outF_len ps xs, addAt_len, addAt_len]
def outL (N : Net) (fl : List Int) : List Int := outF (List.replicate N.nodes.length 0) N.pipes fl
theorem outL_len (N : Net) (fl : List Int) : (outL N fl).length = N.nodes.length := by rw [outL, outF_len]; simp
theorem outF_bd : ∀ (ps : List Pp) (xs acc : List Int) (b : Int), 0 ≤ b → (∀ y ∈ acc, -b ≤ y ∧ y ≤ b) → (∀ x ∈ xs, -30000 ≤ x ∧ x ≤ 30000) → ∀ y ∈ outF acc ps xs, -(b + ps.length * 60000) ≤ y ∧ y ≤ b + ps.length * 60000
  | [], _, acc, b, _, h, _ => by simpa [outF] using h
  | p :: ps, [], acc, b, hb, h, _ => by
    intro y hy
    have := h y (by simpa [outF] using hy)
    simp only [List.length_cons]; omega
  | p :: ps, x :: xs, acc, b, hb, h, hx => by
    intro y hy
    rw [outF] at hy
    have h1 := hx x (by simp)
    have h2 := addAt_bd (l := acc) (k := p.f.toNat) (x := x) (a := -30000) (b := 30000) h (by omega) (by omega) (by omega) (by omega)
    have h3 := addAt_bd (l := addAt acc p.f.toNat x) (k := p.t.toNat) (x := -x) (a := -30000) (b := 30000) h2 (by omega) (by omega) (by omega) (by omega)
    have := outF_bd ps xs _ (b + 60000) (by omega) (fun z hz => by have := h3 z hz; omega) (fun z hz => hx z (by simp [hz])) y hy
    simp only [List.length_cons]; omega
theorem outL_bd {N : Net} {fl : List Int} (hO : N.Ok) (h : ∀ x ∈ fl, -30000 ≤ x ∧ x ≤ 30000) : ∀ y ∈ outL N fl, -2400000 ≤ y ∧ y ≤ 2400000 := by
  intro y hy
  have := outF_bd N.pipes fl (List.replicate N.nodes.length 0) 0 (by omega) (fun z hz => by have := (List.mem_replicate.1 hz).2; omega) h y hy
  have := hO.p1
  omega
theorem outF_step {acc : List Int} {ps : List Pp} {xs : List Int} {k : Nat} {p : Pp} {x : Int} (hp : ps[k]? = some p) (hx : xs[k]? = some x) : outF acc (ps.drop k) (xs.drop k) = outF (addAt (addAt acc p.f.toNat x) p.t.toNat (-x)) (ps.drop (k + 1)) (xs.drop (k + 1)) := by
  rw [drop_consI hp, drop_consI hx, outF]
theorem outF_end {acc : List Int} {ps : List Pp} {xs : List Int} {k : Nat} (h : ¬ k < ps.length) : outF acc (ps.drop k) (xs.drop k) = acc := by
  rw [drop_endI h]; simp [outF]
def addS (s : Int) (a b : List Int) : List Int := List.zipWith (fun x y => x + s * y) a b
theorem addS_len {s : Int} {a b : List Int} (h : a.length ≤ b.length) : (addS s a b).length = a.length := by simp [addS]; omega
theorem addS_get {s : Int} {a b : List Int} {i : Nat} {x y : Int} (hx : a[i]? = some x) (hy : b[i]? = some y) : (addS s a b)[i]? = some (x + s * y) := by simp only [addS, List.getElem?_zipWith, hx, hy]
theorem addS_bd {s la ha lb hb : Int} {a b : List Int} (hs : s = 1 ∨ s = -1) (h1 : ∀ x ∈ a, la ≤ x ∧ x ≤ ha) (h2 : ∀ x ∈ b, -lb ≤ x ∧ x ≤ lb) (e : hb = lb) : ∀ y ∈ addS s a b, la - lb ≤ y ∧ y ≤ ha + lb := by
  intro y hy
  obtain ⟨i, hi⟩ := List.getElem?_of_mem hy
  simp only [addS, List.getElem?_zipWith] at hi
  cases ha' : a[i]? with
  | none => simp [ha'] at hi
  | some x =>
    cases hb' : b[i]? with
    | none => simp [ha', hb'] at hi
    | some z =>
      simp [ha', hb'] at hi
      have g1 := h1 x (List.mem_of_getElem? ha')
      have g2 := h2 z (List.mem_of_getElem? hb')
      rcases hs with rfl | rfl <;> omega
/-- what the nodes hold after an hour -/
def nextL (N : Net) (now su fl : List Int) : List Int := addS (-1) (addS 1 now su) (outL N fl)
theorem nextL_len {N : Net} {now su fl : List Int} (h1 : now.length = N.nodes.length) (h2 : su.length = N.nodes.length) : (nextL N now su fl).length = N.nodes.length := by
  rw [nextL, addS_len (by rw [addS_len (by omega), outL_len]; omega), addS_len (by omega)]; exact h1
theorem nextL_get {N : Net} {now su fl : List Int} {i : Nat} {a b c : Int} (h1 : now[i]? = some a) (h2 : su[i]? = some b) (h3 : (outL N fl)[i]? = some c) : (nextL N now su fl)[i]? = some (a + (b - c)) := by
  rw [nextL, addS_get (addS_get h1 h2) h3]; congr 1; omega
theorem pipe_ft {N : Net} (hO : N.Ok) {p : Pp} (hp : p ∈ N.pipes) : 0 ≤ p.f ∧ p.f ≤ (N.nodes.length : Int) - 1 ∧ 0 ≤ p.t ∧ p.t ≤ (N.nodes.length : Int) - 1 := by
  have := hO.pipes p hp
  simp only [pipeB, Bool.and_eq_true, inB_iff] at this
  omega
set_option maxRecDepth 100000 in
set_option maxHeartbeats 4000000 in
theorem spec_l05Add (A B : Option Addr) (c d : Nat) (la lb : List Int) (s : Int) (w : World) (hA : Rd w A (la.map iV)) (hB : Rd w B (lb.map iV)) (hl : la.length ≤ lb.length) (hm : lb.length ≤ 1048576) (h1 : ∀ x ∈ la, -1000000000000 ≤ x ∧ x ≤ 1000000000000) (h2 : ∀ x ∈ lb, -1000000000000 ≤ s * x ∧ s * x ≤ 1000000000000) :
    Calls Try.prog 39 #[.slice A la.length c, .slice B lb.length d, .int .i64 s] w (MadeL w 1 la.length ((addS s la lb).map iV)) := by
  have HA := Lib.hid hA
  have HB := Lib.hid hB
  have H1 := Lib.hid h1
  have H2 := Lib.hid h2
  clear hA hB h1 h2
  go_enter Try.func39, Try.ntmps39
  go_wp2
  go_loopw [7, 8] (fun u v wr => ∃ (k : Nat), k ≤ la.length ∧ v = .int .i64 k ∧ Own wr w.heap.size 2 1 u k (((addS s la lb).take k).map iV) ∧ Below w.heap.size w wr) (fun _ v _ => la.length - (intOf v).toNat)
  case atStart => exact ⟨0, by omega, rfl, by simpa using Own.lit0 w w.heap.size 2 1 (Nat.le_refl _), by (repeat' (first | (with_reducible exact Below.refl _ _) | (with_reducible assumption) | (with_reducible refine Below.alloc ?_ ?_ _) | (with_reducible refine Below.drew ?_) | (with_reducible refine Below.drewN' ?_ _) | (with_reducible refine Below.setCell ?_ ?_ _) | (refine Below.via ?_ (by with_reducible assumption) ?_) | (with_reducible refine Below.via ?_ (Wd.h _) ?_) | go_size))⟩
  case round =>
    obtain ⟨k, hk, rfl, hO, hbw⟩ := hrel
    have hbH := Lib.hid hbw
    have HOW := Lib.hid hO
    have hzw := hbw.size
    clear hO
    by_cases hlt : k < la.length
    · obtain ⟨x, hx⟩ := get_some hlt
      obtain ⟨y, hy⟩ := get_some (show k < lb.length by omega)
      obtain ⟨ba, oa, rfl, hba, hata⟩ := HA.out.opened (k := k) (by simpa using hlt)
      obtain ⟨bb, ob, rfl, hbb, hatb⟩ := HB.out.opened (k := k) (by simp; omega)
      have t0 := ints_at (hata.below hbw hba) hx
      have t1 := ints_at (hatb.below hbw hbb) hy
      have hya : ba < wr.heap.size := by omega
      have hyb : bb < wr.heap.size := by omega
      obtain ⟨x1, x2⟩ := H1.out x (List.mem_of_getElem? hx)
      obtain ⟨y1, y2⟩ := H2.out y (List.mem_of_getElem? hy)
      have HG := Lib.hid (addS_get (s := s) hx hy)
      have g1 : (k : Int) < la.length := by omega
      have g2 : (k : Int) < lb.length := by omega
      clear hx hy hata hatb hbw
      go_wp2_with fail
      have z1 : IntKind.i64.wrap (s * y) = s * y := IntWalk.i64_in _ (by omega)
      have z2 : IntKind.i64.wrap (x + s * y) = x + s * y := IntWalk.i64_in _ (by omega)
      go_region_held3 (fun w' => w'.cell? ⟨ba, oa + k, none⟩ = some (.int .i64 x) ∧ w'.cell? ⟨bb, ob + k, none⟩ = some (.int .i64 y))
        (first | exact ⟨t0, t1⟩ | go_keep | exact ⟨bc hb1 hba (by simp [go_sem, t0, hya]), bc hb1 hbb (by simp [go_sem, t1, hyb])⟩)
        (first
          | (apply step_of rfl; apply app1x (s := .tmp 16) (x := .tmp 28) (t := 33) (base := w.heap.size) (hinfo := info_i64) (v := u7) (n := k) (xs := ((addS s la lb).take k).map iV) (news := [iV (x + s * y)]) (m := 1) (c := 1); (case ho => exact rfl); (case ht => exact Try.underlying33); (case hzs => exact rfl); (case hsz => decide); (case hby => decide); (case hs => exact rfl); (case hown => repeat' (first | (with_reducible exact HOW.out) | (with_reducible refine Own.alloc ?_ _) | (with_reducible refine Own.drew ?_))); (case hx => exact rfl); (case hl => exact rfl); (case hnews => (intro j u hu; match j, hu with | 0, hu => (simp at hu; subst hu; simp) | j + 1, hu => simp at hu)); (case h1 => simp [Value.oneCell']); (case hm => decide); (case hn => (clear z1 z2; omega)); (case hbase => (clear z1 z2; first | omega | (simp; omega))); intro v1 w1 hO1 hb1 hF1; have HO1 := Lib.hid hO1; clear hO1))
      all_goals
        clear z1 z2
        go_wp2
        go_roundw
        case rel =>
          refine ⟨k + 1, by omega, by go_num, by rw [ints_snoc HG.out]; exact HO1.out, ?_⟩
          have h1 := hbH.out
          (repeat' (first | (with_reducible exact Below.refl _ _) | (with_reducible assumption) | (with_reducible refine Below.alloc ?_ ?_ _) | (with_reducible refine Below.drew ?_) | (with_reducible refine Below.drewN' ?_ _) | (with_reducible refine Below.setCell ?_ ?_ _) | (refine Below.via ?_ (by with_reducible assumption) ?_) | (with_reducible refine Below.via ?_ (Wd.h _) ?_) | go_size))
        case measure => simp [intOf]; omega
    · obtain rfl : k = la.length := by omega
      clear hbw
      have hne : ¬ la.length < la.length := by omega
      go_wp2
      go_ret
      obtain ⟨B1, cc, rfl, hnc, hw⟩ := HOW.out.lt_
      rw [List.take_of_length_le (by rw [addS_len hl]; omega)] at hw
      exact ⟨B1, cc, rfl, hnc, hw, hbH.out⟩
end Go.Proofs.Ythdonmdhlgajhaa
namespace Go.Proofs.Ythdonmdhlgajhaa
set_option linter.unusedVariables false
set_option linter.unusedSimpArgs false
open Go.RowKit
/-- the places of the positive numbers, from place k on -/
def posF : Nat → List Int → List Int
  | _, [] => []
  | k, x :: l => if 0 < x then (k : Int) :: posF (k + 1) l else posF (k + 1) l
/-- the positive numbers -/
def posW : List Int → List Int
  | [] => []
  | x :: l => if 0 < x then x :: posW l else posW l
/-- numbers at the places of the positive ones, 0 elsewhere -/
def exF : List Int → List Int → List Int
  | [], _ => []
  | x :: l, ys => if 0 < x then ys.headD 0 :: exF l ys.tail else 0 :: exF l ys
def plc : List Int → Nat → Nat
  | [], k => k
  | x :: l, k => if 0 < x then (match k with
    | 0 => 0
    | k + 1 => plc l k + 1) else plc l k + 1
theorem posF_len : ∀ (l : List Int) (k : Nat), (posF k l).length = (posW l).length
  | [], k => rfl
  | x :: l, k => by
    unfold posF posW
    split <;> simp [posF_len l]
theorem posW_len : ∀ (l : List Int), (posW l).length ≤ l.length
  | [] => by simp [posW]
  | x :: l => by
    have := posW_len l
    unfold posW; split <;> simp <;> omega
theorem posW_mem : ∀ {l : List Int} {x : Int}, x ∈ posW l → x ∈ l ∧ 0 < x
  | [], x, h => by simp [posW] at h
  | y :: l, x, h => by
    unfold posW at h
    split at h
    · rcases List.mem_cons.1 h with rfl | h
      · exact ⟨by simp, by assumption⟩
      · have := posW_mem h; exact ⟨by simp [this.1], this.2⟩
    · have := posW_mem h; exact ⟨by simp [this.1], this.2⟩
theorem posW_sum : ∀ {l : List Int}, (∀ x ∈ l, 0 ≤ x) → sumF (posW l) = sumF l
  | [], _ => rfl
  | x :: l, h => by
    have ih := posW_sum (l := l) (fun y hy => h y (by simp [hy]))
    have h0 := h x (by simp)
    unfold posW; split
    · simp [sumF, ih]
    · simp only [sumF, ih]; omega
theorem exF_len : ∀ (ps ys : List Int), (exF ps ys).length = ps.length
  | [], ys => rfl
  | x :: l, ys => by unfold exF; split <;> simp [exF_len l]
theorem exF_map {f : Int → Int} (h0 : f 0 = 0) : ∀ {ps : List Int}, (∀ x ∈ ps, 0 ≤ x) → ps.map f = exF ps ((posW ps).map f)
  | [], _ => rfl
  | x :: l, h => by
    have ih := exF_map h0 (ps := l) (fun y hy => h y (by simp [hy]))
    have hx := h x (by simp)
    unfold exF posW; split
    · simp [ih]
    · have : x = 0 := by omega
      subst this; simp [h0, ih]
theorem exF_sum : ∀ {ps ys : List Int}, ys.length = (posW ps).length → sumF (exF ps ys) = sumF ys
  | [], ys, h => by
    have : ys = [] := List.eq_nil_of_length_eq_zero (by simpa [posW] using h)
    subst this; rfl
  | x :: l, ys, h => by
    unfold posW at h; unfold exF
    split at h
    · rename_i hx
      cases ys with
      | nil => simp at h
      | cons y ys =>
        have := exF_sum (ps := l) (ys := ys) (by simpa using h)
        simp [hx, sumF, this]
    · rename_i hx
      have := exF_sum (ps := l) (ys := ys) h
      simp [hx, sumF, this]
theorem exF_at : ∀ {ps ys : List Int} {k : Nat}, ys.length = (posW ps).length → k < ys.length → (exF ps ys)[plc ps k]? = ys[k]?
  | [], ys, k, h, hk => by
    simp [posW] at h; subst h; simp at hk
  | x :: l, ys, k, h, hk => by
    unfold posW at h; unfold exF plc
    split at h
    · rename_i hx
      cases ys with
      | nil => simp at h
      | cons y ys =>
        cases k with
        | zero => simp [hx]
        | succ k =>
          have := exF_at (ps := l) (ys := ys) (k := k) (by simpa using h) (by simpa using hk)
          simpa [hx] using this
    · rename_i hx
      have := exF_at (ps := l) (ys := ys) (k := k) h hk
      simpa [hx] using this
theorem exF_inv : ∀ {ps ys : List Int} {j : Nat} {y : Int}, ys.length = (posW ps).length → (exF ps ys)[j]? = some y → y = 0 ∨ ∃ i, i < ys.length ∧ j = plc ps i ∧ ys[i]? = some y
  | [], ys, j, y, h, hj => by simp [exF] at hj
  | x :: l, ys, j, y, h, hj => by
    unfold posW at h; unfold exF at hj
    split at h
    · rename_i hx
      cases ys with
      | nil => simp at h
      | cons z ys =>
        cases j with
        | zero =>
          simp [hx] at hj; subst hj
          exact .inr ⟨0, by simp, by simp [plc, hx], by simp⟩
        | succ j =>
          simp [hx] at hj
          rcases exF_inv (ps := l) (ys := ys) (by simpa using h) hj with h0 | ⟨i, h1, h2, h3⟩
          · exact .inl h0
          · exact .inr ⟨i + 1, by simp [h1], by simp [plc, hx, h2], by simpa using h3⟩
    · rename_i hx
      cases j with
      | zero => simp [hx] at hj; exact .inl hj.symm
      | succ j =>
        simp [hx] at hj
        rcases exF_inv (ps := l) (ys := ys) h hj with h0 | ⟨i, h1, h2, h3⟩
        · exact .inl h0
        · exact .inr ⟨i, h1, by simp [plc, hx, h2], h3⟩
theorem plc_mono : ∀ {ps : List Int} {i k : Nat}, i < k → plc ps i < plc ps k
  | [], i, k, h => by simpa [plc] using h
  | x :: l, i, k, h => by
    unfold plc
    split
    · cases k with
      | zero => omega
      | succ k =>
        cases i with
        | zero => simp
        | succ i => have := plc_mono (ps := l) (i := i) (k := k) (by omega); simp; exact this
    · have := plc_mono (ps := l) h; omega
theorem plc_inj {ps : List Int} {i k : Nat} (h : plc ps i < plc ps k) : i < k := by
  rcases Nat.lt_trichotomy i k with h1 | h1 | h1
  · exact h1
  · subst h1; omega
  · have := plc_mono (ps := ps) h1; omega
theorem exF_set : ∀ {ps ys : List Int} {k : Nat} (v : Int), ys.length = (posW ps).length → k < ys.length → (exF ps ys).set (plc ps k) v = exF ps (ys.set k v)
  | [], ys, k, v, h, hk => by
    simp [posW] at h; subst h; simp at hk
  | x :: l, ys, k, v, h, hk => by
    unfold posW at h
    split at h
    · rename_i hx
      cases ys with
      | nil => simp at h
      | cons y ys =>
        cases k with
        | zero => simp [exF, plc, hx]
        | succ k =>
          have := exF_set (ps := l) (ys := ys) (k := k) v (by simpa using h) (by simpa using hk)
          simp [exF, plc, hx, this]
    · rename_i hx
      have := exF_set (ps := l) (ys := ys) (k := k) v h hk
      simp [exF, plc, hx, this]
def cntP (l : List Int) : Nat := l.countP (fun x => decide (0 < x))
theorem best_ex {ps rs : List Int} (h : rs.length = (posW ps).length) (hc : 0 < cntP rs) : ∃ k x, best rs = k ∧ k < rs.length ∧ rs[k]? = some x ∧ 0 < x ∧ best (exF ps rs) = plc ps k := by
  have hne : rs ≠ [] := by rintro rfl; simp [cntP] at hc
  obtain ⟨p, hp, hpp⟩ := List.countP_pos_iff.1 hc
  have hpp' : 0 < p := by simpa using hpp
  have hb := best_is hne
  obtain ⟨x, h1, h2, h3⟩ := hb
  have hx : 0 < x := by have := h2 p hp; omega
  have hlt := (List.getElem?_eq_some_iff.1 h1).1
  refine ⟨best rs, x, rfl, hlt, h1, hx, ?_⟩
  have hb2 : IsBest (exF ps rs) (plc ps (best rs)) := by
    refine ⟨x, (exF_at h hlt).trans h1, fun y hy => ?_, fun j y hj hy => ?_⟩
    · obtain ⟨j, hj⟩ := List.getElem?_of_mem hy
      rcases exF_inv h hj with h0 | ⟨i, _, _, hi⟩
      · omega
      · exact h2 y (List.mem_of_getElem? hi)
    · rcases exF_inv h hy with h0 | ⟨i, hi1, hi2, hi3⟩
      · omega
      · exact h3 i y (plc_inj (hi2 ▸ hj)) hi3
  have hne2 : exF ps rs ≠ [] := by
    intro e
    have := exF_at h hlt
    rw [e, h1] at this; simp at this
  exact (best_is hne2).uniq hb2
theorem cntP_set {l : List Int} {k : Nat} {x : Int} (h : l[k]? = some x) (hx : 0 < x) : cntP (l.set k (-1)) + 1 = cntP l := by
  induction l generalizing k with
  | nil => simp at h
  | cons y l ih =>
    cases k with
    | zero => simp at h; subst h; simp [cntP, hx]
    | succ k =>
      have := ih (k := k) (by simpa using h)
      simp only [cntP, List.set_cons_succ, List.countP_cons] at this ⊢
      omega
theorem spread_ex : ∀ (n : Nat) {ps sh rs : List Int}, sh.length = (posW ps).length → rs.length = (posW ps).length → n ≤ cntP rs → spread n (exF ps sh) (exF ps rs) = exF ps (spread n sh rs)
  | 0, ps, sh, rs, _, _, _ => rfl
  | n + 1, ps, sh, rs, h1, h2, hn => by
    obtain ⟨k, x, e1, hk, hx, hx0, e2⟩ := best_ex h2 (by omega)
    obtain ⟨y, hy⟩ := get_some (show k < sh.length by omega)
    rw [spread, spread, e1, e2, inc, inc, exF_at h1 (by omega), hy]
    simp only []
    rw [exF_set _ h1 (by omega), exF_set _ h2 hk]
    exact spread_ex n (by simpa using h1) (by simpa using h2) (by have := cntP_set hx hx0; omega)
theorem rest_cnt {s : Int} (hs : 0 < s) : ∀ (l : List Int), (∀ x ∈ l, 0 ≤ x ∧ x ≤ s - 1) → sumF l ≤ (cntP l : Int) * s
  | [], _ => by simp [sumF, cntP]
  | x :: l, h => by
    have ih := rest_cnt hs l (fun y hy => h y (by simp [hy]))
    have hx := h x (by simp)
    simp only [sumF, cntP, List.countP_cons] at ih ⊢
    by_cases h0 : 0 < x
    · simp only [h0, decide_true, if_true]
      rw [Int.natCast_add, Int.add_mul]; simp; omega
    · simp only [h0, decide_false]
      simp; omega
theorem left_cnt {total : Int} {ws : List Int} (hs : 0 < sumF ws) : (total - sumF (shareF total (sumF ws) ws)).toNat ≤ cntP (restF total (sumF ws) ws) := by
  have h1 := left_rest (total := total) hs
  have h2 := rest_cnt hs (restF total (sumF ws) ws) (fun x hx => rest_bd hs x hx)
  have h3 : (total - sumF (shareF total (sumF ws) ws)) * sumF ws ≤ (cntP (restF total (sumF ws) ws) : Int) * sumF ws := by rw [h1]; exact h2
  have := Int.le_of_mul_le_mul_right h3 hs
  omega
theorem shares_ex {t : Int} {ps : List Int} (h : ∀ x ∈ ps, 0 ≤ x) (hs : 0 < sumF ps) : sharesF t ps = exF ps (sharesF t (posW ps)) := by
  have e := posW_sum h
  have hs' : 0 < sumF (posW ps) := by omega
  have e1 : shareF t (sumF ps) ps = exF ps (shareF t (sumF ps) (posW ps)) := exF_map (f := fun x => t * x / sumF ps) (by simp) h
  have e2 : restF t (sumF ps) ps = exF ps (restF t (sumF ps) (posW ps)) := exF_map (f := fun x => t * x % sumF ps) (by simp) h
  have hc := left_cnt (total := t) hs'
  rw [e] at hc
  unfold sharesF
  rw [e, e1, e2, exF_sum (by simp [shareF])]
  exact spread_ex _ (by simp [shareF]) (by simp [restF]) hc
/-- shares lie between 0 and the total, and a little more -/
theorem inc_bd {l : List Int} {k : Nat} {hi : Int} (h : ∀ x ∈ l, 0 ≤ x ∧ x ≤ hi) : ∀ x ∈ inc l k, 0 ≤ x ∧ x ≤ hi + 1 := by
  intro x hx
  unfold inc at hx
  split at hx
  · rename_i y hy
    have hyb := h y (List.mem_of_getElem? hy)
    rcases List.mem_or_eq_of_mem_set hx with hx | hx
    · have := h x hx; omega
    · omega
  · have := h x hx; omega
theorem spread_bd : ∀ (n : Nat) {sh rs : List Int} {hi : Int}, (∀ x ∈ sh, 0 ≤ x ∧ x ≤ hi) → ∀ x ∈ spread n sh rs, 0 ≤ x ∧ x ≤ hi + n
  | 0, sh, rs, hi, h => fun x hx => by have := h x hx; simpa using this
  | n + 1, sh, rs, hi, h => fun x hx => by
    have := spread_bd n (hi := hi + 1) (inc_bd h) x hx
    omega
theorem shares_bd {t : Int} {ws : List Int} (h : ∀ x ∈ ws, 0 ≤ x) (hs : 0 < sumF ws) (ht : 0 ≤ t) : ∀ x ∈ sharesF t ws, 0 ≤ x ∧ x ≤ t + ws.length := by
  intro x hx
  have hl := left_bd (total := t) hs
  have := spread_bd (sh := shareF t (sumF ws) ws) (hi := t) _ (fun y hy => by
    obtain ⟨z, hz, rfl⟩ := List.mem_map.1 hy
    have hz0 := h z hz
    have hzs := mem_le_sumF h z hz
    refine ⟨Int.ediv_nonneg (Int.mul_nonneg ht hz0) (by omega), ?_⟩
    exact Int.ediv_le_of_le_mul hs (Int.mul_le_mul_of_nonneg_left hzs ht)) x hx
  omega
/-- the amounts of one direction, after matching -/
def vecF (t : Int) (ps : List Int) : List Int := if 0 < sumF ps then sharesF t ps else List.replicate ps.length 0
theorem vecF_len (t : Int) (ps : List Int) : (vecF t ps).length = ps.length := by unfold vecF; split <;> simp [sharesF_len]
theorem vecF_zero {t : Int} {ps : List Int} (h : ∀ x ∈ ps, 0 ≤ x) {j : Nat} {v : Int} (hp : ps[j]? = some 0) (hv : (vecF t ps)[j]? = some v) : v = 0 := by
  unfold vecF at hv
  split at hv
  · rename_i hs
    rw [shares_ex h hs] at hv
    have : ∀ {ps ys : List Int} {j : Nat} {v : Int}, ps[j]? = some 0 → (exF ps ys)[j]? = some v → v = 0 := by
      intro ps
      induction ps with
      | nil => intro ys j v h; simp at h
      | cons x l ih =>
        intro ys j v h hv
        unfold exF at hv
        cases j with
        | zero => simp at h; subst h; simp at hv; exact hv.symm
        | succ j =>
          split at hv
          · exact ih (by simpa using h) (by simpa using hv)
          · exact ih (by simpa using h) (by simpa using hv)
    exact this hp hv
  · rw [List.getElem?_replicate] at hv
    split at hv <;> simp at hv
    exact hv.symm
theorem set_sum : ∀ {l : List Int} {k : Nat} {x : Int} (y : Int), l[k]? = some x → sumF (l.set k y) = sumF l + (y - x)
  | [], k, x, y, h => by simp at h
  | z :: l, 0, x, y, h => by simp at h; subst h; simp only [List.set_cons_zero, sumF]; omega
  | z :: l, k + 1, x, y, h => by
    have := set_sum (l := l) (k := k) y (by simpa using h)
    simp only [List.set_cons_succ, sumF, this]; omega
theorem inc_sum {l : List Int} {k : Nat} (h : k < l.length) : sumF (inc l k) = sumF l + 1 := by
  unfold inc
  rw [List.getElem?_eq_getElem h]
  simp only []
  rw [set_sum _ (List.getElem?_eq_getElem h)]; omega
theorem spread_sum : ∀ (n : Nat) {sh rs : List Int}, rs.length = sh.length → sh ≠ [] → sumF (spread n sh rs) = sumF sh + n
  | 0, sh, rs, _, _ => by simp [spread]
  | n + 1, sh, rs, h, hne => by
    have hr : rs ≠ [] := by rintro rfl; exact hne (List.eq_nil_of_length_eq_zero (by simpa using h.symm))
    have hb := (best_is hr).lt
    rw [spread, spread_sum n (by simp [inc_len, h]) (fun e => by
      have := congrArg List.length e
      rw [inc_len] at this
      exact hne (List.eq_nil_of_length_eq_zero (by simpa using this))), inc_sum (by omega)]
    omega
theorem shares_sum {t : Int} {ws : List Int} (hs : 0 < sumF ws) : sumF (sharesF t ws) = t := by
  have hl := left_bd (total := t) hs
  unfold sharesF
  rw [spread_sum _ (by simp [shareF, restF]) (by
    rintro e
    have : ws = [] := by simpa [shareF] using e
    subst this; simp [sumF] at hs)]
  omega
end Go.Proofs.Ythdonmdhlgajhaa
namespace Go.Proofs.Ythdonmdhlgajhaa
set_option linter.unusedVariables false
set_option linter.unusedSimpArgs false
open Go.RowKit
/-- new amounts at the places of the positive parts -/
def mrgF (sg : Int) : List Int → List Int → List Int → List Int
  | p :: ps, v :: vs, a :: zs => (if 0 < p then sg * v else a) :: mrgF sg ps vs zs
  | _, _, zs => zs
theorem mrgF_len (sg : Int) : ∀ (ps vs zs : List Int), (mrgF sg ps vs zs).length = zs.length
  | p :: ps, v :: vs, a :: zs => by simp [mrgF, mrgF_len sg ps vs zs]
  | [], _, zs => by simp [mrgF]
  | p :: ps, [], zs => by simp [mrgF]
  | p :: ps, v :: vs, [] => by simp [mrgF]
theorem mrgF_get {sg : Int} : ∀ {ps vs zs : List Int} {j : Nat} {p v a : Int}, ps[j]? = some p → vs[j]? = some v → zs[j]? = some a → (mrgF sg ps vs zs)[j]? = some (if 0 < p then sg * v else a)
  | p' :: ps, v' :: vs, a' :: zs, 0, p, v, a, h1, h2, h3 => by simp at h1 h2 h3; subst h1 h2 h3; simp [mrgF]
  | p' :: ps, v' :: vs, a' :: zs, j + 1, p, v, a, h1, h2, h3 => by
    simp only [mrgF, List.getElem?_cons_succ] at h1 h2 h3 ⊢
    exact mrgF_get h1 h2 h3
/-- writing at places -/
def wrF (sg : Int) : List Int → List Int → List Int → List Int
  | p :: ps, y :: ys, zs => wrF sg ps ys (zs.set p.toNat (sg * y))
  | _, _, zs => zs
theorem wrF_len (sg : Int) : ∀ (ps ys zs : List Int), (wrF sg ps ys zs).length = zs.length
  | p :: ps, y :: ys, zs => by simp [wrF, wrF_len sg ps ys]
  | [], _, zs => by simp [wrF]
  | p :: ps, [], zs => by simp [wrF]
theorem wrF_mrg (sg : Int) : ∀ {ps ys zs pre : List Int}, ys.length = (posW ps).length → zs.length = ps.length → wrF sg (posF pre.length ps) ys (pre ++ zs) = pre ++ mrgF sg ps (exF ps ys) zs
  | [], ys, zs, pre, h1, h2 => by
    have : zs = [] := List.eq_nil_of_length_eq_zero (by simpa using h2)
    subst this
    cases ys with
    | nil => simp [posF, wrF, mrgF]
    | cons y ys => simp [posW] at h1
  | p :: ps, ys, zs, pre, h1, h2 => by
    cases zs with
    | nil => simp at h2
    | cons a zs =>
      have h2' : zs.length = ps.length := by simpa using h2
      unfold posW at h1
      split at h1
      · rename_i hp
        cases ys with
        | nil => simp at h1
        | cons y ys =>
          have ih := wrF_mrg sg (ps := ps) (ys := ys) (zs := zs) (pre := pre ++ [sg * y]) (by simpa using h1) h2'
          simp only [List.length_append, List.length_singleton, List.append_assoc, List.singleton_append] at ih
          simp only [posF, hp, if_true, wrF, exF, List.headD_cons, List.tail_cons, mrgF, Int.toNat_natCast]
          rw [show (pre ++ a :: zs).set pre.length (sg * y) = pre ++ (sg * y :: zs) by rw [List.set_append_right _ _ (Nat.le_refl _)]; simp]
          exact ih
      · rename_i hp
        have ih := wrF_mrg sg (ps := ps) (ys := ys) (zs := zs) (pre := pre ++ [a]) h1 h2'
        simp only [List.length_append, List.length_singleton, List.append_assoc, List.singleton_append] at ih
        simp only [posF, hp, if_false, exF, mrgF]
        exact ih
def partsF (s sg : Int) (l : List Ord) : List Int := l.map (part1 s sg)
theorem partsF_len (s sg : Int) (l : List Ord) : (partsF s sg l).length = l.length := by simp [partsF]
def totM (s : Int) (l : List Ord) : Int := min (totF s 1 l) (totF s (-1) l)
def stepI (s : Int) (l : List Ord) (am : List Int) : List Int := mrgF (-1) (partsF s (-1) l) (vecF (totM s l) (partsF s (-1) l)) (mrgF 1 (partsF s 1 l) (vecF (totM s l) (partsF s 1 l)) am)
def addV (sg t : Int) (ps out : List Int) : List Int := if 0 < sumF ps then addS sg out (sharesF t ps) else out
def stepS (s : Int) (l : List Ord) (out : List Int) : List Int := addV (-1) (totM s l) (partsF s (-1) l) (addV 1 (totM s l) (partsF s 1 l) out)
def foldI (l : List Ord) : Nat → List Int
  | 0 => l.map (fun x => x.am)
  | n + 1 => stepI n l (foldI l n)
def foldS (l : List Ord) : Nat → List Int
  | 0 => List.replicate l.length 0
  | n + 1 => stepS n l (foldS l n)
theorem addV_len {sg t : Int} {ps out : List Int} (h : out.length = ps.length) : (addV sg t ps out).length = out.length := by
  unfold addV; split
  · rw [addS_len (by rw [sharesF_len]; omega)]
  · rfl
theorem addV_get {sg t : Int} {ps out : List Int} {j : Nat} {o v : Int} (hl : out.length = ps.length) (h1 : out[j]? = some o) (h2 : (vecF t ps)[j]? = some v) : (addV sg t ps out)[j]? = some (o + sg * v) := by
  unfold addV
  unfold vecF at h2
  split
  · rename_i hs
    rw [if_pos hs] at h2
    exact addS_get h1 h2
  · rename_i hs
    rw [if_neg hs, List.getElem?_replicate] at h2
    split at h2
    · simp at h2; subst h2; simpa using h1
    · simp at h2
theorem stepI_len (s : Int) (l : List Ord) (am : List Int) : (stepI s l am).length = am.length := by simp [stepI, mrgF_len]
theorem stepS_len {s : Int} {l : List Ord} {out : List Int} (h : out.length = l.length) : (stepS s l out).length = l.length := by
  have h1 : (addV 1 (totM s l) (partsF s 1 l) out).length = out.length := addV_len (by rw [partsF_len]; exact h)
  rw [stepS, addV_len (by rw [partsF_len, h1]; exact h), h1, h]
theorem foldI_len (l : List Ord) : ∀ n, (foldI l n).length = l.length
  | 0 => by simp [foldI]
  | n + 1 => by rw [foldI, stepI_len, foldI_len l n]
theorem foldS_len (l : List Ord) : ∀ n, (foldS l n).length = l.length
  | 0 => by simp [foldS]
  | n + 1 => by rw [foldS]; exact stepS_len (foldS_len l n)
theorem part1_nn (s sg : Int) (x : Ord) : 0 ≤ part1 s sg x := by unfold part1; split <;> (try split) <;> omega
theorem parts_nn (s sg : Int) (l : List Ord) : ∀ x ∈ partsF s sg l, 0 ≤ x := fun x hx => by
  obtain ⟨y, _, rfl⟩ := List.mem_map.1 hx
  exact part1_nn s sg y
theorem fold_rel (l : List Ord) : ∀ (n : Nat) (j : Nat) (x : Ord) (a o : Int), l[j]? = some x → 0 ≤ x.sh → (foldI l n)[j]? = some a → (foldS l n)[j]? = some o → if x.sh < n then a = o else a = x.am ∧ o = 0
  | 0, j, x, a, o, hx, h0, ha, ho => by
    rw [foldI, List.getElem?_map, hx] at ha
    rw [foldS, List.getElem?_replicate] at ho
    split at ho
    · simp at ha ho
      rw [if_neg (by simp; omega)]
      exact ⟨ha.symm, ho.symm⟩
    · simp at ho
  | n + 1, j, x, a, o, hx, h0, ha, ho => by
    have hlt := (List.getElem?_eq_some_iff.1 hx).1
    obtain ⟨a0, ha0⟩ := get_some (show j < (foldI l n).length by rw [foldI_len]; exact hlt)
    obtain ⟨o0, ho0⟩ := get_some (show j < (foldS l n).length by rw [foldS_len]; exact hlt)
    have ih := fold_rel l n j x a0 o0 hx h0 ha0 ho0
    have p1 : (partsF n 1 l)[j]? = some (part1 n 1 x) := by simp [partsF, hx]
    have p2 : (partsF n (-1) l)[j]? = some (part1 n (-1) x) := by simp [partsF, hx]
    obtain ⟨v1, hv1⟩ := get_some (show j < (vecF (totM n l) (partsF n 1 l)).length by rw [vecF_len, partsF_len]; exact hlt)
    obtain ⟨v2, hv2⟩ := get_some (show j < (vecF (totM n l) (partsF n (-1) l)).length by rw [vecF_len, partsF_len]; exact hlt)
    have z1 := fun h => vecF_zero (parts_nn n 1 l) (j := j) (v := v1) h hv1
    have z2 := fun h => vecF_zero (parts_nn n (-1) l) (j := j) (v := v2) h hv2
    rw [foldI, stepI, mrgF_get p2 hv2 (mrgF_get p1 hv1 ha0)] at ha
    have hl0 : (foldS l n).length = (partsF n 1 l).length := by rw [foldS_len, partsF_len]
    have hl1 : (addV 1 (totM n l) (partsF n 1 l) (foldS l n)).length = (partsF n (-1) l).length := by rw [addV_len hl0, foldS_len, partsF_len]
    rw [foldS, stepS, addV_get hl1 (addV_get hl0 ho0 hv1) hv2] at ho
    injection ha with ha
    injection ho with ho
    rw [p1] at z1
    rw [p2] at z2
    by_cases hs : x.sh = n
    · rw [hs] at ih
      rw [if_neg (by omega)] at ih
      rw [if_pos (by rw [hs]; omega)]
      have q1 : part1 n 1 x = if 0 < 1 * x.am then 1 * x.am else 0 := by rw [part1, if_pos hs]
      have q2 : part1 n (-1) x = if 0 < -1 * x.am then -1 * x.am else 0 := by rw [part1, if_pos hs]
      rcases Int.lt_trichotomy x.am 0 with hq | hq | hq
      · rw [if_neg (by omega)] at q1
        rw [if_pos (by omega)] at q2
        have := z1 (by rw [q1])
        rw [q1, q2] at ha
        rw [if_pos (by omega)] at ha
        omega
      · rw [if_neg (by omega)] at q1
        rw [if_neg (by omega)] at q2
        have e1 := z1 (by rw [q1])
        have e2 := z2 (by rw [q2])
        rw [q1, q2] at ha
        simp at ha
        omega
      · rw [if_pos (by omega)] at q1
        rw [if_neg (by omega)] at q2
        have e2 := z2 (by rw [q2])
        rw [q1, q2] at ha
        rw [if_neg (by omega), if_pos (by omega)] at ha
        omega
    · have q1 : part1 n 1 x = 0 := by rw [part1, if_neg hs]
      have q2 : part1 n (-1) x = 0 := by rw [part1, if_neg hs]
      have e1 := z1 (by rw [q1])
      have e2 := z2 (by rw [q2])
      rw [q1, q2] at ha
      simp at ha
      by_cases hq : x.sh < n
      · rw [if_pos hq] at ih
        rw [if_pos (by omega)]
        omega
      · rw [if_neg hq] at ih
        rw [if_neg (by omega)]
        omega
/-- the amounts after matching -/
def mtL (l : List Ord) : List Int := foldS l 16
theorem fold_eq {l : List Ord} (h : ∀ x ∈ l, 0 ≤ x.sh ∧ x.sh ≤ 15) : foldI l 16 = mtL l := by
  refine List.ext_getElem? fun j => ?_
  by_cases hj : j < l.length
  · obtain ⟨x, hx⟩ := get_some hj
    obtain ⟨a, ha⟩ := get_some (show j < (foldI l 16).length by rw [foldI_len]; exact hj)
    obtain ⟨o, ho⟩ := get_some (show j < (foldS l 16).length by rw [foldS_len]; exact hj)
    have hb := h x (List.mem_of_getElem? hx)
    have := fold_rel l 16 j x a o hx hb.1 ha ho
    rw [if_pos (by omega)] at this
    rw [ha, mtL, ho, this]
  · rw [List.getElem?_eq_none (by rw [foldI_len]; omega), mtL, List.getElem?_eq_none (by rw [foldS_len]; omega)]
theorem mtL_len (l : List Ord) : (mtL l).length = l.length := foldS_len l 16
end Go.Proofs.Ythdonmdhlgajhaa
namespace Go.Proofs.Ythdonmdhlgajhaa
set_option linter.unusedVariables false
set_option linter.unusedSimpArgs false
open Go.RowKit
theorem Own.lower {w : World} {base base' : Nat} {e : TypeId} {s n : Nat} {v : Value} {xs : List Value} (h : Own w base e s v n xs) (hb : base' ≤ base) : Own w base' e s v n xs := by
  refine ⟨h.1, ?_⟩
  rcases h.2 with h0 | ⟨g, cap, cur, hv, hg, hh, r⟩
  · exact .inl h0
  · exact .inr ⟨g, cap, cur, hv, Nat.le_trans hb hg, hh, r⟩
theorem info_OrdC : (Try.prog.info? 41).map (fun i => (i.zero, i.size, i.bytes)) = some (some (.agg #[.int .i64 0, .int .i64 0, .int .i64 0, .int .i64 0]), 4, 32) := by kernel_rfl
theorem Ord.one (l : List Ord) : ∀ u ∈ l.flatMap Ord.cells, u.oneCell' = true := fun u hu => by
  obtain ⟨x, _, hx⟩ := List.mem_flatMap.1 hu
  simp [Ord.cells] at hx
  rcases hx with rfl | rfl | rfl | rfl <;> rfl
set_option maxRecDepth 100000 in
set_option maxHeartbeats 1000000 in
theorem slices_CloneO (A : Option Addr) (c : Nat) (l : List Ord) (w : World) (h : Rd w A (l.flatMap Ord.cells)) (hl : l.length ≤ 1048576) :
    Calls Try.prog 35 #[.slice A l.length c] w (MadeO w 41 4 l.length (l.flatMap Ord.cells)) := by
  have heq : ∀ (w : World) (a : Option Addr) (n c : Nat), (binOp .eql 28 (.slice a n c) (.slice none 0 0)).run Try.prog w = .ok (.bool a.isNone) w := fun w a n c => Lib.run_eql_slice_nil w _ 41 a n c 0 0 Try.underlying28
  cases A with
  | none =>
    have h1 := h.none_nil
    obtain rfl : l = [] := by
      cases l with
      | nil => rfl
      | cons x l => simp [Ord.cells] at h1
    go_enter Try.func35, Try.ntmps35
    go_wp2
    go_ret
    exact ⟨_, rfl, by simpa using Own.nil w w.heap.size 41 4, Below.refl _ _⟩
  | some ad =>
    have HR := Lib.hid h
    clear h
    have HO := Lib.hid (Own.lit0 w w.heap.size 41 4 (Nat.le_refl _))
    go_enter Try.func35, Try.ntmps35
    go_wp2_with ((at_builtin; refine wp_appS _ rfl (.tmp 5) (.tmp 6) 28 rfl w.heap.size info_OrdC Try.underlying28 rfl (by omega) (by omega) _ 0 [] rfl HO.out ad l.length c (l.flatMap Ord.cells) rfl (flat_len Ord.len l) (HR.out.below (by (repeat' (first | (with_reducible exact Below.refl _ _) | (with_reducible assumption) | (with_reducible refine Below.alloc ?_ ?_ _) | (with_reducible refine Below.drew ?_) | (with_reducible refine Below.drewN' ?_ _) | (with_reducible refine Below.setCell ?_ ?_ _) | (refine Below.via ?_ (by with_reducible assumption) ?_) | (with_reducible refine Below.via ?_ (Wd.h _) ?_) | go_size)))) (Ord.one l) (by omega) (by simp) ?_; intro v' wn hO' hbn _))
    go_ret
    rw [Nat.zero_add, List.nil_append] at hO'
    exact ⟨_, rfl, hO', Below.via (by (repeat' (first | (with_reducible exact Below.refl _ _) | (with_reducible assumption) | (with_reducible refine Below.alloc ?_ ?_ _) | (with_reducible refine Below.drew ?_) | (with_reducible refine Below.drewN' ?_ _) | (with_reducible refine Below.setCell ?_ ?_ _) | (refine Below.via ?_ (by with_reducible assumption) ?_) | (with_reducible refine Below.via ?_ (Wd.h _) ?_) | go_size))) hbn (Nat.le_refl _)⟩
end Go.Proofs.Ythdonmdhlgajhaa
namespace Go.Proofs.Ythdonmdhlgajhaa
set_option linter.unusedVariables false
set_option linter.unusedSimpArgs false
open Go.RowKit
theorem cur_get {nx ln : List Int} {k : Nat} {a : Int} (hk : k ≤ nx.length) (h : ln[k]? = some a) : (nx.take k ++ ln.drop k)[k]? = some a := by
  rw [List.getElem?_append_right (by simp; omega)]
  simp only [List.length_take, List.getElem?_drop]
  rw [show k + (k - min k nx.length) = k by omega]; exact h
theorem cur_step {nx ln : List Int} {k : Nat} {b : Int} (hk : k < nx.length) (hl : nx.length = ln.length) (h : nx[k]? = some b) : (nx.take k ++ ln.drop k).set k b = nx.take (k + 1) ++ ln.drop (k + 1) := by
  obtain ⟨h1, rfl⟩ := List.getElem?_eq_some_iff.1 h
  rw [List.set_append_right _ _ (by simp; omega)]
  have e : k - (nx.take k).length = 0 := by simp; omega
  rw [e, List.drop_eq_getElem_cons (show k < ln.length by omega), List.set_cons_zero, List.take_succ_eq_append_getElem h1, List.append_assoc]; rfl
theorem buf_now {n : Nat} {ll lh ln : List Int} (h : BufOk n ll lh ln) : ∀ y ∈ ln, 0 ≤ y ∧ y ≤ 1000000000 := by
  intro y hy
  obtain ⟨i, hi⟩ := List.getElem?_of_mem hy
  have hlt := (List.getElem?_eq_some_iff.1 hi).1
  obtain ⟨a, ha⟩ := get_some (l := ll) (k := i) (by rw [h.l1, ← h.l3]; exact hlt)
  obtain ⟨b, hb⟩ := get_some (l := lh) (k := i) (by rw [h.l2, ← h.l3]; exact hlt)
  have := h.el i a b y ha hb hi
  omega
theorem spec_l05Add' (A B : Option Addr) (c d na nb : Nat) (la lb : List Int) (s : Int) (w : World) (hA : Rd w A (la.map iV)) (hB : Rd w B (lb.map iV)) (ea : la.length = na) (eb : lb.length = nb) (hl : na ≤ nb) (hm : nb ≤ 1048576) (h1 : ∀ x ∈ la, -1000000000000 ≤ x ∧ x ≤ 1000000000000) (h2 : ∀ x ∈ lb, -1000000000000 ≤ s * x ∧ s * x ≤ 1000000000000) :
    Calls Try.prog 39 #[.slice A na c, .slice B nb d, .int .i64 s] w (MadeL w 1 na ((addS s la lb).map iV)) := by
  subst ea eb
  exact spec_l05Add A B c d la lb s w hA hB hl hm h1 h2
end Go.Proofs.Ythdonmdhlgajhaa
namespace Go.Proofs.Ythdonmdhlgajhaa
set_option linter.unusedVariables false
set_option linter.unusedSimpArgs false
open Go.RowKit
theorem sumF_take {l : List Int} (h : ∀ x ∈ l, 0 ≤ x) (k : Nat) : 0 ≤ sumF (l.take k) ∧ sumF (l.take k) ≤ sumF l := by
  have e : sumF l = sumF (l.take k) + sumF (l.drop k) := by rw [← sumF_append, List.take_append_drop]
  have h1 := sumF_nonneg (l := l.take k) (fun x hx => h x (List.mem_of_mem_take hx))
  have h2 := sumF_nonneg (l := l.drop k) (fun x hx => h x (List.mem_of_mem_drop hx))
  omega
theorem sumF_snoc {l : List Int} {k : Nat} {x : Int} (h : l[k]? = some x) : sumF (l.take (k + 1)) = sumF (l.take k) + x := by
  rw [take_snocI h, sumF_append]; simp [sumF]
theorem ShOk.sml {total : Int} {ws : List Int} (h : ShOk total ws) : Sml ws := by
  refine fun x hx => ?_
  have := h.w0 x hx
  omega
theorem share_at {total s : Int} {ws : List Int} {k : Nat} {x : Int} (h : ws[k]? = some x) : (shareF total s ws)[k]? = some (total * x / s) := by simp [shareF, h]
theorem rest_at {total s : Int} {ws : List Int} {k : Nat} {x : Int} (h : ws[k]? = some x) : (restF total s ws)[k]? = some (total * x % s) := by simp [restF, h]
theorem two_made (w : World) (n : Nat) (e : TypeId) : Arr ((w.alloc (.cells (madeCells #[Value.int .i64 0] n) e)).alloc (.cells (madeCells #[Value.int .i64 0] n) e)).drew w.heap.size n ((List.replicate n (0 : Int)).map iV) ∧ Arr ((w.alloc (.cells (madeCells #[Value.int .i64 0] n) e)).alloc (.cells (madeCells #[Value.int .i64 0] n) e)).drew (w.heap.size + 1) n ((List.replicate n (0 : Int)).map iV) := by
  refine ⟨((Arr.madeI w n e).alloc _).drew, ?_⟩
  have := (Arr.madeI (w.alloc (.cells (madeCells #[Value.int .i64 0] n) e)) n e).drew
  rw [World.size_alloc] at this
  exact this
theorem slices_MaxI' (A : Option Addr) (c n : Nat) (l : List Int) (w : World) (h : Rd w A (l.map iV)) (hn : l.length = n) (hl : n ≤ 1048576) (h1 : 1 ≤ n) :
    Calls Try.prog 55 #[.slice A n c] w fun e w' => e = .returned (.int .i64 (maxL l)) ∧ w = w' := by
  subst hn
  exact slices_MaxI A c l w h hl h1
theorem slices_IndexB (A : Option Addr) (c n : Nat) (l : List Int) (w : World) (h : Rd w A (l.map iV)) (hn : l.length = n) (hl : n ≤ 1048576) (h1 : 1 ≤ n) :
    Calls Try.prog 54 #[.slice A n c, .int .i64 (maxL l)] w fun e w' => e = .returned (.int .i64 (best l : Nat)) ∧ w = w' := by
  subst hn
  have := slices_IndexI A c l (maxL l) w h hl
  rw [idx_best h1] at this
  exact this
set_option maxRecDepth 100000 in
set_option maxHeartbeats 8000000 in
theorem impl_sharesOf (A : Option Addr) (c : Nat) (total : Int) (ws : List Int) (w : World) (hk : ShOk total ws) (h : Rd w A (ws.map iV)) :
    Calls Try.prog 36 #[.int .i64 total, .slice A ws.length c] w (MadeL w 1 ws.length ((sharesF total ws).map iV)) := by
  have H := Lib.hid h
  have HK := Lib.hid hk
  have n64 := hk.n
  have n1 := hk.pos
  have t0 := hk.t0
  have t1 := hk.t1
  obtain ⟨s, hs⟩ : ∃ s, s = sumF ws := ⟨_, rfl⟩
  have s0 : 0 < s := by rw [hs]; exact hk.s
  have s1 : s ≤ 64000000000 := by rw [hs]; exact hk.sum
  have HS := Lib.hid hs
  have hsum := impl_sumOf A c ws w h (by omega) hk.sml
  rw [← hs] at hsum
  have HSM := Lib.hid hsum
  obtain ⟨nsh, hnsh⟩ : ∃ nsh, nsh = shareF total s ws := ⟨_, rfl⟩
  obtain ⟨nrs, hnrs⟩ : ∃ nrs, nrs = restF total s ws := ⟨_, rfl⟩
  have HNS := Lib.hid hnsh
  have HNR := Lib.hid hnrs
  clear h hk hs hsum hnsh hnrs
  have hmk := make_i64 ws.length (by omega)
  go_enter Try.func36, Try.ntmps36
  go_wp2_with (go_at_call 53; refine HSM.out.mono ?_; rintro e w' ⟨rfl, rfl⟩)
  go_cut [6, 7] (fun s6 s7 wx => ∃ g h : Nat, s6 = .slice (some ⟨g, 0, none⟩) ws.length ws.length ∧ s7 = .slice (some ⟨h, 0, none⟩) ws.length ws.length ∧ g ≠ h ∧ w.heap.size ≤ g ∧ w.heap.size ≤ h ∧ Arr wx g ws.length ((List.replicate ws.length 0).map iV) ∧ Arr wx h ws.length ((List.replicate ws.length 0).map iV) ∧ Below w.heap.size w wx)
  case first =>
    go_region
    · go_wp2
      go_meet
      exact ⟨w.heap.size, w.heap.size + 1, rfl, rfl, by omega, by omega, by omega, (two_made w _ _).1, (two_made w _ _).2, by (repeat' (first | (with_reducible exact Below.refl _ _) | (with_reducible assumption) | (with_reducible refine Below.alloc ?_ ?_ _) | (with_reducible refine Below.drew ?_) | (with_reducible refine Below.drewN' ?_ _) | (with_reducible refine Below.setCell ?_ ?_ _) | (refine Below.via ?_ (by with_reducible assumption) ?_) | (with_reducible refine Below.via ?_ (Wd.h _) ?_) | go_size))⟩
    · go_wp2
      go_meet
      exact ⟨w.heap.size + 1, w.heap.size, rfl, rfl, by omega, by omega, by omega, (two_made w _ _).2, (two_made w _ _).1, by (repeat' (first | (with_reducible exact Below.refl _ _) | (with_reducible assumption) | (with_reducible refine Below.alloc ?_ ?_ _) | (with_reducible refine Below.drew ?_) | (with_reducible refine Below.drewN' ?_ _) | (with_reducible refine Below.setCell ?_ ?_ _) | (refine Below.via ?_ (by with_reducible assumption) ?_) | (with_reducible refine Below.via ?_ (Wd.h _) ?_) | go_size))⟩
  case rest =>
    obtain ⟨g, h, rfl, rfl, hgh, hg, hh, ag, ah, hb⟩ := hcut
    have HAG := Lib.hid ag
    have HAH := Lib.hid ah
    have HB := Lib.hid hb
    have hnl : nsh.length = ws.length := by rw [HNS.out]; simp [shareF]
    have hnr : nrs.length = ws.length := by rw [HNR.out]; simp [restF]
    have k1 : nsh.length ≤ ws.length := by omega
    have k2 : ws.length ≤ nsh.length := by omega
    have k3 : nrs.length ≤ ws.length := by omega
    have k4 : ws.length ≤ nrs.length := by omega
    have hnn : ∀ x ∈ nsh, 0 ≤ x := fun x hx => by
      rw [HNS.out] at hx
      obtain ⟨y, hy, rfl⟩ := List.mem_map.1 hx
      rw [HS.out]
      exact (HK.out.quo hy).1
    have hlf := left_bd (total := total) HK.out.s
    rw [← HS.out, ← HNS.out] at hlf
    have HNN := Lib.hid hnn
    have HLF := Lib.hid hlf
    clear ag ah hb hnl hnr hnn hlf hmk
    go_wp2_with fail
    go_loopw [23, 8] (fun u v wr => ∃ (k : Nat) (lf : Int), k ≤ ws.length ∧ u = .int .i64 k ∧ v = .int .i64 lf ∧ 0 ≤ lf ∧ lf ≤ total ∧ Hid (lf = total - sumF (nsh.take k)) ∧ Arr wr g ws.length ((nsh.take k ++ (List.replicate ws.length 0).drop k).map iV) ∧ Arr wr h ws.length ((nrs.take k ++ (List.replicate ws.length 0).drop k).map iV) ∧ Below w.heap.size w wr) (fun u _ _ => ws.length - (intOf u).toNat)
    case atStart => exact ⟨0, total, by omega, rfl, rfl, t0, by omega, Lib.hid (by simp [sumF]), by simpa using HAG.out, by simpa using HAH.out, HB.out⟩
    case round =>
      obtain ⟨k, lf, hk, rfl, rfl, l0, l1, HL, ag, ah, hbw⟩ := hrel
      have HAG2 := Lib.hid ag
      have HAH2 := Lib.hid ah
      have hbH := Lib.hid hbw
      have hgl := ag.lt
      have hhl := ah.lt
      clear ag ah
      by_cases hlt : k < ws.length
      · obtain ⟨x, hx⟩ := get_some hlt
        obtain ⟨b, off, rfl, hb, hat⟩ := H.out.opened (k := k) (by simpa using hlt)
        have q0 := ints_at (hat.below hbw hb) hx
        have hyb : b < wr.heap.size := Nat.lt_of_lt_of_le hb hbw.size
        have hgb : g ≠ b := by omega
        have hhb : h ≠ b := by omega
        obtain ⟨m0, m1⟩ := HK.out.mul (List.mem_of_getElem? hx)
        obtain ⟨p, hp⟩ : ∃ p, p = total * x := ⟨_, rfl⟩
        rw [← hp] at m0 m1
        obtain ⟨q, hq⟩ : ∃ q, q = p / s := ⟨_, rfl⟩
        obtain ⟨r, hr⟩ : ∃ r, r = p % s := ⟨_, rfl⟩
        have q1 : 0 ≤ q := by rw [hq]; exact Int.ediv_nonneg m0 (by omega)
        have q2 : q ≤ 1000000000000000000 := by rw [hq]; exact Int.le_trans (Int.ediv_le_self _ m0) m1
        have r1 : 0 ≤ r := by rw [hr]; exact Int.emod_nonneg p (by omega)
        have r2 : r < s := by rw [hr]; exact Int.emod_lt_of_pos p s0
        have HSH := Lib.hid (show nsh[k]? = some q by rw [HNS.out, share_at hx, hq, hp])
        have HRS := Lib.hid (show nrs[k]? = some r by rw [HNR.out, rest_at hx, hr, hp])
        have hst := sumF_take HNN.out (k + 1)
        rw [sumF_snoc HSH.out] at hst
        have lb := HLF.out.1
        have hlq : q ≤ lf := by have := HL.out; omega
        have z1 : total * x = p := hp.symm
        have z2 : IntKind.i64.wrap p = p := IntWalk.i64_in _ (by omega)
        have z3 : p.tdiv s = q := by rw [hq]; exact Int.tdiv_eq_ediv_of_nonneg m0
        have z4 : p.tmod s = r := by rw [hr]; exact Int.tmod_eq_emod_of_nonneg m0
        have z5 : p / s = q := hq.symm
        have z6 : p % s = r := hr.symm
        have z7 : IntKind.i64.wrap q = q := IntWalk.i64_in _ (by omega)
        have z8 : IntKind.i64.wrap r = r := IntWalk.i64_in _ (by omega)
        obtain ⟨x1, c1⟩ := HAG2.out.some_ (j := k) hlt
        obtain ⟨x2, c2⟩ := HAH2.out.some_ (j := k) hlt
        have f1 := HAG2.out.free (j := k) hlt
        have f2 := HAH2.out.free (j := k) hlt
        have g1 : (k : Int) < ws.length := by omega
        clear hx hat hbw hst lb hp hq hr
        go_wp2_with fail
        have hl0 : nsh.length = (List.replicate ws.length (0 : Int)).length := by simp; omega
        have hl1 : nrs.length = (List.replicate ws.length (0 : Int)).length := by simp; omega
        have A1 := Lib.hid (show Arr (wr.setCell ⟨g, k, none⟩ (.int .i64 q)) g ws.length ((nsh.take (k + 1) ++ (List.replicate ws.length 0).drop (k + 1)).map iV) by rw [← cur_step (by omega) hl0 HSH.out, map_set_iV]; exact HAG2.out.setAt hlt _)
        have A2 := Lib.hid (show Arr (wr.setCell ⟨h, k, none⟩ (.int .i64 r)) h ws.length ((nrs.take (k + 1) ++ (List.replicate ws.length 0).drop (k + 1)).map iV) by rw [← cur_step (by omega) hl1 HRS.out, map_set_iV]; exact HAH2.out.setAt hlt _)
        have A3 := Lib.hid (show Arr ((wr.setCell ⟨g, k, none⟩ (.int .i64 q)).setCell ⟨h, k, none⟩ (.int .i64 r)) h ws.length ((nrs.take (k + 1) ++ (List.replicate ws.length 0).drop (k + 1)).map iV) by rw [← cur_step (by omega) hl1 HRS.out, map_set_iV]; exact (HAH2.out.far (by simp; omega) _).setAt hlt _)
        clear hl0 hl1
        go_cut [] (fun wx => Arr wx g ws.length ((nsh.take (k + 1) ++ (List.replicate ws.length 0).drop (k + 1)).map iV) ∧ Arr wx h ws.length ((nrs.take (k + 1) ++ (List.replicate ws.length 0).drop (k + 1)).map iV) ∧ Below w.heap.size w wx)
        case first =>
          go_region
          all_goals
            go_wp2_with fail
            go_meet
            exact ⟨A1.out.far (by simp; omega) _, A3.out, by have h1 := hbH.out; (repeat' (first | (with_reducible exact Below.refl _ _) | (with_reducible assumption) | (with_reducible refine Below.alloc ?_ ?_ _) | (with_reducible refine Below.drew ?_) | (with_reducible refine Below.drewN' ?_ _) | (with_reducible refine Below.setCell ?_ ?_ _) | (refine Below.via ?_ (by with_reducible assumption) ?_) | (with_reducible refine Below.via ?_ (Wd.h _) ?_) | go_size))⟩
        case rest =>
          obtain ⟨a1, a2, hbc⟩ := hcut
          have A4 := Lib.hid a1
          have A5 := Lib.hid a2
          have HBC := Lib.hid hbc
          have q9 : wc.cell? ⟨g, k, none⟩ = some (.int .i64 q) := ints_cell a1 (by rw [List.getElem?_append_left (by simp; omega), List.getElem?_take]; simp; exact HSH.out)
          have zz : IntKind.i64.wrap (lf - q) = lf - q := IntWalk.i64_in _ (by omega)
          clear a1 a2 hbc z1 z2 z3 z4 z5 z6 z7 z8
          go_wp2
          go_roundw
          case rel =>
            exact ⟨k + 1, lf - q, by omega, by go_num, rfl, by omega, by omega, Lib.hid (by rw [sumF_snoc HSH.out]; have := HL.out; omega), A4.out, A5.out, HBC.out⟩
          case measure => simp [intOf]; omega
      · obtain rfl : k = ws.length := by omega
        have hSpr := Spr.init HK.out
        rw [← HS.out, ← HNS.out, ← HNR.out] at hSpr
        have e1 : nsh.take ws.length ++ (List.replicate ws.length (0 : Int)).drop ws.length = nsh := by rw [List.take_of_length_le (by omega), List.drop_of_length_le (by simp), List.append_nil]
        have e2 : nrs.take ws.length ++ (List.replicate ws.length (0 : Int)).drop ws.length = nrs := by rw [List.take_of_length_le (by omega), List.drop_of_length_le (by simp), List.append_nil]
        have ag2 := HAG2.out
        have ah2 := HAH2.out
        rw [e1] at ag2
        rw [e2] at ah2
        obtain ⟨j, hj⟩ : ∃ j : Nat, lf = j := ⟨lf.toNat, by omega⟩
        have hj2 : (total - sumF nsh).toNat = j := by have := HL.out; rw [List.take_of_length_le (by omega)] at this; omega
        rw [hj2] at hSpr
        subst hj
        have HSP := Lib.hid hSpr
        have HA6 := Lib.hid ag2
        have HA7 := Lib.hid ah2
        clear hSpr e1 e2 ag2 ah2 hj2 hbw
        go_wp2_with fail
        go_loopw [8] (fun v wr => ∃ (j : Nat) (sh rs : List Int), v = .int .i64 j ∧ Hid (Spr total ws j sh rs) ∧ Arr wr g ws.length (sh.map iV) ∧ Arr wr h ws.length (rs.map iV) ∧ Below w.heap.size w wr) (fun v _ => (intOf v).toNat)
        case atStart => exact ⟨j, nsh, nrs, rfl, HSP, HA6.out, HA7.out, hbH.out⟩
        case round =>
          clear HAG2 HAH2 hbH HA6 HA7 HSP HL
          obtain ⟨j, sh, rs, rfl, HP, ag, ah, hbw⟩ := hrel
          have HA1 := Lib.hid ag
          have HA2 := Lib.hid ah
          have hbH := Lib.hid hbw
          have hgl2 := ag.lt
          have hhl2 := ah.lt
          clear ag ah hbw
          cases j with
          | zero =>
            have e0 : sh = sharesF total ws := by have := HP.out.sp; simpa [spread] using this
            have hl1 := HP.out.l1
            have HE := Lib.hid e0
            clear e0 hl1
            go_wp2
            go_ret
            refine ⟨some ⟨g, 0, none⟩, ws.length, rfl, Nat.le_refl _, ?_, hbH.out⟩
            rw [Nat.mul_one, ← HE.out]
            exact Wr.of_arr hg HA1.out
          | succ j =>
            obtain ⟨x, y, hx, hy, hbl, x0, x1, hnx⟩ := HP.out.next n1 n64
            obtain ⟨bs, hbs⟩ : ∃ bs, bs = best rs := ⟨_, rfl⟩
            rw [← hbs] at hx hy hbl hnx
            have HBS := Lib.hid hbs
            have HNX := Lib.hid hnx
            have q1 := ints_cell HA1.out hx
            have q2 := ints_cell HA2.out hy
            have f1 := HA1.out.free (j := bs) hbl
            have f2 := HA2.out.free (j := bs) hbl
            have hl2 := HP.out.l2
            have HL2 := Lib.hid hl2
            have g1 : (bs : Int) < ws.length := by omega
            have z1 : IntKind.i64.wrap (x + 1) = x + 1 := IntWalk.i64_in _ (by omega)
            have HB2 := Lib.hid (show Arr (wr.setCell ⟨g, bs, none⟩ (.int .i64 (x + 1))) g ws.length ((sh.set bs (x + 1)).map iV) by rw [map_set_iV]; exact HA1.out.setAt hbl _)
            have HB3 := Lib.hid (show Arr ((wr.setCell ⟨g, bs, none⟩ (.int .i64 (x + 1))).setCell ⟨h, bs, none⟩ (.int .i64 (-1))) h ws.length ((rs.set bs (-1)).map iV) by rw [map_set_iV]; exact (HA2.out.far (by simp; omega) _).setAt hbl _)
            clear hx hy hbs hnx hl2
            have hgj : (0 : Int) < ((j + 1 : Nat) : Int) := by omega
            have hjl : j + 1 ≤ ws.length := HP.out.jl
            go_wp2_with (first
              | (go_at_call 55; refine (slices_MaxI' _ _ _ rs _ HA2.out.rd HL2.out (by omega) n1).mono ?_; rintro e w' ⟨rfl, rfl⟩)
              | (go_at_call 54; refine (slices_IndexB _ _ _ rs _ HA2.out.rd HL2.out (by omega) n1).mono ?_; rw [← HBS.out]; rintro e w' ⟨rfl, rfl⟩))
            go_roundw
            case rel =>
              exact ⟨j, _, _, by go_num, Lib.hid HNX.out, HB2.out.far (by simp; omega) _, HB3.out, by have h1 := hbH.out; (repeat' (first | (with_reducible exact Below.refl _ _) | (with_reducible assumption) | (with_reducible refine Below.alloc ?_ ?_ _) | (with_reducible refine Below.drew ?_) | (with_reducible refine Below.drewN' ?_ _) | (with_reducible refine Below.setCell ?_ ?_ _) | (refine Below.via ?_ (by with_reducible assumption) ?_) | (with_reducible refine Below.via ?_ (Wd.h _) ?_) | go_size))⟩
            case measure => (simp [intOf]; try omega)
end Go.Proofs.Ythdonmdhlgajhaa
namespace Go.Proofs.Ythdonmdhlgajhaa
set_option linter.unusedVariables false
set_option linter.unusedSimpArgs false
open Go.RowKit
theorem best_step {l : List Int} {b i : Nat} {x y : Int} (h : l[i]? = some y) : bestF b x i (l.drop i) = if x < y then bestF i y (i + 1) (l.drop (i + 1)) else bestF b x (i + 1) (l.drop (i + 1)) := by
  rw [drop_consI h, bestF]
theorem best_one {l : List Int} {x : Int} (h : l[0]? = some x) : bestF 0 x 1 (l.drop 1) = best l := by
  cases l with
  | nil => simp at h
  | cons y l => simp at h; subst h; rfl
set_option maxRecDepth 100000 in
set_option maxHeartbeats 8000000 in
theorem spec_l01Shares (A : Option Addr) (c : Nat) (total : Int) (ws : List Int) (w : World) (hk : ShOk total ws) (h : Rd w A (ws.map iV)) :
    Calls Try.prog 40 #[.int .i64 total, .slice A ws.length c] w (MadeL w 1 ws.length ((sharesF total ws).map iV)) := by
  have H := Lib.hid h
  have HK := Lib.hid hk
  have n64 := hk.n
  have n1 := hk.pos
  have t0 := hk.t0
  have t1 := hk.t1
  obtain ⟨s, hs⟩ : ∃ s, s = sumF ws := ⟨_, rfl⟩
  have s0 : 0 < s := by rw [hs]; exact hk.s
  have s1 : s ≤ 64000000000 := by rw [hs]; exact hk.sum
  have HS := Lib.hid hs
  have hsum := spec_l01Sum A c ws w h (by omega) hk.sml
  rw [← hs] at hsum
  have HSM := Lib.hid hsum
  obtain ⟨nsh, hnsh⟩ : ∃ nsh, nsh = shareF total s ws := ⟨_, rfl⟩
  obtain ⟨nrs, hnrs⟩ : ∃ nrs, nrs = restF total s ws := ⟨_, rfl⟩
  have HNS := Lib.hid hnsh
  have HNR := Lib.hid hnrs
  have hnl : nsh.length = ws.length := by rw [hnsh]; simp [shareF]
  have hnr : nrs.length = ws.length := by rw [hnrs]; simp [restF]
  have k1 : nsh.length ≤ ws.length := by omega
  have k2 : ws.length ≤ nsh.length := by omega
  have k3 : nrs.length ≤ ws.length := by omega
  have k4 : ws.length ≤ nrs.length := by omega
  have hnn : ∀ x ∈ nsh, 0 ≤ x := fun x hx => by
    rw [hnsh] at hx
    obtain ⟨y, hy, rfl⟩ := List.mem_map.1 hx
    rw [hs]
    exact (hk.quo hy).1
  have hlf := left_bd (total := total) hk.s
  rw [← hs, ← hnsh] at hlf
  have HNN := Lib.hid hnn
  have HLF := Lib.hid hlf
  clear h hk hs hsum hnsh hnrs hnl hnr hnn hlf
  go_enter Try.func40, Try.ntmps40
  go_wp2_with (go_at_call 38; refine HSM.out.mono ?_; rintro e w' ⟨rfl, rfl⟩)
  go_loopw [6, 7, 8, 9] (fun u v l i wr => ∃ (k : Nat) (lf : Int), k ≤ ws.length ∧ i = .int .i64 k ∧ l = .int .i64 lf ∧ 0 ≤ lf ∧ lf ≤ total ∧ Hid (lf = total - sumF (nsh.take k)) ∧ Own wr w.heap.size 2 1 u k ((nsh.take k).map iV) ∧ Own wr w.heap.size 2 1 v k ((nrs.take k).map iV) ∧ Apart u v ∧ Below w.heap.size w wr) (fun _ _ _ i _ => ws.length - (intOf i).toNat)
  case atStart =>
    refine ⟨0, total, by omega, rfl, rfl, t0, by omega, Lib.hid (by simp [sumF]), ?_, ?_, ?_, by (repeat' (first | (with_reducible exact Below.refl _ _) | (with_reducible assumption) | (with_reducible refine Below.alloc ?_ ?_ _) | (with_reducible refine Below.drew ?_) | (with_reducible refine Below.drewN' ?_ _) | (with_reducible refine Below.setCell ?_ ?_ _) | (refine Below.via ?_ (by with_reducible assumption) ?_) | (with_reducible refine Below.via ?_ (Wd.h _) ?_) | go_size))⟩
    · simpa using (Own.lit0 w w.heap.size 2 1 (Nat.le_refl _)).alloc _
    · simpa using Own.lit0 (w.alloc (.cells #[] 2)) w.heap.size 2 1 (by simp)
    · intro g h1 h2; simp [Value.ownBlock] at h1 h2; omega
  case round =>
    obtain ⟨k, lf, hk, rfl, rfl, l0, l1, HL, ho1, ho2, hap, hbw⟩ := hrel
    have HO1 := Lib.hid ho1
    have HO2 := Lib.hid ho2
    have HAP := Lib.hid hap
    have hbH := Lib.hid hbw
    have hzr := hbw.size
    clear ho1 ho2 hap
    by_cases hlt : k < ws.length
    · obtain ⟨x, hx⟩ := get_some hlt
      obtain ⟨b, off, rfl, hb, hat⟩ := H.out.opened (k := k) (by simpa using hlt)
      have t_0 := ints_at (hat.below hbw hb) hx
      have hnb := hb
      have hy_t : b < wr.heap.size := Nat.lt_of_lt_of_le hb hbw.size
      
      
      obtain ⟨m0, m1⟩ := HK.out.mul (List.mem_of_getElem? hx)
      obtain ⟨p, hp⟩ : ∃ p, p = total * x := ⟨_, rfl⟩
      rw [← hp] at m0 m1
      obtain ⟨q, hq⟩ : ∃ q, q = p / s := ⟨_, rfl⟩
      obtain ⟨r, hr⟩ : ∃ r, r = p % s := ⟨_, rfl⟩
      have q1 : 0 ≤ q := by rw [hq]; exact Int.ediv_nonneg m0 (by omega)
      have q2 : q ≤ 1000000000000000000 := by rw [hq]; exact Int.le_trans (Int.ediv_le_self _ m0) m1
      have r1 : 0 ≤ r := by rw [hr]; exact Int.emod_nonneg p (by omega)
      have r2 : r < s := by rw [hr]; exact Int.emod_lt_of_pos p s0
      have HSH := Lib.hid (show nsh[k]? = some q by rw [HNS.out, share_at hx, hq, hp])
      have HRS := Lib.hid (show nrs[k]? = some r by rw [HNR.out, rest_at hx, hr, hp])
      have hst := sumF_take HNN.out (k + 1)
      rw [sumF_snoc HSH.out] at hst
      have lb := HLF.out.1
      have hlq : q ≤ lf := by have := HL.out; omega
      have z1 : total * x = p := hp.symm
      have z3 : p.tdiv s = q := by rw [hq]; exact Int.tdiv_eq_ediv_of_nonneg m0
      have z4 : p.tmod s = r := by rw [hr]; exact Int.tmod_eq_emod_of_nonneg m0
      have z5 : p / s = q := hq.symm
      have z6 : p % s = r := hr.symm
      have g1 : (k : Int) < ws.length := by omega
      clear hx hat hbw hst lb hp hq hr
      go_wp2_with (first
        | (at_builtin; refine wp_app1x _ rfl (.tmp 32) (.tmp 34) 33 rfl (w.heap.size) info_i64 Try.underlying33 rfl (by omega) (by omega) (u6) (k) _ rfl (HO1.out.alloc _) (wr.heap.size) 1 1 [iV (q)] rfl rfl (by intro j u hu; match j, hu with | 0, hu => (simp at hu; subst hu; simp) | j + 1, hu => simp at hu) (by simp [Value.oneCell']) (by omega) (by omega) (by simp; omega) ?_; intro v1 w1 hO1 hb1 hF1; (obtain ⟨hcn, hfn⟩ := bcellB hb1; have hz1 := hb1.size; (try simp at hz1); have Nt_0 := hcn (b) (off + k) (by first | omega | (simp; done) | (simp; omega)); have Nhy_t : b < w1.heap.size := (by omega); simp [go_sem, t_0, hy_t] at Nt_0; clear t_0 hy_t; clear hcn hfn; have t_0 := Nt_0; have hy_t := Nhy_t; clear Nt_0 Nhy_t); have HO1' := Lib.hid hO1; have HO2' := Lib.hid (hF1.own (HO2.out.alloc _) HAP.out); have HAP' := Lib.hid (hF1.apart (HO2.out.alloc _) HAP.out); clear hO1)
        | (at_builtin; refine wp_app1x _ rfl (.tmp 36) (.tmp 45) 33 rfl (w.heap.size) info_i64 Try.underlying33 rfl (by omega) (by omega) (u7) (k) _ rfl (HO2'.out.alloc _) (w1.heap.size) 1 1 [iV (r)] rfl rfl (by intro j u hu; match j, hu with | 0, hu => (simp at hu; subst hu; simp) | j + 1, hu => simp at hu) (by simp [Value.oneCell']) (by omega) (by omega) (by simp; omega) ?_; intro v2 w2 hO2 hb2 hF2; (obtain ⟨hcn, hfn⟩ := bcellB hb2; have hz2 := hb2.size; (try simp at hz2); have Nt_0 := hcn (b) (off + k) (by first | omega | (simp; done) | (simp; omega)); have Nhy_t : b < w2.heap.size := (by omega); simp [go_sem, t_0, hy_t] at Nt_0; clear t_0 hy_t; clear hcn hfn; have t_0 := Nt_0; have hy_t := Nhy_t; clear Nt_0 Nhy_t); have HO2'' := Lib.hid hO2; have HO1'' := Lib.hid (hF2.own (HO1'.out.alloc _) HAP'.out.symm); have HAP'' := Lib.hid (hF2.apart (HO1'.out.alloc _) HAP'.out.symm).symm; clear hO2))
      go_roundw
      case rel =>
        refine ⟨k + 1, lf - q, by omega, by go_num, rfl, by omega, by omega, Lib.hid (by rw [sumF_snoc HSH.out]; have := HL.out; omega), ?_, ?_, HAP''.out, ?_⟩
        · rw [take_snocI HSH.out, List.map_append]; exact HO1''.out
        · rw [take_snocI HRS.out, List.map_append]; exact HO2''.out
        · exact Below.via (Below.via (hbH.out.alloc hbH.out.size _) hb1 (by omega) |>.alloc (by omega) _) hb2 (by omega)
      case measure => simp [intOf]; omega
    · obtain rfl : k = ws.length := by omega
      
      have hSpr := Spr.init HK.out
      rw [← HS.out, ← HNS.out, ← HNR.out] at hSpr
      have e1 : nsh.take ws.length = nsh := List.take_of_length_le (by omega)
      have e2 : nrs.take ws.length = nrs := List.take_of_length_le (by omega)
      obtain ⟨g, cg, rfl, hg, hcg, ag⟩ := HO1.out.arr (by omega)
      obtain ⟨h, ch, rfl, hh, hch, ah⟩ := HO2.out.arr (by omega)
      have hgh : g ≠ h := fun e => HAP.out g rfl (by rw [e]; rfl)
      rw [e1, Nat.mul_one] at ag
      rw [e2, Nat.mul_one] at ah
      obtain ⟨j, hj⟩ : ∃ j : Nat, lf = j := ⟨lf.toNat, by omega⟩
      have hj2 : (total - sumF nsh).toNat = j := by have := HL.out; rw [e1] at this; omega
      rw [hj2] at hSpr
      subst hj
      have HSP := Lib.hid hSpr
      have HA6 := Lib.hid ag
      have HA7 := Lib.hid ah
      clear hSpr e1 e2 ag ah hj2 hbw
      go_wp2_with fail
      go_loopw [8] (fun v wr => ∃ (j : Nat) (sh rs : List Int), v = .int .i64 j ∧ Hid (Spr total ws j sh rs) ∧ Arr wr g ws.length (sh.map iV) ∧ Arr wr h ws.length (rs.map iV) ∧ Below w.heap.size w wr) (fun v _ => (intOf v).toNat)
      case atStart => exact ⟨j, nsh, nrs, rfl, HSP, HA6.out, HA7.out, hbH.out⟩
      case round =>
        clear HO1 HO2 HAP hbH HA6 HA7 HSP HL
        obtain ⟨wo, rfl⟩ : ∃ wo : World, wo = wr := ⟨_, rfl⟩
        obtain ⟨j, sh, rs, rfl, HP, ag, ah, hbw⟩ := hrel
        have HA1 := Lib.hid ag
        have HA2 := Lib.hid ah
        have hbH := Lib.hid hbw
        clear ag ah hbw
        cases j with
        | zero =>
          have e0 : sh = sharesF total ws := by have := HP.out.sp; simpa [spread] using this
          have HE := Lib.hid e0
          clear e0
          go_wp2
          go_ret
          refine ⟨some ⟨g, 0, none⟩, cg, rfl, hcg, ?_, hbH.out⟩
          rw [Nat.mul_one, ← HE.out]
          exact Wr.of_arr hg HA1.out
        | succ j =>
          have hl2 := HP.out.l2
          have r1 : rs.length ≤ ws.length := by omega
          have r2 : ws.length ≤ rs.length := by omega
          obtain ⟨y0, hy0⟩ := get_some (show 0 < rs.length by omega)
          have HY0 := Lib.hid hy0
          have hgj : (0 : Int) < ((j + 1 : Nat) : Int) := by omega
          have hjl : j + 1 ≤ ws.length := HP.out.jl
          clear hl2 hy0
          go_wp2_with fail
          go_loopw [11, 12] (fun u v wr => ∃ (b i : Nat) (x : Int), u = .int .i64 b ∧ v = .int .i64 i ∧ 1 ≤ i ∧ i ≤ ws.length ∧ b < ws.length ∧ Hid (rs[b]? = some x) ∧ Hid (bestF b x i (rs.drop i) = best rs) ∧ Arr wr g ws.length (sh.map iV) ∧ Arr wr h ws.length (rs.map iV) ∧ Below w.heap.size w wr) (fun _ v _ => ws.length - (intOf v).toNat)
          case atStart => exact ⟨0, 1, y0, rfl, rfl, by omega, by omega, by omega, HY0, Lib.hid (best_one HY0.out), HA1.out, HA2.out, hbH.out⟩
          case round =>
            clear HA1 HA2 hbH HY0
            obtain ⟨b, i, x, rfl, rfl, i1, i2, b2, HX, HBF, ag, ah, hbw⟩ := hrel
            have HA1 := Lib.hid ag
            have HA2 := Lib.hid ah
            have hbH := Lib.hid hbw
            have hgl2 := ag.lt
            have hhl2 := ah.lt
            clear ag ah hbw
            by_cases hlt : i < ws.length
            · obtain ⟨y, hy⟩ := get_some (show i < rs.length by omega)
              have q5 := Wd.cell hhl2 (ints_cell HA2.out hy)
              have q6 := Wd.cell hhl2 (ints_cell HA2.out HX.out)
              have g1 : (i : Int) < ws.length := by omega
              have g2 : (b : Int) < ws.length := by omega
              have HY := Lib.hid hy
              have HST := Lib.hid (best_step (b := b) (x := x) hy)
              clear hy
              cases hc : decide (x < y)
              · have hc2 := hc
                clear hc2
                go_wp2_with fail
                refine wp_region_wd (by kernel_rfl) (by kernel_rfl) ?_
                repeat (go_big_quiet_step (fail))
                refine wpQuiet_nil ?_
                rintro w2 ⟨⟨w'', hbn⟩, hw''⟩
                obtain rfl : w2 = w'' := hw''
                clear q5 q6
                have HC := Lib.hid hc
                clear hc
                go_wp2
                go_roundw
                case rel =>
                  refine ⟨b, i + 1, x, rfl, by go_num, by omega, by omega, by omega, Lib.hid HX.out, Lib.hid ?_, HA1.out.below hbn hgl2, HA2.out.below hbn hhl2, hbH.out.trans (hbn.mono hbH.out.size)⟩
                  have h1 := HBF.out
                  rw [HST.out] at h1
                  have h2 := HC.out
                  simp at h2
                  rw [if_neg (by omega)] at h1
                  exact h1
                case measure => simp [intOf]; omega
              · have hc2 := hc
                clear hc2
                go_wp2_with fail
                refine wp_region_wd (by kernel_rfl) (by kernel_rfl) ?_
                repeat (go_big_quiet_step (fail))
                refine wpQuiet_nil ?_
                rintro w2 ⟨⟨w'', hbn⟩, hw''⟩
                obtain rfl : w2 = w'' := hw''
                clear q5 q6
                have HC := Lib.hid hc
                clear hc
                go_wp2
                go_roundw
                case rel =>
                  refine ⟨i, i + 1, y, rfl, by go_num, by omega, by omega, by omega, Lib.hid HY.out, Lib.hid ?_, HA1.out.below hbn hgl2, HA2.out.below hbn hhl2, hbH.out.trans (hbn.mono hbH.out.size)⟩
                  have h1 := HBF.out
                  rw [HST.out] at h1
                  have h2 := HC.out
                  simp at h2
                  rw [if_pos h2] at h1
                  exact h1
                case measure => simp [intOf]; omega
            · obtain rfl : i = ws.length := by omega
              have hbb : b = best rs := by
                have h1 := HBF.out
                rw [List.drop_of_length_le (by omega)] at h1
                exact h1
              obtain ⟨xs, ys, hxs, hys, hbl, x0, x1, hnx⟩ := HP.out.next n1 n64
              rw [← hbb] at hxs hys hbl hnx
              have HNX := Lib.hid hnx
              have q1 := ints_cell HA1.out hxs
              have q2 := ints_cell HA2.out hys
              have f1 := HA1.out.free (j := b) hbl
              have f2 := HA2.out.free (j := b) hbl
              have g1 : (b : Int) < ws.length := by omega
              have HB2 := Lib.hid (show Arr (wr.setCell ⟨g, b, none⟩ (.int .i64 (xs + 1))) g ws.length ((sh.set b (xs + 1)).map iV) by rw [map_set_iV]; exact HA1.out.setAt hbl _)
              have HB3 := Lib.hid (show Arr ((wr.setCell ⟨g, b, none⟩ (.int .i64 (xs + 1))).setCell ⟨h, b, none⟩ (.int .i64 (-1))) h ws.length ((rs.set b (-1)).map iV) by rw [map_set_iV]; exact (HA2.out.far (by simp; omega) _).setAt hbl _)
              have hne : ¬ ws.length < ws.length := by omega
              clear hxs hys hbb hnx
              go_wp2
              go_roundw
              case rel =>
                exact ⟨j, _, _, by go_num, Lib.hid HNX.out, HB2.out.far (by simp; omega) _, HB3.out, by have h1 := hbH.out; (repeat' (first | (with_reducible exact Below.refl _ _) | (with_reducible assumption) | (with_reducible refine Below.alloc ?_ ?_ _) | (with_reducible refine Below.drew ?_) | (with_reducible refine Below.drewN' ?_ _) | (with_reducible refine Below.setCell ?_ ?_ _) | (refine Below.via ?_ (by with_reducible assumption) ?_) | (with_reducible refine Below.via ?_ (Wd.h _) ?_) | go_size))⟩
              case measure => (simp [intOf]; try omega)
theorem impl_sharesOf' (A : Option Addr) (c n : Nat) (total : Int) (ws : List Int) (w : World) (hk : ShOk total ws) (hn : ws.length = n) (h : Rd w A (ws.map iV)) :
    Calls Try.prog 36 #[.int .i64 total, .slice A n c] w (MadeL w 1 n ((sharesF total ws).map iV)) := by
  subst hn
  exact impl_sharesOf A c total ws w hk h
theorem spec_l01Shares' (A : Option Addr) (c n : Nat) (total : Int) (ws : List Int) (w : World) (hk : ShOk total ws) (hn : ws.length = n) (h : Rd w A (ws.map iV)) :
    Calls Try.prog 40 #[.int .i64 total, .slice A n c] w (MadeL w 1 n ((sharesF total ws).map iV)) := by
  subst hn
  exact spec_l01Shares A c total ws w hk h
theorem MadeR.of {w w0 w' : World} {A : Option Addr} {n c : Nat} {l : List Int} {p : List Int × Int} (hp : p = (l, 0)) (hl : l.length = n) (hnc : n ≤ c) (h : Wr w0.heap.size w' A (n * 1) (l.map iV)) (hb0 : w.heap.size ≤ w0.heap.size) (hb : Below w.heap.size w w') : MadeR w 1 p.1.length (p.1.map iV) p.2 (.returned (.tuple #[.slice A n c, .int .i64 0])) w' := by
  subst hp; subst hl
  exact ⟨A, c, rfl, hnc, h.lower hb0, hb⟩
end Go.Proofs.Ythdonmdhlgajhaa
namespace Go.Proofs.Ythdonmdhlgajhaa
set_option linter.unusedVariables false
set_option linter.unusedSimpArgs false
open Go.RowKit
/-- orders with other amounts -/
def waF : List Ord → List Int → List Ord
  | x :: l, a :: am => ⟨x.sh, x.nd, a, x.cl⟩ :: waF l am
  | _, _ => []
theorem waF_len : ∀ {l : List Ord} {am : List Int}, am.length = l.length → (waF l am).length = l.length
  | [], am, h => by cases am <;> simp [waF]
  | x :: l, [], h => by simp at h
  | x :: l, a :: am, h => by simp only [waF, List.length_cons]; rw [waF_len (by simpa using h)]
theorem waF_self : ∀ l : List Ord, waF l (l.map (fun x => x.am)) = l
  | [] => rfl
  | x :: l => by simp only [List.map_cons, waF, waF_self l]
theorem waF_get : ∀ {l : List Ord} {am : List Int} {k : Nat} {x : Ord} {a : Int}, l[k]? = some x → am[k]? = some a → (waF l am)[k]? = some ⟨x.sh, x.nd, a, x.cl⟩
  | x' :: l, a' :: am, 0, x, a, h1, h2 => by simp at h1 h2; subst h1 h2; simp [waF]
  | x' :: l, a' :: am, k + 1, x, a, h1, h2 => by
    simp only [waF, List.getElem?_cons_succ] at h1 h2 ⊢
    exact waF_get h1 h2
theorem waF_set : ∀ {l : List Ord} {am : List Int} {p : Nat} (a : Int), am.length = l.length → p < l.length → ((waF l am).flatMap Ord.cells).set (p * 4 + 2) (iV a) = (waF l (am.set p a)).flatMap Ord.cells
  | [], am, p, a, h, hp => by simp at hp
  | x :: l, [], p, a, h, hp => by simp at h
  | x :: l, b :: am, 0, a, h, hp => by simp [waF, Ord.cells]
  | x :: l, b :: am, p + 1, a, h, hp => by
    have ih := waF_set (l := l) (am := am) (p := p) a (by simpa using h) (by simpa using hp)
    simp only [waF, List.set_cons_succ, List.flatMap_cons]
    rw [List.set_append_right _ _ (by simp [Ord.cells]; omega)]
    rw [show (p + 1) * 4 + 2 - (Ord.cells (⟨x.sh, x.nd, b, x.cl⟩ : Ord)).length = p * 4 + 2 by simp [Ord.cells]; omega, ih]
theorem wrF_take {sg : Int} : ∀ {ps ys am : List Int} {i : Nat} {p y : Int}, ps[i]? = some p → ys[i]? = some y → wrF sg (ps.take (i + 1)) (ys.take (i + 1)) am = (wrF sg (ps.take i) (ys.take i) am).set p.toNat (sg * y)
  | p' :: ps, y' :: ys, am, 0, p, y, h1, h2 => by simp at h1 h2; subst h1 h2; simp [wrF]
  | p' :: ps, y' :: ys, am, i + 1, p, y, h1, h2 => by
    simp only [List.take_succ_cons, wrF]
    exact wrF_take (ps := ps) (ys := ys) (by simpa using h1) (by simpa using h2)
theorem mrgF_none {sg : Int} : ∀ {ps vs zs : List Int}, (∀ x ∈ ps, ¬ 0 < x) → mrgF sg ps vs zs = zs
  | [], vs, zs, h => by simp [mrgF]
  | p :: ps, [], zs, h => by simp [mrgF]
  | p :: ps, v :: vs, [], h => by simp [mrgF]
  | p :: ps, v :: vs, a :: zs, h => by
    have h0 := h p (by simp)
    simp only [mrgF, if_neg h0]
    rw [mrgF_none (fun x hx => h x (by simp [hx]))]
theorem posW_nil : ∀ {ps : List Int}, posW ps = [] → ∀ x ∈ ps, ¬ 0 < x
  | [], h, x, hx => by simp at hx
  | p :: ps, h, x, hx => by
    unfold posW at h
    split at h
    · cases h
    · rename_i hp
      rcases List.mem_cons.1 hx with rfl | hx
      · exact hp
      · exact posW_nil h x hx
theorem posF_mem : ∀ {ps : List Int} {k : Nat} {p : Int}, p ∈ posF k ps → (k : Int) ≤ p ∧ p < k + ps.length
  | [], k, p, h => by simp [posF] at h
  | x :: ps, k, p, h => by
    unfold posF at h
    split at h
    · rcases List.mem_cons.1 h with rfl | h
      · simp; omega
      · have := posF_mem h; simp; omega
    · have := posF_mem h; simp; omega
theorem posF_step {ps : List Int} {k : Nat} {x : Int} (h : ps[k]? = some x) : posF k (ps.drop k) = if 0 < x then (k : Int) :: posF (k + 1) (ps.drop (k + 1)) else posF (k + 1) (ps.drop (k + 1)) := by
  rw [drop_consI h, posF]
theorem posW_step {ps : List Int} {k : Nat} {x : Int} (h : ps[k]? = some x) : posW (ps.drop k) = if 0 < x then x :: posW (ps.drop (k + 1)) else posW (ps.drop (k + 1)) := by
  rw [drop_consI h, posW]
theorem parts_at {s sg : Int} {l : List Ord} {k : Nat} {x : Ord} (h : l[k]? = some x) : (partsF s sg l)[k]? = some (part1 s sg x) := by simp [partsF, h]
theorem parts_sum (s sg : Int) (l : List Ord) : sumF (partsF s sg l) = totF s sg l := sum_parts s sg l
theorem totM_bd {s : Int} {l : List Ord} (ha : AmOk l) (hl : l.length ≤ 40) : 0 ≤ totM s l ∧ totM s l ≤ 1200000 := by
  have h1 := tot_bd (sh := s) (sg := 1) (.inl rfl) ha
  have h2 := tot_bd (sh := s) (sg := -1) (.inr rfl) ha
  unfold totM; omega
theorem parts_bd {s sg : Int} {l : List Ord} (hs : sg = 1 ∨ sg = -1) (ha : AmOk l) : ∀ x ∈ partsF s sg l, 0 ≤ x ∧ x ≤ 30000 := fun x hx => by
  obtain ⟨y, hy, rfl⟩ := List.mem_map.1 hx
  exact part1_bd hs (ha y hy)
theorem mt_ok {s sg : Int} {l : List Ord} (hs : sg = 1 ∨ sg = -1) (ha : AmOk l) (hl : l.length ≤ 40) (hne : posW (partsF s sg l) ≠ []) : ShOk (totM s l) (posW (partsF s sg l)) := by
  have hb := totM_bd (s := s) ha hl
  have hlen := posW_len (partsF s sg l)
  rw [partsF_len] at hlen
  have hm : ∀ x ∈ posW (partsF s sg l), 0 < x ∧ x ≤ 30000 := fun x hx => by
    have := posW_mem hx
    have := parts_bd hs ha x this.1
    omega
  refine ⟨by omega, fun x hx => by have := hm x hx; omega, hb.1, by omega, ?_⟩
  cases he : posW (partsF s sg l) with
  | nil => exact absurd he hne
  | cons y ys =>
    rw [he] at hm
    have h1 := hm y (by simp)
    have h2 := sumF_nonneg (l := ys) (fun z hz => by have := hm z (by simp [hz]); omega)
    simp only [sumF]; omega
/-- the amounts behind one direction -/
theorem mt_write {s sg : Int} {l : List Ord} {am : List Int} (hs : sg = 1 ∨ sg = -1) (ha : AmOk l) (hl : l.length ≤ 40) (hne : posW (partsF s sg l) ≠ []) (hm : am.length = l.length) : wrF sg (posF 0 (partsF s sg l)) (sharesF (totM s l) (posW (partsF s sg l))) am = mrgF sg (partsF s sg l) (vecF (totM s l) (partsF s sg l)) am := by
  have hk := mt_ok hs ha hl hne
  have hn := parts_nn s sg l
  have hsum := hk.s
  rw [posW_sum hn] at hsum
  have h1 := wrF_mrg sg (ps := partsF s sg l) (ys := sharesF (totM s l) (posW (partsF s sg l))) (zs := am) (pre := []) (by rw [sharesF_len]) (by rw [partsF_len]; exact hm)
  simp only [List.length_nil, List.nil_append] at h1
  rw [h1, vecF, if_pos hsum, ← shares_ex hn hsum]
theorem mt_none {s sg : Int} {l : List Ord} {am : List Int} (hne : posW (partsF s sg l) = []) : mrgF sg (partsF s sg l) (vecF (totM s l) (partsF s sg l)) am = am := mrgF_none (posW_nil hne)
/-- the amounts behind j directions of shipper s -/
def halfI (s : Int) (l : List Ord) (am : List Int) : Nat → List Int
  | 0 => am
  | 1 => mrgF 1 (partsF s 1 l) (vecF (totM s l) (partsF s 1 l)) am
  | _ => stepI s l am
theorem halfI_len (s : Int) (l : List Ord) (am : List Int) : ∀ j, (halfI s l am j).length = am.length
  | 0 => rfl
  | 1 => by simp [halfI, mrgF_len]
  | j + 2 => by simp [halfI, stepI_len]
def sgn (j : Nat) : Int := if j = 0 then 1 else -1
theorem sgn_or (j : Nat) : sgn j = 1 ∨ sgn j = -1 := by unfold sgn; split <;> simp
theorem halfI_step (s : Int) (l : List Ord) (am : List Int) (j : Nat) (hj : j < 2) : halfI s l am (j + 1) = mrgF (sgn j) (partsF s (sgn j) l) (vecF (totM s l) (partsF s (sgn j) l)) (halfI s l am j) := by
  rcases j with _ | _ | j
  · rfl
  · rfl
  · omega
theorem shares_bd2 {s sg : Int} {l : List Ord} (hs : sg = 1 ∨ sg = -1) (ha : AmOk l) (hl : l.length ≤ 40) (hne : posW (partsF s sg l) ≠ []) : ∀ x ∈ sharesF (totM s l) (posW (partsF s sg l)), 0 ≤ x ∧ x ≤ 1300000 := fun x hx => by
  have hk := mt_ok hs ha hl hne
  have := shares_bd (t := totM s l) (ws := posW (partsF s sg l)) (fun y hy => (hk.w0 y hy).1) hk.s hk.t0 x hx
  have := totM_bd (s := s) ha hl
  have := hk.n
  omega
end Go.Proofs.Ythdonmdhlgajhaa
namespace Go.Proofs.Ythdonmdhlgajhaa
set_option linter.unusedVariables false
set_option linter.unusedSimpArgs false
open Go.RowKit
theorem info_intX : (Try.prog.info? 3).map (fun i => (i.zero, i.size, i.bytes)) = some (some (.int .i64 0), 1, 8) := by kernel_rfl
theorem set_wa {w : World} {g : Nat} {l : List Ord} {am : List Int} {p : Nat} {a : Int} (h : Arr w g (l.length * 4) ((waF l am).flatMap Ord.cells)) (hm : am.length = l.length) (hp : p < l.length) : Arr (w.setCell ⟨g, p * 4 + 2, none⟩ (.int .i64 a)) g (l.length * 4) ((waF l (am.set p a)).flatMap Ord.cells) := by
  rw [← waF_set a hm hp]
  exact h.setAt (by omega) _
theorem sharesOf_tm (A : Option Addr) (c n : Nat) (total tm : Int) (ws : List Int) (w : World) (hk : ShOk tm ws) (hn : ws.length = n) (h : Rd w A (ws.map iV)) (ht : total = tm) :
    Calls Try.prog 36 #[.int .i64 total, .slice A n c] w (MadeL w 1 n ((sharesF tm ws).map iV)) := by
  subst ht
  exact impl_sharesOf' A c n total ws w hk hn h
set_option maxRecDepth 100000 in
theorem sgn_idx (j : Nat) (hj : j < 2) : ∀ w, (Instr.index 68 (.agg #[.int .i64 1, .int .i64 (-1)]) (.int .i64 j)).run Try.prog w = .ok (.int .i64 (sgn j)) w := by
  rcases j with _ | _ | j
  · exact fun _ => by kernel_rfl
  · exact fun _ => by kernel_rfl
  · omega
set_option maxRecDepth 100000 in
set_option maxHeartbeats 16000000 in
theorem impl_matched (C : Option Addr) (e : Nat) (l : List Ord) (w : World) (h : Rd w C (l.flatMap Ord.cells)) (hl : l.length ≤ 40) (ha : AmOk l) :
    Calls Try.prog 22 #[.slice C l.length e] w (MadeL w 4 l.length ((waF l (foldI l 16)).flatMap Ord.cells)) := by
  have HL := Lib.hid h
  have HA := Lib.hid ha
  clear h ha
  go_enter Try.func22, Try.ntmps22
  go_wp2_with fail
  refine (slices_CloneO _ _ l _ HL.out (by omega)).mono ?_
  rintro e w1 ⟨v, rfl, hO, hb1⟩
  obtain ⟨G, cG, rfl, hcG, hW⟩ := hO.lt_
  have HW := Lib.hid (show Wr w.heap.size w1 G (l.length * 4) ((waF l (foldI l 0)).flatMap Ord.cells) by rw [foldI, waF_self]; exact hW)
  have HB1 := Lib.hid hb1
  clear hO hW hb1
  go_wp2_with fail
  go_loopw [17] (fun v wr => ∃ k : Nat, k ≤ 16 ∧ v = .int .i64 k ∧ Wr w.heap.size wr G (l.length * 4) ((waF l (foldI l k)).flatMap Ord.cells) ∧ Below w.heap.size w wr) (fun v _ => 16 - (intOf v).toNat)
  case atStart => exact ⟨0, by omega, rfl, HW.out, HB1.out⟩
  case round =>
    clear HW HB1
    obtain ⟨k, hk, rfl, hW, hbw⟩ := hrel
    have HW := Lib.hid hW
    have hbH := Lib.hid hbw
    clear hW
    by_cases hlt : k < 16
    · have g1 : (k : Int) < 16 := by omega
      have HRD := Lib.hid (HL.out.below hbw)
      have htb := totM_bd (s := k) HA.out hl
      have ht1 := tot_bd (sh := (k : Int)) (sg := 1) (.inl rfl) HA.out
      have ht2 := tot_bd (sh := (k : Int)) (sg := -1) (.inr rfl) HA.out
      clear hbw
      go_wp2_with fail
      refine (impl_totalsOf _ _ l k _ HRD.out (by omega) HA.out).mono ?_
      rintro e w2 ⟨rfl, hb2⟩
      have HW2 := Lib.hid (HW.out.below hb2)
      have HB2 := Lib.hid (show Below w.heap.size w w2 by have h1 := hbH.out; have hz := h1.size; (repeat' (first | (with_reducible exact Below.refl _ _) | (with_reducible assumption) | (with_reducible refine Below.alloc ?_ ?_ _) | (with_reducible refine Below.drew ?_) | (with_reducible refine Below.drewN' ?_ _) | (with_reducible refine Below.setCell ?_ ?_ _) | (refine Below.via ?_ (by with_reducible assumption) ?_) | (with_reducible refine Below.via ?_ (Wd.h _) ?_) | go_size)))
      obtain ⟨am, hamd⟩ : ∃ am, am = foldI l k := ⟨_, rfl⟩
      have HAM := Lib.hid hamd
      clear hamd hb2
      go_wp2_with fail
      go_loopw [27] (fun v wr => ∃ j : Nat, j ≤ 2 ∧ v = .int .i64 j ∧ Wr w.heap.size wr G (l.length * 4) ((waF l (halfI k l am j)).flatMap Ord.cells) ∧ Below w.heap.size w wr) (fun v _ => 2 - (intOf v).toNat)
      case atStart => exact ⟨0, by omega, rfl, by rw [halfI, HAM.out]; exact HW2.out, HB2.out⟩
      case round =>
        clear HW2 HB2 HW hbH HRD
        obtain ⟨wo, rfl⟩ : ∃ wo : World, wo = wr := ⟨_, rfl⟩
        obtain ⟨j, hj, rfl, hW, hbw⟩ := hrel
        have HW := Lib.hid hW
        have hbH := Lib.hid hbw
        have HRD := Lib.hid (HL.out.below hbw)
        clear hW hbw
        by_cases hjt : j < 2
        · have g2 : (j : Int) < 2 := by omega
          have hidx := sgn_idx j hjt
          obtain ⟨sg, hsg⟩ : ∃ sg, sg = sgn j := ⟨_, rfl⟩
          have HSG := Lib.hid (show sg = 1 ∨ sg = -1 by rw [hsg]; exact sgn_or j)
          have HSJ := Lib.hid hsg
          rw [← hsg] at hidx
          clear hsg
          obtain ⟨pa, hpa⟩ : ∃ pa, pa = partsF k sg l := ⟨_, rfl⟩
          have HPA := Lib.hid hpa
          have hpl : pa.length = l.length := by rw [hpa, partsF_len]
          have pl1 : pa.length ≤ l.length := by omega
          have pl2 : l.length ≤ pa.length := by omega
          clear hpa hpl
          go_wp2_with fail
          go_loopw [9, 10, 32] (fun u v t wr => ∃ (i : Nat) (ps ws : List Int), i ≤ l.length ∧ t = .int .i64 i ∧ ps.length ≤ i ∧ ws.length ≤ ps.length ∧ ps.length ≤ ws.length ∧ Hid (ps ++ posF i (pa.drop i) = posF 0 pa) ∧ Hid (ws ++ posW (pa.drop i) = posW pa) ∧ Own wr wo.heap.size 3 1 u ps.length (ps.map iV) ∧ Own wr wo.heap.size 2 1 v ws.length (ws.map iV) ∧ Apart u v ∧ Below wo.heap.size wo wr) (fun _ _ t _ => l.length - (intOf t).toNat)
          case atStart => exact ⟨0, [], [], by omega, rfl, by simp, by simp, by simp, Lib.hid rfl, Lib.hid rfl, by simpa using Own.nil wo wo.heap.size 3 1, by simpa using Own.nil wo wo.heap.size 2 1, Apart.nil_l _, Below.refl _ _⟩
          case round =>
            obtain ⟨i, ps, ws, hi, rfl, q1, q2, q3, HPS, HPW, ho1, ho2, hap, hbw⟩ := hrel
            have HO1 := Lib.hid ho1
            have HO2 := Lib.hid ho2
            have HAP := Lib.hid hap
            have hbI := Lib.hid hbw
            have hzr := hbw.size
            clear ho1 ho2 hap
            by_cases hlt : i < l.length
            · obtain ⟨x, hx⟩ := get_some hlt; obtain ⟨bx, offx, rfl, hbx, hat⟩ := HRD.out.opened (k := i) (by rw [flat_len Ord.len]; omega); have hat' := hat.below hbw hbx; have hybx : bx < wr.heap.size := Nat.lt_of_lt_of_le hbx hbw.size; have hzw := hbw.size; have t0 := hat'.elem0 Ord.len hx rfl; have t1 := hat'.elem Ord.len hx 1 rfl; have t2 := hat'.elem Ord.len hx 2 rfl; have t3 := hat'.elem Ord.len hx 3 rfl; have HX := Lib.hid hx; have HD := Lib.hid (drop_cons hx); have gx : (i : Int) < _ := Int.ofNat_lt.2 hlt; clear hx hat hat'
              obtain ⟨a1, a2⟩ := HA.out x (List.mem_of_getElem? HX.out)
              obtain ⟨a4, a5⟩ : -30000 ≤ sg * x.am ∧ sg * x.am ≤ 30000 := by rcases HSG.out with rfl | rfl <;> omega
              have hpx : pa[i]? = some (part1 k sg x) := by rw [HPA.out]; exact parts_at HX.out
              have HSF := Lib.hid (posF_step hpx)
              have HSW := Lib.hid (posW_step hpx)
              clear hpx hbw
              by_cases hsh : x.sh = k
              · have e1 : (x.sh == (k : Int)) = true := by simpa using hsh
                have HSH := Lib.hid hsh
                clear hsh
                by_cases hp : 0 < sg * x.am
                · have HP1 := Lib.hid (show part1 k sg x = sg * x.am by unfold part1; rw [if_pos HSH.out, if_pos hp])
                  
                  
                  go_wp2_with (first
                    | (at_builtin; refine wp_app1x _ rfl (.tmp 48) (.tmp 50) 69 rfl (wo.heap.size) info_intX Try.underlying69 rfl (by omega) (by omega) (u9) (ps.length) _ rfl ((HO1.out.alloc _).alloc _) (wr.heap.size + 1) 1 1 [iV (i)] rfl rfl (by intro j u hu; match j, hu with | 0, hu => (simp at hu; subst hu; simp) | j + 1, hu => simp at hu) (by simp [Value.oneCell']) (by omega) (by omega) (by simp; omega) ?_; intro v3 w3 hO3 hb3 hF3; (obtain ⟨hcn, hfn⟩ := bcellB hb3; have hz3 := hb3.size; (try simp at hz3); clear hcn hfn); have HO1' := Lib.hid hO3; have HO2' := Lib.hid (hF3.own ((HO2.out.alloc _).alloc _) HAP.out); have HAP' := Lib.hid (hF3.apart ((HO2.out.alloc _).alloc _) HAP.out); have r2 : w3.cell? ⟨wr.heap.size, 2, none⟩ = some (.int .i64 x.am) := (hF3.cell (by simp; omega) (HO1.out.ne (.inr (Nat.le_refl _)))).trans (by simp); have HB3 := Lib.hid hb3; have hz3 := hb3.size; (try simp at hz3); clear hO3 hF3 hb3)
                    | (at_builtin; refine wp_app1x _ rfl (.tmp 52) (.tmp 57) 33 rfl (wo.heap.size) info_i64 Try.underlying33 rfl (by omega) (by omega) (u10) (ws.length) _ rfl (HO2'.out.alloc _) (w3.heap.size) 1 1 [iV (sg * x.am)] rfl rfl (by intro j u hu; match j, hu with | 0, hu => (simp at hu; subst hu; simp) | j + 1, hu => simp at hu) (by simp [Value.oneCell']) (by omega) (by omega) (by simp; omega) ?_; intro v4 w4 hO4 hb4 hF4; (obtain ⟨hcn, hfn⟩ := bcellB hb4; have hz4 := hb4.size; (try simp at hz4); clear hcn hfn); have HO2'' := Lib.hid hO4; have HO1'' := Lib.hid (hF4.own (HO1'.out.alloc _) HAP'.out.symm); have HAP'' := Lib.hid (hF4.apart (HO1'.out.alloc _) HAP'.out.symm).symm; have HB4 := Lib.hid hb4; clear hO4 hF4 hb4))
                  go_roundw
                  case rel =>
                    refine ⟨i + 1, ps ++ [(i : Int)], ws ++ [sg * x.am], by omega, by go_num, by simp; omega, by simp; omega, by simp; omega, Lib.hid ?_, Lib.hid ?_, ?_, ?_, HAP''.out, ?_⟩
                    · rw [← HPS.out, HSF.out, HP1.out, if_pos hp]; simp
                    · rw [← HPW.out, HSW.out, HP1.out, if_pos hp]; simp
                    · have := HO1''.out; simpa using this
                    · have := HO2''.out; simpa using this
                    · exact Below.via ((Below.via ((hbI.out.alloc hzr _).alloc (by simp; omega) _) HB3.out (Nat.le_refl _)).alloc (by omega) _) HB4.out (Nat.le_refl _)
                  case measure => simp [intOf]; omega
                · have HP1 := Lib.hid (show part1 k sg x = 0 by unfold part1; rw [if_pos HSH.out, if_neg hp])
                  go_wp2
                  go_roundw
                  case rel =>
                    refine ⟨i + 1, ps, ws, by omega, by go_num, by omega, q2, q3, Lib.hid ?_, Lib.hid ?_, HO1.out.alloc _, HO2.out.alloc _, HAP.out, hbI.out.alloc hzr _⟩
                    · rw [← HPS.out, HSF.out, HP1.out]; simp
                    · rw [← HPW.out, HSW.out, HP1.out]; simp
                  case measure => simp [intOf]; omega
              · have e1 : (x.sh == (k : Int)) = false := by simpa using hsh
                have HP1 := Lib.hid (show part1 k sg x = 0 by unfold part1; rw [if_neg hsh])
                clear hsh
                go_wp2
                go_roundw
                case rel =>
                  refine ⟨i + 1, ps, ws, by omega, by go_num, by omega, q2, q3, Lib.hid ?_, Lib.hid ?_, HO1.out.alloc _, HO2.out.alloc _, HAP.out, hbI.out.alloc hzr _⟩
                  · rw [← HPS.out, HSF.out, HP1.out]; simp
                  · rw [← HPW.out, HSW.out, HP1.out]; simp
                case measure => simp [intOf]; omega
            · have hps : ps = posF 0 pa := by
                have h1 := HPS.out
                rw [List.drop_of_length_le (by omega)] at h1
                simpa [posF] using h1
              have hws : ws = posW pa := by
                have h1 := HPW.out
                rw [List.drop_of_length_le (by omega)] at h1
                simpa [posW] using h1
              obtain ⟨P, cP, rfl, hcP, hrP, hbP⟩ := HO1.out.val
              obtain ⟨Q, cQ, rfl, hcQ, hrQ, hbQ⟩ := HO2.out.val
              have HRP := Lib.hid hrP
              have HRQ := Lib.hid hrQ
              have HBP := Lib.hid hbP
              have hsg2 := HSJ.out
              obtain ⟨aj, haj⟩ : ∃ aj, aj = halfI k l am j := ⟨_, rfl⟩
              have hal : aj.length = l.length := by rw [haj, halfI_len, HAM.out, foldI_len]
              have HAL := Lib.hid hal
              have HAJ := Lib.hid haj
              have HHS := Lib.hid (show halfI k l am (j + 1) = mrgF sg pa (vecF (totM k l) pa) aj by rw [halfI_step _ _ _ _ hjt, ← hsg2, ← HPA.out, ← haj])
              have HPSW := Lib.hid hps
              have HWSW := Lib.hid hws
              clear hps hws hrP hrQ hbP hbQ hsg2 haj hal hbw
              by_cases hz : ps.length = 0
              · have b1 : ((ps.length : Int) == 0) = true := by rw [beq_iff_eq]; omega
                have HE := Lib.hid (show posW pa = [] from by rw [← HWSW.out]; exact List.eq_nil_of_length_eq_zero (by omega))
                clear hz
                go_wp2
                go_roundw
                case rel =>
                  refine ⟨j + 1, by omega, by go_num, ?_, hbH.out.trans (hbI.out.mono hbH.out.size)⟩
                  have e2 := HE.out
                  rw [HPA.out] at e2
                  rw [HHS.out, HPA.out, mt_none e2, HAJ.out]
                  exact HW.out.below hbI.out
                case measure => simp [intOf]; omega
              · have b1 : ((ps.length : Int) == 0) = false := by rw [beq_eq_false_iff_ne]; omega
                have hz2 : 1 ≤ ws.length := by omega
                obtain ⟨g, rfl, hg, hag⟩ := HW.out.2.1 (by omega)
                have hgl := hag.lt
                have HAG := Lib.hid (hag.below hbI.out hgl)
                have hne : posW (partsF k sg l) ≠ [] := by
                  rw [← HPA.out, ← HWSW.out]; intro e; rw [e] at hz2; simp at hz2
                have HSO := Lib.hid (show ShOk (totM k l) ws by rw [HWSW.out, HPA.out]; exact mt_ok HSG.out HA.out hl hne)
                have HBS := Lib.hid (show ∀ y ∈ sharesF (totM k l) ws, 0 ≤ y ∧ y ≤ 1300000 by rw [HWSW.out, HPA.out]; exact shares_bd2 HSG.out HA.out hl hne)
                have HMW := Lib.hid (show wrF sg ps (sharesF (totM k l) ws) aj = mrgF sg pa (vecF (totM k l) pa) aj by rw [HPSW.out, HWSW.out, HPA.out]; exact mt_write HSG.out HA.out hl hne HAL.out)
                have hwl : ws.length ≤ 64 := HSO.out.n
                obtain ⟨tm, htm⟩ : ∃ tm, tm = totM k l := ⟨_, rfl⟩
                rw [← htm] at HSO HBS HMW HHS
                have HTM := Lib.hid (show min (totF k 1 l) (totF k (-1) l) = tm from htm.symm)
                clear hag hne hz htm
                obtain ⟨ys, hys⟩ : ∃ ys, ys = sharesF tm ws := ⟨_, rfl⟩
                have hyl : ys.length = ws.length := by rw [hys, sharesF_len]
                have y1 : ys.length ≤ ws.length := by omega
                have y2 : ws.length ≤ ys.length := by omega
                rw [← hys] at HBS HMW
                have HYS := Lib.hid hys
                have hgo : g < wo.heap.size := hgl
                clear hys hyl
                go_wp2_with (go_at_call 36; refine (sharesOf_tm _ _ _ _ tm ws _ HSO.out rfl HRQ.out (by have := HTM.out; omega)).mono ?_; rintro e w5 ⟨G5, c5, rfl, hc5, hW5, hb5⟩; rw [← HYS.out] at hW5; have HW5 := Lib.hid hW5; have HB5 := Lib.hid hb5; clear hW5 hb5)
                all_goals
                  have hz5 := HB5.out.size
                  have HA5 := Lib.hid (HAG.out.below HB5.out (by omega))
                  go_loopw [69] (fun v wq => ∃ q : Nat, q ≤ ws.length ∧ v = .int .i64 q ∧ Arr wq g (l.length * 4) ((waF l (wrF sg (ps.take q) (ys.take q) aj)).flatMap Ord.cells) ∧ Keep (· = g) w5 wq) (fun v _ => ws.length - (intOf v).toNat)
                  case atStart => exact ⟨0, by omega, rfl, by simp only [List.take_zero, wrF]; rw [HAJ.out]; exact HA5.out, Keep.refl _ _⟩
                  case round =>
                    obtain ⟨q, hq, rfl, hag, hkp⟩ := hrel
                    have HAQ := Lib.hid hag
                    have HKP := Lib.hid hkp
                    have hzq := hkp.size
                    have hgq := hag.lt
                    clear hag hkp
                    by_cases hqt : q < ws.length
                    · obtain ⟨p, hp⟩ := get_some (show q < ps.length by omega)
                      obtain ⟨y, hy⟩ := get_some (show q < ys.length by omega)
                      have hpm : p ∈ posF 0 pa := by rw [← HPSW.out]; exact List.mem_of_getElem? hp
                      obtain ⟨p0, p1⟩ := posF_mem hpm
                      obtain ⟨y3, y4⟩ := HBS.out y (List.mem_of_getElem? hy)
                      obtain ⟨pn, rfl⟩ : ∃ pn : Nat, p = pn := ⟨p.toNat, by omega⟩
                      obtain ⟨bp, op, rfl, hbp, hatp⟩ := HRP.out.opened (k := q) (by simp; omega)
                      have hlo := HBP.out bp op rfl
                      obtain ⟨bs, os, rfl, hbs, hats⟩ := HW5.out.rd.opened (k := q) (by simp; omega)
                      have hls := HW5.out.lo bs ⟨os, rfl⟩
                      have hwr5 := hbI.out.size
                      have t0 := (HKP.out.cell bp (op + q) (by omega) (by omega)).trans (bc HB5.out hbp (ints_at hatp hp))
                      have t1 := (HKP.out.cell bs (os + q) hbs (by omega)).trans (ints_at hats hy)
                      obtain ⟨x2, c2⟩ := HAQ.out.some_ (j := pn * 4 + 2) (by omega)
                      have f2 := HAQ.out.free (j := pn * 4 + 2) (by omega)
                      have g5 : (q : Int) < ws.length := by omega
                      have g6 : (q : Int) < ps.length := by omega
                      have g7 : (pn : Int) < l.length := by omega
                      obtain ⟨a4, a5⟩ : -1300000 ≤ sg * y ∧ sg * y ≤ 1300000 := by rcases HSG.out with rfl | rfl <;> omega
                      have HWT := Lib.hid (wrF_take (sg := sg) (am := aj) hp hy)
                      have HLW := Lib.hid (show (wrF sg (ps.take q) (ys.take q) aj).length = l.length by rw [wrF_len]; exact HAL.out)
                      clear hp hy hpm hatp hats
                      go_wp2
                      go_roundw
                      case rel =>
                        refine ⟨q + 1, by omega, by go_num, ?_, HKP.out.setCell rfl _⟩
                        rw [HWT.out]
                        exact set_wa HAQ.out HLW.out (by omega)
                      case measure => simp [intOf]; omega
                    · go_wp2
                      go_roundw
                      case rel =>
                        have hf := HAQ.out
                        rw [List.take_of_length_le (by omega), List.take_of_length_le (by omega), HMW.out, ← HHS.out] at hf
                        refine ⟨j + 1, by omega, by go_num, Wr.of_arr hg hf, ?_⟩
                        have hz1 := hbH.out.size
                        have hz2 := hbI.out.size
                        exact HKP.out.below (Below.via (hbH.out.trans (hbI.out.mono hz1)) HB5.out (by omega)) (by omega) (fun z hz => by omega)
                      case measure => simp [intOf]; omega
        · have hj2 : j = 2 := by omega
          subst hj2
          go_wp2
          go_roundw
          case rel =>
            refine ⟨k + 1, by omega, by go_num, ?_, hbH.out⟩
            have e3 : foldI l (k + 1) = halfI k l am 2 := by rw [HAM.out]; rfl
            rw [e3]
            exact HW.out
          case measure => simp [intOf]; omega
    · obtain rfl : k = 16 := by omega
      go_wp2
      go_ret
      exact ⟨G, cG, rfl, hcG, HW.out, hbH.out⟩
end Go.Proofs.Ythdonmdhlgajhaa

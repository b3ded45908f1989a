/- Matched orders: the plain mathematics. -/
import Derived.Test.YtlkkhdbfccejjaaShw
import Derived.Test.YtlkkhdbfccejjaaTot
import Derived.Test.YtlkkhdbfccejjaaOf
namespace Go.Proofs.Ytlkkhdbfccejjaa
set_option linter.unusedVariables false
set_option linter.unusedSimpArgs false
open Go.RowKit
/-- the places of the positive numbers, from place k on -/
def posF : Nat → List Int → List Int
  | _, [] => []
  | k, x :: l => if 0 < x then (k : Int) :: posF (k + 1) l else posF (k + 1) l
/-- the positive numbers -/
def posW : List Int → List Int
  | [] => []
  | x :: l => if 0 < x then x :: posW l else posW l
/-- numbers at the places of the positive ones, 0 elsewhere -/
def exF : List Int → List Int → List Int
  | [], _ => []
  | x :: l, ys => if 0 < x then ys.headD 0 :: exF l ys.tail else 0 :: exF l ys
def plc : List Int → Nat → Nat
  | [], k => k
  | x :: l, k => if 0 < x then (match k with
    | 0 => 0
    | k + 1 => plc l k + 1) else plc l k + 1
theorem posF_len : ∀ (l : List Int) (k : Nat), (posF k l).length = (posW l).length
  | [], k => rfl
  | x :: l, k => by
    unfold posF posW
    split <;> simp [posF_len l]
theorem posW_len : ∀ (l : List Int), (posW l).length ≤ l.length
  | [] => by simp [posW]
  | x :: l => by
    have := posW_len l
    unfold posW; split <;> simp <;> omega
theorem posW_mem : ∀ {l : List Int} {x : Int}, x ∈ posW l → x ∈ l ∧ 0 < x
  | [], x, h => by simp [posW] at h
  | y :: l, x, h => by
    unfold posW at h
    split at h
    · rcases List.mem_cons.1 h with rfl | h
      · exact ⟨by simp, by assumption⟩
      · have := posW_mem h; exact ⟨by simp [this.1], this.2⟩
    · have := posW_mem h; exact ⟨by simp [this.1], this.2⟩
theorem posW_sum : ∀ {l : List Int}, (∀ x ∈ l, 0 ≤ x) → sumF (posW l) = sumF l
  | [], _ => rfl
  | x :: l, h => by
    have ih := posW_sum (l := l) (fun y hy => h y (by simp [hy]))
    have h0 := h x (by simp)
    unfold posW; split
    · simp [sumF, ih]
    · simp only [sumF, ih]; omega
theorem exF_len : ∀ (ps ys : List Int), (exF ps ys).length = ps.length
  | [], ys => rfl
  | x :: l, ys => by unfold exF; split <;> simp [exF_len l]
theorem exF_map {f : Int → Int} (h0 : f 0 = 0) : ∀ {ps : List Int}, (∀ x ∈ ps, 0 ≤ x) → ps.map f = exF ps ((posW ps).map f)
  | [], _ => rfl
  | x :: l, h => by
    have ih := exF_map h0 (ps := l) (fun y hy => h y (by simp [hy]))
    have hx := h x (by simp)
    unfold exF posW; split
    · simp [ih]
    · have : x = 0 := by omega
      subst this; simp [h0, ih]
theorem exF_sum : ∀ {ps ys : List Int}, ys.length = (posW ps).length → sumF (exF ps ys) = sumF ys
  | [], ys, h => by
    have : ys = [] := List.eq_nil_of_length_eq_zero (by simpa [posW] using h)
    subst this; rfl
  | x :: l, ys, h => by
    unfold posW at h; unfold exF
    split at h
    · rename_i hx
      cases ys with
      | nil => simp at h
      | cons y ys =>
        have := exF_sum (ps := l) (ys := ys) (by simpa using h)
        simp [hx, sumF, this]
    · rename_i hx
      have := exF_sum (ps := l) (ys := ys) h
      simp [hx, sumF, this]
theorem exF_at : ∀ {ps ys : List Int} {k : Nat}, ys.length = (posW ps).length → k < ys.length → (exF ps ys)[plc ps k]? = ys[k]?
  | [], ys, k, h, hk => by
    simp [posW] at h; subst h; simp at hk
  | x :: l, ys, k, h, hk => by
    unfold posW at h; unfold exF plc
    split at h
    · rename_i hx
      cases ys with
      | nil => simp at h
      | cons y ys =>
        cases k with
        | zero => simp [hx]
        | succ k =>
          have := exF_at (ps := l) (ys := ys) (k := k) (by simpa using h) (by simpa using hk)
          simpa [hx] using this
    · rename_i hx
      have := exF_at (ps := l) (ys := ys) (k := k) h hk
      simpa [hx] using this
theorem exF_inv : ∀ {ps ys : List Int} {j : Nat} {y : Int}, ys.length = (posW ps).length → (exF ps ys)[j]? = some y → y = 0 ∨ ∃ i, i < ys.length ∧ j = plc ps i ∧ ys[i]? = some y
  | [], ys, j, y, h, hj => by simp [exF] at hj
  | x :: l, ys, j, y, h, hj => by
    unfold posW at h; unfold exF at hj
    split at h
    · rename_i hx
      cases ys with
      | nil => simp at h
      | cons z ys =>
        cases j with
        | zero =>
          simp [hx] at hj; subst hj
          exact .inr ⟨0, by simp, by simp [plc, hx], by simp⟩
        | succ j =>
          simp [hx] at hj
          rcases exF_inv (ps := l) (ys := ys) (by simpa using h) hj with h0 | ⟨i, h1, h2, h3⟩
          · exact .inl h0
          · exact .inr ⟨i + 1, by simp [h1], by simp [plc, hx, h2], by simpa using h3⟩
    · rename_i hx
      cases j with
      | zero => simp [hx] at hj; exact .inl hj.symm
      | succ j =>
        simp [hx] at hj
        rcases exF_inv (ps := l) (ys := ys) h hj with h0 | ⟨i, h1, h2, h3⟩
        · exact .inl h0
        · exact .inr ⟨i, h1, by simp [plc, hx, h2], h3⟩
theorem plc_mono : ∀ {ps : List Int} {i k : Nat}, i < k → plc ps i < plc ps k
  | [], i, k, h => by simpa [plc] using h
  | x :: l, i, k, h => by
    unfold plc
    split
    · cases k with
      | zero => omega
      | succ k =>
        cases i with
        | zero => simp
        | succ i => have := plc_mono (ps := l) (i := i) (k := k) (by omega); simp; exact this
    · have := plc_mono (ps := l) h; omega
theorem plc_inj {ps : List Int} {i k : Nat} (h : plc ps i < plc ps k) : i < k := by
  rcases Nat.lt_trichotomy i k with h1 | h1 | h1
  · exact h1
  · subst h1; omega
  · have := plc_mono (ps := ps) h1; omega
theorem exF_set : ∀ {ps ys : List Int} {k : Nat} (v : Int), ys.length = (posW ps).length → k < ys.length → (exF ps ys).set (plc ps k) v = exF ps (ys.set k v)
  | [], ys, k, v, h, hk => by
    simp [posW] at h; subst h; simp at hk
  | x :: l, ys, k, v, h, hk => by
    unfold posW at h
    split at h
    · rename_i hx
      cases ys with
      | nil => simp at h
      | cons y ys =>
        cases k with
        | zero => simp [exF, plc, hx]
        | succ k =>
          have := exF_set (ps := l) (ys := ys) (k := k) v (by simpa using h) (by simpa using hk)
          simp [exF, plc, hx, this]
    · rename_i hx
      have := exF_set (ps := l) (ys := ys) (k := k) v h hk
      simp [exF, plc, hx, this]
def cntP (l : List Int) : Nat := l.countP (fun x => decide (0 < x))
theorem best_ex {ps rs : List Int} (h : rs.length = (posW ps).length) (hc : 0 < cntP rs) : ∃ k x, best rs = k ∧ k < rs.length ∧ rs[k]? = some x ∧ 0 < x ∧ best (exF ps rs) = plc ps k := by
  have hne : rs ≠ [] := by rintro rfl; simp [cntP] at hc
  obtain ⟨p, hp, hpp⟩ := List.countP_pos_iff.1 hc
  have hpp' : 0 < p := by simpa using hpp
  have hb := best_is hne
  obtain ⟨x, h1, h2, h3⟩ := hb
  have hx : 0 < x := by have := h2 p hp; omega
  have hlt := (List.getElem?_eq_some_iff.1 h1).1
  refine ⟨best rs, x, rfl, hlt, h1, hx, ?_⟩
  have hb2 : IsBest (exF ps rs) (plc ps (best rs)) := by
    refine ⟨x, (exF_at h hlt).trans h1, fun y hy => ?_, fun j y hj hy => ?_⟩
    · obtain ⟨j, hj⟩ := List.getElem?_of_mem hy
      rcases exF_inv h hj with h0 | ⟨i, _, _, hi⟩
      · omega
      · exact h2 y (List.mem_of_getElem? hi)
    · rcases exF_inv h hy with h0 | ⟨i, hi1, hi2, hi3⟩
      · omega
      · exact h3 i y (plc_inj (hi2 ▸ hj)) hi3
  have hne2 : exF ps rs ≠ [] := by
    intro e
    have := exF_at h hlt
    rw [e, h1] at this; simp at this
  exact (best_is hne2).uniq hb2
theorem cntP_set {l : List Int} {k : Nat} {x : Int} (h : l[k]? = some x) (hx : 0 < x) : cntP (l.set k (-1)) + 1 = cntP l := by
  induction l generalizing k with
  | nil => simp at h
  | cons y l ih =>
    cases k with
    | zero => simp at h; subst h; simp [cntP, hx]
    | succ k =>
      have := ih (k := k) (by simpa using h)
      simp only [cntP, List.set_cons_succ, List.countP_cons] at this ⊢
      omega
theorem spread_ex : ∀ (n : Nat) {ps sh rs : List Int}, sh.length = (posW ps).length → rs.length = (posW ps).length → n ≤ cntP rs → spread n (exF ps sh) (exF ps rs) = exF ps (spread n sh rs)
  | 0, ps, sh, rs, _, _, _ => rfl
  | n + 1, ps, sh, rs, h1, h2, hn => by
    obtain ⟨k, x, e1, hk, hx, hx0, e2⟩ := best_ex h2 (by omega)
    obtain ⟨y, hy⟩ := get_some (show k < sh.length by omega)
    rw [spread, spread, e1, e2, inc, inc, exF_at h1 (by omega), hy]
    simp only []
    rw [exF_set _ h1 (by omega), exF_set _ h2 hk]
    exact spread_ex n (by simpa using h1) (by simpa using h2) (by have := cntP_set hx hx0; omega)
theorem rest_cnt {s : Int} (hs : 0 < s) : ∀ (l : List Int), (∀ x ∈ l, 0 ≤ x ∧ x ≤ s - 1) → sumF l ≤ (cntP l : Int) * s
  | [], _ => by simp [sumF, cntP]
  | x :: l, h => by
    have ih := rest_cnt hs l (fun y hy => h y (by simp [hy]))
    have hx := h x (by simp)
    simp only [sumF, cntP, List.countP_cons] at ih ⊢
    by_cases h0 : 0 < x
    · simp only [h0, decide_true, if_true]
      rw [Int.natCast_add, Int.add_mul]; simp; omega
    · simp only [h0, decide_false]
      simp; omega
theorem left_cnt {total : Int} {ws : List Int} (hs : 0 < sumF ws) : (total - sumF (shareF total (sumF ws) ws)).toNat ≤ cntP (restF total (sumF ws) ws) := by
  have h1 := left_rest (total := total) hs
  have h2 := rest_cnt hs (restF total (sumF ws) ws) (fun x hx => rest_bd hs x hx)
  have h3 : (total - sumF (shareF total (sumF ws) ws)) * sumF ws ≤ (cntP (restF total (sumF ws) ws) : Int) * sumF ws := by rw [h1]; exact h2
  have := Int.le_of_mul_le_mul_right h3 hs
  omega
theorem shares_ex {t : Int} {ps : List Int} (h : ∀ x ∈ ps, 0 ≤ x) (hs : 0 < sumF ps) : sharesF t ps = exF ps (sharesF t (posW ps)) := by
  have e := posW_sum h
  have hs' : 0 < sumF (posW ps) := by omega
  have e1 : shareF t (sumF ps) ps = exF ps (shareF t (sumF ps) (posW ps)) := exF_map (f := fun x => t * x / sumF ps) (by simp) h
  have e2 : restF t (sumF ps) ps = exF ps (restF t (sumF ps) (posW ps)) := exF_map (f := fun x => t * x % sumF ps) (by simp) h
  have hc := left_cnt (total := t) hs'
  rw [e] at hc
  unfold sharesF
  rw [e, e1, e2, exF_sum (by simp [shareF])]
  exact spread_ex _ (by simp [shareF]) (by simp [restF]) hc
/-- shares lie between 0 and the total, and a little more -/
theorem inc_bd {l : List Int} {k : Nat} {hi : Int} (h : ∀ x ∈ l, 0 ≤ x ∧ x ≤ hi) : ∀ x ∈ inc l k, 0 ≤ x ∧ x ≤ hi + 1 := by
  intro x hx
  unfold inc at hx
  split at hx
  · rename_i y hy
    have hyb := h y (List.mem_of_getElem? hy)
    rcases List.mem_or_eq_of_mem_set hx with hx | hx
    · have := h x hx; omega
    · omega
  · have := h x hx; omega
theorem spread_bd : ∀ (n : Nat) {sh rs : List Int} {hi : Int}, (∀ x ∈ sh, 0 ≤ x ∧ x ≤ hi) → ∀ x ∈ spread n sh rs, 0 ≤ x ∧ x ≤ hi + n
  | 0, sh, rs, hi, h => fun x hx => by have := h x hx; simpa using this
  | n + 1, sh, rs, hi, h => fun x hx => by
    have := spread_bd n (hi := hi + 1) (inc_bd h) x hx
    omega
theorem shares_bd {t : Int} {ws : List Int} (h : ∀ x ∈ ws, 0 ≤ x) (hs : 0 < sumF ws) (ht : 0 ≤ t) : ∀ x ∈ sharesF t ws, 0 ≤ x ∧ x ≤ t + ws.length := by
  intro x hx
  have hl := left_bd (total := t) hs
  have := spread_bd (sh := shareF t (sumF ws) ws) (hi := t) _ (fun y hy => by
    obtain ⟨z, hz, rfl⟩ := List.mem_map.1 hy
    have hz0 := h z hz
    have hzs := mem_le_sumF h z hz
    refine ⟨Int.ediv_nonneg (Int.mul_nonneg ht hz0) (by omega), ?_⟩
    exact Int.ediv_le_of_le_mul hs (Int.mul_le_mul_of_nonneg_left hzs ht)) x hx
  omega
/-- the amounts of one direction, after matching -/
def vecF (t : Int) (ps : List Int) : List Int := if 0 < sumF ps then sharesF t ps else List.replicate ps.length 0
theorem vecF_len (t : Int) (ps : List Int) : (vecF t ps).length = ps.length := by unfold vecF; split <;> simp [sharesF_len]
theorem vecF_zero {t : Int} {ps : List Int} (h : ∀ x ∈ ps, 0 ≤ x) {j : Nat} {v : Int} (hp : ps[j]? = some 0) (hv : (vecF t ps)[j]? = some v) : v = 0 := by
  unfold vecF at hv
  split at hv
  · rename_i hs
    rw [shares_ex h hs] at hv
    have : ∀ {ps ys : List Int} {j : Nat} {v : Int}, ps[j]? = some 0 → (exF ps ys)[j]? = some v → v = 0 := by
      intro ps
      induction ps with
      | nil => intro ys j v h; simp at h
      | cons x l ih =>
        intro ys j v h hv
        unfold exF at hv
        cases j with
        | zero => simp at h; subst h; simp at hv; exact hv.symm
        | succ j =>
          split at hv
          · exact ih (by simpa using h) (by simpa using hv)
          · exact ih (by simpa using h) (by simpa using hv)
    exact this hp hv
  · rw [List.getElem?_replicate] at hv
    split at hv <;> simp at hv
    exact hv.symm
/-- new amounts at the places of the positive parts -/
def mrgF (sg : Int) : List Int → List Int → List Int → List Int
  | p :: ps, v :: vs, a :: zs => (if 0 < p then sg * v else a) :: mrgF sg ps vs zs
  | _, _, zs => zs
theorem mrgF_len (sg : Int) : ∀ (ps vs zs : List Int), (mrgF sg ps vs zs).length = zs.length
  | p :: ps, v :: vs, a :: zs => by simp [mrgF, mrgF_len sg ps vs zs]
  | [], _, zs => by simp [mrgF]
  | p :: ps, [], zs => by simp [mrgF]
  | p :: ps, v :: vs, [] => by simp [mrgF]
theorem mrgF_get {sg : Int} : ∀ {ps vs zs : List Int} {j : Nat} {p v a : Int}, ps[j]? = some p → vs[j]? = some v → zs[j]? = some a → (mrgF sg ps vs zs)[j]? = some (if 0 < p then sg * v else a)
  | p' :: ps, v' :: vs, a' :: zs, 0, p, v, a, h1, h2, h3 => by simp at h1 h2 h3; subst h1 h2 h3; simp [mrgF]
  | p' :: ps, v' :: vs, a' :: zs, j + 1, p, v, a, h1, h2, h3 => by
    simp only [mrgF, List.getElem?_cons_succ] at h1 h2 h3 ⊢
    exact mrgF_get h1 h2 h3
/-- writing at places -/
def wrF (sg : Int) : List Int → List Int → List Int → List Int
  | p :: ps, y :: ys, zs => wrF sg ps ys (zs.set p.toNat (sg * y))
  | _, _, zs => zs
theorem wrF_len (sg : Int) : ∀ (ps ys zs : List Int), (wrF sg ps ys zs).length = zs.length
  | p :: ps, y :: ys, zs => by simp [wrF, wrF_len sg ps ys]
  | [], _, zs => by simp [wrF]
  | p :: ps, [], zs => by simp [wrF]
theorem wrF_mrg (sg : Int) : ∀ {ps ys zs pre : List Int}, ys.length = (posW ps).length → zs.length = ps.length → wrF sg (posF pre.length ps) ys (pre ++ zs) = pre ++ mrgF sg ps (exF ps ys) zs
  | [], ys, zs, pre, h1, h2 => by
    have : zs = [] := List.eq_nil_of_length_eq_zero (by simpa using h2)
    subst this
    cases ys with
    | nil => simp [posF, wrF, mrgF]
    | cons y ys => simp [posW] at h1
  | p :: ps, ys, zs, pre, h1, h2 => by
    cases zs with
    | nil => simp at h2
    | cons a zs =>
      have h2' : zs.length = ps.length := by simpa using h2
      unfold posW at h1
      split at h1
      · rename_i hp
        cases ys with
        | nil => simp at h1
        | cons y ys =>
          have ih := wrF_mrg sg (ps := ps) (ys := ys) (zs := zs) (pre := pre ++ [sg * y]) (by simpa using h1) h2'
          simp only [List.length_append, List.length_singleton, List.append_assoc, List.singleton_append] at ih
          simp only [posF, hp, if_true, wrF, exF, List.headD_cons, List.tail_cons, mrgF, Int.toNat_natCast]
          rw [show (pre ++ a :: zs).set pre.length (sg * y) = pre ++ (sg * y :: zs) by rw [List.set_append_right _ _ (Nat.le_refl _)]; simp]
          exact ih
      · rename_i hp
        have ih := wrF_mrg sg (ps := ps) (ys := ys) (zs := zs) (pre := pre ++ [a]) h1 h2'
        simp only [List.length_append, List.length_singleton, List.append_assoc, List.singleton_append] at ih
        simp only [posF, hp, if_false, exF, mrgF]
        exact ih
def partsF (s sg : Int) (l : List Ord) : List Int := l.map (part1 s sg)
theorem partsF_len (s sg : Int) (l : List Ord) : (partsF s sg l).length = l.length := by simp [partsF]
def totM (s : Int) (l : List Ord) : Int := min (totF s 1 l) (totF s (-1) l)
def stepI (s : Int) (l : List Ord) (am : List Int) : List Int := mrgF (-1) (partsF s (-1) l) (vecF (totM s l) (partsF s (-1) l)) (mrgF 1 (partsF s 1 l) (vecF (totM s l) (partsF s 1 l)) am)
def addV (sg t : Int) (ps out : List Int) : List Int := if 0 < sumF ps then addS sg out (sharesF t ps) else out
def stepS (s : Int) (l : List Ord) (out : List Int) : List Int := addV (-1) (totM s l) (partsF s (-1) l) (addV 1 (totM s l) (partsF s 1 l) out)
def foldI (l : List Ord) : Nat → List Int
  | 0 => l.map (fun x => x.am)
  | n + 1 => stepI n l (foldI l n)
def foldS (l : List Ord) : Nat → List Int
  | 0 => List.replicate l.length 0
  | n + 1 => stepS n l (foldS l n)
theorem addV_len {sg t : Int} {ps out : List Int} (h : out.length = ps.length) : (addV sg t ps out).length = out.length := by
  unfold addV; split
  · rw [addS_len (by rw [sharesF_len]; omega)]
  · rfl
theorem addV_get {sg t : Int} {ps out : List Int} {j : Nat} {o v : Int} (hl : out.length = ps.length) (h1 : out[j]? = some o) (h2 : (vecF t ps)[j]? = some v) : (addV sg t ps out)[j]? = some (o + sg * v) := by
  unfold addV
  unfold vecF at h2
  split
  · rename_i hs
    rw [if_pos hs] at h2
    exact addS_get h1 h2
  · rename_i hs
    rw [if_neg hs, List.getElem?_replicate] at h2
    split at h2
    · simp at h2; subst h2; simpa using h1
    · simp at h2
theorem stepI_len (s : Int) (l : List Ord) (am : List Int) : (stepI s l am).length = am.length := by simp [stepI, mrgF_len]
theorem stepS_len {s : Int} {l : List Ord} {out : List Int} (h : out.length = l.length) : (stepS s l out).length = l.length := by
  have h1 : (addV 1 (totM s l) (partsF s 1 l) out).length = out.length := addV_len (by rw [partsF_len]; exact h)
  rw [stepS, addV_len (by rw [partsF_len, h1]; exact h), h1, h]
theorem foldI_len (l : List Ord) : ∀ n, (foldI l n).length = l.length
  | 0 => by simp [foldI]
  | n + 1 => by rw [foldI, stepI_len, foldI_len l n]
theorem foldS_len (l : List Ord) : ∀ n, (foldS l n).length = l.length
  | 0 => by simp [foldS]
  | n + 1 => by rw [foldS]; exact stepS_len (foldS_len l n)
theorem part1_nn (s sg : Int) (x : Ord) : 0 ≤ part1 s sg x := by unfold part1; split <;> (try split) <;> omega
theorem parts_nn (s sg : Int) (l : List Ord) : ∀ x ∈ partsF s sg l, 0 ≤ x := fun x hx => by
  obtain ⟨y, _, rfl⟩ := List.mem_map.1 hx
  exact part1_nn s sg y
theorem fold_rel (l : List Ord) : ∀ (n : Nat) (j : Nat) (x : Ord) (a o : Int), l[j]? = some x → 0 ≤ x.sh → (foldI l n)[j]? = some a → (foldS l n)[j]? = some o → if x.sh < n then a = o else a = x.am ∧ o = 0
  | 0, j, x, a, o, hx, h0, ha, ho => by
    rw [foldI, List.getElem?_map, hx] at ha
    rw [foldS, List.getElem?_replicate] at ho
    split at ho
    · simp at ha ho
      rw [if_neg (by simp; omega)]
      exact ⟨ha.symm, ho.symm⟩
    · simp at ho
  | n + 1, j, x, a, o, hx, h0, ha, ho => by
    have hlt := (List.getElem?_eq_some_iff.1 hx).1
    obtain ⟨a0, ha0⟩ := get_some (show j < (foldI l n).length by rw [foldI_len]; exact hlt)
    obtain ⟨o0, ho0⟩ := get_some (show j < (foldS l n).length by rw [foldS_len]; exact hlt)
    have ih := fold_rel l n j x a0 o0 hx h0 ha0 ho0
    have p1 : (partsF n 1 l)[j]? = some (part1 n 1 x) := by simp [partsF, hx]
    have p2 : (partsF n (-1) l)[j]? = some (part1 n (-1) x) := by simp [partsF, hx]
    obtain ⟨v1, hv1⟩ := get_some (show j < (vecF (totM n l) (partsF n 1 l)).length by rw [vecF_len, partsF_len]; exact hlt)
    obtain ⟨v2, hv2⟩ := get_some (show j < (vecF (totM n l) (partsF n (-1) l)).length by rw [vecF_len, partsF_len]; exact hlt)
    have z1 := fun h => vecF_zero (parts_nn n 1 l) (j := j) (v := v1) h hv1
    have z2 := fun h => vecF_zero (parts_nn n (-1) l) (j := j) (v := v2) h hv2
    rw [foldI, stepI, mrgF_get p2 hv2 (mrgF_get p1 hv1 ha0)] at ha
    have hl0 : (foldS l n).length = (partsF n 1 l).length := by rw [foldS_len, partsF_len]
    have hl1 : (addV 1 (totM n l) (partsF n 1 l) (foldS l n)).length = (partsF n (-1) l).length := by rw [addV_len hl0, foldS_len, partsF_len]
    rw [foldS, stepS, addV_get hl1 (addV_get hl0 ho0 hv1) hv2] at ho
    injection ha with ha
    injection ho with ho
    rw [p1] at z1
    rw [p2] at z2
    by_cases hs : x.sh = n
    · rw [hs] at ih
      rw [if_neg (by omega)] at ih
      rw [if_pos (by rw [hs]; omega)]
      have q1 : part1 n 1 x = if 0 < 1 * x.am then 1 * x.am else 0 := by rw [part1, if_pos hs]
      have q2 : part1 n (-1) x = if 0 < -1 * x.am then -1 * x.am else 0 := by rw [part1, if_pos hs]
      rcases Int.lt_trichotomy x.am 0 with hq | hq | hq
      · rw [if_neg (by omega)] at q1
        rw [if_pos (by omega)] at q2
        have := z1 (by rw [q1])
        rw [q1, q2] at ha
        rw [if_pos (by omega)] at ha
        omega
      · rw [if_neg (by omega)] at q1
        rw [if_neg (by omega)] at q2
        have e1 := z1 (by rw [q1])
        have e2 := z2 (by rw [q2])
        rw [q1, q2] at ha
        simp at ha
        omega
      · rw [if_pos (by omega)] at q1
        rw [if_neg (by omega)] at q2
        have e2 := z2 (by rw [q2])
        rw [q1, q2] at ha
        rw [if_neg (by omega), if_pos (by omega)] at ha
        omega
    · have q1 : part1 n 1 x = 0 := by rw [part1, if_neg hs]
      have q2 : part1 n (-1) x = 0 := by rw [part1, if_neg hs]
      have e1 := z1 (by rw [q1])
      have e2 := z2 (by rw [q2])
      rw [q1, q2] at ha
      simp at ha
      by_cases hq : x.sh < n
      · rw [if_pos hq] at ih
        rw [if_pos (by omega)]
        omega
      · rw [if_neg hq] at ih
        rw [if_neg (by omega)]
        omega
/-- the amounts after matching -/
def mtL (l : List Ord) : List Int := foldS l 16
theorem fold_eq {l : List Ord} (h : ∀ x ∈ l, 0 ≤ x.sh ∧ x.sh ≤ 15) : foldI l 16 = mtL l := by
  refine List.ext_getElem? fun j => ?_
  by_cases hj : j < l.length
  · obtain ⟨x, hx⟩ := get_some hj
    obtain ⟨a, ha⟩ := get_some (show j < (foldI l 16).length by rw [foldI_len]; exact hj)
    obtain ⟨o, ho⟩ := get_some (show j < (foldS l 16).length by rw [foldS_len]; exact hj)
    have hb := h x (List.mem_of_getElem? hx)
    have := fold_rel l 16 j x a o hx hb.1 ha ho
    rw [if_pos (by omega)] at this
    rw [ha, mtL, ho, this]
  · rw [List.getElem?_eq_none (by rw [foldI_len]; omega), mtL, List.getElem?_eq_none (by rw [foldS_len]; omega)]
theorem mtL_len (l : List Ord) : (mtL l).length = l.length := foldS_len l 16
end Go.Proofs.Ytlkkhdbfccejjaa

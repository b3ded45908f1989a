/- The walk of the law FnSharedPacks: for all bytes it returns true and writes nothing that was there. -/
import Derived.Test.YtkagnkecgkmpcaaSu
import Derived.Test.YtkagnkecgkmpcaaShm
import Derived.Test.YtkagnkecgkmpcaaDe
import Derived.Test.YtkagnkecgkmpcaaZw
import Derived.Test.YtkagnkecgkmpcaaSpk
namespace Go.Proofs.Ytkagnkecgkmpcaa
set_option linter.unusedVariables false
set_option linter.unusedSimpArgs false
open Go.RowKit
set_option maxRecDepth 100000 in
set_option maxHeartbeats 1000000 in
theorem laws_likeInts (A B : Option Addr) (c d n m : Nat) (l : List Int) (w : World) (h : Rd w A (l.map iV)) (h' : Rd w B (l.map iV)) (hn : n = l.length) (hm : m = l.length) (hl : l.length ≤ 1048576) :
    Calls Try.prog 21 #[.slice A n c, .slice B m d] w fun e w' => e = .returned (.bool true) ∧ Below w.heap.size w w' := by
  subst hn hm
  have H := Lib.hid h
  have H' := Lib.hid h'
  clear h h'
  go_enter Try.func21, Try.ntmps21
  go_wp2
  go_loopw [5] (fun v wr => ∃ k : Nat, k ≤ l.length ∧ v = .int .i64 k ∧ Below w.heap.size w wr) (fun v _ => l.length - (intOf v).toNat)
  case atStart => exact ⟨0, by omega, rfl, Below.refl _ _⟩
  case round =>
    obtain ⟨k, hk, rfl, hbw⟩ := hrel
    have hbH := Lib.hid hbw
    by_cases hlt : k < l.length
    · obtain ⟨n, hn⟩ := get_some hlt
      obtain ⟨b, off, rfl, hb, hat⟩ := H.out.opened (k := k) (by simpa using hlt)
      obtain ⟨b', off', rfl, hb', hat'⟩ := H'.out.opened (k := k) (by simpa using hlt)
      have t0 := ints_at (hat.below hbw hb) hn
      have t1 := ints_at (hat'.below hbw hb') hn
      clear hn hat hat' hbw
      go_wp2
      go_quiet (fail)
      go_wp2
      go_roundw
      case rel => exact ⟨k + 1, by omega, by go_num, Below.drewN' hbH.out _⟩
      case measure => simp [intOf]; omega
    · clear hbw
      go_wp2
      go_ret
      exact ⟨rfl, hbH.out⟩
set_option maxRecDepth 100000 in
set_option maxHeartbeats 1000000 in
theorem laws_sum (A : Option Addr) (c n : Nat) (l : List Int) (w : World) (h : Rd w A (l.map iV)) (hn : n = l.length) (hl : l.length ≤ 1048576) (hs : Sml l) :
    Calls Try.prog 22 #[.slice A n c] w fun e w' => e = .returned (.int .i64 (sumF l)) ∧ w = w' := by
  subst hn
  have H := Lib.hid h
  have HS := Lib.hid hs
  clear h hs
  go_enter Try.func22, Try.ntmps22
  go_wp2
  go_loop [3, 4] (fun u v => ∃ (k : Nat) (r : Int), k ≤ l.length ∧ v = .int .i64 k ∧ u = .int .i64 r ∧ -(k * 1000000000000) ≤ r ∧ r ≤ k * 1000000000000 ∧ r + sumF (l.drop k) = sumF l) (fun _ v => l.length - (intOf v).toNat)
  case atStart => exact ⟨0, 0, by omega, rfl, rfl, by omega, by omega, by simp⟩
  case round =>
    obtain ⟨k, r, hk, rfl, rfl, hr0, hr1, hF⟩ := hrel
    have HF := Lib.hid hF
    clear hF
    by_cases hlt : k < l.length
    · obtain ⟨x, hx⟩ := get_some hlt
      obtain ⟨b, off, rfl, hb, hat⟩ := H.out.opened (k := k) (by simpa using hlt)
      have t0 := ints_at hat hx
      have HD := Lib.hid (drop_consI hx)
      obtain ⟨x1, x2⟩ := HS.out x (List.mem_of_getElem? hx)
      have g1 : (k : Int) < l.length := by omega
      clear hx hat
      go_wp2
      go_round
      case rel =>
        refine ⟨k + 1, r + x, by omega, by go_num, rfl, by omega, by omega, ?_⟩
        rw [← HF.out, HD.out, sumF]; omega
      case measure => simp [intOf]; omega
    · go_wp2
      go_ret
      refine ⟨ri ?_, rfl⟩
      have := HF.out
      rw [drop_endI hlt, sumF] at this
      omega
end Go.Proofs.Ytkagnkecgkmpcaa
namespace Go.Proofs.Ytkagnkecgkmpcaa
set_option linter.unusedVariables false
set_option linter.unusedSimpArgs false
open Go.RowKit
/-- the places of the positive numbers, from place k on -/
def posF : Nat → List Int → List Int
  | _, [] => []
  | k, x :: l => if 0 < x then (k : Int) :: posF (k + 1) l else posF (k + 1) l
/-- the positive numbers -/
def posW : List Int → List Int
  | [] => []
  | x :: l => if 0 < x then x :: posW l else posW l
/-- numbers at the places of the positive ones, 0 elsewhere -/
def exF : List Int → List Int → List Int
  | [], _ => []
  | x :: l, ys => if 0 < x then ys.headD 0 :: exF l ys.tail else 0 :: exF l ys
def plc : List Int → Nat → Nat
  | [], k => k
  | x :: l, k => if 0 < x then (match k with
    | 0 => 0
    | k + 1 => plc l k + 1) else plc l k + 1
theorem posF_len : ∀ (l : List Int) (k : Nat), (posF k l).length = (posW l).length
  | [], k => rfl
  | x :: l, k => by
    unfold posF posW
    split <;> simp [posF_len l]
theorem posW_len : ∀ (l : List Int), (posW l).length ≤ l.length
  | [] => by simp [posW]
  | x :: l => by
    have := posW_len l
    unfold posW; split <;> simp <;> omega
theorem posW_mem : ∀ {l : List Int} {x : Int}, x ∈ posW l → x ∈ l ∧ 0 < x
  | [], x, h => by simp [posW] at h
  | y :: l, x, h => by
    unfold posW at h
    split at h
    · rcases List.mem_cons.1 h with rfl | h
      · exact ⟨by simp, by assumption⟩
      · have := posW_mem h; exact ⟨by simp [this.1], this.2⟩
    · have := posW_mem h; exact ⟨by simp [this.1], this.2⟩
theorem posW_sum : ∀ {l : List Int}, (∀ x ∈ l, 0 ≤ x) → sumF (posW l) = sumF l
  | [], _ => rfl
  | x :: l, h => by
    have ih := posW_sum (l := l) (fun y hy => h y (by simp [hy]))
    have h0 := h x (by simp)
    unfold posW; split
    · simp [sumF, ih]
    · simp only [sumF, ih]; omega
theorem exF_len : ∀ (ps ys : List Int), (exF ps ys).length = ps.length
  | [], ys => rfl
  | x :: l, ys => by unfold exF; split <;> simp [exF_len l]
theorem exF_map {f : Int → Int} (h0 : f 0 = 0) : ∀ {ps : List Int}, (∀ x ∈ ps, 0 ≤ x) → ps.map f = exF ps ((posW ps).map f)
  | [], _ => rfl
  | x :: l, h => by
    have ih := exF_map h0 (ps := l) (fun y hy => h y (by simp [hy]))
    have hx := h x (by simp)
    unfold exF posW; split
    · simp [ih]
    · have : x = 0 := by omega
      subst this; simp [h0, ih]
theorem exF_sum : ∀ {ps ys : List Int}, ys.length = (posW ps).length → sumF (exF ps ys) = sumF ys
  | [], ys, h => by
    have : ys = [] := List.eq_nil_of_length_eq_zero (by simpa [posW] using h)
    subst this; rfl
  | x :: l, ys, h => by
    unfold posW at h; unfold exF
    split at h
    · rename_i hx
      cases ys with
      | nil => simp at h
      | cons y ys =>
        have := exF_sum (ps := l) (ys := ys) (by simpa using h)
        simp [hx, sumF, this]
    · rename_i hx
      have := exF_sum (ps := l) (ys := ys) h
      simp [hx, sumF, this]
theorem exF_at : ∀ {ps ys : List Int} {k : Nat}, ys.length = (posW ps).length → k < ys.length → (exF ps ys)[plc ps k]? = ys[k]?
  | [], ys, k, h, hk => by
    simp [posW] at h; subst h; simp at hk
  | x :: l, ys, k, h, hk => by
    unfold posW at h; unfold exF plc
    split at h
    · rename_i hx
      cases ys with
      | nil => simp at h
      | cons y ys =>
        cases k with
        | zero => simp [hx]
        | succ k =>
          have := exF_at (ps := l) (ys := ys) (k := k) (by simpa using h) (by simpa using hk)
          simpa [hx] using this
    · rename_i hx
      have := exF_at (ps := l) (ys := ys) (k := k) h hk
      simpa [hx] using this
theorem exF_inv : ∀ {ps ys : List Int} {j : Nat} {y : Int}, ys.length = (posW ps).length → (exF ps ys)[j]? = some y → y = 0 ∨ ∃ i, i < ys.length ∧ j = plc ps i ∧ ys[i]? = some y
  | [], ys, j, y, h, hj => by simp [exF] at hj
  | x :: l, ys, j, y, h, hj => by
    unfold posW at h; unfold exF at hj
    split at h
    · rename_i hx
      cases ys with
      | nil => simp at h
      | cons z ys =>
        cases j with
        | zero =>
          simp [hx] at hj; subst hj
          exact .inr ⟨0, by simp, by simp [plc, hx], by simp⟩
        | succ j =>
          simp [hx] at hj
          rcases exF_inv (ps := l) (ys := ys) (by simpa using h) hj with h0 | ⟨i, h1, h2, h3⟩
          · exact .inl h0
          · exact .inr ⟨i + 1, by simp [h1], by simp [plc, hx, h2], by simpa using h3⟩
    · rename_i hx
      cases j with
      | zero => simp [hx] at hj; exact .inl hj.symm
      | succ j =>
        simp [hx] at hj
        rcases exF_inv (ps := l) (ys := ys) h hj with h0 | ⟨i, h1, h2, h3⟩
        · exact .inl h0
        · exact .inr ⟨i, h1, by simp [plc, hx, h2], h3⟩
theorem plc_mono : ∀ {ps : List Int} {i k : Nat}, i < k → plc ps i < plc ps k
  | [], i, k, h => by simpa [plc] using h
  | x :: l, i, k, h => by
    unfold plc
    split
    · cases k with
      | zero => omega
      | succ k =>
        cases i with
        | zero => simp
        | succ i => have := plc_mono (ps := l) (i := i) (k := k) (by omega); simp; exact this
    · have := plc_mono (ps := l) h; omega
theorem plc_inj {ps : List Int} {i k : Nat} (h : plc ps i < plc ps k) : i < k := by
  rcases Nat.lt_trichotomy i k with h1 | h1 | h1
  · exact h1
  · subst h1; omega
  · have := plc_mono (ps := ps) h1; omega
theorem exF_set : ∀ {ps ys : List Int} {k : Nat} (v : Int), ys.length = (posW ps).length → k < ys.length → (exF ps ys).set (plc ps k) v = exF ps (ys.set k v)
  | [], ys, k, v, h, hk => by
    simp [posW] at h; subst h; simp at hk
  | x :: l, ys, k, v, h, hk => by
    unfold posW at h
    split at h
    · rename_i hx
      cases ys with
      | nil => simp at h
      | cons y ys =>
        cases k with
        | zero => simp [exF, plc, hx]
        | succ k =>
          have := exF_set (ps := l) (ys := ys) (k := k) v (by simpa using h) (by simpa using hk)
          simp [exF, plc, hx, this]
    · rename_i hx
      have := exF_set (ps := l) (ys := ys) (k := k) v h hk
      simp [exF, plc, hx, this]
def cntP (l : List Int) : Nat := l.countP (fun x => decide (0 < x))
theorem best_ex {ps rs : List Int} (h : rs.length = (posW ps).length) (hc : 0 < cntP rs) : ∃ k x, best rs = k ∧ k < rs.length ∧ rs[k]? = some x ∧ 0 < x ∧ best (exF ps rs) = plc ps k := by
  have hne : rs ≠ [] := by rintro rfl; simp [cntP] at hc
  obtain ⟨p, hp, hpp⟩ := List.countP_pos_iff.1 hc
  have hpp' : 0 < p := by simpa using hpp
  have hb := best_is hne
  obtain ⟨x, h1, h2, h3⟩ := hb
  have hx : 0 < x := by have := h2 p hp; omega
  have hlt := (List.getElem?_eq_some_iff.1 h1).1
  refine ⟨best rs, x, rfl, hlt, h1, hx, ?_⟩
  have hb2 : IsBest (exF ps rs) (plc ps (best rs)) := by
    refine ⟨x, (exF_at h hlt).trans h1, fun y hy => ?_, fun j y hj hy => ?_⟩
    · obtain ⟨j, hj⟩ := List.getElem?_of_mem hy
      rcases exF_inv h hj with h0 | ⟨i, _, _, hi⟩
      · omega
      · exact h2 y (List.mem_of_getElem? hi)
    · rcases exF_inv h hy with h0 | ⟨i, hi1, hi2, hi3⟩
      · omega
      · exact h3 i y (plc_inj (hi2 ▸ hj)) hi3
  have hne2 : exF ps rs ≠ [] := by
    intro e
    have := exF_at h hlt
    rw [e, h1] at this; simp at this
  exact (best_is hne2).uniq hb2
theorem cntP_set {l : List Int} {k : Nat} {x : Int} (h : l[k]? = some x) (hx : 0 < x) : cntP (l.set k (-1)) + 1 = cntP l := by
  induction l generalizing k with
  | nil => simp at h
  | cons y l ih =>
    cases k with
    | zero => simp at h; subst h; simp [cntP, hx]
    | succ k =>
      have := ih (k := k) (by simpa using h)
      simp only [cntP, List.set_cons_succ, List.countP_cons] at this ⊢
      omega
theorem spread_ex : ∀ (n : Nat) {ps sh rs : List Int}, sh.length = (posW ps).length → rs.length = (posW ps).length → n ≤ cntP rs → spread n (exF ps sh) (exF ps rs) = exF ps (spread n sh rs)
  | 0, ps, sh, rs, _, _, _ => rfl
  | n + 1, ps, sh, rs, h1, h2, hn => by
    obtain ⟨k, x, e1, hk, hx, hx0, e2⟩ := best_ex h2 (by omega)
    obtain ⟨y, hy⟩ := get_some (show k < sh.length by omega)
    rw [spread, spread, e1, e2, inc, inc, exF_at h1 (by omega), hy]
    simp only []
    rw [exF_set _ h1 (by omega), exF_set _ h2 hk]
    exact spread_ex n (by simpa using h1) (by simpa using h2) (by have := cntP_set hx hx0; omega)
theorem rest_cnt {s : Int} (hs : 0 < s) : ∀ (l : List Int), (∀ x ∈ l, 0 ≤ x ∧ x ≤ s - 1) → sumF l ≤ (cntP l : Int) * s
  | [], _ => by simp [sumF, cntP]
  | x :: l, h => by
    have ih := rest_cnt hs l (fun y hy => h y (by simp [hy]))
    have hx := h x (by simp)
    simp only [sumF, cntP, List.countP_cons] at ih ⊢
    by_cases h0 : 0 < x
    · simp only [h0, decide_true, if_true]
      rw [Int.natCast_add, Int.add_mul]; simp; omega
    · simp only [h0, decide_false]
      simp; omega
theorem left_cnt {total : Int} {ws : List Int} (hs : 0 < sumF ws) : (total - sumF (shareF total (sumF ws) ws)).toNat ≤ cntP (restF total (sumF ws) ws) := by
  have h1 := left_rest (total := total) hs
  have h2 := rest_cnt hs (restF total (sumF ws) ws) (fun x hx => rest_bd hs x hx)
  have h3 : (total - sumF (shareF total (sumF ws) ws)) * sumF ws ≤ (cntP (restF total (sumF ws) ws) : Int) * sumF ws := by rw [h1]; exact h2
  have := Int.le_of_mul_le_mul_right h3 hs
  omega
theorem shares_ex {t : Int} {ps : List Int} (h : ∀ x ∈ ps, 0 ≤ x) (hs : 0 < sumF ps) : sharesF t ps = exF ps (sharesF t (posW ps)) := by
  have e := posW_sum h
  have hs' : 0 < sumF (posW ps) := by omega
  have e1 : shareF t (sumF ps) ps = exF ps (shareF t (sumF ps) (posW ps)) := exF_map (f := fun x => t * x / sumF ps) (by simp) h
  have e2 : restF t (sumF ps) ps = exF ps (restF t (sumF ps) (posW ps)) := exF_map (f := fun x => t * x % sumF ps) (by simp) h
  have hc := left_cnt (total := t) hs'
  rw [e] at hc
  unfold sharesF
  rw [e, e1, e2, exF_sum (by simp [shareF])]
  exact spread_ex _ (by simp [shareF]) (by simp [restF]) hc
/-- shares lie between 0 and the total, and a little more -/
theorem inc_bd {l : List Int} {k : Nat} {hi : Int} (h : ∀ x ∈ l, 0 ≤ x ∧ x ≤ hi) : ∀ x ∈ inc l k, 0 ≤ x ∧ x ≤ hi + 1 := by
  intro x hx
  unfold inc at hx
  split at hx
  · rename_i y hy
    have hyb := h y (List.mem_of_getElem? hy)
    rcases List.mem_or_eq_of_mem_set hx with hx | hx
    · have := h x hx; omega
    · omega
  · have := h x hx; omega
theorem spread_bd : ∀ (n : Nat) {sh rs : List Int} {hi : Int}, (∀ x ∈ sh, 0 ≤ x ∧ x ≤ hi) → ∀ x ∈ spread n sh rs, 0 ≤ x ∧ x ≤ hi + n
  | 0, sh, rs, hi, h => fun x hx => by have := h x hx; simpa using this
  | n + 1, sh, rs, hi, h => fun x hx => by
    have := spread_bd n (hi := hi + 1) (inc_bd h) x hx
    omega
theorem shares_bd {t : Int} {ws : List Int} (h : ∀ x ∈ ws, 0 ≤ x) (hs : 0 < sumF ws) (ht : 0 ≤ t) : ∀ x ∈ sharesF t ws, 0 ≤ x ∧ x ≤ t + ws.length := by
  intro x hx
  have hl := left_bd (total := t) hs
  have := spread_bd (sh := shareF t (sumF ws) ws) (hi := t) _ (fun y hy => by
    obtain ⟨z, hz, rfl⟩ := List.mem_map.1 hy
    have hz0 := h z hz
    have hzs := mem_le_sumF h z hz
    refine ⟨Int.ediv_nonneg (Int.mul_nonneg ht hz0) (by omega), ?_⟩
    exact Int.ediv_le_of_le_mul hs (Int.mul_le_mul_of_nonneg_left hzs ht)) x hx
  omega
/-- the amounts of one direction, after matching -/
def vecF (t : Int) (ps : List Int) : List Int := if 0 < sumF ps then sharesF t ps else List.replicate ps.length 0
theorem vecF_len (t : Int) (ps : List Int) : (vecF t ps).length = ps.length := by unfold vecF; split <;> simp [sharesF_len]
theorem vecF_zero {t : Int} {ps : List Int} (h : ∀ x ∈ ps, 0 ≤ x) {j : Nat} {v : Int} (hp : ps[j]? = some 0) (hv : (vecF t ps)[j]? = some v) : v = 0 := by
  unfold vecF at hv
  split at hv
  · rename_i hs
    rw [shares_ex h hs] at hv
    have : ∀ {ps ys : List Int} {j : Nat} {v : Int}, ps[j]? = some 0 → (exF ps ys)[j]? = some v → v = 0 := by
      intro ps
      induction ps with
      | nil => intro ys j v h; simp at h
      | cons x l ih =>
        intro ys j v h hv
        unfold exF at hv
        cases j with
        | zero => simp at h; subst h; simp at hv; exact hv.symm
        | succ j =>
          split at hv
          · exact ih (by simpa using h) (by simpa using hv)
          · exact ih (by simpa using h) (by simpa using hv)
    exact this hp hv
  · rw [List.getElem?_replicate] at hv
    split at hv <;> simp at hv
    exact hv.symm
theorem set_sum : ∀ {l : List Int} {k : Nat} {x : Int} (y : Int), l[k]? = some x → sumF (l.set k y) = sumF l + (y - x)
  | [], k, x, y, h => by simp at h
  | z :: l, 0, x, y, h => by simp at h; subst h; simp only [List.set_cons_zero, sumF]; omega
  | z :: l, k + 1, x, y, h => by
    have := set_sum (l := l) (k := k) y (by simpa using h)
    simp only [List.set_cons_succ, sumF, this]; omega
theorem inc_sum {l : List Int} {k : Nat} (h : k < l.length) : sumF (inc l k) = sumF l + 1 := by
  unfold inc
  rw [List.getElem?_eq_getElem h]
  simp only []
  rw [set_sum _ (List.getElem?_eq_getElem h)]; omega
theorem spread_sum : ∀ (n : Nat) {sh rs : List Int}, rs.length = sh.length → sh ≠ [] → sumF (spread n sh rs) = sumF sh + n
  | 0, sh, rs, _, _ => by simp [spread]
  | n + 1, sh, rs, h, hne => by
    have hr : rs ≠ [] := by rintro rfl; exact hne (List.eq_nil_of_length_eq_zero (by simpa using h.symm))
    have hb := (best_is hr).lt
    rw [spread, spread_sum n (by simp [inc_len, h]) (fun e => by
      have := congrArg List.length e
      rw [inc_len] at this
      exact hne (List.eq_nil_of_length_eq_zero (by simpa using this))), inc_sum (by omega)]
    omega
theorem shares_sum {t : Int} {ws : List Int} (hs : 0 < sumF ws) : sumF (sharesF t ws) = t := by
  have hl := left_bd (total := t) hs
  unfold sharesF
  rw [spread_sum _ (by simp [shareF, restF]) (by
    rintro e
    have : ws = [] := by simpa [shareF] using e
    subst this; simp [sumF] at hs)]
  omega
end Go.Proofs.Ytkagnkecgkmpcaa
namespace Go.Proofs.Ytkagnkecgkmpcaa
set_option linter.unusedVariables false
set_option linter.unusedSimpArgs false
open Go.RowKit
set_option maxRecDepth 100000 in
set_option maxHeartbeats 8000000 in
theorem spec_DrawSharePack (A0 : Option Addr) (c0 : Nat) (l0 : List Int) (w : World) (h : BytesIn w A0 l0) (hl : l0.length ≤ 4096) :
    Calls Try.prog 18 #[.slice A0 l0.length c0] w fun e w' => ∃ (A Bq Al : Option Addr) (c d cl : Nat) (N : Net) (l : List Int) (x : Int), e = .returned (.tuple #[netV A Bq N.nodes.length c N.pipes.length d, .slice Al l.length cl, .int .i64 x]) ∧ N.nodes.length ≤ c ∧ NetAt w' A Bq N ∧ Rd w' Al (l.map iV) ∧ l.length ≤ 8 ∧ (∀ x ∈ l, -1000000000 ≤ x ∧ x ≤ 1000000000) ∧ (-1000000001 ≤ x ∧ x ≤ 1000000001) ∧ Below w.heap.size w w' := by
  have HI := Lib.hid h
  clear h
  go_enter Try.func18, Try.ntmps18
  go_wp2_with fail
  refine (spec_l01From A0 c0 l0 _ (HI.out.below (by (repeat' (first | (with_reducible exact Below.refl _ _) | (with_reducible assumption) | (with_reducible refine Below.alloc ?_ ?_ _) | (with_reducible refine Below.drew ?_) | (with_reducible refine Below.drewN' ?_ _) | (with_reducible refine Below.setCell ?_ ?_ _) | (refine Below.via ?_ (by with_reducible assumption) ?_) | (with_reducible refine Below.via ?_ (Wd.h _) ?_) | go_size)))) hl).mono ?_
  rintro e w1 ⟨rfl, hs1, hb1⟩
  have hs1 : Src w1 (w.heap.size + 1) := by simpa using hs1
  have HS1 := Lib.hid hs1
  have hp1 := hs1.lt
  clear hs1
  (obtain ⟨hcn, hfn⟩ := bcell hb1; have hz1 := hb1.size; (try simp at hz1); have Ncw0_0 := hcn (w.heap.size) (0) (by first | omega | (simp; done) | (simp; omega)); have Nfw0_0 := hfn (w.heap.size) (0) (by first | omega | (simp; done) | (simp; omega)); have Nhy0 : w.heap.size < w1.heap.size := (by omega); have Ncw0_1 := hcn (w.heap.size) (1) (by first | omega | (simp; done) | (simp; omega)); have Nfw0_1 := hfn (w.heap.size) (1) (by first | omega | (simp; done) | (simp; omega)); simp [go_sem] at Ncw0_0 Nfw0_0 Ncw0_1 Nfw0_1; clear hcn hfn; have cw0_0 := Ncw0_0; have fw0_0 := Nfw0_0; have cw0_1 := Ncw0_1; have fw0_1 := Nfw0_1; have hy0 := Nhy0; clear Ncw0_0 Nfw0_0 Ncw0_1 Nfw0_1 Nhy0)
  go_wp2_with fail
  refine (spec_l18Draw (w.heap.size + 1) _ (HS1.out.below (by (repeat' (first | (with_reducible exact Below.refl _ _) | (with_reducible assumption) | (with_reducible refine Below.alloc ?_ ?_ _) | (with_reducible refine Below.drew ?_) | (with_reducible refine Below.drewN' ?_ _) | (with_reducible refine Below.setCell ?_ ?_ _) | (refine Below.via ?_ (by with_reducible assumption) ?_) | (with_reducible refine Below.via ?_ (Wd.h _) ?_) | go_size))))).mono ?_
  rintro e w2 ⟨A, Bq, Al, c, d, cl, N, l, rfl, hnc, hN, hL, hl8, hbd, hs2, hk2, hA, hB, hAl⟩
  have HN := Lib.hid hN
  have HL := Lib.hid hL
  have HS2 := Lib.hid hs2
  have HB2 := Lib.hid (show Below w.heap.size w w2 from hk2.below (by (repeat' (first | (with_reducible exact Below.refl _ _) | (with_reducible assumption) | (with_reducible refine Below.alloc ?_ ?_ _) | (with_reducible refine Below.drew ?_) | (with_reducible refine Below.drewN' ?_ _) | (with_reducible refine Below.setCell ?_ ?_ _) | (refine Below.via ?_ (by with_reducible assumption) ?_) | (with_reducible refine Below.via ?_ (Wd.h _) ?_) | go_size))) (by go_size) (by intro k hq; (try simp only at hq); omega))
  (have hz2 := hk2.size; (try simp at hz2); have Ncw0_0 := hk2.cell (w.heap.size) (0) (by first | omega | (simp; done) | (simp; omega)) (by intro hq; (try simp only at hq); omega); have Nfw0_0 := hk2.frozen (w.heap.size) (0) (by first | omega | (simp; done) | (simp; omega)) (by intro hq; (try simp only at hq); omega); have Nhy0 : w.heap.size < w2.heap.size := (by omega); have Ncw0_1 := hk2.cell (w.heap.size) (1) (by first | omega | (simp; done) | (simp; omega)) (by intro hq; (try simp only at hq); omega); have Nfw0_1 := hk2.frozen (w.heap.size) (1) (by first | omega | (simp; done) | (simp; omega)) (by intro hq; (try simp only at hq); omega); simp [go_sem, cw0_0, fw0_0, cw0_1, fw0_1, hy0] at Ncw0_0 Nfw0_0 Ncw0_1 Nfw0_1; clear cw0_0 fw0_0 cw0_1 fw0_1 hy0; have cw0_0 := Ncw0_0; have fw0_0 := Nfw0_0; have cw0_1 := Ncw0_1; have fw0_1 := Nfw0_1; have hy0 := Nhy0; clear Ncw0_0 Nfw0_0 Ncw0_1 Nfw0_1 Nhy0)
  have HX0 := Lib.hid (show Bx w2 w.heap.size [.slice none 0 0, .slice none 0 0] from bx2 hy0 cw0_0 fw0_0 cw0_1 fw0_1)
  have HA := Lib.hid (show ∀ b off, A = some ⟨b, off, none⟩ → w.heap.size + 1 < b from fun b off e => by have := hA b off e; omega)
  have HB := Lib.hid (show ∀ b off, Bq = some ⟨b, off, none⟩ → w.heap.size + 1 < b from fun b off e => by have := hB b off e; omega)
  have HAl := Lib.hid (show ∀ b off, Al = some ⟨b, off, none⟩ → w.heap.size + 1 < b from fun b off e => by have := hAl b off e; omega)
  have HBD := Lib.hid hbd
  clear hN hL hs2 hk2 hb1 hy0 cw0_0 fw0_0 cw0_1 fw0_1 hA hB hAl hbd
  go_wp2_with fail
  generalize hW : World.alloc w2 _ = w3
  have hb3 : Below w2.heap.size w2 w3 := by rw [← hW]; (repeat' (first | (with_reducible exact Below.refl _ _) | (with_reducible assumption) | (with_reducible refine Below.alloc ?_ ?_ _) | (with_reducible refine Below.drew ?_) | (with_reducible refine Below.drewN' ?_ _) | (with_reducible refine Below.setCell ?_ ?_ _) | (refine Below.via ?_ (by with_reducible assumption) ?_) | (with_reducible refine Below.via ?_ (Wd.h _) ?_) | go_size))
  have HX1 := Lib.hid (show Bx w3 w2.heap.size [.slice A N.nodes.length c, .slice Bq N.pipes.length d] by rw [← hW]; exact bx2 (by simp) (by simp) (by simp) (by simp) (by simp))
  have HX0 := Lib.hid (HX0.out.below hb3 HX0.out.lt)
  have HS3 := Lib.hid (HS2.out.below hb3)
  have HB3 := Lib.hid (HB2.out.trans (hb3.mono (by omega)))
  have HN3 := Lib.hid (HN.out.below hb3)
  have HL3 := Lib.hid (HL.out.below hb3)
  have hz3 := hb3.size
  have hl3 := HX1.out.lt
  clear hW hb3
  refine wp_region_tb (R := Zr) [some 15, some 16, some 17, some 18, some 19, some 20, some 21, some 22, some 23, some 24, some 25, none, some 3, some 4] _ (by intro u; simp only [frs, Act.put, List.setIfInBounds_toArray, List.set_cons_zero, List.set_cons_succ, Nat.reduceAdd]; exact rfl) (fun ρ j => ([.agg #[.slice A N.nodes.length c, .slice Bq N.pipes.length d], .slice Al l.length cl, .pointer (some ⟨w.heap.size + 1, 0, none⟩), .int .i64 (ρ.r 3), .pointer (some ⟨w.heap.size + 1, 0, none⟩), .int .i64 (ρ.r 5), .slice (some ⟨ρ.b 6, 0, none⟩) 5 5, .pointer (some ⟨w.heap.size + 1, 0, none⟩), .int .i64 (ρ.r 8), .pointer (some ⟨ρ.b 6, (ρ.r 8).toNat, none⟩), .int .i64 ((ρ.c 6).getD (ρ.r 8).toNat 0), undef, .slice Al l.length cl, .int .i64 ((ρ.c 6).getD (ρ.r 8).toNat 0)] : List Value).getD j undef) (WZ (w.heap.size + 1) (fun k => k = w.heap.size) [(3, 500), (5, 500), (8, 5)] [(6, 5, -1, 1000000001)] 11 (fun wt => Bx wt w.heap.size [.slice none 0 0, .slice none 0 0] ∧ Bx wt w2.heap.size [.slice A N.nodes.length c, .slice Bq N.pipes.length d]) (fun _ wt => Bx wt w.heap.size [.slice A N.nodes.length c, .slice Bq N.pipes.length d]) w3) (by kernel_rfl) (by kernel_rfl) Zr.zero (WZ.start (Keep.of_below _ (Below.drew (Below.refl _ _))) (HS3.out.below (Below.drew (Below.refl _ _))) ⟨HX0.out.below (Below.drew (Below.refl w3.heap.size _)) (by omega), HX1.out.below (Below.drew (Below.refl w3.heap.size _)) hl3⟩) ?_ ?_
  · intro ii hii L ρ u wx hl hp hc hu hn hW
    have hii : ii < 14 := hii
    have HNo := Lib.hid hn
    clear hn
    have hii : ii = 0 ∨ ii = 1 ∨ ii = 2 ∨ ii = 3 ∨ ii = 4 ∨ ii = 5 ∨ ii = 6 ∨ ii = 7 ∨ ii = 8 ∨ ii = 9 ∨ ii = 10 ∨ ii = 11 ∨ ii = 12 ∨ ii = 13 := by omega
    rcases hii with rfl | rfl | rfl | rfl | rfl | rfl | rfl | rfl | rfl | rfl | rfl | rfl | rfl | rfl
    · have nks : L 11 = false := no_later hc hl (by kernel_rfl)
      have xx0 := (hW.t0 nks).2.cell 0 rfl
      have xx1 := (hW.t0 nks).2.cell 1 rfl
      refine wpOp_go (E := True) rfl rfl (fun K' hK => ?_)
      go_simp
      refine hK.out _ _ ⟨ρ, (by simp only [put]; rfl), fun _ _ => rfl, hW.pure rfl rfl (by omega)⟩
    · refine wpOp_go (E := True) rfl rfl (fun K' hK => ?_)
      go_simp
      refine hK.out _ _ ⟨ρ, (by simp only [put]; rfl), fun _ _ => rfl, hW.pure rfl rfl (by omega)⟩
    · refine wpOp_go (E := True) rfl rfl (fun K' hK => ?_)
      go_simp
      refine hK.out _ _ ⟨ρ, (by simp only [put]; rfl), fun _ _ => rfl, hW.pure rfl rfl (by omega)⟩
    · have e2 : u 2 = .pointer (some ⟨w.heap.size + 1, 0, none⟩) := hu 2 (all_of hp (by kernel_rfl))
      have nk5 : L 5 = false := no_later hc hl (by kernel_rfl)
      have nk8 : L 8 = false := no_later hc nk5 (by kernel_rfl)
      have nks : L 11 = false := no_later hc nk8 (by kernel_rfl)
      refine wpOp_go (E := True) rfl rfl (fun K' hK => ?_)
      go_simp
      go_at_call 33
      refine (spec_l01Next _ _ _ (hW.sr nks) (by omega)).mono ?_
      rintro e' w5 ⟨r, rfl, ra, _, rb, hs5, hk5⟩
      have rc := rb (by omega)
      refine hK.out _ _ ⟨ρ.drawn 3 r, (by simp only [put, e2]; rfl), fun j hj => by
          have n6 : L 6 = false := no_later hc hl (by kernel_rfl)
          have n9 : L 9 = false := no_later hc n6 (by kernel_rfl)
          have n10 : L 10 = false := no_later hc n9 (by kernel_rfl)
          have n13 : L 13 = false := no_later hc n10 (by kernel_rfl)
          match j, hj with
          | 0, _ => rfl
          | 1, _ => rfl
          | 2, _ => rfl
          | 3, hj => rw [hl] at hj; cases hj
          | 4, _ => rfl
          | 5, _ => rfl
          | 6, hj => rw [n6] at hj; cases hj
          | 7, _ => rfl
          | 8, _ => rfl
          | 9, hj => rw [n9] at hj; cases hj
          | 10, hj => rw [n10] at hj; cases hj
          | 11, _ => rfl
          | 12, _ => rfl
          | 13, hj => rw [n13] at hj; cases hj
          | _ + 14, _ => rfl, hW.call rfl (by omega) nks (by omega) hk5 hs5 (fun ⟨h1, h2⟩ => ⟨h1.keep hk5 (by omega), h2.keep hk5 (by omega)⟩) (by intro n hn; simp at hn; omega)⟩
    · refine wpOp_go (E := True) rfl rfl (fun K' hK => ?_)
      go_simp
      refine hK.out _ _ ⟨ρ, (by simp only [put]; rfl), fun _ _ => rfl, hW.pure rfl rfl (by omega)⟩
    · have e4 : u 4 = .pointer (some ⟨w.heap.size + 1, 0, none⟩) := hu 4 (all_of hp (by kernel_rfl))
      have nk8 : L 8 = false := no_later hc hl (by kernel_rfl)
      have nks : L 11 = false := no_later hc nk8 (by kernel_rfl)
      refine wpOp_go (E := True) rfl rfl (fun K' hK => ?_)
      go_simp
      go_at_call 33
      refine (spec_l01Next _ _ _ (hW.sr nks) (by omega)).mono ?_
      rintro e' w5 ⟨r, rfl, ra, _, rb, hs5, hk5⟩
      have rc := rb (by omega)
      refine hK.out _ _ ⟨ρ.drawn 5 r, (by simp only [put, e4]; rfl), fun j hj => by
          have n6 : L 6 = false := no_later hc hl (by kernel_rfl)
          have n9 : L 9 = false := no_later hc n6 (by kernel_rfl)
          have n10 : L 10 = false := no_later hc n9 (by kernel_rfl)
          have n13 : L 13 = false := no_later hc n10 (by kernel_rfl)
          match j, hj with
          | 0, _ => rfl
          | 1, _ => rfl
          | 2, _ => rfl
          | 3, _ => rfl
          | 4, _ => rfl
          | 5, hj => rw [hl] at hj; cases hj
          | 6, hj => rw [n6] at hj; cases hj
          | 7, _ => rfl
          | 8, _ => rfl
          | 9, hj => rw [n9] at hj; cases hj
          | 10, hj => rw [n10] at hj; cases hj
          | 11, _ => rfl
          | 12, _ => rfl
          | 13, hj => rw [n13] at hj; cases hj
          | _ + 14, _ => rfl, hW.call rfl (by omega) nks (by omega) hk5 hs5 (fun ⟨h1, h2⟩ => ⟨h1.keep hk5 (by omega), h2.keep hk5 (by omega)⟩) (by intro n hn; simp at hn; omega)⟩
    · have e3 : u 3 = .int .i64 (ρ.r 3) := hu 3 (all_of hp (by kernel_rfl))
      have e5 : u 5 = .int .i64 (ρ.r 5) := hu 5 (all_of hp (by kernel_rfl))
      obtain ⟨ra3, rb3⟩ := hW.dr 3 (500) (by simp) (all_of hp (by kernel_rfl))
      obtain ⟨ra5, rb5⟩ := hW.dr 5 (500) (by simp) (all_of hp (by kernel_rfl))
      refine wpOp_go (E := True) rfl rfl (fun K' hK => ?_)
      go_simp
      generalize hW5 : World.alloc wx _ = w5
      have hb5 : Below wx.heap.size wx w5 := by rw [← hW5]; (repeat' (first | (with_reducible exact Below.refl _ _) | (with_reducible assumption) | (with_reducible refine Below.alloc ?_ ?_ _) | (with_reducible refine Below.drew ?_) | (with_reducible refine Below.drewN' ?_ _) | (with_reducible refine Below.setCell ?_ ?_ _) | (refine Below.via ?_ (by with_reducible assumption) ?_) | (with_reducible refine Below.via ?_ (Wd.h _) ?_) | go_size))
      have hx5 : Bx w5 wx.heap.size (([ρ.r 3, ρ.r 5, 0, -1, 1000000001] : List Int).map iV) := by rw [← hW5]; exact bx5 (by simp) (by simp) (by simp) (by simp) (by simp) (by simp) (by simp) (by simp) (by simp) (by simp) (by simp)
      clear hW5
      refine hK.out _ _ ⟨ρ.made 6 wx.heap.size [ρ.r 3, ρ.r 5, 0, -1, 1000000001], (by simp only [put, e3, e5]; rfl), fun j hj => by
          have n9 : L 9 = false := no_later hc hl (by kernel_rfl)
          have n10 : L 10 = false := no_later hc n9 (by kernel_rfl)
          have n13 : L 13 = false := no_later hc n10 (by kernel_rfl)
          match j, hj with
          | 0, _ => rfl
          | 1, _ => rfl
          | 2, _ => rfl
          | 3, _ => rfl
          | 4, _ => rfl
          | 5, _ => rfl
          | 6, hj => rw [hl] at hj; cases hj
          | 7, _ => rfl
          | 8, _ => rfl
          | 9, hj => rw [n9] at hj; cases hj
          | 10, hj => rw [n10] at hj; cases hj
          | 11, _ => rfl
          | 12, _ => rfl
          | 13, hj => rw [n13] at hj; cases hj
          | _ + 14, _ => rfl, hW.made rfl (by omega) hb5 (fun ⟨h1, h2⟩ => ⟨h1.below hb5 h1.lt, h2.below hb5 h2.lt⟩) (fun h1 => h1.below hb5 h1.lt) hx5 (by intro k lo hi hm; simp at hm; obtain ⟨rfl, rfl, rfl⟩ := hm; refine ⟨rfl, fun x hx => ?_⟩; simp at hx; omega)⟩
    · refine wpOp_go (E := True) rfl rfl (fun K' hK => ?_)
      go_simp
      refine hK.out _ _ ⟨ρ, (by simp only [put]; rfl), fun _ _ => rfl, hW.pure rfl rfl (by omega)⟩
    · have e7 : u 7 = .pointer (some ⟨w.heap.size + 1, 0, none⟩) := hu 7 (all_of hp (by kernel_rfl))
      have nks : L 11 = false := no_later hc hl (by kernel_rfl)
      refine wpOp_go (E := True) rfl rfl (fun K' hK => ?_)
      go_simp
      go_at_call 33
      refine (spec_l01Next _ _ _ (hW.sr nks) (by omega)).mono ?_
      rintro e' w5 ⟨r, rfl, ra, _, rb, hs5, hk5⟩
      have rc := rb (by omega)
      refine hK.out _ _ ⟨ρ.drawn 8 r, (by simp only [put, e7]; rfl), fun j hj => by
          have n9 : L 9 = false := no_later hc hl (by kernel_rfl)
          have n10 : L 10 = false := no_later hc n9 (by kernel_rfl)
          have n13 : L 13 = false := no_later hc n10 (by kernel_rfl)
          match j, hj with
          | 0, _ => rfl
          | 1, _ => rfl
          | 2, _ => rfl
          | 3, _ => rfl
          | 4, _ => rfl
          | 5, _ => rfl
          | 6, _ => rfl
          | 7, _ => rfl
          | 8, hj => rw [hl] at hj; cases hj
          | 9, hj => rw [n9] at hj; cases hj
          | 10, hj => rw [n10] at hj; cases hj
          | 11, _ => rfl
          | 12, _ => rfl
          | 13, hj => rw [n13] at hj; cases hj
          | _ + 14, _ => rfl, hW.call rfl (by omega) nks (by omega) hk5 hs5 (fun ⟨h1, h2⟩ => ⟨h1.keep hk5 (by omega), h2.keep hk5 (by omega)⟩) (by intro n hn; simp at hn; omega)⟩
    · have e6 : u 6 = .slice (some ⟨ρ.b 6, 0, none⟩) 5 5 := hu 6 (all_of hp (by kernel_rfl))
      have e8 : u 8 = .int .i64 (ρ.r 8) := hu 8 (all_of hp (by kernel_rfl))
      obtain ⟨ra3, rb3⟩ := hW.dr 3 (500) (by simp) (all_of (hc 6 (all_of hp (by kernel_rfl))) (by kernel_rfl))
      obtain ⟨ra5, rb5⟩ := hW.dr 5 (500) (by simp) (all_of (hc 6 (all_of hp (by kernel_rfl))) (by kernel_rfl))
      obtain ⟨ra8, rb8⟩ := hW.dr 8 (5) (by simp) (all_of hp (by kernel_rfl))
      obtain ⟨pk1, -, -, -, -⟩ := hW.pick (i := 6) (j := 8) (k := 5) (lo := -1) (hi := 1000000001) (n := 5) (by simp) (by simp) (by omega) (all_of hp (by kernel_rfl)) (all_of hp (by kernel_rfl))
      refine wpOp_go (E := True) rfl rfl (fun K' hK => ?_)
      go_simp
      refine hK.out _ _ ⟨ρ, (by simp only [put, e6, e8]; rfl), fun _ _ => rfl, hW.pure rfl rfl (by omega)⟩
    · have e9 : u 9 = .pointer (some ⟨ρ.b 6, (ρ.r 8).toNat, none⟩) := hu 9 (all_of hp (by kernel_rfl))
      obtain ⟨ra3, rb3⟩ := hW.dr 3 (500) (by simp) (all_of (hc 6 (all_of (hc 9 (all_of hp (by kernel_rfl))) (by kernel_rfl))) (by kernel_rfl))
      obtain ⟨ra5, rb5⟩ := hW.dr 5 (500) (by simp) (all_of (hc 6 (all_of (hc 9 (all_of hp (by kernel_rfl))) (by kernel_rfl))) (by kernel_rfl))
      obtain ⟨ra8, rb8⟩ := hW.dr 8 (5) (by simp) (all_of (hc 9 (all_of hp (by kernel_rfl))) (by kernel_rfl))
      obtain ⟨pk1, -, pk3, -, -⟩ := hW.pick (i := 6) (j := 8) (k := 5) (lo := -1) (hi := 1000000001) (n := 5) (by simp) (by simp) (by omega) (all_of (hc 9 (all_of hp (by kernel_rfl))) (by kernel_rfl)) (all_of (hc 9 (all_of hp (by kernel_rfl))) (by kernel_rfl))
      have pk4 := (hW.md 6 5 (-1) (1000000001) (by simp) (all_of (hc 9 (all_of hp (by kernel_rfl))) (by kernel_rfl))).2.cell (ρ.r 8).toNat (by rw [List.getElem?_map, pk3]; rfl)
      clear pk3
      refine wpOp_go (E := True) rfl rfl (fun K' hK => ?_)
      go_simp
      refine hK.out _ _ ⟨ρ, (by simp only [put, e9]; rfl), fun _ _ => rfl, hW.pure rfl rfl (by omega)⟩
    · have e0 : u 0 = .agg #[.slice A N.nodes.length c, .slice Bq N.pipes.length d] := hu 0 (all_of hp (by kernel_rfl))
      have hb0 := (hW.t0 hl).1
      have hyX := hb0.lt
      have xx0 := hb0.cell 0 rfl
      have xx1 := hb0.cell 1 rfl
      have xf0 := hb0.frozen 0 rfl
      have xf1 := hb0.frozen 1 rfl
      refine wpOp_go (E := True) rfl rfl (fun K' hK => ?_)
      go_simp
      refine hK.out _ _ ⟨ρ, (by simp only [put, e0]; rfl), fun _ _ => rfl, hW.store rfl rfl (by intro k q; omega) ((((Keep.refl (· = w.heap.size) _).one _).one _).wide fun k q => Or.inr q) (bx2 (by simp; omega) (by simp [go_sem, xx0, xx1]) (by simp [go_sem, xf0]) (by simp [go_sem, xx0, xx1]) (by simp [go_sem, xf1]))⟩
    · have e1 : u 1 = .slice Al l.length cl := hu 1 (all_of hp (by kernel_rfl))
      refine wpOp_go (E := True) rfl rfl (fun K' hK => ?_)
      go_simp
      refine hK.out _ _ ⟨ρ, (by simp only [put, e1]; rfl), fun _ _ => rfl, hW.pure rfl rfl (by omega)⟩
    · have e10 : u 10 = .int .i64 ((ρ.c 6).getD (ρ.r 8).toNat 0) := hu 10 (all_of hp (by kernel_rfl))
      obtain ⟨ra3, rb3⟩ := hW.dr 3 (500) (by simp) (all_of (hc 6 (all_of (hc 9 (all_of (hc 10 (all_of hp (by kernel_rfl))) (by kernel_rfl))) (by kernel_rfl))) (by kernel_rfl))
      obtain ⟨ra5, rb5⟩ := hW.dr 5 (500) (by simp) (all_of (hc 6 (all_of (hc 9 (all_of (hc 10 (all_of hp (by kernel_rfl))) (by kernel_rfl))) (by kernel_rfl))) (by kernel_rfl))
      obtain ⟨ra8, rb8⟩ := hW.dr 8 (5) (by simp) (all_of (hc 9 (all_of (hc 10 (all_of hp (by kernel_rfl))) (by kernel_rfl))) (by kernel_rfl))
      refine wpOp_go (E := True) rfl rfl (fun K' hK => ?_)
      go_simp
      refine hK.out _ _ ⟨ρ, (by simp only [put, e10]; rfl), fun _ _ => rfl, hW.pure rfl rfl (by omega)⟩
  · intro L ρ u wx hall hu hW
    have hb0 := hW.t1 (hall 11 (by show 11 < 14; omega))
    have cw0_0 := hb0.cell 0 rfl
    have cw0_1 := hb0.cell 1 rfl
    have e12 : u 12 = .slice Al l.length cl := hu 12 (by show 12 < 14; omega)
    have e13 : u 13 = .int .i64 ((ρ.c 6).getD (ρ.r 8).toNat 0) := hu 13 (by show 13 < 14; omega)
    have hkp := hW.kp
    have hpk := hW.pick (i := 6) (j := 8) (k := 5) (lo := -1) (hi := 1000000001) (n := 5) (by simp) (by simp) (by omega) (hall 6 (by show 6 < 14; omega)) (hall 8 (by show 8 < 14; omega))
    obtain ⟨-, -, -, hp1, hp2⟩ := hpk
    clear hu hall hW hb0
    go_wp2
    refine bodyPost_ret (by simp [results, Try.results18, go_sem, cw0_0, cw0_1]; try rfl) rfl ?_
    exact ⟨A, Bq, Al, c, d, cl, N, l, (ρ.c 6).getD (ρ.r 8).toNat 0, by simp [e12, e13, netV], hnc, HN3.out.keep hkp (fun b off e q => by have := HA.out b off e; omega) (fun b off e q => by have := HB.out b off e; omega), HL3.out.keep hkp (fun b off e q => by have := HAl.out b off e; omega), hl8, HBD.out, by omega, hkp.below HB3.out (by omega) (by intro k hq; omega)⟩
end Go.Proofs.Ytkagnkecgkmpcaa
namespace Go.Proofs.Ytkagnkecgkmpcaa
set_option linter.unusedVariables false
set_option linter.unusedSimpArgs false
open Go.RowKit
theorem laws_bigS (A : Option Addr) (n c : Nat) (w : World) : Calls Try.prog 6 #[.slice A n c] w fun e w' => e = .returned (.bool (decide (4096 < n))) ∧ w = w' := by
  go_enter Try.func6, Try.ntmps6
  go_wp2
  go_ret
  refine ⟨rb ?_, rfl⟩
  simp; omega
/-- what the law asks of the shares -/
theorem sp_plain {N : Net} {l R : List Int} {am : Int} (h : spR N l am = (R, 0)) : R.length = N.pipes.length ∧ sumF R = am ∧ Sml R ∧ N.pipes.length ≤ 40 ∧ ∀ (k : Nat) (p : Pp) (v : Int), N.pipes[k]? = some p → R[k]? = some v → p.vol = 0 → v = 0 := by
  by_cases h0 : lvC N l = 0
  case neg => rw [spR_1 h0] at h; injection h with _ e; exact absurd e h0
  cases h1 : inB am 0 1000000000
  · rw [spR_2 h0 h1] at h; injection h with _ e; cases e
  cases h2 : allB 0 1000000000 (pks N l)
  · rw [spR_3 h0 h1 h2] at h; injection h with _ e; cases e
  cases h3 : (sumF (pks N l) == 0)
  case true => rw [spR_4 h0 h1 h2 h3] at h; injection h with _ e; cases e
  rw [spR_5 h0 h1 h2 h3] at h
  injection h with hR _
  obtain ⟨hO, hv⟩ := lv_of h0
  have hsh := sp_ok hO h1 h2 h3
  have hs := hsh.s
  have hp := hO.p1
  have hsum : sumF R = am := by rw [← hR]; exact shares_sum hs
  have hnn : ∀ x ∈ pks N l, 0 ≤ x := fun x hx => (pks_bd hO hv x hx).1
  have hbd := shares_bd (t := am) hnn hs hsh.t0
  refine ⟨by rw [← hR, sharesF_len, pks_len], hsum, fun x hx => ?_, hp, fun k p v hk hv' hz => ?_⟩
  · rw [← hR] at hx
    have := hbd x hx
    rw [pks_len] at this
    have := hsh.t1
    omega
  · have hpk : (pks N l)[k]? = some 0 := by
      rw [pks, List.getElem?_map, hk]
      simp [packF, hz]
    refine vecF_zero (t := am) hnn hpk ?_
    rw [vecF, if_pos hs, hR]; exact hv'
set_option maxRecDepth 100000 in
set_option maxHeartbeats 8000000 in
theorem walk_FnSharedPacks (w : World) (A0 : Option Addr) (c0 : Nat) (l0 : List Int) (h0 : BytesIn w A0 l0) :
    Calls Try.prog 5 #[.slice A0 l0.length c0] w fun e w' => e = .returned (.bool true) ∧ Below w.heap.size w w' := by
  have HI := Lib.hid h0
  clear h0
  by_cases hbig : 4096 < l0.length
  · have b0 : decide (4096 < l0.length) = true := by simpa using hbig
    go_enter Try.func5, Try.ntmps5
    go_wp2_with ((go_at_call 6; refine (laws_bigS _ _ _ _).mono ?_; rintro e w' ⟨rfl, rfl⟩))
    go_ret
    exact ⟨rfl, by (repeat' (first | (with_reducible exact Below.refl _ _) | (with_reducible assumption) | (with_reducible refine Below.alloc ?_ ?_ _) | (with_reducible refine Below.drew ?_) | (with_reducible refine Below.drewN' ?_ _) | (with_reducible refine Below.setCell ?_ ?_ _) | (refine Below.via ?_ (by with_reducible assumption) ?_) | (with_reducible refine Below.via ?_ (Wd.h _) ?_) | go_size))⟩
  have b0 : decide (4096 < l0.length) = false := by simpa using hbig
  go_enter Try.func5, Try.ntmps5
  go_wp2_with ((go_at_call 6; refine (laws_bigS _ _ _ _).mono ?_; rintro e w' ⟨rfl, rfl⟩))
  
  refine (spec_DrawSharePack A0 c0 l0 _ (HI.out.below (by (repeat' (first | (with_reducible exact Below.refl _ _) | (with_reducible assumption) | (with_reducible refine Below.alloc ?_ ?_ _) | (with_reducible refine Below.drew ?_) | (with_reducible refine Below.drewN' ?_ _) | (with_reducible refine Below.setCell ?_ ?_ _) | (refine Below.via ?_ (by with_reducible assumption) ?_) | (with_reducible refine Below.via ?_ (Wd.h _) ?_) | go_size)))) (by omega)).mono ?_
  rintro e w1 ⟨A, Bq, Al, c, d, cl, N, l, am, rfl, hnc, hN, hL, hl8, hbd, ham, hb1⟩
  have hz1 := hb1.size
  have HN := Lib.hid hN
  have HL := Lib.hid hL
  obtain ⟨R, code, hR⟩ : ∃ R code, spR N l am = (R, code) := ⟨_, _, rfl⟩
  have HR := Lib.hid hR
  have hRl : R.length ≤ 1048576 := by have := spR_len (N := N) (lv := l) (am := am); rw [hR] at this; exact this
  clear hN hL hbd hR
  go_wp2_with fail
  
  refine (impl_SharePack _ _ _ _ _ _ _ _ N l am _ (HN.out.below (by (repeat' (first | (with_reducible exact Below.refl _ _) | (with_reducible assumption) | (with_reducible refine Below.alloc ?_ ?_ _) | (with_reducible refine Below.drew ?_) | (with_reducible refine Below.drewN' ?_ _) | (with_reducible refine Below.setCell ?_ ?_ _) | (refine Below.via ?_ (by with_reducible assumption) ?_) | (with_reducible refine Below.via ?_ (Wd.h _) ?_) | go_size)))) rfl rfl hnc (HL.out.below (by (repeat' (first | (with_reducible exact Below.refl _ _) | (with_reducible assumption) | (with_reducible refine Below.alloc ?_ ?_ _) | (with_reducible refine Below.drew ?_) | (with_reducible refine Below.drewN' ?_ _) | (with_reducible refine Below.setCell ?_ ?_ _) | (refine Below.via ?_ (by with_reducible assumption) ?_) | (with_reducible refine Below.via ?_ (Wd.h _) ?_) | go_size)))) (by omega)).mono ?_
  rintro e w2 ⟨A2, c2, rfl, hc2, hW2, hb2⟩
  rw [HR.out]
  rw [HR.out] at hW2
  rw [HR.out] at hc2
  have HR2 := Lib.hid hW2.rd
  clear hW2
  (obtain ⟨hcn, hfn⟩ := bcell hb2; have hz2 := hb2.size; (try simp at hz2); have Na_0 := hcn (w1.heap.size) (0) (by first | omega | (simp; done) | (simp; omega)); have Na_0f := hfn (w1.heap.size) (0) (by first | omega | (simp; done) | (simp; omega)); have Nhy_a : w1.heap.size < w2.heap.size := (by omega); have Na_1 := hcn (w1.heap.size) (1) (by first | omega | (simp; done) | (simp; omega)); have Na_1f := hfn (w1.heap.size) (1) (by first | omega | (simp; done) | (simp; omega)); simp [go_sem] at Na_0 Na_0f Na_1 Na_1f; clear hcn hfn; have a_0 := Na_0; have a_0f := Na_0f; have a_1 := Na_1; have a_1f := Na_1f; have hy_a := Nhy_a; clear Na_0 Na_0f Na_1 Na_1f Nhy_a)
  go_wp2_with fail
  refine (spec_SharePack _ _ _ _ _ _ _ _ N l am _ (HN.out.below (by (repeat' (first | (with_reducible exact Below.refl _ _) | (with_reducible assumption) | (with_reducible refine Below.alloc ?_ ?_ _) | (with_reducible refine Below.drew ?_) | (with_reducible refine Below.drewN' ?_ _) | (with_reducible refine Below.setCell ?_ ?_ _) | (refine Below.via ?_ (by with_reducible assumption) ?_) | (with_reducible refine Below.via ?_ (Wd.h _) ?_) | go_size)))) rfl rfl (HL.out.below (by (repeat' (first | (with_reducible exact Below.refl _ _) | (with_reducible assumption) | (with_reducible refine Below.alloc ?_ ?_ _) | (with_reducible refine Below.drew ?_) | (with_reducible refine Below.drewN' ?_ _) | (with_reducible refine Below.setCell ?_ ?_ _) | (refine Below.via ?_ (by with_reducible assumption) ?_) | (with_reducible refine Below.via ?_ (Wd.h _) ?_) | go_size)))) (by omega)).mono ?_
  rintro e w3 ⟨A3, c3, rfl, hc3, hW3, hb3⟩
  rw [HR.out]
  rw [HR.out] at hW3
  rw [HR.out] at hc3
  have HR3 := Lib.hid hW3.rd
  clear hW3
  (obtain ⟨hcn, hfn⟩ := bcell hb3; have hz3 := hb3.size; (try simp at hz3); have Na_0 := hcn (w1.heap.size) (0) (by first | omega | (simp; done) | (simp; omega)); have Na_0f := hfn (w1.heap.size) (0) (by first | omega | (simp; done) | (simp; omega)); have Nhy_a : w1.heap.size < w3.heap.size := (by omega); have Na_1 := hcn (w1.heap.size) (1) (by first | omega | (simp; done) | (simp; omega)); have Na_1f := hfn (w1.heap.size) (1) (by first | omega | (simp; done) | (simp; omega)); simp [go_sem, a_0, a_0f, a_1, a_1f, hy_a] at Na_0 Na_0f Na_1 Na_1f; clear a_0 a_0f a_1 a_1f hy_a; clear hcn hfn; have a_0 := Na_0; have a_0f := Na_0f; have a_1 := Na_1; have a_1f := Na_1f; have hy_a := Nhy_a; clear Na_0 Na_0f Na_1 Na_1f Nhy_a)
  go_wp2_with fail
  refine (laws_likeInts _ _ _ _ _ _ R _ (HR2.out.below (by (repeat' (first | (with_reducible exact Below.refl _ _) | (with_reducible assumption) | (with_reducible refine Below.alloc ?_ ?_ _) | (with_reducible refine Below.drew ?_) | (with_reducible refine Below.drewN' ?_ _) | (with_reducible refine Below.setCell ?_ ?_ _) | (refine Below.via ?_ (by with_reducible assumption) ?_) | (with_reducible refine Below.via ?_ (Wd.h _) ?_) | go_size)))) (HR3.out.below (by (repeat' (first | (with_reducible exact Below.refl _ _) | (with_reducible assumption) | (with_reducible refine Below.alloc ?_ ?_ _) | (with_reducible refine Below.drew ?_) | (with_reducible refine Below.drewN' ?_ _) | (with_reducible refine Below.setCell ?_ ?_ _) | (refine Below.via ?_ (by with_reducible assumption) ?_) | (with_reducible refine Below.via ?_ (Wd.h _) ?_) | go_size)))) rfl rfl hRl).mono ?_
  rintro e w4 ⟨rfl, hb4⟩
  (obtain ⟨hcn, hfn⟩ := bcell hb4; have hz4 := hb4.size; (try simp at hz4); have Na_0 := hcn (w1.heap.size) (0) (by first | omega | (simp; done) | (simp; omega)); have Na_0f := hfn (w1.heap.size) (0) (by first | omega | (simp; done) | (simp; omega)); have Nhy_a : w1.heap.size < w4.heap.size := (by omega); have Na_1 := hcn (w1.heap.size) (1) (by first | omega | (simp; done) | (simp; omega)); have Na_1f := hfn (w1.heap.size) (1) (by first | omega | (simp; done) | (simp; omega)); simp [go_sem, a_0, a_0f, a_1, a_1f, hy_a] at Na_0 Na_0f Na_1 Na_1f; clear a_0 a_0f a_1 a_1f hy_a; clear hcn hfn; have a_0 := Na_0; have a_0f := Na_0f; have a_1 := Na_1; have a_1f := Na_1f; have hy_a := Nhy_a; clear Na_0 Na_0f Na_1 Na_1f Nhy_a)
  by_cases e0 : code = 0
  · subst e0
    obtain ⟨q1, q2, q3, q4, q5⟩ := sp_plain HR.out
    have q1a : R.length ≤ N.pipes.length := by omega
    have q1b : N.pipes.length ≤ R.length := by omega
    have HQ := Lib.hid q5
    clear q1
    have HS := Lib.hid q3
    have HSum := Lib.hid q2
    have HB4 := Lib.hid (show Below w.heap.size w w4 by (repeat' (first | (with_reducible exact Below.refl _ _) | (with_reducible assumption) | (with_reducible refine Below.alloc ?_ ?_ _) | (with_reducible refine Below.drew ?_) | (with_reducible refine Below.drewN' ?_ _) | (with_reducible refine Below.setCell ?_ ?_ _) | (refine Below.via ?_ (by with_reducible assumption) ?_) | (with_reducible refine Below.via ?_ (Wd.h _) ?_) | go_size)))
    have HN4 := Lib.hid (HN.out.below (show Below w1.heap.size w1 w4 by (repeat' (first | (with_reducible exact Below.refl _ _) | (with_reducible assumption) | (with_reducible refine Below.alloc ?_ ?_ _) | (with_reducible refine Below.drew ?_) | (with_reducible refine Below.drewN' ?_ _) | (with_reducible refine Below.setCell ?_ ?_ _) | (refine Below.via ?_ (by with_reducible assumption) ?_) | (with_reducible refine Below.via ?_ (Wd.h _) ?_) | go_size))))
    have HR4 := Lib.hid (HR2.out.below (show Below w2.heap.size w2 w4 by (repeat' (first | (with_reducible exact Below.refl _ _) | (with_reducible assumption) | (with_reducible refine Below.alloc ?_ ?_ _) | (with_reducible refine Below.drew ?_) | (with_reducible refine Below.drewN' ?_ _) | (with_reducible refine Below.setCell ?_ ?_ _) | (refine Below.via ?_ (by with_reducible assumption) ?_) | (with_reducible refine Below.via ?_ (Wd.h _) ?_) | go_size))))
    have HBX := Lib.hid (show Bx w4 w1.heap.size [.slice A N.nodes.length c, .slice Bq N.pipes.length d] from bx2 hy_a a_0 a_0f a_1 a_1f)
    have hlt1 := HBX.out.lt
    clear q2 q3 q5 hb1 hb2 hb3 hb4 hy_a a_0 a_0f a_1 a_1f
    
    go_wp2_with fail
    go_loopw [10] (fun t wr => ∃ k : Nat, k ≤ N.pipes.length ∧ t = .int .i64 k ∧ Below w4.heap.size w4 wr) (fun t _ => N.pipes.length - (intOf t).toNat)
    case atStart => exact ⟨0, by omega, rfl, Below.refl _ _⟩
    case round =>
      obtain ⟨k, hk, rfl, hbw⟩ := hrel
      have hbH := Lib.hid hbw
      have hzw := hbw.size
      by_cases hlt : k < N.pipes.length
      · have HP := Lib.hid HN4.out.pipes
        obtain ⟨x, hx⟩ := get_some hlt; obtain ⟨bx, offx, rfl, hbx, hat⟩ := HP.out.opened (k := k) (by rw [flat_len Pp.len]; omega); have hat' := hat.below hbw hbx; have hybx : bx < wr.heap.size := Nat.lt_of_lt_of_le hbx hbw.size; have hzw := hbw.size; have t0 := hat'.elem0 Pp.len hx rfl; have t1 := hat'.elem Pp.len hx 1 rfl; have t2 := hat'.elem Pp.len hx 2 rfl; have t3 := hat'.elem Pp.len hx 3 rfl; have t4 := hat'.elem Pp.len hx 4 rfl; have HX := Lib.hid hx; have HD := Lib.hid (drop_cons hx); have gx : (k : Int) < _ := Int.ofNat_lt.2 hlt; clear hx hat hat'
        obtain ⟨y, hy⟩ := get_some (show k < R.length by omega)
        obtain ⟨b, off, rfl, hb, hat⟩ := HR4.out.opened (k := k) (by simp; omega)
        have s0 := ints_at (hat.below hbw hb) hy
        have hq := HQ.out k x y HX.out hy
        have g1 : (k : Int) < R.length := by omega
        have HB := HBX.out.below hbw hlt1
        have hy7 := HB.lt; have cw7_0 := HB.cell 0 rfl; have fw7_0 := HB.frozen 0 rfl; have cw7_1 := HB.cell 1 rfl; have fw7_1 := HB.frozen 1 rfl
        clear hy hat hbw HB
        by_cases hv : x.vol = 0
        · have hy0 := hq hv
          subst hy0
          have b7 : (x.vol == 0) = true := by simp [hv]
          clear hq hv
          go_wp2
          go_roundw
          case rel => exact ⟨k + 1, by omega, by go_num, hbH.out⟩
          case measure => simp [intOf]; omega
        · have b7 : (x.vol == 0) = false := by simp [hv]
          clear hq
          go_wp2
          go_roundw
          case rel => exact ⟨k + 1, by omega, by go_num, hbH.out⟩
          case measure => simp [intOf]; omega
      · obtain rfl : k = N.pipes.length := by omega
        have g1 : ¬ (N.pipes.length : Int) < R.length := by omega
        go_wp2_with fail
        refine (laws_sum _ _ _ R _ (HR4.out.below hbH.out) rfl hRl HS.out).mono ?_
        rintro e w6 ⟨rfl, rfl⟩
        rw [HSum.out]
        go_wp2
        go_ret
        exact ⟨rfl, by have h1 := hbH.out; have h2 := HB4.out; (repeat' (first | (with_reducible exact Below.refl _ _) | (with_reducible assumption) | (with_reducible refine Below.alloc ?_ ?_ _) | (with_reducible refine Below.drew ?_) | (with_reducible refine Below.drewN' ?_ _) | (with_reducible refine Below.setCell ?_ ?_ _) | (refine Below.via ?_ (by with_reducible assumption) ?_) | (with_reducible refine Below.via ?_ (Wd.h _) ?_) | go_size))⟩
  · have b1 : (code != 0) = true := by simp [e0]
    go_wp2
    go_ret
    exact ⟨rfl, by (repeat' (first | (with_reducible exact Below.refl _ _) | (with_reducible assumption) | (with_reducible refine Below.alloc ?_ ?_ _) | (with_reducible refine Below.drew ?_) | (with_reducible refine Below.drewN' ?_ _) | (with_reducible refine Below.setCell ?_ ?_ _) | (refine Below.via ?_ (by with_reducible assumption) ?_) | (with_reducible refine Below.via ?_ (Wd.h _) ?_) | go_size))⟩
end Go.Proofs.Ytkagnkecgkmpcaa

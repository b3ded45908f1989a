/- Matched orders: lists of orders with other amounts; more of the plain mathematics. -/
import Derived.Test.YtlkkhdbfccejjaaMtm
import Derived.Test.YtlkkhdbfccejjaaCpN
import Derived.Test.YtlkkhdbfccejjaaSht
namespace Go.Proofs.Ytlkkhdbfccejjaa
set_option linter.unusedVariables false
set_option linter.unusedSimpArgs false
open Go.RowKit
/-- orders with other amounts -/
def waF : List Ord → List Int → List Ord
  | x :: l, a :: am => ⟨x.sh, x.nd, a, x.cl⟩ :: waF l am
  | _, _ => []
theorem waF_len : ∀ {l : List Ord} {am : List Int}, am.length = l.length → (waF l am).length = l.length
  | [], am, h => by cases am <;> simp [waF]
  | x :: l, [], h => by simp at h
  | x :: l, a :: am, h => by simp only [waF, List.length_cons]; rw [waF_len (by simpa using h)]
theorem waF_self : ∀ l : List Ord, waF l (l.map (fun x => x.am)) = l
  | [] => rfl
  | x :: l => by simp only [List.map_cons, waF, waF_self l]
theorem waF_get : ∀ {l : List Ord} {am : List Int} {k : Nat} {x : Ord} {a : Int}, l[k]? = some x → am[k]? = some a → (waF l am)[k]? = some ⟨x.sh, x.nd, a, x.cl⟩
  | x' :: l, a' :: am, 0, x, a, h1, h2 => by simp at h1 h2; subst h1 h2; simp [waF]
  | x' :: l, a' :: am, k + 1, x, a, h1, h2 => by
    simp only [waF, List.getElem?_cons_succ] at h1 h2 ⊢
    exact waF_get h1 h2
theorem waF_set : ∀ {l : List Ord} {am : List Int} {p : Nat} (a : Int), am.length = l.length → p < l.length → ((waF l am).flatMap Ord.cells).set (p * 4 + 2) (iV a) = (waF l (am.set p a)).flatMap Ord.cells
  | [], am, p, a, h, hp => by simp at hp
  | x :: l, [], p, a, h, hp => by simp at h
  | x :: l, b :: am, 0, a, h, hp => by simp [waF, Ord.cells]
  | x :: l, b :: am, p + 1, a, h, hp => by
    have ih := waF_set (l := l) (am := am) (p := p) a (by simpa using h) (by simpa using hp)
    simp only [waF, List.set_cons_succ, List.flatMap_cons]
    rw [List.set_append_right _ _ (by simp [Ord.cells]; omega)]
    rw [show (p + 1) * 4 + 2 - (Ord.cells (⟨x.sh, x.nd, b, x.cl⟩ : Ord)).length = p * 4 + 2 by simp [Ord.cells]; omega, ih]
theorem wrF_take {sg : Int} : ∀ {ps ys am : List Int} {i : Nat} {p y : Int}, ps[i]? = some p → ys[i]? = some y → wrF sg (ps.take (i + 1)) (ys.take (i + 1)) am = (wrF sg (ps.take i) (ys.take i) am).set p.toNat (sg * y)
  | p' :: ps, y' :: ys, am, 0, p, y, h1, h2 => by simp at h1 h2; subst h1 h2; simp [wrF]
  | p' :: ps, y' :: ys, am, i + 1, p, y, h1, h2 => by
    simp only [List.take_succ_cons, wrF]
    exact wrF_take (ps := ps) (ys := ys) (by simpa using h1) (by simpa using h2)
theorem mrgF_none {sg : Int} : ∀ {ps vs zs : List Int}, (∀ x ∈ ps, ¬ 0 < x) → mrgF sg ps vs zs = zs
  | [], vs, zs, h => by simp [mrgF]
  | p :: ps, [], zs, h => by simp [mrgF]
  | p :: ps, v :: vs, [], h => by simp [mrgF]
  | p :: ps, v :: vs, a :: zs, h => by
    have h0 := h p (by simp)
    simp only [mrgF, if_neg h0]
    rw [mrgF_none (fun x hx => h x (by simp [hx]))]
theorem posW_nil : ∀ {ps : List Int}, posW ps = [] → ∀ x ∈ ps, ¬ 0 < x
  | [], h, x, hx => by simp at hx
  | p :: ps, h, x, hx => by
    unfold posW at h
    split at h
    · cases h
    · rename_i hp
      rcases List.mem_cons.1 hx with rfl | hx
      · exact hp
      · exact posW_nil h x hx
theorem posF_mem : ∀ {ps : List Int} {k : Nat} {p : Int}, p ∈ posF k ps → (k : Int) ≤ p ∧ p < k + ps.length
  | [], k, p, h => by simp [posF] at h
  | x :: ps, k, p, h => by
    unfold posF at h
    split at h
    · rcases List.mem_cons.1 h with rfl | h
      · simp; omega
      · have := posF_mem h; simp; omega
    · have := posF_mem h; simp; omega
theorem posF_step {ps : List Int} {k : Nat} {x : Int} (h : ps[k]? = some x) : posF k (ps.drop k) = if 0 < x then (k : Int) :: posF (k + 1) (ps.drop (k + 1)) else posF (k + 1) (ps.drop (k + 1)) := by
  rw [drop_consI h, posF]
theorem posW_step {ps : List Int} {k : Nat} {x : Int} (h : ps[k]? = some x) : posW (ps.drop k) = if 0 < x then x :: posW (ps.drop (k + 1)) else posW (ps.drop (k + 1)) := by
  rw [drop_consI h, posW]
theorem parts_at {s sg : Int} {l : List Ord} {k : Nat} {x : Ord} (h : l[k]? = some x) : (partsF s sg l)[k]? = some (part1 s sg x) := by simp [partsF, h]
theorem parts_sum (s sg : Int) (l : List Ord) : sumF (partsF s sg l) = totF s sg l := sum_parts s sg l
theorem totM_bd {s : Int} {l : List Ord} (ha : AmOk l) (hl : l.length ≤ 40) : 0 ≤ totM s l ∧ totM s l ≤ 1200000 := by
  have h1 := tot_bd (sh := s) (sg := 1) (.inl rfl) ha
  have h2 := tot_bd (sh := s) (sg := -1) (.inr rfl) ha
  unfold totM; omega
theorem parts_bd {s sg : Int} {l : List Ord} (hs : sg = 1 ∨ sg = -1) (ha : AmOk l) : ∀ x ∈ partsF s sg l, 0 ≤ x ∧ x ≤ 30000 := fun x hx => by
  obtain ⟨y, hy, rfl⟩ := List.mem_map.1 hx
  exact part1_bd hs (ha y hy)
theorem mt_ok {s sg : Int} {l : List Ord} (hs : sg = 1 ∨ sg = -1) (ha : AmOk l) (hl : l.length ≤ 40) (hne : posW (partsF s sg l) ≠ []) : ShOk (totM s l) (posW (partsF s sg l)) := by
  have hb := totM_bd (s := s) ha hl
  have hlen := posW_len (partsF s sg l)
  rw [partsF_len] at hlen
  have hm : ∀ x ∈ posW (partsF s sg l), 0 < x ∧ x ≤ 30000 := fun x hx => by
    have := posW_mem hx
    have := parts_bd hs ha x this.1
    omega
  refine ⟨by omega, fun x hx => by have := hm x hx; omega, hb.1, by omega, ?_⟩
  cases he : posW (partsF s sg l) with
  | nil => exact absurd he hne
  | cons y ys =>
    rw [he] at hm
    have h1 := hm y (by simp)
    have h2 := sumF_nonneg (l := ys) (fun z hz => by have := hm z (by simp [hz]); omega)
    simp only [sumF]; omega
/-- the amounts behind one direction -/
theorem mt_write {s sg : Int} {l : List Ord} {am : List Int} (hs : sg = 1 ∨ sg = -1) (ha : AmOk l) (hl : l.length ≤ 40) (hne : posW (partsF s sg l) ≠ []) (hm : am.length = l.length) : wrF sg (posF 0 (partsF s sg l)) (sharesF (totM s l) (posW (partsF s sg l))) am = mrgF sg (partsF s sg l) (vecF (totM s l) (partsF s sg l)) am := by
  have hk := mt_ok hs ha hl hne
  have hn := parts_nn s sg l
  have hsum := hk.s
  rw [posW_sum hn] at hsum
  have h1 := wrF_mrg sg (ps := partsF s sg l) (ys := sharesF (totM s l) (posW (partsF s sg l))) (zs := am) (pre := []) (by rw [sharesF_len]) (by rw [partsF_len]; exact hm)
  simp only [List.length_nil, List.nil_append] at h1
  rw [h1, vecF, if_pos hsum, ← shares_ex hn hsum]
theorem mt_none {s sg : Int} {l : List Ord} {am : List Int} (hne : posW (partsF s sg l) = []) : mrgF sg (partsF s sg l) (vecF (totM s l) (partsF s sg l)) am = am := mrgF_none (posW_nil hne)
/-- the amounts behind j directions of shipper s -/
def halfI (s : Int) (l : List Ord) (am : List Int) : Nat → List Int
  | 0 => am
  | 1 => mrgF 1 (partsF s 1 l) (vecF (totM s l) (partsF s 1 l)) am
  | _ => stepI s l am
theorem halfI_len (s : Int) (l : List Ord) (am : List Int) : ∀ j, (halfI s l am j).length = am.length
  | 0 => rfl
  | 1 => by simp [halfI, mrgF_len]
  | j + 2 => by simp [halfI, stepI_len]
def sgn (j : Nat) : Int := if j = 0 then 1 else -1
theorem sgn_or (j : Nat) : sgn j = 1 ∨ sgn j = -1 := by unfold sgn; split <;> simp
theorem halfI_step (s : Int) (l : List Ord) (am : List Int) (j : Nat) (hj : j < 2) : halfI s l am (j + 1) = mrgF (sgn j) (partsF s (sgn j) l) (vecF (totM s l) (partsF s (sgn j) l)) (halfI s l am j) := by
  rcases j with _ | _ | j
  · rfl
  · rfl
  · omega
theorem shares_bd2 {s sg : Int} {l : List Ord} (hs : sg = 1 ∨ sg = -1) (ha : AmOk l) (hl : l.length ≤ 40) (hne : posW (partsF s sg l) ≠ []) : ∀ x ∈ sharesF (totM s l) (posW (partsF s sg l)), 0 ≤ x ∧ x ≤ 1300000 := fun x hx => by
  have hk := mt_ok hs ha hl hne
  have := shares_bd (t := totM s l) (ws := posW (partsF s sg l)) (fun y hy => (hk.w0 y hy).1) hk.s hk.t0 x hx
  have := totM_bd (s := s) ha hl
  have := hk.n
  omega
end Go.Proofs.Ytlkkhdbfccejjaa

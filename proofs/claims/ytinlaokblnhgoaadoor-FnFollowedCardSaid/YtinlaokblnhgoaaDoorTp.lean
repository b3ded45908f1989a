/- Numbers read from a text: plain. -/
import Derived.Lib.ParseIntBTie
import Derived.Lib.SplitLaws
import Derived.Lib.ItoaLen
import Derived.Lib.Join
namespace Go.Proofs.YtinlaokblnhgoaaDoor
set_option linter.unusedVariables false
set_option linter.unusedSimpArgs false
open Go.Lib
def isD (c : UInt8) : Prop := 48 ≤ c.toNat ∧ c.toNat ≤ 57
instance (c : UInt8) : Decidable (isD c) := inferInstanceAs (Decidable (_ ∧ _))
/-- what digits spell -/
def dgV (a : Nat) (l : List UInt8) : Nat := l.foldl (fun a c => a * 10 + (c.toNat - 48)) a
theorem dgV_nil (a : Nat) : dgV a [] = a := rfl
theorem dgV_cons (a : Nat) (c : UInt8) (r : List UInt8) : dgV a (c :: r) = dgV (a * 10 + (c.toNat - 48)) r := by
  unfold dgV; rw [List.foldl_cons]
theorem dgV_snoc (l : List UInt8) (a : Nat) (c : UInt8) : dgV a (l ++ [c]) = dgV a l * 10 + (c.toNat - 48) := by
  unfold dgV; rw [List.foldl_append]; rfl
theorem dgV_append (l r : List UInt8) (a : Nat) : dgV a (l ++ r) = dgV (dgV a l) r := by
  unfold dgV; rw [List.foldl_append]
attribute [irreducible] dgV
theorem dgV_ge (l : List UInt8) : ∀ (a : Nat), a ≤ dgV a l := by
  induction l with
  | nil => intro a; rw [dgV_nil]; exact Nat.le_refl _
  | cons c r ih => intro a; rw [dgV_cons]; exact Nat.le_trans (by omega) (ih _)
theorem dgV_lt (l : List UInt8) : (∀ c ∈ l, isD c) → ∀ (k a : Nat), a < 10 ^ k → dgV a l < 10 ^ (k + l.length) := by
  induction l with
  | nil => intro _ k a h; rw [dgV_nil]; exact h
  | cons c r ih =>
    intro hd k a h
    have h1 := hd c (by simp)
    have h2 : a * 10 + (c.toNat - 48) < 10 ^ (k + 1) := by rw [Nat.pow_succ]; unfold isD at h1; omega
    have := ih (fun x hx => hd x (by simp [hx])) (k + 1) _ h2
    rw [dgV_cons, List.length_cons, show k + (r.length + 1) = k + 1 + r.length by omega]; exact this
theorem u8_toNat {n : Nat} (h : n < 10) : (UInt8.ofNat (48 + n)).toNat = 48 + n := by
  rw [UInt8.toNat_ofNat']; omega
theorem dec_dig (u : Nat) : (∀ c ∈ decDigits u, isD c) ∧ dgV 0 (decDigits u) = u := by
  induction u using Nat.strongRecOn with
  | _ u ih =>
    by_cases h : u < 10
    · rw [decDigits, dif_pos h]
      refine ⟨fun c hc => ?_, ?_⟩
      · have hc := List.mem_singleton.1 hc; subst hc; unfold isD; rw [u8_toNat h]; omega
      · rw [dgV_cons, dgV_nil, u8_toNat h]; omega
    · obtain ⟨i1, i2⟩ := ih (u / 10) (by omega)
      rw [decDigits, dif_neg h]
      refine ⟨fun c hc => ?_, ?_⟩
      · rcases List.mem_append.1 hc with h1 | h1
        · exact i1 c h1
        · have h1 := List.mem_singleton.1 h1; subst h1; unfold isD; rw [u8_toNat (by omega)]; omega
      · rw [dgV_snoc, i2, u8_toNat (by omega)]; omega
theorem dec_ne (u : Nat) : decDigits u ≠ [] := fun e => by
  have h1 := decDigits_length u
  have h2 := nDigits_pos u
  rw [e] at h1; simp at h1; omega
theorem parseM {M : Nat} (hM : M ≤ 18446744073709551615) (l : List UInt8) : ∀ (a : Nat), (∀ c ∈ l, isD c) → dgV a l ≤ M → parseUintM M a l = .ok (dgV a l) := by
  induction l with
  | nil => intro a _ _; rw [dgV_nil]; rfl
  | cons c r ih =>
    intro a hd hm
    have h1 : 48 ≤ c.toNat ∧ c.toNat ≤ 57 := hd c (by simp)
    rw [dgV_cons] at hm
    have h2 := dgV_ge r (a * 10 + (c.toNat - 48))
    unfold parseUintM
    rw [if_pos h1, if_neg (by omega), if_neg (by omega), dgV_cons]
    exact ih _ (fun x hx => hd x (by simp [hx])) hm
theorem parseB_dec {u : Nat} (h : u ≤ 18446744073709551615) : parseUintB 64 (decDigits u) = .ok u := by
  unfold parseUintB
  rw [if_neg (dec_ne u)]
  have h2 := (dec_dig u).2
  have := parseM (M := 2 ^ 64 - 1) (by decide) (decDigits u) 0 (dec_dig u).1 (by rw [h2]; exact h)
  rw [this, h2]
theorem parse_itoa {n : Int} (h : -9223372036854775808 ≤ n ∧ n ≤ 9223372036854775807) : parseIntB 64 (itoa n) = .ok n := by
  unfold itoa
  by_cases hn : n < 0
  · rw [if_pos hn, parseIntB_minus, parseB_dec (by omega)]
    show (if (2 ^ 63 : Nat) < n.natAbs then NumEnd.range else .ok (-(n.natAbs : Int))) = _
    rw [if_neg (by omega), show -(n.natAbs : Int) = n by omega]
  · rw [if_neg hn]
    have hd := (dec_dig n.toNat).1
    have hp := parseB_dec (u := n.toNat) (by omega)
    cases e : decDigits n.toNat with
    | nil => exact absurd e (dec_ne _)
    | cons c r =>
      rw [e] at hd hp
      have h1 := hd c (by simp)
      unfold isD at h1
      rw [parseIntB_plain 64 c r (by omega) (by omega), hp]
      show (if (2 ^ 63 : Nat) ≤ n.toNat then NumEnd.range else .ok (n.toNat : Int)) = _
      rw [if_neg (by omega), show (n.toNat : Int) = n by omega]
/-- the number that a word is, in its own form -/
def rdN (l : List UInt8) : Option Int := match parseIntB 64 l with
  | .ok n => if itoa n = l then some n else none
  | _ => none
theorem rdN_itoa {n : Int} (h : -9223372036854775808 ≤ n ∧ n ≤ 9223372036854775807) : rdN (itoa n) = some n := by
  unfold rdN; rw [parse_itoa h]; simp
theorem rdN_some {l : List UInt8} {n : Int} (h : rdN l = some n) : itoa n = l ∧ -9223372036854775808 ≤ n ∧ n ≤ 9223372036854775807 := by
  unfold rdN at h
  cases e : parseIntB 64 l with
  | ok m =>
    rw [e] at h
    by_cases hm : itoa m = l
    · simp [hm] at h; subst h
      have := parseIntB_bounds e
      exact ⟨hm, by omega, by omega⟩
    · simp [hm] at h
  | _ => rw [e] at h; cases h
/-- a number of at most eighteen digits -/
def rdV (l : List UInt8) : Option Int := if 1 ≤ l.length ∧ l.length ≤ 18 ∧ (∀ c ∈ l, isD c) ∧ decDigits (dgV 0 l) = l then some (dgV 0 l : Int) else none
theorem rdV_iff {l : List UInt8} {n : Int} : rdV l = some n ↔ rdN l = some n ∧ 0 ≤ n ∧ l.length ≤ 18 := by
  unfold rdV
  constructor
  · intro h
    split at h
    · rename_i hc
      injection h with h; subst h
      obtain ⟨h1, h2, h3, h4⟩ := hc
      have hb := dgV_lt l h3 0 0 (by simp)
      have hb2 : 10 ^ (0 + l.length) ≤ 10 ^ 18 := Nat.pow_le_pow_right (by omega) (by omega)
      have hi : itoa ((dgV 0 l : Nat) : Int) = l := by rw [itoa_nonneg]; exact h4
      refine ⟨?_, by omega, h2⟩
      have h5 := rdN_itoa (n := ((dgV 0 l : Nat) : Int)) (by constructor <;> omega)
      rw [hi] at h5; exact h5
    · cases h
  · rintro ⟨h, h0, hl⟩
    obtain ⟨hi, hb⟩ := rdN_some h
    obtain ⟨k, rfl⟩ : ∃ k : Nat, n = k := ⟨n.toNat, by omega⟩
    rw [itoa_nonneg] at hi
    subst hi
    obtain ⟨d1, d2⟩ := dec_dig k
    rw [if_pos ⟨by rw [decDigits_length]; exact nDigits_pos k, hl, d1, by rw [d2]⟩, d2]
/-- all of a list, or none -/
def mapO {α β : Type} (f : α → Option β) : List α → Option (List β)
  | [] => some []
  | x :: r => match f x, mapO f r with
    | some y, some l => some (y :: l)
    | _, _ => none
theorem mapO_cons {α β : Type} {f : α → Option β} {x : α} {r : List α} {z : List β} : mapO f (x :: r) = some z ↔ ∃ y l, f x = some y ∧ mapO f r = some l ∧ z = y :: l := by
  rw [show mapO f (x :: r) = (match f x, mapO f r with | some y, some l => some (y :: l) | _, _ => none) from rfl]
  constructor
  · intro h
    cases h1 : f x with
    | none => rw [h1] at h; cases h
    | some y =>
      cases h2 : mapO f r with
      | none => rw [h1, h2] at h; cases h
      | some l => rw [h1, h2] at h; injection h with h; exact ⟨y, l, rfl, rfl, h.symm⟩
  · rintro ⟨y, l, h1, h2, rfl⟩
    rw [h1, h2]
theorem mapO_length {α β : Type} {f : α → Option β} : ∀ {l : List α} {z : List β}, mapO f l = some z → z.length = l.length
  | [], z, h => by simp [mapO] at h; subst h; rfl
  | x :: r, z, h => by
    obtain ⟨y, l, _, h2, rfl⟩ := mapO_cons.1 h
    simp [mapO_length h2]
theorem mapO_snoc {α β : Type} {f : α → Option β} {x : α} {y : β} : ∀ {l : List α} {z : List β}, mapO f l = some z → f x = some y → mapO f (l ++ [x]) = some (z ++ [y])
  | [], z, h, hy => by simp [mapO] at h; subst h; simp [mapO, hy]
  | a :: r, z, h, hy => by
    obtain ⟨b, l, h1, h2, rfl⟩ := mapO_cons.1 h
    exact mapO_cons.2 ⟨b, l ++ [y], h1, mapO_snoc h2 hy, rfl⟩
theorem mapO_none {α β : Type} {f : α → Option β} {x : α} (hx : f x = none) : ∀ (l : List α), x ∈ l → mapO f l = none
  | a :: r, h => by
    cases e : mapO f (a :: r) with
    | none => rfl
    | some z =>
      obtain ⟨b, l, h1, h2, rfl⟩ := mapO_cons.1 e
      rcases List.mem_cons.1 h with rfl | h'
      · rw [hx] at h1; cases h1
      · rw [mapO_none hx r h'] at h2; cases h2
theorem mapO_NV : ∀ (ws : List (List UInt8)) (l : List Int), mapO rdV ws = some l ↔ mapO rdN ws = some l ∧ (∀ x ∈ l, 0 ≤ x) ∧ ∀ w ∈ ws, w.length ≤ 18
  | [], l => by
    constructor
    · intro h; refine ⟨h, ?_, by simp⟩; simp [mapO] at h; subst h; simp
    · exact fun h => h.1
  | w :: ws, l => by
    constructor
    · intro h
      obtain ⟨y, z, h1, h2, rfl⟩ := mapO_cons.1 h
      obtain ⟨a1, a2, a3⟩ := rdV_iff.1 h1
      obtain ⟨b1, b2, b3⟩ := (mapO_NV ws z).1 h2
      exact ⟨mapO_cons.2 ⟨y, z, a1, b1, rfl⟩, fun x hx => by rcases List.mem_cons.1 hx with rfl | h; exact a2; exact b2 x h, fun x hx => by rcases List.mem_cons.1 hx with rfl | h; exact a3; exact b3 x h⟩
    · rintro ⟨h, h0, hl⟩
      obtain ⟨y, z, h1, h2, rfl⟩ := mapO_cons.1 h
      exact mapO_cons.2 ⟨y, z, rdV_iff.2 ⟨h1, h0 y (by simp), hl w (by simp)⟩, (mapO_NV ws z).2 ⟨h2, fun x hx => h0 x (by simp [hx]), fun x hx => hl x (by simp [hx])⟩, rfl⟩
theorem mapO_map {α β : Type} {f : α → Option β} {g : β → α} (Q : β → Prop) (h : ∀ y, Q y → f (g y) = some y) : ∀ (l : List β), (∀ y ∈ l, Q y) → mapO f (l.map g) = some l
  | [], _ => rfl
  | y :: l, hq => mapO_cons.2 ⟨y, l, h y (hq y (by simp)), mapO_map Q h l (fun x hx => hq x (by simp [hx])), rfl⟩
theorem mapO_spell : ∀ {ws : List (List UInt8)} {l : List Int}, mapO rdN ws = some l → ws = l.map itoa ∧ ∀ x ∈ l, -9223372036854775808 ≤ x ∧ x ≤ 9223372036854775807
  | [], l, h => by simp [mapO] at h; subst h; simp
  | w :: ws, l, h => by
    obtain ⟨y, z, h1, h2, rfl⟩ := mapO_cons.1 h
    obtain ⟨a1, a2⟩ := rdN_some h1
    obtain ⟨b1, b2⟩ := mapO_spell h2
    exact ⟨by rw [List.map_cons, a1, ← b1], fun x hx => by rcases List.mem_cons.1 hx with rfl | h; exact a2; exact b2 x h⟩
/-- a text cut at every occurrence of a byte -/
def glue (p : List UInt8) : List (List UInt8) → List (List UInt8)
  | [] => [p]
  | x :: r => (p ++ x) :: r
def spl (c : UInt8) : List UInt8 → List (List UInt8)
  | [] => [[]]
  | b :: l => if b = c then [] :: spl c l else glue [b] (spl c l)
theorem spl_ne (c : UInt8) : ∀ l, spl c l ≠ []
  | [] => by simp [spl]
  | b :: l => by
    unfold spl; split
    · simp
    · cases spl c l <;> simp [glue]
theorem glue_nil {l : List (List UInt8)} (h : l ≠ []) : glue [] l = l := by
  cases l with
  | nil => exact absurd rfl h
  | cons x r => simp [glue]
theorem glue_glue (p q : List UInt8) (l : List (List UInt8)) (h : l ≠ []) : glue p (glue q l) = glue (p ++ q) l := by
  cases l with
  | nil => exact absurd rfl h
  | cons x r => simp [glue]
theorem spl_cons_ne {c b : UInt8} {l : List UInt8} (h : b ≠ c) : spl c (b :: l) = glue [b] (spl c l) := by rw [spl, if_neg h]
theorem spl_cons_eq {c : UInt8} {l : List UInt8} : spl c (c :: l) = [] :: spl c l := by rw [spl, if_pos rfl]
theorem index_cons_eq (c : UInt8) (l : List UInt8) : index (c :: l) [c] = ((0 : Nat) : Int) := by rw [index]; simp [List.isPrefixOf]
theorem index_cons_ne {b c : UInt8} (l : List UInt8) (h : b ≠ c) : index (b :: l) [c] = if index l [c] == -1 then -1 else index l [c] + 1 := by
  have hp : ([c] : List UInt8).isPrefixOf (b :: l) = false := by simp [List.isPrefixOf, Ne.symm h]
  rw [index, hp]; simp
theorem splitK_hit {sep : List UInt8} {k i : Nat} {s : List UInt8} (h : index s sep = i) : splitK sep 0 (k + 1) s = s.take i :: splitK sep 0 k (s.drop (i + sep.length)) := by
  have hm : ¬ (index s sep == -1) = true := fun e => by have := beq_iff_eq.1 e; omega
  rw [splitK, if_neg hm, show (index s sep).toNat = i by omega]; rfl
theorem spl_splitK (c : UInt8) : ∀ s, splitK [c] 0 (count s [c]) s = spl c s
  | [] => by rw [count_miss (by simp [index])]; rfl
  | b :: l => by
    have ih := spl_splitK c l
    by_cases h : b = c
    · subst h
      rw [count_cons_eq, Nat.add_comm, splitK_hit (index_cons_eq b l), spl_cons_eq, ← ih]
      simp
    · rw [count_cons_ne b c l h, spl_cons_ne h]
      by_cases hm : index l [c] = -1
      · rw [count_miss hm] at ih ⊢
        rw [← ih]; rfl
      · have hge := index_ge l [c]
        obtain ⟨j, hj⟩ : ∃ j : Nat, index l [c] = j := ⟨(index l [c]).toNat, by omega⟩
        have hix : index (b :: l) [c] = ((j + 1 : Nat) : Int) := by rw [index_cons_ne l h, if_neg (fun e => hm (beq_iff_eq.1 e)), hj]; omega
        have hc := count_hit (sub := [c]) (by simp) hj
        rw [hc, Nat.add_comm 1, splitK_hit hj] at ih
        rw [hc, Nat.add_comm 1, splitK_hit hix, ← ih]
        simp [glue]
theorem splitB_spl (c : UInt8) (s : ByteArray) : (splitB ⟨#[c]⟩ 0 (countB s ⟨#[c]⟩) s).map (·.data.toList) = spl c s.data.toList := by
  rw [splitB_data]; exact spl_splitK c _
theorem spl_length (c : UInt8) : ∀ s, (spl c s).length ≤ s.length + 1
  | [] => by simp [spl]
  | b :: l => by
    have := spl_length c l
    have hn := spl_ne c l
    unfold spl; split
    · simp; omega
    · cases e : spl c l with
      | nil => exact absurd e hn
      | cons x r => rw [e] at this; simp [glue] at this ⊢; omega
/-- what was joined is cut again -/
theorem spl_word (c : UInt8) : ∀ (w r : List UInt8), (∀ b ∈ w, b ≠ c) → spl c (w ++ c :: r) = w :: spl c r
  | [], r, _ => spl_cons_eq
  | b :: w, r, h => by
    rw [List.cons_append, spl_cons_ne (h b (by simp)), spl_word c w r (fun x hx => h x (by simp [hx]))]; rfl
theorem spl_last (c : UInt8) : ∀ (w : List UInt8), (∀ b ∈ w, b ≠ c) → spl c w = [w]
  | [], _ => rfl
  | b :: w, h => by rw [spl_cons_ne (h b (by simp)), spl_last c w (fun x hx => h x (by simp [hx]))]; rfl
theorem spl_join (c : UInt8) : ∀ (x : List UInt8) (ws : List (List UInt8)), (∀ w ∈ x :: ws, ∀ b ∈ w, b ≠ c) → spl c (join (x :: ws) [c]) = x :: ws
  | x, [], h => by rw [join_cons]; simp [joinTail]; exact spl_last c x (h x (by simp))
  | x, y :: ws, h => by
    have ih := spl_join c y ws (fun w hw => h w (by simp [hw]))
    rw [join_cons] at ih ⊢
    have e : joinTail [c] (y :: ws) = c :: (y ++ joinTail [c] ws) := by simp [joinTail]
    rw [e, spl_word c x _ (h x (by simp)), ih]
theorem itoa_bytes {n : Int} {b : UInt8} (h : b ∈ itoa n) : b.toNat = 45 ∨ isD b := by
  unfold itoa at h
  split at h
  · rcases List.mem_cons.1 h with rfl | h'
    · exact .inl rfl
    · exact .inr ((dec_dig _).1 b h')
  · exact .inr ((dec_dig _).1 b h)
end Go.Proofs.YtinlaokblnhgoaaDoor

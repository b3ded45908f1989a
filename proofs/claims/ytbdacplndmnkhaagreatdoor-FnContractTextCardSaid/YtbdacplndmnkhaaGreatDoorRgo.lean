/- A drawn region by an invariant (for seats without networks; as Rg). -/
import Derived.Orders
import Derived.Test.YtbdacplndmnkhaaGreatDoorAQ
namespace Go.Proofs.YtbdacplndmnkhaaGreatDoor
set_option linter.unusedVariables false
set_option linter.unusedSimpArgs false
open Go.RowKit
/-- The numbers of the operations that must have come up before number i. -/
def before (ops : Array Oper) (i : Nat) : List Nat :=
  ((ops[i]?).map (fun o => (o.after.toList.filter (Region.binds .any)).map (·.on))).getD []
/-- Each operation waits for elder ones only. -/
def elder (ops : Array Oper) : Bool := (List.range ops.size).all fun i => (before ops i).all (· < i)
def upd (L : Nat → Bool) (i : Nat) : Nat → Bool := fun j => L j || j == i
@[simp] theorem upd_self (L : Nat → Bool) (i : Nat) : upd L i i = true := by simp [upd]
theorem upd_ne {L : Nat → Bool} {i j : Nat} (h : j ≠ i) : upd L i j = L j := by simp [upd, h]
theorem upd_of {L : Nat → Bool} {i j : Nat} (h : L j = true) : upd L i j = true := by simp [upd, h]
theorem upd_cases {L : Nat → Bool} {i j : Nat} (h : upd L i j = true) : L j = true ∨ j = i := by simpa [upd] using h
theorem countP_lt {l : List Nat} {p q : Nat → Bool} (h : ∀ j, q j = true → p j = true) {i : Nat} (hi : i ∈ l) (hp : p i = true) (hq : q i = false) : l.countP q < l.countP p := by
  induction l with
  | nil => cases hi
  | cons x l ih =>
    have hle : l.countP q ≤ l.countP p := List.countP_mono_left fun j _ hj => h j hj
    rw [List.countP_cons, List.countP_cons]
    rcases List.mem_cons.1 hi with rfl | hi
    · simp [hp, hq]; omega
    · have := ih hi
      cases hx : q x
      · simp; split <;> omega
      · simp [h x hx]; omega
variable {P : Program} {ops : Array Oper} {Q : Exit → Act → World → Prop}
theorem mem_before {i e : Nat} (h : e ∈ before ops i) : ∃ o x, ops[i]? = some o ∧ x ∈ o.after ∧ Region.binds .any x = true ∧ x.on = e := by
  unfold before at h
  cases ho : ops[i]? with
  | none => rw [ho] at h; simp at h
  | some o =>
    rw [ho] at h
    simp only [Option.map_some, Option.getD_some, List.mem_map, List.mem_filter] at h
    obtain ⟨x, ⟨hx, hb⟩, he⟩ := h
    exact ⟨o, x, rfl, by simpa using hx, hb, he⟩
theorem all_listed (he : elder ops = true) {listed : Array Bool} (hsz : listed.size = ops.size) (hr : Region.ready .any ops listed = []) : ∀ n i, i < n → i < ops.size → listed.getD i false = true := by
  intro n
  induction n with
  | zero => intro i h; omega
  | succ n ih =>
    intro i h hi
    cases hl : listed.getD i false with
    | true => rfl
    | false =>
      have : i ∈ Region.ready .any ops listed := by
        rw [mem_ready]
        refine ⟨?_, ops[i], by simp [hi], fun x hx hb => ?_⟩
        · have : i < listed.size := by omega
          simp [Array.getD, this] at hl ⊢; exact hl
        · have hm : x.on ∈ before ops i := by
            unfold before
            simp only [Array.getElem?_eq_getElem hi, Option.map_some, Option.getD_some, List.mem_map, List.mem_filter]
            exact ⟨x, ⟨by simpa using hx, hb⟩, rfl⟩
          have h1 := List.all_eq_true.1 (List.all_eq_true.1 he i (by simpa using hi)) _ hm
          have h1 : x.on < i := by simpa using h1
          exact ih _ (by omega) (by omega)
      rw [hr] at this
      cases this
theorem wpAny_inv (he : elder ops = true) (Inv : (Nat → Bool) → Act → World → Prop)
    (hstep : ∀ i o L a w, ops[i]? = some o → L i = false → (before ops i).all L = true → Inv L a w → wpOp P ops Q i (Inv (upd L i)) a w)
    (hdone : ∀ L a w, (∀ i, i < ops.size → L i = true) → Inv L a w → Q .normal a w) :
    ∀ (fuel : Nat) (listed : Array Bool) (a : Act) (w : World), listed.size = ops.size → (List.range ops.size).countP (fun j => !listed.getD j false) ≤ fuel →
      Inv (fun j => listed.getD j false) a w → wpAny P .any ops Q fuel listed a w := by
  intro fuel
  induction fuel with
  | zero =>
    intro listed a w hsz hc hI
    have hall : ∀ i, i < ops.size → listed.getD i false = true := fun i hi => by
      have h0 : (List.range ops.size).countP (fun j => !listed.getD j false) = 0 := by omega
      have := List.countP_eq_zero.1 h0 i (by simpa using hi)
      simpa using this
    refine ⟨?_, hdone _ _ _ hall hI⟩
    cases hr : Region.ready .any ops listed with
    | nil => rfl
    | cons x xs =>
      have hx : x ∈ Region.ready .any ops listed := by rw [hr]; exact List.mem_cons_self
      obtain ⟨h1, o, ho, _⟩ := mem_ready.1 hx
      have hlt : x < ops.size := (Array.getElem?_eq_some_iff.1 ho).1
      have h2 := hall x hlt
      have : x < listed.size := by omega
      simp [Array.getD, this] at h1 h2
      rw [h1] at h2; cases h2
  | succ fuel ih =>
    intro listed a w hsz hc hI
    refine ⟨fun hr => hdone _ _ _ (fun i hi => all_listed he hsz hr ops.size i hi hi) hI, fun i hi => ?_⟩
    obtain ⟨h1, o, ho, hall⟩ := mem_ready.1 hi
    have hlt : i < ops.size := (Array.getElem?_eq_some_iff.1 ho).1
    have hl : listed.getD i false = false := by
      have : i < listed.size := by omega
      simp [Array.getD, this] at h1 ⊢; exact h1
    refine wpOp_mono (fun a' w' h => ih _ a' w' (by simpa using hsz) ?_ ?_) (hstep i o _ a w ho hl ?_ hI)
    · have := countP_lt (l := List.range ops.size) (p := fun j => !listed.getD j false) (q := fun j => !(listed.setIfInBounds i true).getD j false) (fun j hj => ?_) (i := i) (by simpa using hlt) (by simp only [hl]; rfl) ?_
      · omega
      · cases hj' : listed.getD j false with
        | false => rfl
        | true => rw [getD_set_true hj'] at hj; cases hj
      · have : i < listed.size := by omega
        simp [Array.getD, this]
    · have hfun : upd (fun j => listed.getD j false) i = fun j => (listed.setIfInBounds i true).getD j false := by
        funext j
        by_cases hj : j = i
        · subst hj
          have : j < listed.size := by omega
          simp [Array.getD, this]
        · rw [upd_ne hj, getD_set_ne false (Ne.symm hj)]
      rw [← hfun]; exact h
    · rw [List.all_eq_true]
      intro e hm
      obtain ⟨o', x, ho', hx, hb, rfl⟩ := mem_before hm
      rw [ho] at ho'; cases ho'
      exact hall x hx hb
/-- **A drawn region by an invariant.** -/
theorem wp_region_inv {id : Nat} {a : Act} {w : World} (hm : P.follows .mixedOrders = true) (he : elder ops = true) (Inv : (Nat → Bool) → Act → World → Prop)
    (h0 : Inv (fun _ => false) a { w with drawn := w.drawn + 1 })
    (hstep : ∀ i o L a w, ops[i]? = some o → L i = false → (before ops i).all L = true → Inv L a w → wpOp P ops Q i (Inv (upd L i)) a w)
    (hdone : ∀ L a w, (∀ i, i < ops.size → L i = true) → Inv L a w → Q .normal a w) : (Code.region id ops true).wp P Q a w := by
  refine wp_region_any hm (wpAny_inv he Inv hstep hdone _ _ _ _ (by simp) ?_ ?_)
  · refine Nat.le_trans List.countP_le_length (by simp)
  · have : (fun j => (Array.replicate ops.size false).getD j false) = fun _ => false := by
      funext j
      by_cases hj : j < ops.size <;> simp [Array.getD, hj]
    rw [this]; exact h0
/-- An operation without a guard; what follows stays closed. -/
theorem wpOp_go {E : Prop} {i : Nat} {o : Oper} {K : Act → World → Prop} {a : Act} {w : World} (hi : ops[i]? = some o) (hg : o.guard = none)
    (h : ∀ K' : Act → World → Prop, Hid (∀ a w, K a w → K' a w) → if Region.wanted o (yielded ops a.tmps) = true then Oper.wp P o a w K' Q else E) : wpOp P ops Q i K a w := by
  unfold wpOp
  have hw : Region.wanted o (yielded ops a.tmps) = true := by simp [Region.wanted, hg]
  have h1 := h K (Lib.hid fun _ _ h => h)
  rw [if_pos hw] at h1
  simp only [hi, hw, if_true]
  exact .inl h1
/-- As the rule, by numbers. -/
theorem wp_region_inv' {id : Nat} {a : Act} {w : World} (Inv : (Nat → Bool) → Act → World → Prop) (hm : P.follows .mixedOrders = true) (he : elder ops = true)
    (h0 : Inv (fun _ => false) a { w with drawn := w.drawn + 1 })
    (hstep : ∀ i, i < ops.size → ∀ L a w, L i = false → (before ops i).all L = true → Inv L a w → wpOp P ops Q i (Inv (upd L i)) a w)
    (hdone : ∀ L a w, (∀ i, i < ops.size → L i = true) → Inv L a w → Q .normal a w) : (Code.region id ops true).wp P Q a w :=
  wp_region_inv hm he Inv h0 (fun i o L a w ho hl hp hI => hstep i (Array.getElem?_eq_some_iff.1 ho).1 L a w hl hp hI) hdone
end Go.Proofs.YtbdacplndmnkhaaGreatDoor

/- Copies of lists of nominations and of orders, and of an own slice. -/
import Derived.Test.YtigplpbdkjiekaaCp
import Derived.Test.YtigplpbdkjiekaaAp2
namespace Go.Proofs.Ytigplpbdkjiekaa
set_option linter.unusedVariables false
set_option linter.unusedSimpArgs false
open Go.RowKit
theorem Own.lower {w : World} {base base' : Nat} {e : TypeId} {s n : Nat} {v : Value} {xs : List Value} (h : Own w base e s v n xs) (hb : base' ≤ base) : Own w base' e s v n xs := by
  refine ⟨h.1, ?_⟩
  rcases h.2 with h0 | ⟨g, cap, cur, hv, hg, hh, r⟩
  · exact .inl h0
  · exact .inr ⟨g, cap, cur, hv, Nat.le_trans hb hg, hh, r⟩
theorem info_NomX : (Try.prog.info? 31).map (fun i => (i.zero, i.size, i.bytes)) = some (some (.agg #[.int .i64 0, .int .i64 0, .int .i64 0, .int .i64 0]), 4, 32) := by kernel_rfl
theorem Nom.one (l : List Nom) : ∀ u ∈ l.flatMap Nom.cells, u.oneCell' = true := fun u hu => by
  obtain ⟨x, _, hx⟩ := List.mem_flatMap.1 hu
  simp [Nom.cells] at hx
  rcases hx with rfl | rfl | rfl | rfl <;> rfl
set_option maxRecDepth 100000 in
set_option maxHeartbeats 1000000 in
theorem slices_CloneN (A : Option Addr) (c : Nat) (l : List Nom) (w : World) (h : Rd w A (l.flatMap Nom.cells)) (hl : l.length ≤ 1048576) :
    Calls Try.prog 40 #[.slice A l.length c] w (MadeO w 31 4 l.length (l.flatMap Nom.cells)) := by
  have heq : ∀ (w : World) (a : Option Addr) (n c : Nat), (binOp .eql 29 (.slice a n c) (.slice none 0 0)).run Try.prog w = .ok (.bool a.isNone) w := fun w a n c => Lib.run_eql_slice_nil w _ 31 a n c 0 0 Try.underlying29
  cases A with
  | none =>
    have h1 := h.none_nil
    obtain rfl : l = [] := by
      cases l with
      | nil => rfl
      | cons x l => simp [Nom.cells] at h1
    go_enter Try.func40, Try.ntmps40
    go_wp2
    go_ret
    exact ⟨_, rfl, by simpa using Own.nil w w.heap.size 31 4, Below.refl _ _⟩
  | some ad =>
    have HR := Lib.hid h
    clear h
    have HO := Lib.hid (Own.lit0 w w.heap.size 31 4 (Nat.le_refl _))
    go_enter Try.func40, Try.ntmps40
    go_wp2_with ((at_builtin; refine wp_appS _ rfl (.tmp 5) (.tmp 6) 29 rfl w.heap.size info_NomX Try.underlying29 rfl (by omega) (by omega) _ 0 [] rfl HO.out ad l.length c (l.flatMap Nom.cells) rfl (flat_len Nom.len l) (HR.out.below (by (repeat' (first | (with_reducible exact Below.refl _ _) | (with_reducible assumption) | (with_reducible refine Below.alloc ?_ ?_ _) | (with_reducible refine Below.drew ?_) | (with_reducible refine Below.drewN' ?_ _) | (with_reducible refine Below.setCell ?_ ?_ _) | (refine Below.via ?_ (by with_reducible assumption) ?_) | (with_reducible refine Below.via ?_ (Wd.h _) ?_) | go_size)))) (Nom.one l) (by omega) (by simp) ?_; intro v' wn hO' hbn _))
    go_ret
    rw [Nat.zero_add, List.nil_append] at hO'
    exact ⟨_, rfl, hO', Below.via (by (repeat' (first | (with_reducible exact Below.refl _ _) | (with_reducible assumption) | (with_reducible refine Below.alloc ?_ ?_ _) | (with_reducible refine Below.drew ?_) | (with_reducible refine Below.drewN' ?_ _) | (with_reducible refine Below.setCell ?_ ?_ _) | (refine Below.via ?_ (by with_reducible assumption) ?_) | (with_reducible refine Below.via ?_ (Wd.h _) ?_) | go_size))) hbn (Nat.le_refl _)⟩
end Go.Proofs.Ytigplpbdkjiekaa

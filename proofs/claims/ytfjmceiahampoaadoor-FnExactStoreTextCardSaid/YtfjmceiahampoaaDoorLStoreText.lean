/- The law FnExactStoreText. -/
import Derived.Test.YtfjmceiahampoaaDoorTst
import Derived.Test.YtfjmceiahampoaaDoorOpen
namespace Go.Proofs.YtfjmceiahampoaaDoor
set_option linter.unusedVariables false
set_option linter.unusedSimpArgs false
open Go.RowKit
set_option maxRecDepth 100000 in
set_option maxHeartbeats 1000000 in
theorem walk_FnExactStoreText (w : World) (s : Sto) (_ : s.ok) (ht : Pow w) :
    Calls Tryd.prog 4 #[s.v] w fun e w' => e = .returned (.bool true) ∧ Below w.heap.size w w' := by
  obtain ⟨lo, hi, now, i, o⟩ := s
  have HT := Lib.hid ht
  clear ht
  go_enter Tryd.func4, Tryd.ntmps4
  go_wp2_with fail
  refine (laws_toStore _ _ _ _ _ _).mono ?_
  rintro e w1 ⟨rfl, hb1⟩
  obtain ⟨hc1, hf1⟩ := bcell hb1; have hz1 := hb1.size; (try simp at hz1); have c1w0_0 := hc1 (w.heap.size) 0 (by first | omega | (simp; done) | (simp; omega)); have f1w0_0 := hf1 (w.heap.size) 0 (by first | omega | (simp; done) | (simp; omega)); have hy1w0 : w.heap.size < w1.heap.size := (by omega); have c1w0_1 := hc1 (w.heap.size) 1 (by first | omega | (simp; done) | (simp; omega)); have f1w0_1 := hf1 (w.heap.size) 1 (by first | omega | (simp; done) | (simp; omega)); have c1w0_2 := hc1 (w.heap.size) 2 (by first | omega | (simp; done) | (simp; omega)); have f1w0_2 := hf1 (w.heap.size) 2 (by first | omega | (simp; done) | (simp; omega)); have c1w0_3 := hc1 (w.heap.size) 3 (by first | omega | (simp; done) | (simp; omega)); have f1w0_3 := hf1 (w.heap.size) 3 (by first | omega | (simp; done) | (simp; omega)); have c1w0_4 := hc1 (w.heap.size) 4 (by first | omega | (simp; done) | (simp; omega)); have f1w0_4 := hf1 (w.heap.size) 4 (by first | omega | (simp; done) | (simp; omega)); simp [go_sem] at c1w0_0 f1w0_0 c1w0_1 f1w0_1 c1w0_2 f1w0_2 c1w0_3 f1w0_3 c1w0_4 f1w0_4; clear hc1 hf1
  go_wp2_with fail
  refine (spec_StoreText _ _ _ _ _ _).mono ?_
  rintro e w2 ⟨rfl, hb2⟩
  obtain ⟨hc2, hf2⟩ := bcell hb2; have hz2 := hb2.size; (try simp at hz2); have c2w0_0 := hc2 (w.heap.size) 0 (by first | omega | (simp; done) | (simp; omega)); have f2w0_0 := hf2 (w.heap.size) 0 (by first | omega | (simp; done) | (simp; omega)); have hy2w0 : w.heap.size < w2.heap.size := (by omega); have c2w0_1 := hc2 (w.heap.size) 1 (by first | omega | (simp; done) | (simp; omega)); have f2w0_1 := hf2 (w.heap.size) 1 (by first | omega | (simp; done) | (simp; omega)); have c2w0_2 := hc2 (w.heap.size) 2 (by first | omega | (simp; done) | (simp; omega)); have f2w0_2 := hf2 (w.heap.size) 2 (by first | omega | (simp; done) | (simp; omega)); have c2w0_3 := hc2 (w.heap.size) 3 (by first | omega | (simp; done) | (simp; omega)); have f2w0_3 := hf2 (w.heap.size) 3 (by first | omega | (simp; done) | (simp; omega)); have c2w0_4 := hc2 (w.heap.size) 4 (by first | omega | (simp; done) | (simp; omega)); have f2w0_4 := hf2 (w.heap.size) 4 (by first | omega | (simp; done) | (simp; omega)); simp [go_sem, c1w0_0, f1w0_0, c1w0_1, f1w0_1, c1w0_2, f1w0_2, c1w0_3, f1w0_3, c1w0_4, f1w0_4, hy1w0] at c2w0_0 f2w0_0 c2w0_1 f2w0_1 c2w0_2 f2w0_2 c2w0_3 f2w0_3 c2w0_4 f2w0_4; clear hc2 hf2 c1w0_0 f1w0_0 c1w0_1 f1w0_1 c1w0_2 f1w0_2 c1w0_3 f1w0_3 c1w0_4 f1w0_4
  go_wp2_with fail
  refine (laws_toStore _ _ _ _ _ _).mono ?_
  rintro e w3 ⟨rfl, hb3⟩
  obtain ⟨hc3, hf3⟩ := bcell hb3; have hz3 := hb3.size; (try simp at hz3); have c3w0_0 := hc3 (w.heap.size) 0 (by first | omega | (simp; done) | (simp; omega)); have f3w0_0 := hf3 (w.heap.size) 0 (by first | omega | (simp; done) | (simp; omega)); have hy3w0 : w.heap.size < w3.heap.size := (by omega); have c3w0_1 := hc3 (w.heap.size) 1 (by first | omega | (simp; done) | (simp; omega)); have f3w0_1 := hf3 (w.heap.size) 1 (by first | omega | (simp; done) | (simp; omega)); have c3w0_2 := hc3 (w.heap.size) 2 (by first | omega | (simp; done) | (simp; omega)); have f3w0_2 := hf3 (w.heap.size) 2 (by first | omega | (simp; done) | (simp; omega)); have c3w0_3 := hc3 (w.heap.size) 3 (by first | omega | (simp; done) | (simp; omega)); have f3w0_3 := hf3 (w.heap.size) 3 (by first | omega | (simp; done) | (simp; omega)); have c3w0_4 := hc3 (w.heap.size) 4 (by first | omega | (simp; done) | (simp; omega)); have f3w0_4 := hf3 (w.heap.size) 4 (by first | omega | (simp; done) | (simp; omega)); simp [go_sem, c2w0_0, f2w0_0, c2w0_1, f2w0_1, c2w0_2, f2w0_2, c2w0_3, f2w0_3, c2w0_4, f2w0_4, hy2w0] at c3w0_0 f3w0_0 c3w0_1 f3w0_1 c3w0_2 f3w0_2 c3w0_3 f3w0_3 c3w0_4 f3w0_4; clear hc3 hf3 c2w0_0 f2w0_0 c2w0_1 f2w0_1 c2w0_2 f2w0_2 c2w0_3 f2w0_3 c2w0_4 f2w0_4
  go_wp2_with fail
  refine (impl_StoreText _ _ _ _ _ _ (HT.out.below (by (repeat' (first | (with_reducible exact Below.refl _ _) | (with_reducible assumption) | (with_reducible refine Below.alloc ?_ ?_ _) | (with_reducible refine Below.drew ?_) | (with_reducible refine Below.drewN' ?_ _) | (with_reducible refine Below.setCell ?_ ?_ _) | (refine Below.via ?_ (by with_reducible assumption) ?_) | (with_reducible refine Below.via ?_ (Wd.h _) ?_) | go_size))))).mono ?_
  rintro e w4 ⟨rfl, hb4⟩
  go_wp2
  go_ret
  exact ⟨rfl, by (repeat' (first | (with_reducible exact Below.refl _ _) | (with_reducible assumption) | (with_reducible refine Below.alloc ?_ ?_ _) | (with_reducible refine Below.drew ?_) | (with_reducible refine Below.drewN' ?_ _) | (with_reducible refine Below.setCell ?_ ?_ _) | (refine Below.via ?_ (by with_reducible assumption) ?_) | (with_reducible refine Below.via ?_ (Wd.h _) ?_) | go_size))⟩
end Go.Proofs.YtfjmceiahampoaaDoor

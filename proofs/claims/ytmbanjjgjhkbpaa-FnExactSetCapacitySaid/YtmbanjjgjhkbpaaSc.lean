/- Sets of nodes: membership, order, and the limits between a set and the rest. -/
import Derived.Test.YtmbanjjgjhkbpaaCt1
import Derived.Test.YtmbanjjgjhkbpaaSu
namespace Go.Proofs.Ytmbanjjgjhkbpaa
set_option linter.unusedVariables false
set_option linter.unusedSimpArgs false
open Go.RowKit
def hasB (x : Int) : List Int → Bool
  | [] => false
  | y :: l => (y == x) || hasB x l
set_option maxRecDepth 100000 in
set_option maxHeartbeats 1000000 in
theorem spec_l02Has (A : Option Addr) (c : Nat) (l : List Int) (x : Int) (w : World) (h : Rd w A (l.map iV)) (hl : l.length ≤ 1048576) :
    Calls Try.prog 76 #[.slice A l.length c, .int .i64 x] w fun e w' => e = .returned (.bool (hasB x l)) ∧ w = w' := by
  have H := Lib.hid h
  clear h
  go_enter Try.func76, Try.ntmps76
  go_wp2
  go_loop [5] (fun v => ∃ (k : Nat), k ≤ l.length ∧ v = .int .i64 k ∧ hasB x (l.drop k) = hasB x l) (fun v => l.length - (intOf v).toNat)
  case atStart => exact ⟨0, by omega, rfl, by simp⟩
  case round =>
    obtain ⟨k, hk, rfl, hF⟩ := hrel
    have HF := Lib.hid hF
    clear hF
    by_cases hlt : k < l.length
    · obtain ⟨y, hy⟩ := get_some hlt
      obtain ⟨b, off, rfl, hb, hat⟩ := H.out.opened (k := k) (by simpa using hlt)
      have t0 := ints_at hat hy
      have HD := Lib.hid (drop_consI hy)
      have g1 : (k : Int) < l.length := by omega
      clear hy hat
      cases he : (y == x)
      · go_wp2
        go_round
        case rel =>
          refine ⟨k + 1, by omega, by go_num, ?_⟩
          rw [← HF.out, HD.out, hasB, he, Bool.false_or]
        case measure => simp [intOf]; omega
      · go_wp2
        go_ret
        refine ⟨rbt ?_, rfl⟩
        rw [← HF.out, HD.out, hasB, he, Bool.true_or]
    · go_wp2
      go_ret
      refine ⟨rbf ?_, rfl⟩
      rw [← HF.out, drop_endI hlt, hasB]
def idxF (x : Int) : List Int → Nat → Int
  | [], _ => -1
  | y :: l, k => if x == y then (k : Int) else idxF x l (k + 1)
theorem idxF_bd (x : Int) : ∀ (l : List Int) (k : Nat), -1 ≤ idxF x l k ∧ idxF x l k ≤ k + l.length
  | [], k => by simp [idxF]
  | y :: l, k => by
    have := idxF_bd x l (k + 1)
    simp only [idxF, List.length_cons]
    split <;> omega
theorem idxF_has (x : Int) : ∀ (l : List Int) (k : Nat), decide (0 ≤ idxF x l k) = true ↔ hasB x l = true
  | [], k => by simp [idxF, hasB]
  | y :: l, k => by
    have := idxF_has x l (k + 1)
    by_cases h : x = y
    · simp [idxF, hasB, h]
    · have h1 : (x == y) = false := by simpa using h
      have h2 : (y == x) = false := by simpa using fun e : y = x => h e.symm
      simp only [idxF, hasB, h1, h2, Bool.false_or]; exact this
set_option maxRecDepth 100000 in
set_option maxHeartbeats 1000000 in
theorem slices_IndexI (A : Option Addr) (c : Nat) (l : List Int) (x : Int) (w : World) (h : Rd w A (l.map iV)) (hl : l.length ≤ 1048576) :
    Calls Try.prog 114 #[.slice A l.length c, .int .i64 x] w fun e w' => e = .returned (.int .i64 (idxF x l 0)) ∧ w = w' := by
  have H := Lib.hid h
  clear h
  go_enter Try.func114, Try.ntmps114
  go_wp2
  go_loop [8] (fun v => ∃ (k : Nat), k ≤ l.length ∧ v = .int .i64 k ∧ idxF x (l.drop k) k = idxF x l 0) (fun v => l.length - (intOf v).toNat)
  case atStart => exact ⟨0, by omega, rfl, by simp⟩
  case round =>
    obtain ⟨k, hk, rfl, hF⟩ := hrel
    have HF := Lib.hid hF
    clear hF
    by_cases hlt : k < l.length
    · obtain ⟨y, hy⟩ := get_some hlt
      obtain ⟨b, off, rfl, hb, hat⟩ := H.out.opened (k := k) (by simpa using hlt)
      have t0 := ints_at hat hy
      have HD := Lib.hid (drop_consI hy)
      have g1 : (k : Int) < l.length := by omega
      clear hy hat
      cases he : (x == y)
      · have HE := Lib.hid he
        go_wp2
        go_round
        case rel =>
          refine ⟨k + 1, by omega, by go_num, ?_⟩
          rw [← HF.out, HD.out, idxF, HE.out]; rfl
        case measure => simp [intOf]; omega
      · have HE := Lib.hid he
        go_wp2
        go_ret
        refine ⟨ri ?_, rfl⟩
        rw [← HF.out, HD.out, idxF, HE.out]; rfl
    · go_wp2
      go_ret
      refine ⟨ri ?_, rfl⟩
      rw [← HF.out, drop_endI hlt, idxF]
set_option maxRecDepth 100000 in
set_option maxHeartbeats 1000000 in
theorem slices_ContainsI (A : Option Addr) (c : Nat) (l : List Int) (x : Int) (w : World) (h : Rd w A (l.map iV)) (hl : l.length ≤ 1048576) :
    Calls Try.prog 79 #[.slice A l.length c, .int .i64 x] w fun e w' => e = .returned (.bool (hasB x l)) ∧ w = w' := by
  have hb := idxF_bd x l 0
  have HH := Lib.hid (idxF_has x l 0)
  go_enter Try.func79, Try.ntmps79
  go_wp2_with ((go_at_call 114; refine (slices_IndexI _ _ l _ _ h hl).mono ?_; rintro e w' ⟨rfl, rfl⟩))
  go_ret
  exact ⟨rb HH.out, rfl⟩
def Inc (l : List Int) : Prop := ∀ (i : Nat) (x y : Int), l[i]? = some x → l[i + 1]? = some y → x < y
open Classical in
noncomputable def incB (l : List Int) : Bool := decide (Inc l)
set_option maxRecDepth 100000 in
set_option maxHeartbeats 1000000 in
theorem impl_increasing (A : Option Addr) (c : Nat) (l : List Int) (w : World) (h : Rd w A (l.map iV)) (hl : l.length ≤ 1048576) :
    Calls Try.prog 78 #[.slice A l.length c] w fun e w' => e = .returned (.bool (incB l)) ∧ Below w.heap.size w w' := by
  have H := Lib.hid h
  clear h
  go_enter Try.func78, Try.ntmps78
  go_wp2
  go_loopw [3] (fun v wr => ∃ (k : Nat), v = .int .i64 (k + 1 : Nat) ∧ (k = 0 ∨ k + 1 ≤ l.length) ∧ (∀ (i : Nat) (x y : Int), i < k → l[i]? = some x → l[i + 1]? = some y → x < y) ∧ Below w.heap.size w wr) (fun v _ => l.length - (intOf v).toNat)
  case atStart => exact ⟨0, rfl, .inl rfl, fun i x y h => by omega, by (repeat' (first | (with_reducible exact Below.refl _ _) | (with_reducible assumption) | (with_reducible refine Below.alloc ?_ ?_ _) | (with_reducible refine Below.drew ?_) | (with_reducible refine Below.drewN' ?_ _) | (with_reducible refine Below.setCell ?_ ?_ _) | (refine Below.via ?_ (by with_reducible assumption) ?_) | (with_reducible refine Below.via ?_ (Wd.h _) ?_) | go_size))⟩
  case round =>
    obtain ⟨k, rfl, hk, hF, hbw⟩ := hrel
    have hbH := Lib.hid hbw
    have HF := Lib.hid hF
    have hk' : k ≤ 1048576 := by omega
    clear hF hk
    by_cases hlt : k + 1 < l.length
    · obtain ⟨y, hy⟩ := get_some hlt
      obtain ⟨x, hx⟩ := get_some (show k < l.length by omega)
      obtain ⟨b, off, rfl, hb, hat⟩ := H.out.opened (k := k) (by simp; omega)
      have t0 := ints_at (hat.below hbw hb) hx
      have t1 := ints_at (hat.below hbw hb) hy
      have HX := Lib.hid hx
      have HY := Lib.hid hy
      have g1 : ((k + 1 : Nat) : Int) < l.length := by omega
      have g2 : ((k + 1 : Nat) : Int) - 1 = k := by omega
      clear hx hy hat hbw
      cases he : decide (y ≤ x)
      · have HE := Lib.hid he
        go_wp2
        go_quiet (fail)
        go_wp2
        go_roundw
        case rel =>
          refine ⟨k + 1, by go_num, .inr (by omega), fun i z u hi h1 h2 => ?_, by have h1 := hbH.out; (repeat' (first | (with_reducible exact Below.refl _ _) | (with_reducible assumption) | (with_reducible refine Below.alloc ?_ ?_ _) | (with_reducible refine Below.drew ?_) | (with_reducible refine Below.drewN' ?_ _) | (with_reducible refine Below.setCell ?_ ?_ _) | (refine Below.via ?_ (by with_reducible assumption) ?_) | (with_reducible refine Below.via ?_ (Wd.h _) ?_) | go_size))⟩
          by_cases e : i = k
          · subst e
            obtain rfl : x = z := by have := HX.out.symm.trans h1; injection this
            obtain rfl : y = u := by have := HY.out.symm.trans h2; injection this
            have := HE.out; simp at this; exact this
          · exact HF.out i z u (by omega) h1 h2
        case measure => simp [intOf]; omega
      · have HE := Lib.hid he
        go_wp2
        go_quiet (fail)
        go_wp2
        go_ret
        refine ⟨rbf ?_, by have h1 := hbH.out; (repeat' (first | (with_reducible exact Below.refl _ _) | (with_reducible assumption) | (with_reducible refine Below.alloc ?_ ?_ _) | (with_reducible refine Below.drew ?_) | (with_reducible refine Below.drewN' ?_ _) | (with_reducible refine Below.setCell ?_ ?_ _) | (refine Below.via ?_ (by with_reducible assumption) ?_) | (with_reducible refine Below.via ?_ (Wd.h _) ?_) | go_size))⟩
        simp only [incB, decide_eq_false_iff_not]
        intro h
        have h1 := h k x y HX.out HY.out
        have := HE.out; simp at this; omega
    · clear hbw
      have g1 : ¬ ((k + 1 : Nat) : Int) < l.length := by omega
      go_wp2
      go_ret
      refine ⟨rbt ?_, hbH.out⟩
      simp only [incB, decide_eq_true_eq]
      intro i x y h1 h2
      have := (List.getElem?_eq_some_iff.1 h2).1
      exact HF.out i x y (by omega) h1 h2
noncomputable def nodesC (N : Net) (fl : List Int) : Int := if netB N = false then 1 else if allB 0 ((N.nodes.length : Int) - 1) fl = false then 2 else 0
set_option maxRecDepth 100000 in
set_option maxHeartbeats 4000000 in
theorem impl_checkNodes (A B C : Option Addr) (n c m d e : Nat) (N : Net) (fl : List Int) (w : World) (hN : NetAt w A B N) (hn : n = N.nodes.length) (hm : m = N.pipes.length) (hc : n ≤ c) (h : Rd w C (fl.map iV)) (hl : fl.length ≤ 1048576) :
    Calls Try.prog 77 #[netV A B n c m d, .slice C fl.length e] w fun e w' => e = .returned (.int .i64 (nodesC N fl)) ∧ Below w.heap.size w w' := by
  subst hn hm
  have HN := Lib.hid hN
  have HL := Lib.hid h
  have hln := hN.ln
  have hlp := hN.lp
  clear hN h
  cases hb : netB N
  · (go_enter Try.func77, Try.ntmps77; go_wp2_with (first | (go_at_call 61; ((with_reducible refine (impl_IsNetwork _ _ _ _ _ _ N _ (by exact HN.out.below (by (repeat' (first | (with_reducible exact Below.refl _ _) | (with_reducible assumption) | (with_reducible refine Below.alloc ?_ ?_ _) | (with_reducible refine Below.drew ?_) | (with_reducible refine Below.drewN' ?_ _) | (with_reducible refine Below.setCell ?_ ?_ _) | (refine Below.via ?_ (by with_reducible assumption) ?_) | (with_reducible refine Below.via ?_ (Wd.h _) ?_) | go_size)))) rfl rfl (by omega)).mono ?_)); rintro e wn ⟨rfl, hbn⟩; (obtain ⟨hcn, hfn⟩ := bcell hbn; have hzn := hbn.size; (try simp at hzn); have Ncw0_0 := hcn (w.heap.size) (0) (by first | omega | (simp; done) | (simp; omega)); have Nfw0_0 := hfn (w.heap.size) (0) (by first | omega | (simp; done) | (simp; omega)); have Nhy0 : w.heap.size < wn.heap.size := (by omega); have Ncw0_1 := hcn (w.heap.size) (1) (by first | omega | (simp; done) | (simp; omega)); have Nfw0_1 := hfn (w.heap.size) (1) (by first | omega | (simp; done) | (simp; omega)); (first | (simp [go_sem, cw0_0, fw0_0, cw0_1, fw0_1, hy0] at Ncw0_0 Nfw0_0 Ncw0_1 Nfw0_1; clear cw0_0 fw0_0 cw0_1 fw0_1) | (simp [go_sem] at Ncw0_0 Nfw0_0 Ncw0_1 Nfw0_1)); clear hcn hfn; have cw0_0 := Ncw0_0; have fw0_0 := Nfw0_0; have cw0_1 := Ncw0_1; have fw0_1 := Nfw0_1; have hy0 := Nhy0; clear Ncw0_0 Nfw0_0 Ncw0_1 Nfw0_1 Nhy0)) | (go_at_call 107; ((with_reducible refine (impl_isNodeOf _ _ _ _ _ _ _ _ (by omega)).mono ?_)); rintro e wn ⟨rfl, hbn⟩; (obtain ⟨hcn, hfn⟩ := bcell hbn; have hzn := hbn.size; (try simp at hzn); have Ncw0_0 := hcn (w.heap.size) (0) (by first | omega | (simp; done) | (simp; omega)); have Nfw0_0 := hfn (w.heap.size) (0) (by first | omega | (simp; done) | (simp; omega)); have Nhy0 : w.heap.size < wn.heap.size := (by omega); have Ncw0_1 := hcn (w.heap.size) (1) (by first | omega | (simp; done) | (simp; omega)); have Nfw0_1 := hfn (w.heap.size) (1) (by first | omega | (simp; done) | (simp; omega)); (first | (simp [go_sem, cw0_0, fw0_0, cw0_1, fw0_1, hy0] at Ncw0_0 Nfw0_0 Ncw0_1 Nfw0_1; clear cw0_0 fw0_0 cw0_1 fw0_1) | (simp [go_sem] at Ncw0_0 Nfw0_0 Ncw0_1 Nfw0_1)); clear hcn hfn; have cw0_0 := Ncw0_0; have fw0_0 := Nfw0_0; have cw0_1 := Ncw0_1; have fw0_1 := Nfw0_1; have hy0 := Nhy0; clear Ncw0_0 Nfw0_0 Ncw0_1 Nfw0_1 Nhy0))))
    go_ret
    exact ⟨ri (by simp [nodesC, hb]), by (repeat' (first | (with_reducible exact Below.refl _ _) | (with_reducible assumption) | (with_reducible refine Below.alloc ?_ ?_ _) | (with_reducible refine Below.drew ?_) | (with_reducible refine Below.drewN' ?_ _) | (with_reducible refine Below.setCell ?_ ?_ _) | (refine Below.via ?_ (by with_reducible assumption) ?_) | (with_reducible refine Below.via ?_ (Wd.h _) ?_) | go_size))⟩
  have HR := Lib.hid (show nodesC N fl = if allB 0 ((N.nodes.length : Int) - 1) fl = false then 2 else 0 by simp [nodesC, hb])
  (go_enter Try.func77, Try.ntmps77; go_wp2_with (first | (go_at_call 61; ((with_reducible refine (impl_IsNetwork _ _ _ _ _ _ N _ (by exact HN.out.below (by (repeat' (first | (with_reducible exact Below.refl _ _) | (with_reducible assumption) | (with_reducible refine Below.alloc ?_ ?_ _) | (with_reducible refine Below.drew ?_) | (with_reducible refine Below.drewN' ?_ _) | (with_reducible refine Below.setCell ?_ ?_ _) | (refine Below.via ?_ (by with_reducible assumption) ?_) | (with_reducible refine Below.via ?_ (Wd.h _) ?_) | go_size)))) rfl rfl (by omega)).mono ?_)); rintro e wn ⟨rfl, hbn⟩; (obtain ⟨hcn, hfn⟩ := bcell hbn; have hzn := hbn.size; (try simp at hzn); have Ncw0_0 := hcn (w.heap.size) (0) (by first | omega | (simp; done) | (simp; omega)); have Nfw0_0 := hfn (w.heap.size) (0) (by first | omega | (simp; done) | (simp; omega)); have Nhy0 : w.heap.size < wn.heap.size := (by omega); have Ncw0_1 := hcn (w.heap.size) (1) (by first | omega | (simp; done) | (simp; omega)); have Nfw0_1 := hfn (w.heap.size) (1) (by first | omega | (simp; done) | (simp; omega)); (first | (simp [go_sem, cw0_0, fw0_0, cw0_1, fw0_1, hy0] at Ncw0_0 Nfw0_0 Ncw0_1 Nfw0_1; clear cw0_0 fw0_0 cw0_1 fw0_1) | (simp [go_sem] at Ncw0_0 Nfw0_0 Ncw0_1 Nfw0_1)); clear hcn hfn; have cw0_0 := Ncw0_0; have fw0_0 := Nfw0_0; have cw0_1 := Ncw0_1; have fw0_1 := Nfw0_1; have hy0 := Nhy0; clear Ncw0_0 Nfw0_0 Ncw0_1 Nfw0_1 Nhy0)) | (go_at_call 107; ((with_reducible refine (impl_isNodeOf _ _ _ _ _ _ _ _ (by omega)).mono ?_)); rintro e wn ⟨rfl, hbn⟩; (obtain ⟨hcn, hfn⟩ := bcell hbn; have hzn := hbn.size; (try simp at hzn); have Ncw0_0 := hcn (w.heap.size) (0) (by first | omega | (simp; done) | (simp; omega)); have Nfw0_0 := hfn (w.heap.size) (0) (by first | omega | (simp; done) | (simp; omega)); have Nhy0 : w.heap.size < wn.heap.size := (by omega); have Ncw0_1 := hcn (w.heap.size) (1) (by first | omega | (simp; done) | (simp; omega)); have Nfw0_1 := hfn (w.heap.size) (1) (by first | omega | (simp; done) | (simp; omega)); (first | (simp [go_sem, cw0_0, fw0_0, cw0_1, fw0_1, hy0] at Ncw0_0 Nfw0_0 Ncw0_1 Nfw0_1; clear cw0_0 fw0_0 cw0_1 fw0_1) | (simp [go_sem] at Ncw0_0 Nfw0_0 Ncw0_1 Nfw0_1)); clear hcn hfn; have cw0_0 := Ncw0_0; have fw0_0 := Nfw0_0; have cw0_1 := Ncw0_1; have fw0_1 := Nfw0_1; have hy0 := Nhy0; clear Ncw0_0 Nfw0_0 Ncw0_1 Nfw0_1 Nhy0))))
  have hbn1 : Below w.heap.size w wn := by (repeat' (first | (with_reducible exact Below.refl _ _) | (with_reducible assumption) | (with_reducible refine Below.alloc ?_ ?_ _) | (with_reducible refine Below.drew ?_) | (with_reducible refine Below.drewN' ?_ _) | (with_reducible refine Below.setCell ?_ ?_ _) | (refine Below.via ?_ (by with_reducible assumption) ?_) | (with_reducible refine Below.via ?_ (Wd.h _) ?_) | go_size))
  have HBN := Lib.hid hbn1
  clear hbn hbn1
  go_loopw [12] (fun v wr => ∃ k : Nat, k ≤ fl.length ∧ v = .int .i64 k ∧ allB 0 ((N.nodes.length : Int) - 1) (fl.drop k) = allB 0 ((N.nodes.length : Int) - 1) fl ∧ Bx wr w.heap.size [.slice A N.nodes.length c, .slice B N.pipes.length d] ∧ Below w.heap.size w wr) (fun v _ => fl.length - (intOf v).toNat)
  case atStart => exact ⟨0, by omega, rfl, rfl, (bx2 (by first | exact hy0 | go_size) (by first | (with_reducible exact cw0_0) | go_cell_look | (simp [go_sem, hy0, cw0_0, fw0_0, cw0_1, fw0_1]; done) | (simp [go_sem]; done)) (by first | (with_reducible exact fw0_0) | (simp only [World.frozen?_setCell, fw0_0]; done) | (simp [go_sem, hy0, cw0_0, fw0_0, cw0_1, fw0_1]; done) | (simp [go_sem]; done)) (by first | (with_reducible exact cw0_1) | go_cell_look | (simp [go_sem, hy0, cw0_0, fw0_0, cw0_1, fw0_1]; done) | (simp [go_sem]; done)) (by first | (with_reducible exact fw0_1) | (simp only [World.frozen?_setCell, fw0_1]; done) | (simp [go_sem, hy0, cw0_0, fw0_0, cw0_1, fw0_1]; done) | (simp [go_sem]; done))), HBN.out⟩
  case round =>
    clear hy0 cw0_0 fw0_0 cw0_1 fw0_1
    obtain ⟨k, hk, rfl, hF, hB, hbw⟩ := hrel
    have hbH := Lib.hid hbw
    have HF := Lib.hid hF
    have hy0 := hB.lt; have cw0_0 := hB.cell 0 rfl; have fw0_0 := hB.frozen 0 rfl; have cw0_1 := hB.cell 1 rfl; have fw0_1 := hB.frozen 1 rfl
    clear hF hB
    by_cases hlt : k < fl.length
    · obtain ⟨x, hx⟩ := get_some hlt
      obtain ⟨b, off, rfl, hb, hat⟩ := HL.out.opened (k := k) (by simpa using hlt)
      have t0 := ints_at (hat.below hbw hb) hx
      have HD := Lib.hid (drop_consI hx)
      have g1 : (k : Int) < fl.length := by omega
      have hzw := hbw.size
      clear hx hat hbw
      cases hin : inB x 0 ((N.nodes.length : Int) - 1)
      · go_wp2_with (first | (go_at_call 61; ((with_reducible refine (impl_IsNetwork _ _ _ _ _ _ N _ (by exact HN.out.below (by (repeat' (first | (with_reducible exact Below.refl _ _) | (with_reducible assumption) | (with_reducible refine Below.alloc ?_ ?_ _) | (with_reducible refine Below.drew ?_) | (with_reducible refine Below.drewN' ?_ _) | (with_reducible refine Below.setCell ?_ ?_ _) | (refine Below.via ?_ (by with_reducible assumption) ?_) | (with_reducible refine Below.via ?_ (Wd.h _) ?_) | go_size)))) rfl rfl (by omega)).mono ?_)); rintro e wn ⟨rfl, hbn⟩; (obtain ⟨hcn, hfn⟩ := bcell hbn; have hzn := hbn.size; (try simp at hzn); have Ncw0_0 := hcn (w.heap.size) (0) (by first | omega | (simp; done) | (simp; omega)); have Nfw0_0 := hfn (w.heap.size) (0) (by first | omega | (simp; done) | (simp; omega)); have Nhy0 : w.heap.size < wn.heap.size := (by omega); have Ncw0_1 := hcn (w.heap.size) (1) (by first | omega | (simp; done) | (simp; omega)); have Nfw0_1 := hfn (w.heap.size) (1) (by first | omega | (simp; done) | (simp; omega)); (first | (simp [go_sem, cw0_0, fw0_0, cw0_1, fw0_1, hy0] at Ncw0_0 Nfw0_0 Ncw0_1 Nfw0_1; clear cw0_0 fw0_0 cw0_1 fw0_1) | (simp [go_sem] at Ncw0_0 Nfw0_0 Ncw0_1 Nfw0_1)); clear hcn hfn; have cw0_0 := Ncw0_0; have fw0_0 := Nfw0_0; have cw0_1 := Ncw0_1; have fw0_1 := Nfw0_1; have hy0 := Nhy0; clear Ncw0_0 Nfw0_0 Ncw0_1 Nfw0_1 Nhy0)) | (go_at_call 107; ((with_reducible refine (impl_isNodeOf _ _ _ _ _ _ _ _ (by omega)).mono ?_)); rintro e wn ⟨rfl, hbn⟩; (obtain ⟨hcn, hfn⟩ := bcell hbn; have hzn := hbn.size; (try simp at hzn); have Ncw0_0 := hcn (w.heap.size) (0) (by first | omega | (simp; done) | (simp; omega)); have Nfw0_0 := hfn (w.heap.size) (0) (by first | omega | (simp; done) | (simp; omega)); have Nhy0 : w.heap.size < wn.heap.size := (by omega); have Ncw0_1 := hcn (w.heap.size) (1) (by first | omega | (simp; done) | (simp; omega)); have Nfw0_1 := hfn (w.heap.size) (1) (by first | omega | (simp; done) | (simp; omega)); (first | (simp [go_sem, cw0_0, fw0_0, cw0_1, fw0_1, hy0] at Ncw0_0 Nfw0_0 Ncw0_1 Nfw0_1; clear cw0_0 fw0_0 cw0_1 fw0_1) | (simp [go_sem] at Ncw0_0 Nfw0_0 Ncw0_1 Nfw0_1)); clear hcn hfn; have cw0_0 := Ncw0_0; have fw0_0 := Nfw0_0; have cw0_1 := Ncw0_1; have fw0_1 := Nfw0_1; have hy0 := Nhy0; clear Ncw0_0 Nfw0_0 Ncw0_1 Nfw0_1 Nhy0)))
        go_ret
        refine ⟨ri ?_, by have h1 := hbH.out; (repeat' (first | (with_reducible exact Below.refl _ _) | (with_reducible assumption) | (with_reducible refine Below.alloc ?_ ?_ _) | (with_reducible refine Below.drew ?_) | (with_reducible refine Below.drewN' ?_ _) | (with_reducible refine Below.setCell ?_ ?_ _) | (refine Below.via ?_ (by with_reducible assumption) ?_) | (with_reducible refine Below.via ?_ (Wd.h _) ?_) | go_size))⟩
        have : allB 0 ((N.nodes.length : Int) - 1) fl = false := by rw [← HF.out, HD.out, allB, hin, Bool.false_and]
        rw [HR.out, if_pos this]
      · go_wp2_with (first | (go_at_call 61; ((with_reducible refine (impl_IsNetwork _ _ _ _ _ _ N _ (by exact HN.out.below (by (repeat' (first | (with_reducible exact Below.refl _ _) | (with_reducible assumption) | (with_reducible refine Below.alloc ?_ ?_ _) | (with_reducible refine Below.drew ?_) | (with_reducible refine Below.drewN' ?_ _) | (with_reducible refine Below.setCell ?_ ?_ _) | (refine Below.via ?_ (by with_reducible assumption) ?_) | (with_reducible refine Below.via ?_ (Wd.h _) ?_) | go_size)))) rfl rfl (by omega)).mono ?_)); rintro e wn ⟨rfl, hbn⟩; (obtain ⟨hcn, hfn⟩ := bcell hbn; have hzn := hbn.size; (try simp at hzn); have Ncw0_0 := hcn (w.heap.size) (0) (by first | omega | (simp; done) | (simp; omega)); have Nfw0_0 := hfn (w.heap.size) (0) (by first | omega | (simp; done) | (simp; omega)); have Nhy0 : w.heap.size < wn.heap.size := (by omega); have Ncw0_1 := hcn (w.heap.size) (1) (by first | omega | (simp; done) | (simp; omega)); have Nfw0_1 := hfn (w.heap.size) (1) (by first | omega | (simp; done) | (simp; omega)); (first | (simp [go_sem, cw0_0, fw0_0, cw0_1, fw0_1, hy0] at Ncw0_0 Nfw0_0 Ncw0_1 Nfw0_1; clear cw0_0 fw0_0 cw0_1 fw0_1) | (simp [go_sem] at Ncw0_0 Nfw0_0 Ncw0_1 Nfw0_1)); clear hcn hfn; have cw0_0 := Ncw0_0; have fw0_0 := Nfw0_0; have cw0_1 := Ncw0_1; have fw0_1 := Nfw0_1; have hy0 := Nhy0; clear Ncw0_0 Nfw0_0 Ncw0_1 Nfw0_1 Nhy0)) | (go_at_call 107; ((with_reducible refine (impl_isNodeOf _ _ _ _ _ _ _ _ (by omega)).mono ?_)); rintro e wn ⟨rfl, hbn⟩; (obtain ⟨hcn, hfn⟩ := bcell hbn; have hzn := hbn.size; (try simp at hzn); have Ncw0_0 := hcn (w.heap.size) (0) (by first | omega | (simp; done) | (simp; omega)); have Nfw0_0 := hfn (w.heap.size) (0) (by first | omega | (simp; done) | (simp; omega)); have Nhy0 : w.heap.size < wn.heap.size := (by omega); have Ncw0_1 := hcn (w.heap.size) (1) (by first | omega | (simp; done) | (simp; omega)); have Nfw0_1 := hfn (w.heap.size) (1) (by first | omega | (simp; done) | (simp; omega)); (first | (simp [go_sem, cw0_0, fw0_0, cw0_1, fw0_1, hy0] at Ncw0_0 Nfw0_0 Ncw0_1 Nfw0_1; clear cw0_0 fw0_0 cw0_1 fw0_1) | (simp [go_sem] at Ncw0_0 Nfw0_0 Ncw0_1 Nfw0_1)); clear hcn hfn; have cw0_0 := Ncw0_0; have fw0_0 := Nfw0_0; have cw0_1 := Ncw0_1; have fw0_1 := Nfw0_1; have hy0 := Nhy0; clear Ncw0_0 Nfw0_0 Ncw0_1 Nfw0_1 Nhy0)))
        go_roundw
        case rel =>
          refine ⟨k + 1, by omega, by go_num, ?_, (bx2 (by first | exact hy0 | go_size) (by first | (with_reducible exact cw0_0) | go_cell_look | (simp [go_sem, hy0, cw0_0, fw0_0, cw0_1, fw0_1]; done) | (simp [go_sem]; done)) (by first | (with_reducible exact fw0_0) | (simp only [World.frozen?_setCell, fw0_0]; done) | (simp [go_sem, hy0, cw0_0, fw0_0, cw0_1, fw0_1]; done) | (simp [go_sem]; done)) (by first | (with_reducible exact cw0_1) | go_cell_look | (simp [go_sem, hy0, cw0_0, fw0_0, cw0_1, fw0_1]; done) | (simp [go_sem]; done)) (by first | (with_reducible exact fw0_1) | (simp only [World.frozen?_setCell, fw0_1]; done) | (simp [go_sem, hy0, cw0_0, fw0_0, cw0_1, fw0_1]; done) | (simp [go_sem]; done))), by have h1 := hbH.out; (repeat' (first | (with_reducible exact Below.refl _ _) | (with_reducible assumption) | (with_reducible refine Below.alloc ?_ ?_ _) | (with_reducible refine Below.drew ?_) | (with_reducible refine Below.drewN' ?_ _) | (with_reducible refine Below.setCell ?_ ?_ _) | (refine Below.via ?_ (by with_reducible assumption) ?_) | (with_reducible refine Below.via ?_ (Wd.h _) ?_) | go_size))⟩
          rw [← HF.out, HD.out, allB, hin, Bool.true_and]
        case measure => simp [intOf]; omega
    · clear hbw
      go_wp2
      go_ret
      refine ⟨ri ?_, hbH.out⟩
      have : allB 0 ((N.nodes.length : Int) - 1) fl = true := by rw [← HF.out, drop_endI hlt, allB]
      rw [HR.out, this]; rfl
end Go.Proofs.Ytmbanjjgjhkbpaa

/- Books of contracts: their checks and codes. -/
import Derived.Test.YtbdacplndmnkhaaGreatDoorCt2
namespace Go.Proofs.YtbdacplndmnkhaaGreatDoor
set_option linter.unusedVariables false
set_option linter.unusedSimpArgs false
open Go.RowKit

def ctrsB (n : Int) : List Ctr → Bool
  | [] => true
  | x :: l => ctrB x n && ctrsB n l
theorem ctrsB_all {n : Int} : ∀ {l : List Ctr}, ctrsB n l = true ↔ ∀ x ∈ l, ctrB x n = true
  | [] => by simp [ctrsB]
  | x :: l => by simp [ctrsB, ctrsB_all (l := l)]
def bookB (l : List Ctr) (n : Int) : Bool := decide (l.length ≤ 32) && ctrsB n l
noncomputable def bookC (N : Net) (l : List Ctr) : Int := if netB N = false then 1 else if bookB l N.nodes.length = false then 3 else 0
def cIdxF (n : Int) : List Ctr → Nat → Int
  | [], _ => -1
  | x :: l, k => if ctrB x n = true then cIdxF n l (k + 1) else (k : Int)
theorem cIdxF_neg (n : Int) : ∀ (l : List Ctr) (k : Nat), 0 ≤ cIdxF n l k ↔ ctrsB n l = false
  | [], k => by simp [cIdxF, ctrsB]
  | x :: l, k => by
    have := cIdxF_neg n l (k + 1)
    simp only [cIdxF, ctrsB]
    cases h : ctrB x n <;> simp [this]
theorem cIdxF_bd (n : Int) : ∀ (l : List Ctr) (k : Nat), -1 ≤ cIdxF n l k ∧ cIdxF n l k < k + l.length ∨ cIdxF n l k = -1
  | [], k => by simp [cIdxF]
  | x :: l, k => by
    have := cIdxF_bd n l (k + 1)
    simp only [cIdxF, List.length_cons]
    split <;> omega

set_option maxRecDepth 100000 in
set_option maxHeartbeats 1000000 in
theorem impl_isBook1 (A B : Option Addr) (n c m d b : Nat) (x : Ctr) (w : World) (hn : n ≤ 1048576) (h0 : w.cell? ⟨b, 0, none⟩ = some (.slice A n c)) (h1 : w.cell? ⟨b, 1, none⟩ = some (.slice B m d)) :
    Calls Tryz.prog 72 #[x.val, .pointer (some ⟨b, 0, none⟩)] w fun e w' => e = .returned (.bool (!ctrB x n)) ∧ Below w.heap.size w w' := by
  have hb := block_lt h0
  simp only at hb
  (go_enter Tryz.func72, Tryz.ntmps72; go_wp2_with (first | (go_at_call 73; ((with_reducible refine (impl_isContract _ _ _ _ _ _ _ _ (by omega)).mono ?_)); rintro e wn ⟨rfl, hbn⟩; (obtain ⟨hcn, hfn⟩ := bcell hbn; have hzn := hbn.size; (try simp at hzn); have Ncw0_0 := hcn (w.heap.size) (0) (by first | omega | (simp; done) | (simp; omega)); have Nfw0_0 := hfn (w.heap.size) (0) (by first | omega | (simp; done) | (simp; omega)); have Nhy0 : w.heap.size < wn.heap.size := (by omega); have Ncw0_1 := hcn (w.heap.size) (1) (by first | omega | (simp; done) | (simp; omega)); have Nfw0_1 := hfn (w.heap.size) (1) (by first | omega | (simp; done) | (simp; omega)); have Ncw0_2 := hcn (w.heap.size) (2) (by first | omega | (simp; done) | (simp; omega)); have Nfw0_2 := hfn (w.heap.size) (2) (by first | omega | (simp; done) | (simp; omega)); have Ncw0_3 := hcn (w.heap.size) (3) (by first | omega | (simp; done) | (simp; omega)); have Nfw0_3 := hfn (w.heap.size) (3) (by first | omega | (simp; done) | (simp; omega)); have Ncw0_4 := hcn (w.heap.size) (4) (by first | omega | (simp; done) | (simp; omega)); have Nfw0_4 := hfn (w.heap.size) (4) (by first | omega | (simp; done) | (simp; omega)); have Ncw0_5 := hcn (w.heap.size) (5) (by first | omega | (simp; done) | (simp; omega)); have Nfw0_5 := hfn (w.heap.size) (5) (by first | omega | (simp; done) | (simp; omega)); have Ncw0_6 := hcn (w.heap.size) (6) (by first | omega | (simp; done) | (simp; omega)); have Nfw0_6 := hfn (w.heap.size) (6) (by first | omega | (simp; done) | (simp; omega)); have Ncw0_7 := hcn (w.heap.size) (7) (by first | omega | (simp; done) | (simp; omega)); have Nfw0_7 := hfn (w.heap.size) (7) (by first | omega | (simp; done) | (simp; omega)); (first | (simp [go_sem, cw0_0, fw0_0, cw0_1, fw0_1, cw0_2, fw0_2, cw0_3, fw0_3, cw0_4, fw0_4, cw0_5, fw0_5, cw0_6, fw0_6, cw0_7, fw0_7, hy0] at Ncw0_0 Nfw0_0 Ncw0_1 Nfw0_1 Ncw0_2 Nfw0_2 Ncw0_3 Nfw0_3 Ncw0_4 Nfw0_4 Ncw0_5 Nfw0_5 Ncw0_6 Nfw0_6 Ncw0_7 Nfw0_7; clear cw0_0 fw0_0 cw0_1 fw0_1 cw0_2 fw0_2 cw0_3 fw0_3 cw0_4 fw0_4 cw0_5 fw0_5 cw0_6 fw0_6 cw0_7 fw0_7) | (simp [go_sem] at Ncw0_0 Nfw0_0 Ncw0_1 Nfw0_1 Ncw0_2 Nfw0_2 Ncw0_3 Nfw0_3 Ncw0_4 Nfw0_4 Ncw0_5 Nfw0_5 Ncw0_6 Nfw0_6 Ncw0_7 Nfw0_7)); clear hcn hfn; have cw0_0 := Ncw0_0; have fw0_0 := Nfw0_0; have cw0_1 := Ncw0_1; have fw0_1 := Nfw0_1; have cw0_2 := Ncw0_2; have fw0_2 := Nfw0_2; have cw0_3 := Ncw0_3; have fw0_3 := Nfw0_3; have cw0_4 := Ncw0_4; have fw0_4 := Nfw0_4; have cw0_5 := Ncw0_5; have fw0_5 := Nfw0_5; have cw0_6 := Ncw0_6; have fw0_6 := Nfw0_6; have cw0_7 := Ncw0_7; have fw0_7 := Nfw0_7; have hy0 := Nhy0; clear Ncw0_0 Nfw0_0 Ncw0_1 Nfw0_1 Ncw0_2 Nfw0_2 Ncw0_3 Nfw0_3 Ncw0_4 Nfw0_4 Ncw0_5 Nfw0_5 Ncw0_6 Nfw0_6 Ncw0_7 Nfw0_7 Nhy0))))
  go_ret
  exact ⟨rfl, by (repeat' (first | (with_reducible exact Below.refl _ _) | (with_reducible assumption) | (with_reducible refine Below.alloc ?_ ?_ _) | (with_reducible refine Below.drew ?_) | (with_reducible refine Below.drewN' ?_ _) | (with_reducible refine Below.setCell ?_ ?_ _) | (refine Below.via ?_ (by with_reducible assumption) ?_) | (with_reducible refine Below.via ?_ (Wd.h _) ?_) | go_size))⟩

set_option maxRecDepth 100000 in
set_option maxHeartbeats 1000000 in
theorem slices_IndexFuncContract (A' A B : Option Addr) (c' n c m d b : Nat) (l : List Ctr) (w : World) (h : Rd w A' (l.flatMap Ctr.cells)) (hl : l.length ≤ 1048576) (hn : n ≤ 1048576) (h0 : w.cell? ⟨b, 0, none⟩ = some (.slice A n c)) (h1 : w.cell? ⟨b, 1, none⟩ = some (.slice B m d)) :
    Calls Tryz.prog 92 #[.slice A' l.length c', .func (.func 72) #[] #[.pointer (some ⟨b, 0, none⟩)]] w fun e w' => e = .returned (.int .i64 (cIdxF n l 0)) ∧ Below w.heap.size w w' := by
  have H := Lib.hid h
  have HC0 := Lib.hid h0
  have HC1 := Lib.hid h1
  have hb := block_lt h0
  clear h h0 h1
  go_enter Tryz.func92, Tryz.ntmps92
  go_wp2
  go_loopw [8] (fun v wr => ∃ k : Nat, k ≤ l.length ∧ v = .int .i64 k ∧ cIdxF n (l.drop k) k = cIdxF n l 0 ∧ Below w.heap.size w wr) (fun v _ => l.length - (intOf v).toNat)
  case atStart => exact ⟨0, by omega, rfl, rfl, Below.refl _ _⟩
  case round =>
    obtain ⟨k, hk, rfl, hF, hbw⟩ := hrel
    have hbH := Lib.hid hbw
    have HF := Lib.hid hF
    clear hF
    by_cases hlt : k < l.length
    · obtain ⟨x, hx⟩ := get_some hlt
      have HD := Lib.hid (drop_cons hx)
      obtain ⟨b1, off, rfl, hb1, hat⟩ := H.out.opened (k := k) (by rw [flat_len Ctr.len]; omega)
      have hat' := hat.below hbw hb1
      have t0 := hat'.elem0 Ctr.len hx rfl
      have t1 := hat'.elem Ctr.len hx 1 rfl
      have t2 := hat'.elem Ctr.len hx 2 rfl
      have t3 := hat'.elem Ctr.len hx 3 rfl
      have t4 := hat'.elem Ctr.len hx 4 rfl
      have t5 := hat'.elem Ctr.len hx 5 rfl
      have t6 := hat'.elem Ctr.len hx 6 rfl
      have t7 := hat'.elem Ctr.len hx 7 rfl
      have hc0 : wr.cell? ⟨b, 0, none⟩ = some (.slice A n c) := (hbw.cell (p := ⟨b, 0, none⟩) hb).trans HC0.out
      have hc1 : wr.cell? ⟨b, 1, none⟩ = some (.slice B m d) := (hbw.cell (p := ⟨b, 1, none⟩) hb).trans HC1.out
      clear hx hat hat' hbw
      by_cases hx : ctrB x n = true
      · go_wp2_with ((go_at_call 72; ((with_reducible refine (impl_isBook1 A B n c m d b x _ hn hc0 hc1).mono ?_)); rintro e wn ⟨rfl, hbn⟩))
        go_roundw
        case rel =>
          refine ⟨k + 1, by omega, by go_num, ?_, Below.via hbH.out hbn hbH.out.size⟩
          rw [← HF.out, HD.out, cIdxF, if_pos hx]
        case measure => simp [intOf]; omega
      · have hx' : ctrB x n = false := by simpa using hx
        go_wp2_with ((go_at_call 72; ((with_reducible refine (impl_isBook1 A B n c m d b x _ hn hc0 hc1).mono ?_)); rintro e wn ⟨rfl, hbn⟩))
        go_ret
        refine ⟨ri ?_, Below.via hbH.out hbn hbH.out.size⟩
        rw [← HF.out, HD.out, cIdxF, if_neg hx]
    · clear hbw
      go_wp2
      go_ret
      refine ⟨ri ?_, hbH.out⟩
      rw [← HF.out, drop_end hlt, cIdxF]

set_option maxRecDepth 100000 in
set_option maxHeartbeats 1000000 in
theorem slices_ContainsFuncContract (A' A B : Option Addr) (c' n c m d b : Nat) (l : List Ctr) (w : World) (h : Rd w A' (l.flatMap Ctr.cells)) (hl : l.length ≤ 1048576) (hn : n ≤ 1048576) (h0 : w.cell? ⟨b, 0, none⟩ = some (.slice A n c)) (h1 : w.cell? ⟨b, 1, none⟩ = some (.slice B m d)) :
    Calls Tryz.prog 71 #[.slice A' l.length c', .func (.func 72) #[] #[.pointer (some ⟨b, 0, none⟩)]] w fun e w' => e = .returned (.bool (!ctrsB n l)) ∧ Below w.heap.size w w' := by
  have hneg := Lib.hid (cIdxF_neg n l 0)
  go_enter Tryz.func71, Tryz.ntmps71
  go_wp2_with ((go_at_call 92; ((with_reducible refine (slices_IndexFuncContract A' A B c' n c m d b l _ h hl hn h0 h1).mono ?_)); rintro e wn ⟨rfl, hbn⟩))
  go_ret
  refine ⟨rb ?_, hbn⟩
  have := hneg.out
  simp at this ⊢
  exact this

set_option maxRecDepth 100000 in
set_option maxHeartbeats 1000000 in
theorem impl_isBook (A B C : Option Addr) (n c m d e : Nat) (l : List Ctr) (w : World) (hn : n ≤ 1048576) (h : Rd w C (l.flatMap Ctr.cells)) (hl : l.length ≤ 1048576) :
    Calls Tryz.prog 49 #[netV A B n c m d, .slice C l.length e] w fun e w' => e = .returned (.bool (bookB l n)) ∧ Below w.heap.size w w' := by
  have H := Lib.hid h
  clear h
  by_cases h32 : l.length ≤ 32
  · go_enter Tryz.func49, Tryz.ntmps49
    go_wp2_with fail
    refine (slices_ContainsFuncContract _ A B _ n c m d w.heap.size l _ (H.out.below (by (repeat' (first | (with_reducible exact Below.refl _ _) | (with_reducible assumption) | (with_reducible refine Below.alloc ?_ ?_ _) | (with_reducible refine Below.drew ?_) | (with_reducible refine Below.drewN' ?_ _) | (with_reducible refine Below.setCell ?_ ?_ _) | (refine Below.via ?_ (by with_reducible assumption) ?_) | (with_reducible refine Below.via ?_ (Wd.h _) ?_) | go_size)))) hl hn (by simp) (by simp)).mono ?_
    rintro e wn ⟨rfl, hbn⟩
    go_wp2
    go_ret
    refine ⟨rb ?_, by (repeat' (first | (with_reducible exact Below.refl _ _) | (with_reducible assumption) | (with_reducible refine Below.alloc ?_ ?_ _) | (with_reducible refine Below.drew ?_) | (with_reducible refine Below.drewN' ?_ _) | (with_reducible refine Below.setCell ?_ ?_ _) | (refine Below.via ?_ (by with_reducible assumption) ?_) | (with_reducible refine Below.via ?_ (Wd.h _) ?_) | go_size))⟩
    simp [bookB, h32]
  · have b32 : decide ((l.length : Int) ≤ 32) = false := by simp; omega
    go_enter Tryz.func49, Tryz.ntmps49
    go_wp2
    go_ret
    exact ⟨rbf (by simp [bookB]; omega), by (repeat' (first | (with_reducible exact Below.refl _ _) | (with_reducible assumption) | (with_reducible refine Below.alloc ?_ ?_ _) | (with_reducible refine Below.drew ?_) | (with_reducible refine Below.drewN' ?_ _) | (with_reducible refine Below.setCell ?_ ?_ _) | (refine Below.via ?_ (by with_reducible assumption) ?_) | (with_reducible refine Below.via ?_ (Wd.h _) ?_) | go_size))⟩
set_option maxRecDepth 100000 in
set_option maxHeartbeats 1000000 in
theorem spec_l20Book (A B C : Option Addr) (n c m d e : Nat) (l : List Ctr) (w : World) (hn : n ≤ 1048576) (h : Rd w C (l.flatMap Ctr.cells)) (hl : l.length ≤ 1048576) :
    Calls Tryz.prog 52 #[netV A B n c m d, .slice C l.length e] w fun e w' => e = .returned (.bool (bookB l n)) ∧ Below w.heap.size w w' := by
  have H := Lib.hid h
  clear h
  by_cases h32 : 32 < l.length
  · go_enter Tryz.func52, Tryz.ntmps52
    go_wp2
    go_ret
    exact ⟨rbf (by simp [bookB]; omega), by (repeat' (first | (with_reducible exact Below.refl _ _) | (with_reducible assumption) | (with_reducible refine Below.alloc ?_ ?_ _) | (with_reducible refine Below.drew ?_) | (with_reducible refine Below.drewN' ?_ _) | (with_reducible refine Below.setCell ?_ ?_ _) | (refine Below.via ?_ (by with_reducible assumption) ?_) | (with_reducible refine Below.via ?_ (Wd.h _) ?_) | go_size))⟩
  have HB : Hid (bookB l n = ctrsB n l) := by show bookB l n = ctrsB n l; simp [bookB]; omega
  go_enter Tryz.func52, Tryz.ntmps52
  go_wp2
  go_loopw [5] (fun v wr => ∃ k : Nat, k ≤ l.length ∧ v = .int .i64 k ∧ ctrsB n (l.drop k) = ctrsB n l ∧ Bx wr w.heap.size [.slice A n c, .slice B m d] ∧ Below w.heap.size w wr) (fun v _ => l.length - (intOf v).toNat)
  case atStart => exact ⟨0, by omega, rfl, rfl, bx2 (by simp) (by simp) (by simp) (by simp) (by simp), by (repeat' (first | (with_reducible exact Below.refl _ _) | (with_reducible assumption) | (with_reducible refine Below.alloc ?_ ?_ _) | (with_reducible refine Below.drew ?_) | (with_reducible refine Below.drewN' ?_ _) | (with_reducible refine Below.setCell ?_ ?_ _) | (refine Below.via ?_ (by with_reducible assumption) ?_) | (with_reducible refine Below.via ?_ (Wd.h _) ?_) | go_size))⟩
  case round =>
    obtain ⟨k, hk, rfl, hF, hB, hbw⟩ := hrel
    have hbH := Lib.hid hbw
    have HF := Lib.hid hF
    have hy0 := hB.lt; have cw0_0 := hB.cell 0 rfl; have fw0_0 := hB.frozen 0 rfl; have cw0_1 := hB.cell 1 rfl; have fw0_1 := hB.frozen 1 rfl
    clear hF hB
    by_cases hlt : k < l.length
    · obtain ⟨x, hx⟩ := get_some hlt
      have HD := Lib.hid (drop_cons hx)
      obtain ⟨b, off, rfl, hb, hat⟩ := H.out.opened (k := k) (by rw [flat_len Ctr.len]; omega)
      have hat' := hat.below hbw hb
      have hyb : b < wr.heap.size := Nat.lt_of_lt_of_le hb hbw.size
      have q0 := Wd.cell hyb (hat'.elem0 Ctr.len hx rfl)
      have q1 := Wd.cell hyb (hat'.elem Ctr.len hx 1 rfl)
      have q2 := Wd.cell hyb (hat'.elem Ctr.len hx 2 rfl)
      have q3 := Wd.cell hyb (hat'.elem Ctr.len hx 3 rfl)
      have q4 := Wd.cell hyb (hat'.elem Ctr.len hx 4 rfl)
      have q5 := Wd.cell hyb (hat'.elem Ctr.len hx 5 rfl)
      have q6 := Wd.cell hyb (hat'.elem Ctr.len hx 6 rfl)
      have q7 := Wd.cell hyb (hat'.elem Ctr.len hx 7 rfl)
      have g1 : (k : Int) < l.length := by omega
      clear hx hat hat' hbw
      by_cases hx : ctrB x n = true
      · go_wp2_with fail
        (have qcw0_0 := Wd.cell hy0 cw0_0; have qcw0_1 := Wd.cell hy0 cw0_1; (refine wp_region_wd (by kernel_rfl) (by kernel_rfl) ?_); (repeat (go_big_quiet_step ((first | fail | (go_at_call 67; apply wd_below; with_reducible exact (spec_l20Is _ _ _ _ _ _ _ _ (by omega))) | (go_at_call 67; exact wd_below (spec_l20Is _ _ _ _ _ _ _ _ (by omega))))))); (refine wpQuiet_nil ?_); rintro wn ⟨⟨w'', hbn⟩, hw''⟩; obtain rfl : wn = w'' := hw''; clear qcw0_0 qcw0_1; (obtain ⟨hcn, hfn⟩ := bcell hbn; have hzn := hbn.size; (try simp at hzn); have Ncw0_0 := hcn (w.heap.size) (0) (by first | omega | (simp; done) | (simp; omega)); have Nfw0_0 := hfn (w.heap.size) (0) (by first | omega | (simp; done) | (simp; omega)); have Nhy0 : w.heap.size < wn.heap.size := (by omega); have Ncw0_1 := hcn (w.heap.size) (1) (by first | omega | (simp; done) | (simp; omega)); have Nfw0_1 := hfn (w.heap.size) (1) (by first | omega | (simp; done) | (simp; omega)); (first | (simp [go_sem, cw0_0, fw0_0, cw0_1, fw0_1, hy0] at Ncw0_0 Nfw0_0 Ncw0_1 Nfw0_1; clear cw0_0 fw0_0 cw0_1 fw0_1) | (simp [go_sem] at Ncw0_0 Nfw0_0 Ncw0_1 Nfw0_1)); clear hcn hfn; have cw0_0 := Ncw0_0; have fw0_0 := Nfw0_0; have cw0_1 := Ncw0_1; have fw0_1 := Nfw0_1; have hy0 := Nhy0; clear Ncw0_0 Nfw0_0 Ncw0_1 Nfw0_1 Nhy0))
        go_wp2
        go_roundw
        case rel =>
          refine ⟨k + 1, by omega, by go_num, ?_, (bx2 (by first | exact hy0 | go_size) (by first | (with_reducible exact cw0_0) | go_cell_look | (simp [go_sem, hy0, cw0_0, fw0_0, cw0_1, fw0_1]; done) | (simp [go_sem]; done)) (by first | (with_reducible exact fw0_0) | (simp only [World.frozen?_setCell, fw0_0]; done) | (simp [go_sem, hy0, cw0_0, fw0_0, cw0_1, fw0_1]; done) | (simp [go_sem]; done)) (by first | (with_reducible exact cw0_1) | go_cell_look | (simp [go_sem, hy0, cw0_0, fw0_0, cw0_1, fw0_1]; done) | (simp [go_sem]; done)) (by first | (with_reducible exact fw0_1) | (simp only [World.frozen?_setCell, fw0_1]; done) | (simp [go_sem, hy0, cw0_0, fw0_0, cw0_1, fw0_1]; done) | (simp [go_sem]; done))), by have h1 := hbH.out; (repeat' (first | (with_reducible exact Below.refl _ _) | (with_reducible assumption) | (with_reducible refine Below.alloc ?_ ?_ _) | (with_reducible refine Below.drew ?_) | (with_reducible refine Below.drewN' ?_ _) | (with_reducible refine Below.setCell ?_ ?_ _) | (refine Below.via ?_ (by with_reducible assumption) ?_) | (with_reducible refine Below.via ?_ (Wd.h _) ?_) | go_size))⟩
          rw [← HF.out, HD.out, ctrsB, hx, Bool.true_and]
        case measure => simp [intOf]; omega
      · have hx' : ctrB x n = false := by simpa using hx
        go_wp2_with fail
        (have qcw0_0 := Wd.cell hy0 cw0_0; have qcw0_1 := Wd.cell hy0 cw0_1; (refine wp_region_wd (by kernel_rfl) (by kernel_rfl) ?_); (repeat (go_big_quiet_step ((first | fail | (go_at_call 67; apply wd_below; with_reducible exact (spec_l20Is _ _ _ _ _ _ _ _ (by omega))) | (go_at_call 67; exact wd_below (spec_l20Is _ _ _ _ _ _ _ _ (by omega))))))); (refine wpQuiet_nil ?_); rintro wn ⟨⟨w'', hbn⟩, hw''⟩; obtain rfl : wn = w'' := hw''; clear qcw0_0 qcw0_1; (obtain ⟨hcn, hfn⟩ := bcell hbn; have hzn := hbn.size; (try simp at hzn); have Ncw0_0 := hcn (w.heap.size) (0) (by first | omega | (simp; done) | (simp; omega)); have Nfw0_0 := hfn (w.heap.size) (0) (by first | omega | (simp; done) | (simp; omega)); have Nhy0 : w.heap.size < wn.heap.size := (by omega); have Ncw0_1 := hcn (w.heap.size) (1) (by first | omega | (simp; done) | (simp; omega)); have Nfw0_1 := hfn (w.heap.size) (1) (by first | omega | (simp; done) | (simp; omega)); (first | (simp [go_sem, cw0_0, fw0_0, cw0_1, fw0_1, hy0] at Ncw0_0 Nfw0_0 Ncw0_1 Nfw0_1; clear cw0_0 fw0_0 cw0_1 fw0_1) | (simp [go_sem] at Ncw0_0 Nfw0_0 Ncw0_1 Nfw0_1)); clear hcn hfn; have cw0_0 := Ncw0_0; have fw0_0 := Nfw0_0; have cw0_1 := Ncw0_1; have fw0_1 := Nfw0_1; have hy0 := Nhy0; clear Ncw0_0 Nfw0_0 Ncw0_1 Nfw0_1 Nhy0))
        go_wp2
        go_ret
        refine ⟨rbf ?_, by have h1 := hbH.out; (repeat' (first | (with_reducible exact Below.refl _ _) | (with_reducible assumption) | (with_reducible refine Below.alloc ?_ ?_ _) | (with_reducible refine Below.drew ?_) | (with_reducible refine Below.drewN' ?_ _) | (with_reducible refine Below.setCell ?_ ?_ _) | (refine Below.via ?_ (by with_reducible assumption) ?_) | (with_reducible refine Below.via ?_ (Wd.h _) ?_) | go_size))⟩
        rw [HB.out, ← HF.out, HD.out, ctrsB, hx', Bool.false_and]
    · clear hbw
      go_wp2
      go_ret
      refine ⟨rbt ?_, hbH.out⟩
      rw [HB.out, ← HF.out, drop_end hlt, ctrsB]
set_option maxRecDepth 100000 in
set_option maxHeartbeats 1000000 in
theorem impl_checkBook (A B C : Option Addr) (n c m d e : Nat) (N : Net) (lb : List Ctr) (w : World) (hN : NetAt w A B N) (hn : n = N.nodes.length) (hm : m = N.pipes.length) (hc : n ≤ c) (h : Rd w C (lb.flatMap Ctr.cells)) (hl : lb.length ≤ 1048576) :
    Calls Tryz.prog 29 #[netV A B n c m d, .slice C lb.length e] w fun e w' => e = .returned (.int .i64 (bookC N lb)) ∧ Below w.heap.size w w' := by
  subst hn hm
  have HN := Lib.hid hN
  have HB := Lib.hid h
  have hln := hN.ln
  clear hN h
  cases hb : netB N
  · (go_enter Tryz.func29, Tryz.ntmps29; go_wp2_with (first | (go_at_call 48; ((with_reducible refine (impl_IsNetwork _ _ _ _ _ _ N _ (by exact HN.out.below (by (repeat' (first | (with_reducible exact Below.refl _ _) | (with_reducible assumption) | (with_reducible refine Below.alloc ?_ ?_ _) | (with_reducible refine Below.drew ?_) | (with_reducible refine Below.drewN' ?_ _) | (with_reducible refine Below.setCell ?_ ?_ _) | (refine Below.via ?_ (by with_reducible assumption) ?_) | (with_reducible refine Below.via ?_ (Wd.h _) ?_) | go_size)))) rfl rfl (by omega)).mono ?_)); rintro e wn ⟨rfl, hbn⟩; (obtain ⟨hcn, hfn⟩ := bcell hbn; have hzn := hbn.size; (try simp at hzn); have Ncw0_0 := hcn (w.heap.size) (0) (by first | omega | (simp; done) | (simp; omega)); have Nfw0_0 := hfn (w.heap.size) (0) (by first | omega | (simp; done) | (simp; omega)); have Nhy0 : w.heap.size < wn.heap.size := (by omega); have Ncw0_1 := hcn (w.heap.size) (1) (by first | omega | (simp; done) | (simp; omega)); have Nfw0_1 := hfn (w.heap.size) (1) (by first | omega | (simp; done) | (simp; omega)); (first | (simp [go_sem, cw0_0, fw0_0, cw0_1, fw0_1, hy0] at Ncw0_0 Nfw0_0 Ncw0_1 Nfw0_1; clear cw0_0 fw0_0 cw0_1 fw0_1) | (simp [go_sem] at Ncw0_0 Nfw0_0 Ncw0_1 Nfw0_1)); clear hcn hfn; have cw0_0 := Ncw0_0; have fw0_0 := Nfw0_0; have cw0_1 := Ncw0_1; have fw0_1 := Nfw0_1; have hy0 := Nhy0; clear Ncw0_0 Nfw0_0 Ncw0_1 Nfw0_1 Nhy0)) | (go_at_call 49; ((with_reducible refine (impl_isBook _ _ _ _ _ _ _ _ lb _ (by omega) (by exact HB.out.below (by (repeat' (first | (with_reducible exact Below.refl _ _) | (with_reducible assumption) | (with_reducible refine Below.alloc ?_ ?_ _) | (with_reducible refine Below.drew ?_) | (with_reducible refine Below.drewN' ?_ _) | (with_reducible refine Below.setCell ?_ ?_ _) | (refine Below.via ?_ (by with_reducible assumption) ?_) | (with_reducible refine Below.via ?_ (Wd.h _) ?_) | go_size)))) (by omega)).mono ?_)); rintro e wn ⟨rfl, hbn⟩; (obtain ⟨hcn, hfn⟩ := bcell hbn; have hzn := hbn.size; (try simp at hzn); have Ncw0_0 := hcn (w.heap.size) (0) (by first | omega | (simp; done) | (simp; omega)); have Nfw0_0 := hfn (w.heap.size) (0) (by first | omega | (simp; done) | (simp; omega)); have Nhy0 : w.heap.size < wn.heap.size := (by omega); have Ncw0_1 := hcn (w.heap.size) (1) (by first | omega | (simp; done) | (simp; omega)); have Nfw0_1 := hfn (w.heap.size) (1) (by first | omega | (simp; done) | (simp; omega)); (first | (simp [go_sem, cw0_0, fw0_0, cw0_1, fw0_1, hy0] at Ncw0_0 Nfw0_0 Ncw0_1 Nfw0_1; clear cw0_0 fw0_0 cw0_1 fw0_1) | (simp [go_sem] at Ncw0_0 Nfw0_0 Ncw0_1 Nfw0_1)); clear hcn hfn; have cw0_0 := Ncw0_0; have fw0_0 := Nfw0_0; have cw0_1 := Ncw0_1; have fw0_1 := Nfw0_1; have hy0 := Nhy0; clear Ncw0_0 Nfw0_0 Ncw0_1 Nfw0_1 Nhy0))))
    go_ret
    exact ⟨ri (by simp [bookC, hb]), by (repeat' (first | (with_reducible exact Below.refl _ _) | (with_reducible assumption) | (with_reducible refine Below.alloc ?_ ?_ _) | (with_reducible refine Below.drew ?_) | (with_reducible refine Below.drewN' ?_ _) | (with_reducible refine Below.setCell ?_ ?_ _) | (refine Below.via ?_ (by with_reducible assumption) ?_) | (with_reducible refine Below.via ?_ (Wd.h _) ?_) | go_size))⟩
  · cases hk : bookB lb N.nodes.length
    all_goals
      (go_enter Tryz.func29, Tryz.ntmps29; go_wp2_with (first | (go_at_call 48; ((with_reducible refine (impl_IsNetwork _ _ _ _ _ _ N _ (by exact HN.out.below (by (repeat' (first | (with_reducible exact Below.refl _ _) | (with_reducible assumption) | (with_reducible refine Below.alloc ?_ ?_ _) | (with_reducible refine Below.drew ?_) | (with_reducible refine Below.drewN' ?_ _) | (with_reducible refine Below.setCell ?_ ?_ _) | (refine Below.via ?_ (by with_reducible assumption) ?_) | (with_reducible refine Below.via ?_ (Wd.h _) ?_) | go_size)))) rfl rfl (by omega)).mono ?_)); rintro e wn ⟨rfl, hbn⟩; (obtain ⟨hcn, hfn⟩ := bcell hbn; have hzn := hbn.size; (try simp at hzn); have Ncw0_0 := hcn (w.heap.size) (0) (by first | omega | (simp; done) | (simp; omega)); have Nfw0_0 := hfn (w.heap.size) (0) (by first | omega | (simp; done) | (simp; omega)); have Nhy0 : w.heap.size < wn.heap.size := (by omega); have Ncw0_1 := hcn (w.heap.size) (1) (by first | omega | (simp; done) | (simp; omega)); have Nfw0_1 := hfn (w.heap.size) (1) (by first | omega | (simp; done) | (simp; omega)); (first | (simp [go_sem, cw0_0, fw0_0, cw0_1, fw0_1, hy0] at Ncw0_0 Nfw0_0 Ncw0_1 Nfw0_1; clear cw0_0 fw0_0 cw0_1 fw0_1) | (simp [go_sem] at Ncw0_0 Nfw0_0 Ncw0_1 Nfw0_1)); clear hcn hfn; have cw0_0 := Ncw0_0; have fw0_0 := Nfw0_0; have cw0_1 := Ncw0_1; have fw0_1 := Nfw0_1; have hy0 := Nhy0; clear Ncw0_0 Nfw0_0 Ncw0_1 Nfw0_1 Nhy0)) | (go_at_call 49; ((with_reducible refine (impl_isBook _ _ _ _ _ _ _ _ lb _ (by omega) (by exact HB.out.below (by (repeat' (first | (with_reducible exact Below.refl _ _) | (with_reducible assumption) | (with_reducible refine Below.alloc ?_ ?_ _) | (with_reducible refine Below.drew ?_) | (with_reducible refine Below.drewN' ?_ _) | (with_reducible refine Below.setCell ?_ ?_ _) | (refine Below.via ?_ (by with_reducible assumption) ?_) | (with_reducible refine Below.via ?_ (Wd.h _) ?_) | go_size)))) (by omega)).mono ?_)); rintro e wn ⟨rfl, hbn⟩; (obtain ⟨hcn, hfn⟩ := bcell hbn; have hzn := hbn.size; (try simp at hzn); have Ncw0_0 := hcn (w.heap.size) (0) (by first | omega | (simp; done) | (simp; omega)); have Nfw0_0 := hfn (w.heap.size) (0) (by first | omega | (simp; done) | (simp; omega)); have Nhy0 : w.heap.size < wn.heap.size := (by omega); have Ncw0_1 := hcn (w.heap.size) (1) (by first | omega | (simp; done) | (simp; omega)); have Nfw0_1 := hfn (w.heap.size) (1) (by first | omega | (simp; done) | (simp; omega)); (first | (simp [go_sem, cw0_0, fw0_0, cw0_1, fw0_1, hy0] at Ncw0_0 Nfw0_0 Ncw0_1 Nfw0_1; clear cw0_0 fw0_0 cw0_1 fw0_1) | (simp [go_sem] at Ncw0_0 Nfw0_0 Ncw0_1 Nfw0_1)); clear hcn hfn; have cw0_0 := Ncw0_0; have fw0_0 := Nfw0_0; have cw0_1 := Ncw0_1; have fw0_1 := Nfw0_1; have hy0 := Nhy0; clear Ncw0_0 Nfw0_0 Ncw0_1 Nfw0_1 Nhy0))))
      go_ret
      exact ⟨ri (by simp [bookC, hb, hk]), by (repeat' (first | (with_reducible exact Below.refl _ _) | (with_reducible assumption) | (with_reducible refine Below.alloc ?_ ?_ _) | (with_reducible refine Below.drew ?_) | (with_reducible refine Below.drewN' ?_ _) | (with_reducible refine Below.setCell ?_ ?_ _) | (refine Below.via ?_ (by with_reducible assumption) ?_) | (with_reducible refine Below.via ?_ (Wd.h _) ?_) | go_size))⟩
set_option maxRecDepth 100000 in
set_option maxHeartbeats 1000000 in
theorem spec_l20Code (A B C : Option Addr) (n c m d e : Nat) (N : Net) (lb : List Ctr) (w : World) (hN : NetAt w A B N) (hn : n = N.nodes.length) (hm : m = N.pipes.length) (h : Rd w C (lb.flatMap Ctr.cells)) (hl : lb.length ≤ 1048576) :
    Calls Tryz.prog 33 #[netV A B n c m d, .slice C lb.length e] w fun e w' => e = .returned (.int .i64 (bookC N lb)) ∧ Below w.heap.size w w' := by
  subst hn hm
  have HN := Lib.hid hN
  have HB := Lib.hid h
  have hln := hN.ln
  clear hN h
  cases hb : netB N
  · (go_enter Tryz.func33, Tryz.ntmps33; go_wp2_with (first | (go_at_call 51; ((with_reducible refine (spec_IsNetwork _ _ _ _ _ _ N _ (by exact HN.out.below (by (repeat' (first | (with_reducible exact Below.refl _ _) | (with_reducible assumption) | (with_reducible refine Below.alloc ?_ ?_ _) | (with_reducible refine Below.drew ?_) | (with_reducible refine Below.drewN' ?_ _) | (with_reducible refine Below.setCell ?_ ?_ _) | (refine Below.via ?_ (by with_reducible assumption) ?_) | (with_reducible refine Below.via ?_ (Wd.h _) ?_) | go_size)))) rfl rfl).mono ?_)); rintro e wn ⟨rfl, hbn⟩; (obtain ⟨hcn, hfn⟩ := bcell hbn; have hzn := hbn.size; (try simp at hzn); have Ncw0_0 := hcn (w.heap.size) (0) (by first | omega | (simp; done) | (simp; omega)); have Nfw0_0 := hfn (w.heap.size) (0) (by first | omega | (simp; done) | (simp; omega)); have Nhy0 : w.heap.size < wn.heap.size := (by omega); have Ncw0_1 := hcn (w.heap.size) (1) (by first | omega | (simp; done) | (simp; omega)); have Nfw0_1 := hfn (w.heap.size) (1) (by first | omega | (simp; done) | (simp; omega)); (first | (simp [go_sem, cw0_0, fw0_0, cw0_1, fw0_1, hy0] at Ncw0_0 Nfw0_0 Ncw0_1 Nfw0_1; clear cw0_0 fw0_0 cw0_1 fw0_1) | (simp [go_sem] at Ncw0_0 Nfw0_0 Ncw0_1 Nfw0_1)); clear hcn hfn; have cw0_0 := Ncw0_0; have fw0_0 := Nfw0_0; have cw0_1 := Ncw0_1; have fw0_1 := Nfw0_1; have hy0 := Nhy0; clear Ncw0_0 Nfw0_0 Ncw0_1 Nfw0_1 Nhy0)) | (go_at_call 52; ((with_reducible refine (spec_l20Book _ _ _ _ _ _ _ _ lb _ (by omega) (by exact HB.out.below (by (repeat' (first | (with_reducible exact Below.refl _ _) | (with_reducible assumption) | (with_reducible refine Below.alloc ?_ ?_ _) | (with_reducible refine Below.drew ?_) | (with_reducible refine Below.drewN' ?_ _) | (with_reducible refine Below.setCell ?_ ?_ _) | (refine Below.via ?_ (by with_reducible assumption) ?_) | (with_reducible refine Below.via ?_ (Wd.h _) ?_) | go_size)))) (by omega)).mono ?_)); rintro e wn ⟨rfl, hbn⟩; (obtain ⟨hcn, hfn⟩ := bcell hbn; have hzn := hbn.size; (try simp at hzn); have Ncw0_0 := hcn (w.heap.size) (0) (by first | omega | (simp; done) | (simp; omega)); have Nfw0_0 := hfn (w.heap.size) (0) (by first | omega | (simp; done) | (simp; omega)); have Nhy0 : w.heap.size < wn.heap.size := (by omega); have Ncw0_1 := hcn (w.heap.size) (1) (by first | omega | (simp; done) | (simp; omega)); have Nfw0_1 := hfn (w.heap.size) (1) (by first | omega | (simp; done) | (simp; omega)); (first | (simp [go_sem, cw0_0, fw0_0, cw0_1, fw0_1, hy0] at Ncw0_0 Nfw0_0 Ncw0_1 Nfw0_1; clear cw0_0 fw0_0 cw0_1 fw0_1) | (simp [go_sem] at Ncw0_0 Nfw0_0 Ncw0_1 Nfw0_1)); clear hcn hfn; have cw0_0 := Ncw0_0; have fw0_0 := Nfw0_0; have cw0_1 := Ncw0_1; have fw0_1 := Nfw0_1; have hy0 := Nhy0; clear Ncw0_0 Nfw0_0 Ncw0_1 Nfw0_1 Nhy0))))
    go_ret
    exact ⟨ri (by simp [bookC, hb]), by (repeat' (first | (with_reducible exact Below.refl _ _) | (with_reducible assumption) | (with_reducible refine Below.alloc ?_ ?_ _) | (with_reducible refine Below.drew ?_) | (with_reducible refine Below.drewN' ?_ _) | (with_reducible refine Below.setCell ?_ ?_ _) | (refine Below.via ?_ (by with_reducible assumption) ?_) | (with_reducible refine Below.via ?_ (Wd.h _) ?_) | go_size))⟩
  · cases hk : bookB lb N.nodes.length
    all_goals
      (go_enter Tryz.func33, Tryz.ntmps33; go_wp2_with (first | (go_at_call 51; ((with_reducible refine (spec_IsNetwork _ _ _ _ _ _ N _ (by exact HN.out.below (by (repeat' (first | (with_reducible exact Below.refl _ _) | (with_reducible assumption) | (with_reducible refine Below.alloc ?_ ?_ _) | (with_reducible refine Below.drew ?_) | (with_reducible refine Below.drewN' ?_ _) | (with_reducible refine Below.setCell ?_ ?_ _) | (refine Below.via ?_ (by with_reducible assumption) ?_) | (with_reducible refine Below.via ?_ (Wd.h _) ?_) | go_size)))) rfl rfl).mono ?_)); rintro e wn ⟨rfl, hbn⟩; (obtain ⟨hcn, hfn⟩ := bcell hbn; have hzn := hbn.size; (try simp at hzn); have Ncw0_0 := hcn (w.heap.size) (0) (by first | omega | (simp; done) | (simp; omega)); have Nfw0_0 := hfn (w.heap.size) (0) (by first | omega | (simp; done) | (simp; omega)); have Nhy0 : w.heap.size < wn.heap.size := (by omega); have Ncw0_1 := hcn (w.heap.size) (1) (by first | omega | (simp; done) | (simp; omega)); have Nfw0_1 := hfn (w.heap.size) (1) (by first | omega | (simp; done) | (simp; omega)); (first | (simp [go_sem, cw0_0, fw0_0, cw0_1, fw0_1, hy0] at Ncw0_0 Nfw0_0 Ncw0_1 Nfw0_1; clear cw0_0 fw0_0 cw0_1 fw0_1) | (simp [go_sem] at Ncw0_0 Nfw0_0 Ncw0_1 Nfw0_1)); clear hcn hfn; have cw0_0 := Ncw0_0; have fw0_0 := Nfw0_0; have cw0_1 := Ncw0_1; have fw0_1 := Nfw0_1; have hy0 := Nhy0; clear Ncw0_0 Nfw0_0 Ncw0_1 Nfw0_1 Nhy0)) | (go_at_call 52; ((with_reducible refine (spec_l20Book _ _ _ _ _ _ _ _ lb _ (by omega) (by exact HB.out.below (by (repeat' (first | (with_reducible exact Below.refl _ _) | (with_reducible assumption) | (with_reducible refine Below.alloc ?_ ?_ _) | (with_reducible refine Below.drew ?_) | (with_reducible refine Below.drewN' ?_ _) | (with_reducible refine Below.setCell ?_ ?_ _) | (refine Below.via ?_ (by with_reducible assumption) ?_) | (with_reducible refine Below.via ?_ (Wd.h _) ?_) | go_size)))) (by omega)).mono ?_)); rintro e wn ⟨rfl, hbn⟩; (obtain ⟨hcn, hfn⟩ := bcell hbn; have hzn := hbn.size; (try simp at hzn); have Ncw0_0 := hcn (w.heap.size) (0) (by first | omega | (simp; done) | (simp; omega)); have Nfw0_0 := hfn (w.heap.size) (0) (by first | omega | (simp; done) | (simp; omega)); have Nhy0 : w.heap.size < wn.heap.size := (by omega); have Ncw0_1 := hcn (w.heap.size) (1) (by first | omega | (simp; done) | (simp; omega)); have Nfw0_1 := hfn (w.heap.size) (1) (by first | omega | (simp; done) | (simp; omega)); (first | (simp [go_sem, cw0_0, fw0_0, cw0_1, fw0_1, hy0] at Ncw0_0 Nfw0_0 Ncw0_1 Nfw0_1; clear cw0_0 fw0_0 cw0_1 fw0_1) | (simp [go_sem] at Ncw0_0 Nfw0_0 Ncw0_1 Nfw0_1)); clear hcn hfn; have cw0_0 := Ncw0_0; have fw0_0 := Nfw0_0; have cw0_1 := Ncw0_1; have fw0_1 := Nfw0_1; have hy0 := Nhy0; clear Ncw0_0 Nfw0_0 Ncw0_1 Nfw0_1 Nhy0))))
      go_ret
      exact ⟨ri (by simp [bookC, hb, hk]), by (repeat' (first | (with_reducible exact Below.refl _ _) | (with_reducible assumption) | (with_reducible refine Below.alloc ?_ ?_ _) | (with_reducible refine Below.drew ?_) | (with_reducible refine Below.drewN' ?_ _) | (with_reducible refine Below.setCell ?_ ?_ _) | (refine Below.via ?_ (by with_reducible assumption) ?_) | (with_reducible refine Below.via ?_ (Wd.h _) ?_) | go_size))⟩
end Go.Proofs.YtbdacplndmnkhaaGreatDoor

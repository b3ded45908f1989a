/- The walk of the law FnOrders: for all bytes it returns true and writes nothing that was there. -/
import Derived.Test.YtigplpbdkjiekaaCt1
import Derived.Test.YtigplpbdkjiekaaSu
import Derived.Test.YtigplpbdkjiekaaOs0
import Derived.Test.YtigplpbdkjiekaaAb
import Derived.Test.YtigplpbdkjiekaaAQ
import Derived.Lib.MinMax
import Derived.Test.YtigplpbdkjiekaaDak
import Derived.Test.YtigplpbdkjiekaaOo
import Derived.Test.YtigplpbdkjiekaaNs
namespace Go.Proofs.Ytigplpbdkjiekaa
set_option linter.unusedVariables false
set_option linter.unusedSimpArgs false
open Go.RowKit

def ordB (x : Ord) (n : Int) : Bool := inB x.sh 0 15 && inB x.nd 0 (n - 1) && inB x.am (-30000) 30000 && inB x.cl 0 3
def ordsF (n : Int) : List Ord → Bool
  | [] => true
  | x :: l => ordB x n && ordsF n l
theorem ordsF_all {n : Int} : ∀ {l : List Ord}, ordsF n l = true ↔ ∀ x ∈ l, ordB x n = true
  | [] => by simp [ordsF]
  | x :: l => by simp [ordsF, ordsF_all (l := l)]
def ordsB (l : List Ord) (n : Int) : Bool := decide (l.length ≤ 40) && ordsF n l
noncomputable def ordC (N : Net) (l : List Ord) : Int := if netB N = false then 1 else if ordsB l N.nodes.length = false then 3 else 0
theorem ord_of {N : Net} {l : List Ord} (h : ordC N l = 0) : N.Ok ∧ l.length ≤ 40 ∧ ∀ x ∈ l, ordB x N.nodes.length = true := by
  unfold ordC at h
  by_cases h1 : netB N = false
  · simp [h1] at h
  · by_cases h2 : ordsB l N.nodes.length = false
    · simp [h1, h2] at h
    · have h1' : netB N = true := by simpa using h1
      have h2' : ordsB l N.nodes.length = true := by simpa using h2
      simp [ordsB] at h2'
      exact ⟨netB_ok h1', h2'.1, ordsF_all.1 h2'.2⟩
theorem ordB_of {x : Ord} {n : Int} (h : ordB x n = true) : (0 ≤ x.sh ∧ x.sh ≤ 15) ∧ (0 ≤ x.nd ∧ x.nd ≤ n - 1) ∧ (-30000 ≤ x.am ∧ x.am ≤ 30000) ∧ (0 ≤ x.cl ∧ x.cl ≤ 3) := by
  simp [ordB, inB] at h; omega

set_option maxRecDepth 100000 in
set_option maxHeartbeats 4000000 in
theorem impl_checkOrders (A B C : Option Addr) (n c m d e : Nat) (N : Net) (lo : List Ord) (w : World) (hN : NetAt w A B N) (hn : n = N.nodes.length) (hm : m = N.pipes.length) (hc : n ≤ c) (h : Rd w C (lo.flatMap Ord.cells)) (hl : lo.length ≤ 1048576) :
    Calls Try.prog 53 #[netV A B n c m d, .slice C lo.length e] w fun e w' => e = .returned (.int .i64 (ordC N lo)) ∧ Below w.heap.size w w' := by
  subst hn hm
  have HN := Lib.hid hN
  have HL := Lib.hid h
  have hln := hN.ln
  clear hN h
  cases hb : netB N
  · (go_enter Try.func53, Try.ntmps53; go_wp2_with (first | (go_at_call 63; ((with_reducible refine (impl_IsNetwork _ _ _ _ _ _ N _ (by exact HN.out.below (by (repeat' (first | (with_reducible exact Below.refl _ _) | (with_reducible assumption) | (with_reducible refine Below.alloc ?_ ?_ _) | (with_reducible refine Below.drew ?_) | (with_reducible refine Below.drewN' ?_ _) | (with_reducible refine Below.setCell ?_ ?_ _) | (refine Below.via ?_ (by with_reducible assumption) ?_) | (with_reducible refine Below.via ?_ (Wd.h _) ?_) | go_size)))) rfl rfl (by omega)).mono ?_)); rintro e wn ⟨rfl, hbn⟩; (obtain ⟨hcn, hfn⟩ := bcell hbn; have hzn := hbn.size; (try simp at hzn); have Ncw0_0 := hcn (w.heap.size) (0) (by first | omega | (simp; done) | (simp; omega)); have Nfw0_0 := hfn (w.heap.size) (0) (by first | omega | (simp; done) | (simp; omega)); have Nhy0 : w.heap.size < wn.heap.size := (by omega); have Ncw0_1 := hcn (w.heap.size) (1) (by first | omega | (simp; done) | (simp; omega)); have Nfw0_1 := hfn (w.heap.size) (1) (by first | omega | (simp; done) | (simp; omega)); (first | (simp [go_sem, cw0_0, fw0_0, cw0_1, fw0_1, hy0] at Ncw0_0 Nfw0_0 Ncw0_1 Nfw0_1; clear cw0_0 fw0_0 cw0_1 fw0_1) | (simp [go_sem] at Ncw0_0 Nfw0_0 Ncw0_1 Nfw0_1)); clear hcn hfn; have cw0_0 := Ncw0_0; have fw0_0 := Nfw0_0; have cw0_1 := Ncw0_1; have fw0_1 := Nfw0_1; have hy0 := Nhy0; clear Ncw0_0 Nfw0_0 Ncw0_1 Nfw0_1 Nhy0)) | (go_at_call 76; ((with_reducible refine (impl_isShipper _ _).mono ?_)); rintro e wn ⟨rfl, rfl⟩) | (go_at_call 77; ((with_reducible refine (impl_isNodeOf _ _ _ _ _ _ _ _ (by omega)).mono ?_)); rintro e wn ⟨rfl, hbn⟩; (obtain ⟨hcn, hfn⟩ := bcell hbn; have hzn := hbn.size; (try simp at hzn); have Ncw0_0 := hcn (w.heap.size) (0) (by first | omega | (simp; done) | (simp; omega)); have Nfw0_0 := hfn (w.heap.size) (0) (by first | omega | (simp; done) | (simp; omega)); have Nhy0 : w.heap.size < wn.heap.size := (by omega); have Ncw0_1 := hcn (w.heap.size) (1) (by first | omega | (simp; done) | (simp; omega)); have Nfw0_1 := hfn (w.heap.size) (1) (by first | omega | (simp; done) | (simp; omega)); (first | (simp [go_sem, cw0_0, fw0_0, cw0_1, fw0_1, hy0] at Ncw0_0 Nfw0_0 Ncw0_1 Nfw0_1; clear cw0_0 fw0_0 cw0_1 fw0_1) | (simp [go_sem] at Ncw0_0 Nfw0_0 Ncw0_1 Nfw0_1)); clear hcn hfn; have cw0_0 := Ncw0_0; have fw0_0 := Nfw0_0; have cw0_1 := Ncw0_1; have fw0_1 := Nfw0_1; have hy0 := Nhy0; clear Ncw0_0 Nfw0_0 Ncw0_1 Nfw0_1 Nhy0)) | (go_at_call 47; ((with_reducible refine (within_any _ _ _ _).mono ?_)); rintro e wn ⟨rfl, rfl⟩) | (go_at_call 47; ((with_reducible refine (within_any _ _ _ _).mono ?_)); rintro e wn ⟨rfl, rfl⟩)))
    go_ret
    exact ⟨ri (by simp [ordC, hb]), by (repeat' (first | (with_reducible exact Below.refl _ _) | (with_reducible assumption) | (with_reducible refine Below.alloc ?_ ?_ _) | (with_reducible refine Below.drew ?_) | (with_reducible refine Below.drewN' ?_ _) | (with_reducible refine Below.setCell ?_ ?_ _) | (refine Below.via ?_ (by with_reducible assumption) ?_) | (with_reducible refine Below.via ?_ (Wd.h _) ?_) | go_size))⟩
  by_cases h40 : 40 < lo.length
  · have b40 : decide (40 < (lo.length : Int)) = true := by simp; omega
    (go_enter Try.func53, Try.ntmps53; go_wp2_with (first | (go_at_call 63; ((with_reducible refine (impl_IsNetwork _ _ _ _ _ _ N _ (by exact HN.out.below (by (repeat' (first | (with_reducible exact Below.refl _ _) | (with_reducible assumption) | (with_reducible refine Below.alloc ?_ ?_ _) | (with_reducible refine Below.drew ?_) | (with_reducible refine Below.drewN' ?_ _) | (with_reducible refine Below.setCell ?_ ?_ _) | (refine Below.via ?_ (by with_reducible assumption) ?_) | (with_reducible refine Below.via ?_ (Wd.h _) ?_) | go_size)))) rfl rfl (by omega)).mono ?_)); rintro e wn ⟨rfl, hbn⟩; (obtain ⟨hcn, hfn⟩ := bcell hbn; have hzn := hbn.size; (try simp at hzn); have Ncw0_0 := hcn (w.heap.size) (0) (by first | omega | (simp; done) | (simp; omega)); have Nfw0_0 := hfn (w.heap.size) (0) (by first | omega | (simp; done) | (simp; omega)); have Nhy0 : w.heap.size < wn.heap.size := (by omega); have Ncw0_1 := hcn (w.heap.size) (1) (by first | omega | (simp; done) | (simp; omega)); have Nfw0_1 := hfn (w.heap.size) (1) (by first | omega | (simp; done) | (simp; omega)); (first | (simp [go_sem, cw0_0, fw0_0, cw0_1, fw0_1, hy0] at Ncw0_0 Nfw0_0 Ncw0_1 Nfw0_1; clear cw0_0 fw0_0 cw0_1 fw0_1) | (simp [go_sem] at Ncw0_0 Nfw0_0 Ncw0_1 Nfw0_1)); clear hcn hfn; have cw0_0 := Ncw0_0; have fw0_0 := Nfw0_0; have cw0_1 := Ncw0_1; have fw0_1 := Nfw0_1; have hy0 := Nhy0; clear Ncw0_0 Nfw0_0 Ncw0_1 Nfw0_1 Nhy0)) | (go_at_call 76; ((with_reducible refine (impl_isShipper _ _).mono ?_)); rintro e wn ⟨rfl, rfl⟩) | (go_at_call 77; ((with_reducible refine (impl_isNodeOf _ _ _ _ _ _ _ _ (by omega)).mono ?_)); rintro e wn ⟨rfl, hbn⟩; (obtain ⟨hcn, hfn⟩ := bcell hbn; have hzn := hbn.size; (try simp at hzn); have Ncw0_0 := hcn (w.heap.size) (0) (by first | omega | (simp; done) | (simp; omega)); have Nfw0_0 := hfn (w.heap.size) (0) (by first | omega | (simp; done) | (simp; omega)); have Nhy0 : w.heap.size < wn.heap.size := (by omega); have Ncw0_1 := hcn (w.heap.size) (1) (by first | omega | (simp; done) | (simp; omega)); have Nfw0_1 := hfn (w.heap.size) (1) (by first | omega | (simp; done) | (simp; omega)); (first | (simp [go_sem, cw0_0, fw0_0, cw0_1, fw0_1, hy0] at Ncw0_0 Nfw0_0 Ncw0_1 Nfw0_1; clear cw0_0 fw0_0 cw0_1 fw0_1) | (simp [go_sem] at Ncw0_0 Nfw0_0 Ncw0_1 Nfw0_1)); clear hcn hfn; have cw0_0 := Ncw0_0; have fw0_0 := Nfw0_0; have cw0_1 := Ncw0_1; have fw0_1 := Nfw0_1; have hy0 := Nhy0; clear Ncw0_0 Nfw0_0 Ncw0_1 Nfw0_1 Nhy0)) | (go_at_call 47; ((with_reducible refine (within_any _ _ _ _).mono ?_)); rintro e wn ⟨rfl, rfl⟩) | (go_at_call 47; ((with_reducible refine (within_any _ _ _ _).mono ?_)); rintro e wn ⟨rfl, rfl⟩)))
    go_ret
    exact ⟨ri (by have : ordsB lo N.nodes.length = false := by (simp [ordsB]; omega)
                  simp [ordC, hb, this]), by (repeat' (first | (with_reducible exact Below.refl _ _) | (with_reducible assumption) | (with_reducible refine Below.alloc ?_ ?_ _) | (with_reducible refine Below.drew ?_) | (with_reducible refine Below.drewN' ?_ _) | (with_reducible refine Below.setCell ?_ ?_ _) | (refine Below.via ?_ (by with_reducible assumption) ?_) | (with_reducible refine Below.via ?_ (Wd.h _) ?_) | go_size))⟩
  have HR := Lib.hid (show ordC N lo = (if ordsF N.nodes.length lo = false then 3 else 0) by
    have : ordsB lo N.nodes.length = ordsF N.nodes.length lo := by simp [ordsB]; omega
    simp [ordC, hb, this])
  have b40 : decide (40 < (lo.length : Int)) = false := by simp; omega
  (go_enter Try.func53, Try.ntmps53; go_wp2_with (first | (go_at_call 63; ((with_reducible refine (impl_IsNetwork _ _ _ _ _ _ N _ (by exact HN.out.below (by (repeat' (first | (with_reducible exact Below.refl _ _) | (with_reducible assumption) | (with_reducible refine Below.alloc ?_ ?_ _) | (with_reducible refine Below.drew ?_) | (with_reducible refine Below.drewN' ?_ _) | (with_reducible refine Below.setCell ?_ ?_ _) | (refine Below.via ?_ (by with_reducible assumption) ?_) | (with_reducible refine Below.via ?_ (Wd.h _) ?_) | go_size)))) rfl rfl (by omega)).mono ?_)); rintro e wn ⟨rfl, hbn⟩; (obtain ⟨hcn, hfn⟩ := bcell hbn; have hzn := hbn.size; (try simp at hzn); have Ncw0_0 := hcn (w.heap.size) (0) (by first | omega | (simp; done) | (simp; omega)); have Nfw0_0 := hfn (w.heap.size) (0) (by first | omega | (simp; done) | (simp; omega)); have Nhy0 : w.heap.size < wn.heap.size := (by omega); have Ncw0_1 := hcn (w.heap.size) (1) (by first | omega | (simp; done) | (simp; omega)); have Nfw0_1 := hfn (w.heap.size) (1) (by first | omega | (simp; done) | (simp; omega)); (first | (simp [go_sem, cw0_0, fw0_0, cw0_1, fw0_1, hy0] at Ncw0_0 Nfw0_0 Ncw0_1 Nfw0_1; clear cw0_0 fw0_0 cw0_1 fw0_1) | (simp [go_sem] at Ncw0_0 Nfw0_0 Ncw0_1 Nfw0_1)); clear hcn hfn; have cw0_0 := Ncw0_0; have fw0_0 := Nfw0_0; have cw0_1 := Ncw0_1; have fw0_1 := Nfw0_1; have hy0 := Nhy0; clear Ncw0_0 Nfw0_0 Ncw0_1 Nfw0_1 Nhy0)) | (go_at_call 76; ((with_reducible refine (impl_isShipper _ _).mono ?_)); rintro e wn ⟨rfl, rfl⟩) | (go_at_call 77; ((with_reducible refine (impl_isNodeOf _ _ _ _ _ _ _ _ (by omega)).mono ?_)); rintro e wn ⟨rfl, hbn⟩; (obtain ⟨hcn, hfn⟩ := bcell hbn; have hzn := hbn.size; (try simp at hzn); have Ncw0_0 := hcn (w.heap.size) (0) (by first | omega | (simp; done) | (simp; omega)); have Nfw0_0 := hfn (w.heap.size) (0) (by first | omega | (simp; done) | (simp; omega)); have Nhy0 : w.heap.size < wn.heap.size := (by omega); have Ncw0_1 := hcn (w.heap.size) (1) (by first | omega | (simp; done) | (simp; omega)); have Nfw0_1 := hfn (w.heap.size) (1) (by first | omega | (simp; done) | (simp; omega)); (first | (simp [go_sem, cw0_0, fw0_0, cw0_1, fw0_1, hy0] at Ncw0_0 Nfw0_0 Ncw0_1 Nfw0_1; clear cw0_0 fw0_0 cw0_1 fw0_1) | (simp [go_sem] at Ncw0_0 Nfw0_0 Ncw0_1 Nfw0_1)); clear hcn hfn; have cw0_0 := Ncw0_0; have fw0_0 := Nfw0_0; have cw0_1 := Ncw0_1; have fw0_1 := Nfw0_1; have hy0 := Nhy0; clear Ncw0_0 Nfw0_0 Ncw0_1 Nfw0_1 Nhy0)) | (go_at_call 47; ((with_reducible refine (within_any _ _ _ _).mono ?_)); rintro e wn ⟨rfl, rfl⟩) | (go_at_call 47; ((with_reducible refine (within_any _ _ _ _).mono ?_)); rintro e wn ⟨rfl, rfl⟩)))
  have hbn1 : Below w.heap.size w wn := by (repeat' (first | (with_reducible exact Below.refl _ _) | (with_reducible assumption) | (with_reducible refine Below.alloc ?_ ?_ _) | (with_reducible refine Below.drew ?_) | (with_reducible refine Below.drewN' ?_ _) | (with_reducible refine Below.setCell ?_ ?_ _) | (refine Below.via ?_ (by with_reducible assumption) ?_) | (with_reducible refine Below.via ?_ (Wd.h _) ?_) | go_size))
  have HBN := Lib.hid hbn1
  clear hbn hbn1
  go_loopw [17] (fun v wr => ∃ k : Nat, k ≤ lo.length ∧ v = .int .i64 k ∧ ordsF N.nodes.length (lo.drop k) = ordsF N.nodes.length lo ∧ Bx wr w.heap.size [.slice A N.nodes.length c, .slice B N.pipes.length d] ∧ Below w.heap.size w wr) (fun v _ => lo.length - (intOf v).toNat)
  case atStart => exact ⟨0, by omega, rfl, rfl, (bx2 (by first | exact hy0 | go_size) (by first | (with_reducible exact cw0_0) | go_cell_look | (simp [go_sem, hy0, cw0_0, fw0_0, cw0_1, fw0_1]; done) | (simp [go_sem]; done)) (by first | (with_reducible exact fw0_0) | (simp only [World.frozen?_setCell, fw0_0]; done) | (simp [go_sem, hy0, cw0_0, fw0_0, cw0_1, fw0_1]; done) | (simp [go_sem]; done)) (by first | (with_reducible exact cw0_1) | go_cell_look | (simp [go_sem, hy0, cw0_0, fw0_0, cw0_1, fw0_1]; done) | (simp [go_sem]; done)) (by first | (with_reducible exact fw0_1) | (simp only [World.frozen?_setCell, fw0_1]; done) | (simp [go_sem, hy0, cw0_0, fw0_0, cw0_1, fw0_1]; done) | (simp [go_sem]; done))), HBN.out⟩
  case round =>
    clear hy0 cw0_0 fw0_0 cw0_1 fw0_1
    obtain ⟨k, hk, rfl, hF, hB, hbw⟩ := hrel
    have hbH := Lib.hid hbw
    have HF := Lib.hid hF
    have hy0 := hB.lt; have cw0_0 := hB.cell 0 rfl; have fw0_0 := hB.frozen 0 rfl; have cw0_1 := hB.cell 1 rfl; have fw0_1 := hB.frozen 1 rfl
    clear hF hB
    by_cases hlt : k < lo.length
    · obtain ⟨x, hx⟩ := get_some hlt; obtain ⟨bx, offx, rfl, hbx, hat⟩ := HL.out.opened (k := k) (by rw [flat_len Ord.len]; omega); have hat' := hat.below hbw hbx; have hybx : bx < wr.heap.size := Nat.lt_of_lt_of_le hbx hbw.size; have hzw := hbw.size; have t0 := hat'.elem0 Ord.len hx rfl; have t1 := hat'.elem Ord.len hx 1 rfl; have t2 := hat'.elem Ord.len hx 2 rfl; have t3 := hat'.elem Ord.len hx 3 rfl; have HX := Lib.hid hx; have HD := Lib.hid (drop_cons hx); have gx : (k : Int) < _ := Int.ofNat_lt.2 hlt; clear hx hat hat'
      clear hbw
      go_wp2_with fail
      
      (generalize hW : World.alloc wr _ = wn; have hzn := congrArg (fun W => W.heap.size) hW; simp at hzn; have Ncw0_0 := congrArg (fun W => World.cell? W ⟨w.heap.size, 0, none⟩) hW.symm; have Nfw0_0 := congrArg (fun W => World.frozen? W ⟨w.heap.size, 0, none⟩) hW.symm; have Nhy0 : w.heap.size < wn.heap.size := (by omega); have Ncw0_1 := congrArg (fun W => World.cell? W ⟨w.heap.size, 1, none⟩) hW.symm; have Nfw0_1 := congrArg (fun W => World.frozen? W ⟨w.heap.size, 1, none⟩) hW.symm; have Ncx_0 := congrArg (fun W => World.cell? W ⟨wr.heap.size, 0, none⟩) hW.symm; have Ncx_0f := congrArg (fun W => World.frozen? W ⟨wr.heap.size, 0, none⟩) hW.symm; have Nhy_cx : wr.heap.size < wn.heap.size := (by omega); have Ncx_1 := congrArg (fun W => World.cell? W ⟨wr.heap.size, 1, none⟩) hW.symm; have Ncx_1f := congrArg (fun W => World.frozen? W ⟨wr.heap.size, 1, none⟩) hW.symm; have Ncx_2 := congrArg (fun W => World.cell? W ⟨wr.heap.size, 2, none⟩) hW.symm; have Ncx_2f := congrArg (fun W => World.frozen? W ⟨wr.heap.size, 2, none⟩) hW.symm; have Ncx_3 := congrArg (fun W => World.cell? W ⟨wr.heap.size, 3, none⟩) hW.symm; have Ncx_3f := congrArg (fun W => World.frozen? W ⟨wr.heap.size, 3, none⟩) hW.symm; simp [go_sem, cw0_0, fw0_0, cw0_1, fw0_1, hy0] at Ncw0_0 Nfw0_0 Ncw0_1 Nfw0_1 Ncx_0 Ncx_0f Ncx_1 Ncx_1f Ncx_2 Ncx_2f Ncx_3 Ncx_3f; clear cw0_0 fw0_0 cw0_1 fw0_1 hy0; have cw0_0 := Ncw0_0; have fw0_0 := Nfw0_0; have cw0_1 := Ncw0_1; have fw0_1 := Nfw0_1; have cx_0 := Ncx_0; have cx_0f := Ncx_0f; have cx_1 := Ncx_1; have cx_1f := Ncx_1f; have cx_2 := Ncx_2; have cx_2f := Ncx_2f; have cx_3 := Ncx_3; have cx_3f := Ncx_3f; have hy0 := Nhy0; have hy_cx := Nhy_cx; clear Ncw0_0 Nfw0_0 Ncw0_1 Nfw0_1 Ncx_0 Ncx_0f Ncx_1 Ncx_1f Ncx_2 Ncx_2f Ncx_3 Ncx_3f Nhy0 Nhy_cx)
      have hbn0 : Below wr.heap.size wr wn := by rw [← hW]; (repeat' (first | (with_reducible exact Below.refl _ _) | (with_reducible assumption) | (with_reducible refine Below.alloc ?_ ?_ _) | (with_reducible refine Below.drew ?_) | (with_reducible refine Below.drewN' ?_ _) | (with_reducible refine Below.setCell ?_ ?_ _) | (refine Below.via ?_ (by with_reducible assumption) ?_) | (with_reducible refine Below.via ?_ (Wd.h _) ?_) | go_size))
      have hb2 := hbH.out
      clear hW t0 t1 t2 t3
      by_cases hp : ordB x N.nodes.length = true
      · have hp' := hp
        simp only [ordB, Bool.and_eq_true] at hp'
        obtain ⟨⟨⟨e1, e2⟩, e3⟩, e4⟩ := hp'
        go_wp2_with (first | (go_at_call 63; ((with_reducible refine (impl_IsNetwork _ _ _ _ _ _ N _ (by exact HN.out.below (by (repeat' (first | (with_reducible exact Below.refl _ _) | (with_reducible assumption) | (with_reducible refine Below.alloc ?_ ?_ _) | (with_reducible refine Below.drew ?_) | (with_reducible refine Below.drewN' ?_ _) | (with_reducible refine Below.setCell ?_ ?_ _) | (refine Below.via ?_ (by with_reducible assumption) ?_) | (with_reducible refine Below.via ?_ (Wd.h _) ?_) | go_size)))) rfl rfl (by omega)).mono ?_)); rintro e wn ⟨rfl, hbn⟩; (obtain ⟨hcn, hfn⟩ := bcell hbn; have hzn := hbn.size; (try simp at hzn); have Ncw0_0 := hcn (w.heap.size) (0) (by first | omega | (simp; done) | (simp; omega)); have Nfw0_0 := hfn (w.heap.size) (0) (by first | omega | (simp; done) | (simp; omega)); have Nhy0 : w.heap.size < wn.heap.size := (by omega); have Ncw0_1 := hcn (w.heap.size) (1) (by first | omega | (simp; done) | (simp; omega)); have Nfw0_1 := hfn (w.heap.size) (1) (by first | omega | (simp; done) | (simp; omega)); have Ncx_0 := hcn (wr.heap.size) (0) (by first | omega | (simp; done) | (simp; omega)); have Ncx_0f := hfn (wr.heap.size) (0) (by first | omega | (simp; done) | (simp; omega)); have Nhy_cx : wr.heap.size < wn.heap.size := (by omega); have Ncx_1 := hcn (wr.heap.size) (1) (by first | omega | (simp; done) | (simp; omega)); have Ncx_1f := hfn (wr.heap.size) (1) (by first | omega | (simp; done) | (simp; omega)); have Ncx_2 := hcn (wr.heap.size) (2) (by first | omega | (simp; done) | (simp; omega)); have Ncx_2f := hfn (wr.heap.size) (2) (by first | omega | (simp; done) | (simp; omega)); have Ncx_3 := hcn (wr.heap.size) (3) (by first | omega | (simp; done) | (simp; omega)); have Ncx_3f := hfn (wr.heap.size) (3) (by first | omega | (simp; done) | (simp; omega)); (first | (simp [go_sem, cw0_0, fw0_0, cw0_1, fw0_1, cx_0, cx_0f, cx_1, cx_1f, cx_2, cx_2f, cx_3, cx_3f, hy0, hy_cx] at Ncw0_0 Nfw0_0 Ncw0_1 Nfw0_1 Ncx_0 Ncx_0f Ncx_1 Ncx_1f Ncx_2 Ncx_2f Ncx_3 Ncx_3f; clear cw0_0 fw0_0 cw0_1 fw0_1 cx_0 cx_0f cx_1 cx_1f cx_2 cx_2f cx_3 cx_3f) | (simp [go_sem] at Ncw0_0 Nfw0_0 Ncw0_1 Nfw0_1 Ncx_0 Ncx_0f Ncx_1 Ncx_1f Ncx_2 Ncx_2f Ncx_3 Ncx_3f)); clear hcn hfn; have cw0_0 := Ncw0_0; have fw0_0 := Nfw0_0; have cw0_1 := Ncw0_1; have fw0_1 := Nfw0_1; have cx_0 := Ncx_0; have cx_0f := Ncx_0f; have cx_1 := Ncx_1; have cx_1f := Ncx_1f; have cx_2 := Ncx_2; have cx_2f := Ncx_2f; have cx_3 := Ncx_3; have cx_3f := Ncx_3f; have hy0 := Nhy0; have hy_cx := Nhy_cx; clear Ncw0_0 Nfw0_0 Ncw0_1 Nfw0_1 Ncx_0 Ncx_0f Ncx_1 Ncx_1f Ncx_2 Ncx_2f Ncx_3 Ncx_3f Nhy0 Nhy_cx)) | (go_at_call 76; ((with_reducible refine (impl_isShipper _ _).mono ?_)); rintro e wn ⟨rfl, rfl⟩) | (go_at_call 77; ((with_reducible refine (impl_isNodeOf _ _ _ _ _ _ _ _ (by omega)).mono ?_)); rintro e wn ⟨rfl, hbn⟩; (obtain ⟨hcn, hfn⟩ := bcell hbn; have hzn := hbn.size; (try simp at hzn); have Ncw0_0 := hcn (w.heap.size) (0) (by first | omega | (simp; done) | (simp; omega)); have Nfw0_0 := hfn (w.heap.size) (0) (by first | omega | (simp; done) | (simp; omega)); have Nhy0 : w.heap.size < wn.heap.size := (by omega); have Ncw0_1 := hcn (w.heap.size) (1) (by first | omega | (simp; done) | (simp; omega)); have Nfw0_1 := hfn (w.heap.size) (1) (by first | omega | (simp; done) | (simp; omega)); have Ncx_0 := hcn (wr.heap.size) (0) (by first | omega | (simp; done) | (simp; omega)); have Ncx_0f := hfn (wr.heap.size) (0) (by first | omega | (simp; done) | (simp; omega)); have Nhy_cx : wr.heap.size < wn.heap.size := (by omega); have Ncx_1 := hcn (wr.heap.size) (1) (by first | omega | (simp; done) | (simp; omega)); have Ncx_1f := hfn (wr.heap.size) (1) (by first | omega | (simp; done) | (simp; omega)); have Ncx_2 := hcn (wr.heap.size) (2) (by first | omega | (simp; done) | (simp; omega)); have Ncx_2f := hfn (wr.heap.size) (2) (by first | omega | (simp; done) | (simp; omega)); have Ncx_3 := hcn (wr.heap.size) (3) (by first | omega | (simp; done) | (simp; omega)); have Ncx_3f := hfn (wr.heap.size) (3) (by first | omega | (simp; done) | (simp; omega)); (first | (simp [go_sem, cw0_0, fw0_0, cw0_1, fw0_1, cx_0, cx_0f, cx_1, cx_1f, cx_2, cx_2f, cx_3, cx_3f, hy0, hy_cx] at Ncw0_0 Nfw0_0 Ncw0_1 Nfw0_1 Ncx_0 Ncx_0f Ncx_1 Ncx_1f Ncx_2 Ncx_2f Ncx_3 Ncx_3f; clear cw0_0 fw0_0 cw0_1 fw0_1 cx_0 cx_0f cx_1 cx_1f cx_2 cx_2f cx_3 cx_3f) | (simp [go_sem] at Ncw0_0 Nfw0_0 Ncw0_1 Nfw0_1 Ncx_0 Ncx_0f Ncx_1 Ncx_1f Ncx_2 Ncx_2f Ncx_3 Ncx_3f)); clear hcn hfn; have cw0_0 := Ncw0_0; have fw0_0 := Nfw0_0; have cw0_1 := Ncw0_1; have fw0_1 := Nfw0_1; have cx_0 := Ncx_0; have cx_0f := Ncx_0f; have cx_1 := Ncx_1; have cx_1f := Ncx_1f; have cx_2 := Ncx_2; have cx_2f := Ncx_2f; have cx_3 := Ncx_3; have cx_3f := Ncx_3f; have hy0 := Nhy0; have hy_cx := Nhy_cx; clear Ncw0_0 Nfw0_0 Ncw0_1 Nfw0_1 Ncx_0 Ncx_0f Ncx_1 Ncx_1f Ncx_2 Ncx_2f Ncx_3 Ncx_3f Nhy0 Nhy_cx)) | (go_at_call 47; ((with_reducible refine (within_any _ _ _ _).mono ?_)); rintro e wn ⟨rfl, rfl⟩) | (go_at_call 47; ((with_reducible refine (within_any _ _ _ _).mono ?_)); rintro e wn ⟨rfl, rfl⟩))
        go_roundw
        case rel =>
          refine ⟨k + 1, by omega, by go_num, ?_, (bx2 (by first | exact hy0 | go_size) (by first | (with_reducible exact cw0_0) | go_cell_look | (simp [go_sem, hy0, cw0_0, fw0_0, cw0_1, fw0_1]; done) | (simp [go_sem]; done)) (by first | (with_reducible exact fw0_0) | (simp only [World.frozen?_setCell, fw0_0]; done) | (simp [go_sem, hy0, cw0_0, fw0_0, cw0_1, fw0_1]; done) | (simp [go_sem]; done)) (by first | (with_reducible exact cw0_1) | go_cell_look | (simp [go_sem, hy0, cw0_0, fw0_0, cw0_1, fw0_1]; done) | (simp [go_sem]; done)) (by first | (with_reducible exact fw0_1) | (simp only [World.frozen?_setCell, fw0_1]; done) | (simp [go_sem, hy0, cw0_0, fw0_0, cw0_1, fw0_1]; done) | (simp [go_sem]; done))), by (repeat' (first | (with_reducible exact Below.refl _ _) | (with_reducible assumption) | (with_reducible refine Below.alloc ?_ ?_ _) | (with_reducible refine Below.drew ?_) | (with_reducible refine Below.drewN' ?_ _) | (with_reducible refine Below.setCell ?_ ?_ _) | (refine Below.via ?_ (by with_reducible assumption) ?_) | (with_reducible refine Below.via ?_ (Wd.h _) ?_) | go_size))⟩
          rw [← HF.out, HD.out, ordsF, hp, Bool.true_and]
        case measure => simp [intOf]; omega
      · go_wp2_with (first | (go_at_call 63; ((with_reducible refine (impl_IsNetwork _ _ _ _ _ _ N _ (by exact HN.out.below (by (repeat' (first | (with_reducible exact Below.refl _ _) | (with_reducible assumption) | (with_reducible refine Below.alloc ?_ ?_ _) | (with_reducible refine Below.drew ?_) | (with_reducible refine Below.drewN' ?_ _) | (with_reducible refine Below.setCell ?_ ?_ _) | (refine Below.via ?_ (by with_reducible assumption) ?_) | (with_reducible refine Below.via ?_ (Wd.h _) ?_) | go_size)))) rfl rfl (by omega)).mono ?_)); rintro e wn ⟨rfl, hbn⟩; (obtain ⟨hcn, hfn⟩ := bcell hbn; have hzn := hbn.size; (try simp at hzn); have Ncw0_0 := hcn (w.heap.size) (0) (by first | omega | (simp; done) | (simp; omega)); have Nfw0_0 := hfn (w.heap.size) (0) (by first | omega | (simp; done) | (simp; omega)); have Nhy0 : w.heap.size < wn.heap.size := (by omega); have Ncw0_1 := hcn (w.heap.size) (1) (by first | omega | (simp; done) | (simp; omega)); have Nfw0_1 := hfn (w.heap.size) (1) (by first | omega | (simp; done) | (simp; omega)); have Ncx_0 := hcn (wr.heap.size) (0) (by first | omega | (simp; done) | (simp; omega)); have Ncx_0f := hfn (wr.heap.size) (0) (by first | omega | (simp; done) | (simp; omega)); have Nhy_cx : wr.heap.size < wn.heap.size := (by omega); have Ncx_1 := hcn (wr.heap.size) (1) (by first | omega | (simp; done) | (simp; omega)); have Ncx_1f := hfn (wr.heap.size) (1) (by first | omega | (simp; done) | (simp; omega)); have Ncx_2 := hcn (wr.heap.size) (2) (by first | omega | (simp; done) | (simp; omega)); have Ncx_2f := hfn (wr.heap.size) (2) (by first | omega | (simp; done) | (simp; omega)); have Ncx_3 := hcn (wr.heap.size) (3) (by first | omega | (simp; done) | (simp; omega)); have Ncx_3f := hfn (wr.heap.size) (3) (by first | omega | (simp; done) | (simp; omega)); (first | (simp [go_sem, cw0_0, fw0_0, cw0_1, fw0_1, cx_0, cx_0f, cx_1, cx_1f, cx_2, cx_2f, cx_3, cx_3f, hy0, hy_cx] at Ncw0_0 Nfw0_0 Ncw0_1 Nfw0_1 Ncx_0 Ncx_0f Ncx_1 Ncx_1f Ncx_2 Ncx_2f Ncx_3 Ncx_3f; clear cw0_0 fw0_0 cw0_1 fw0_1 cx_0 cx_0f cx_1 cx_1f cx_2 cx_2f cx_3 cx_3f) | (simp [go_sem] at Ncw0_0 Nfw0_0 Ncw0_1 Nfw0_1 Ncx_0 Ncx_0f Ncx_1 Ncx_1f Ncx_2 Ncx_2f Ncx_3 Ncx_3f)); clear hcn hfn; have cw0_0 := Ncw0_0; have fw0_0 := Nfw0_0; have cw0_1 := Ncw0_1; have fw0_1 := Nfw0_1; have cx_0 := Ncx_0; have cx_0f := Ncx_0f; have cx_1 := Ncx_1; have cx_1f := Ncx_1f; have cx_2 := Ncx_2; have cx_2f := Ncx_2f; have cx_3 := Ncx_3; have cx_3f := Ncx_3f; have hy0 := Nhy0; have hy_cx := Nhy_cx; clear Ncw0_0 Nfw0_0 Ncw0_1 Nfw0_1 Ncx_0 Ncx_0f Ncx_1 Ncx_1f Ncx_2 Ncx_2f Ncx_3 Ncx_3f Nhy0 Nhy_cx)) | (go_at_call 76; ((with_reducible refine (impl_isShipper _ _).mono ?_)); rintro e wn ⟨rfl, rfl⟩) | (go_at_call 77; ((with_reducible refine (impl_isNodeOf _ _ _ _ _ _ _ _ (by omega)).mono ?_)); rintro e wn ⟨rfl, hbn⟩; (obtain ⟨hcn, hfn⟩ := bcell hbn; have hzn := hbn.size; (try simp at hzn); have Ncw0_0 := hcn (w.heap.size) (0) (by first | omega | (simp; done) | (simp; omega)); have Nfw0_0 := hfn (w.heap.size) (0) (by first | omega | (simp; done) | (simp; omega)); have Nhy0 : w.heap.size < wn.heap.size := (by omega); have Ncw0_1 := hcn (w.heap.size) (1) (by first | omega | (simp; done) | (simp; omega)); have Nfw0_1 := hfn (w.heap.size) (1) (by first | omega | (simp; done) | (simp; omega)); have Ncx_0 := hcn (wr.heap.size) (0) (by first | omega | (simp; done) | (simp; omega)); have Ncx_0f := hfn (wr.heap.size) (0) (by first | omega | (simp; done) | (simp; omega)); have Nhy_cx : wr.heap.size < wn.heap.size := (by omega); have Ncx_1 := hcn (wr.heap.size) (1) (by first | omega | (simp; done) | (simp; omega)); have Ncx_1f := hfn (wr.heap.size) (1) (by first | omega | (simp; done) | (simp; omega)); have Ncx_2 := hcn (wr.heap.size) (2) (by first | omega | (simp; done) | (simp; omega)); have Ncx_2f := hfn (wr.heap.size) (2) (by first | omega | (simp; done) | (simp; omega)); have Ncx_3 := hcn (wr.heap.size) (3) (by first | omega | (simp; done) | (simp; omega)); have Ncx_3f := hfn (wr.heap.size) (3) (by first | omega | (simp; done) | (simp; omega)); (first | (simp [go_sem, cw0_0, fw0_0, cw0_1, fw0_1, cx_0, cx_0f, cx_1, cx_1f, cx_2, cx_2f, cx_3, cx_3f, hy0, hy_cx] at Ncw0_0 Nfw0_0 Ncw0_1 Nfw0_1 Ncx_0 Ncx_0f Ncx_1 Ncx_1f Ncx_2 Ncx_2f Ncx_3 Ncx_3f; clear cw0_0 fw0_0 cw0_1 fw0_1 cx_0 cx_0f cx_1 cx_1f cx_2 cx_2f cx_3 cx_3f) | (simp [go_sem] at Ncw0_0 Nfw0_0 Ncw0_1 Nfw0_1 Ncx_0 Ncx_0f Ncx_1 Ncx_1f Ncx_2 Ncx_2f Ncx_3 Ncx_3f)); clear hcn hfn; have cw0_0 := Ncw0_0; have fw0_0 := Nfw0_0; have cw0_1 := Ncw0_1; have fw0_1 := Nfw0_1; have cx_0 := Ncx_0; have cx_0f := Ncx_0f; have cx_1 := Ncx_1; have cx_1f := Ncx_1f; have cx_2 := Ncx_2; have cx_2f := Ncx_2f; have cx_3 := Ncx_3; have cx_3f := Ncx_3f; have hy0 := Nhy0; have hy_cx := Nhy_cx; clear Ncw0_0 Nfw0_0 Ncw0_1 Nfw0_1 Ncx_0 Ncx_0f Ncx_1 Ncx_1f Ncx_2 Ncx_2f Ncx_3 Ncx_3f Nhy0 Nhy_cx)) | (go_at_call 47; ((with_reducible refine (within_any _ _ _ _).mono ?_)); rintro e wn ⟨rfl, rfl⟩) | (go_at_call 47; ((with_reducible refine (within_any _ _ _ _).mono ?_)); rintro e wn ⟨rfl, rfl⟩))
        all_goals first
          | (exfalso; apply hp; simp_all [ordB]; done)
          | (go_ret
             refine ⟨ri ?_, by (repeat' (first | (with_reducible exact Below.refl _ _) | (with_reducible assumption) | (with_reducible refine Below.alloc ?_ ?_ _) | (with_reducible refine Below.drew ?_) | (with_reducible refine Below.drewN' ?_ _) | (with_reducible refine Below.setCell ?_ ?_ _) | (refine Below.via ?_ (by with_reducible assumption) ?_) | (with_reducible refine Below.via ?_ (Wd.h _) ?_) | go_size))⟩
             have hp' : ordB x N.nodes.length = false := by simpa using hp
             rw [HR.out, ← HF.out, HD.out, ordsF, hp', Bool.false_and]; rfl)
    · clear hbw
      go_wp2
      go_ret
      refine ⟨ri ?_, hbH.out⟩
      rw [HR.out, ← HF.out, drop_endI hlt, ordsF]; rfl
end Go.Proofs.Ytigplpbdkjiekaa
namespace Go.Proofs.Ytigplpbdkjiekaa
set_option linter.unusedVariables false
set_option linter.unusedSimpArgs false
open Go.RowKit
def osF : List Int → List Ord → List Int
  | acc, [] => acc
  | acc, x :: l => osF (addAt acc x.nd.toNat x.am) l
theorem osF_len : ∀ (l : List Ord) (acc : List Int), (osF acc l).length = acc.length
  | [], acc => rfl
  | x :: l, acc => by rw [osF, osF_len l, addAt_len]
noncomputable def osR (N : Net) (lo : List Ord) : List Int × Int :=
  if ordC N lo ≠ 0 then ([], ordC N lo) else if supB N.nodes.length (osF (List.replicate N.nodes.length 0) lo) = false then ([], 7) else (osF (List.replicate N.nodes.length 0) lo, 0)
theorem osR_len {N : Net} {lo : List Ord} : (osR N lo).1.length ≤ 1048576 := by
  unfold osR; split
  · simp
  · rename_i h
    have := (ord_of (by simpa using h)).1.n2
    split
    · simp
    · simp [osF_len]; omega
set_option maxRecDepth 100000 in
set_option maxHeartbeats 4000000 in
theorem impl_OrderSupplies (A B C : Option Addr) (n c m d e : Nat) (N : Net) (lo : List Ord) (w : World) (hN : NetAt w A B N) (hn : n = N.nodes.length) (hm : m = N.pipes.length) (hc : n ≤ c) (h : Rd w C (lo.flatMap Ord.cells)) (hl : lo.length ≤ 1048576) :
    Calls Try.prog 22 #[netV A B n c m d, .slice C lo.length e] w (MadeR w 1 (osR N lo).1.length ((osR N lo).1.map iV) (osR N lo).2) := by
  subst hn hm
  have HN := Lib.hid hN
  have HL := Lib.hid h
  have hln := hN.ln
  clear hN h
  by_cases h0 : ordC N lo = 0
  · have b0 : (ordC N lo != 0) = false := by simp [h0]
    have HO := Lib.hid (ord_of h0)
    have h40 := (ord_of h0).2.1
    have H0 := Lib.hid h0
    clear h0
    have hmk := make_i64 N.nodes.length (by omega)
    (go_enter Try.func22, Try.ntmps22; go_wp2_with (first | (go_at_call 53; ((with_reducible refine (impl_checkOrders _ _ _ _ _ _ _ _ N lo _ (by exact HN.out.below (by (repeat' (first | (with_reducible exact Below.refl _ _) | (with_reducible assumption) | (with_reducible refine Below.alloc ?_ ?_ _) | (with_reducible refine Below.drew ?_) | (with_reducible refine Below.drewN' ?_ _) | (with_reducible refine Below.setCell ?_ ?_ _) | (refine Below.via ?_ (by with_reducible assumption) ?_) | (with_reducible refine Below.via ?_ (Wd.h _) ?_) | go_size)))) rfl rfl (by omega) (by exact HL.out.below (by (repeat' (first | (with_reducible exact Below.refl _ _) | (with_reducible assumption) | (with_reducible refine Below.alloc ?_ ?_ _) | (with_reducible refine Below.drew ?_) | (with_reducible refine Below.drewN' ?_ _) | (with_reducible refine Below.setCell ?_ ?_ _) | (refine Below.via ?_ (by with_reducible assumption) ?_) | (with_reducible refine Below.via ?_ (Wd.h _) ?_) | go_size)))) (by omega)).mono ?_)); rintro e wn ⟨rfl, hbn⟩; (obtain ⟨hcn, hfn⟩ := bcell hbn; have hzn := hbn.size; (try simp at hzn); have Ncw0_0 := hcn (w.heap.size) (0) (by first | omega | (simp; done) | (simp; omega)); have Nfw0_0 := hfn (w.heap.size) (0) (by first | omega | (simp; done) | (simp; omega)); have Nhy0 : w.heap.size < wn.heap.size := (by omega); have Ncw0_1 := hcn (w.heap.size) (1) (by first | omega | (simp; done) | (simp; omega)); have Nfw0_1 := hfn (w.heap.size) (1) (by first | omega | (simp; done) | (simp; omega)); (first | (simp [go_sem, cw0_0, fw0_0, cw0_1, fw0_1, hy0] at Ncw0_0 Nfw0_0 Ncw0_1 Nfw0_1; clear cw0_0 fw0_0 cw0_1 fw0_1) | (simp [go_sem] at Ncw0_0 Nfw0_0 Ncw0_1 Nfw0_1)); clear hcn hfn; have cw0_0 := Ncw0_0; have fw0_0 := Nfw0_0; have cw0_1 := Ncw0_1; have fw0_1 := Nfw0_1; have hy0 := Nhy0; clear Ncw0_0 Nfw0_0 Ncw0_1 Nfw0_1 Nhy0))))
    have hbn1 : Below w.heap.size w wn := by (repeat' (first | (with_reducible exact Below.refl _ _) | (with_reducible assumption) | (with_reducible refine Below.alloc ?_ ?_ _) | (with_reducible refine Below.drew ?_) | (with_reducible refine Below.drewN' ?_ _) | (with_reducible refine Below.setCell ?_ ?_ _) | (refine Below.via ?_ (by with_reducible assumption) ?_) | (with_reducible refine Below.via ?_ (Wd.h _) ?_) | go_size))
    have HBN := Lib.hid hbn1
    have hzz : w.heap.size ≤ wn.heap.size := hbn1.size
    have HA0 := Lib.hid (Arr.madeI wn N.nodes.length 2)
    have HBX := Lib.hid (show Bx wn w.heap.size [.slice A N.nodes.length c, .slice B N.pipes.length d] from (bx2 (by first | exact hy0 | go_size) (by first | (with_reducible exact cw0_0) | go_cell_look | (simp [go_sem, hy0, cw0_0, fw0_0, cw0_1, fw0_1]; done) | (simp [go_sem]; done)) (by first | (with_reducible exact fw0_0) | (simp only [World.frozen?_setCell, fw0_0]; done) | (simp [go_sem, hy0, cw0_0, fw0_0, cw0_1, fw0_1]; done) | (simp [go_sem]; done)) (by first | (with_reducible exact cw0_1) | go_cell_look | (simp [go_sem, hy0, cw0_0, fw0_0, cw0_1, fw0_1]; done) | (simp [go_sem]; done)) (by first | (with_reducible exact fw0_1) | (simp only [World.frozen?_setCell, fw0_1]; done) | (simp [go_sem, hy0, cw0_0, fw0_0, cw0_1, fw0_1]; done) | (simp [go_sem]; done))))
    clear hy0 cw0_0 fw0_0 cw0_1 fw0_1
    clear hbn hbn1 hmk
    go_loopw [22] (fun v wr => ∃ (k : Nat) (acc : List Int), k ≤ lo.length ∧ v = .int .i64 k ∧ acc.length = N.nodes.length ∧ (∀ y ∈ acc, -(k * 30000 : Int) ≤ y ∧ y ≤ (k * 30000 : Int)) ∧ osF acc (lo.drop k) = osF (List.replicate N.nodes.length 0) lo ∧ Arr wr wn.heap.size N.nodes.length (acc.map iV) ∧ Bx wr w.heap.size [.slice A N.nodes.length c, .slice B N.pipes.length d] ∧ Below w.heap.size w wr) (fun v _ => lo.length - (intOf v).toNat)
    case atStart => exact ⟨0, List.replicate N.nodes.length 0, by omega, rfl, by simp, fun y hy => by have := (List.mem_replicate.1 hy).2; omega, by simp, HA0.out, HBX.out.below ((Below.refl _ _).alloc (Nat.le_refl _) _) (by omega), HBN.out.alloc hzz _⟩
    case round =>
      obtain ⟨k, acc, hk, rfl, hal, hbd, hF, hA, hB, hbw⟩ := hrel
      have hbH := Lib.hid hbw
      have HF := Lib.hid hF
      have HA := Lib.hid hA
      have HBD := Lib.hid hbd
      have HAL := Lib.hid hal
      have HBR := Lib.hid hB
      have hyA := hA.lt
      clear hF hA hbd hal
      by_cases hlt : k < lo.length
      · clear hB
        obtain ⟨x, hx⟩ := get_some hlt; obtain ⟨bx, offx, rfl, hbx, hat⟩ := HL.out.opened (k := k) (by rw [flat_len Ord.len]; omega); have hat' := hat.below hbw hbx; have hybx : bx < wr.heap.size := Nat.lt_of_lt_of_le hbx hbw.size; have hzw := hbw.size; have t0 := hat'.elem0 Ord.len hx rfl; have t1 := hat'.elem Ord.len hx 1 rfl; have t2 := hat'.elem Ord.len hx 2 rfl; have t3 := hat'.elem Ord.len hx 3 rfl; have HX := Lib.hid hx; have HD := Lib.hid (drop_cons hx); have gx : (k : Int) < _ := Int.ofNat_lt.2 hlt; clear hx hat hat'
        have cc := ordB_of (HO.out.2.2 x (List.mem_of_getElem? HX.out))
        obtain ⟨_, ⟨p5, p6⟩, ⟨p7, p8⟩, _⟩ := cc
        clear hbw
        obtain ⟨xsh, xnd, xam, xcl⟩ := x
        dsimp only at t0 t1 t2 t3 p5 p6 p7 p8
        obtain ⟨q, rfl⟩ : ∃ q : Nat, xnd = q := ⟨xnd.toNat, by omega⟩
        obtain ⟨y, hy⟩ := get_some (l := acc) (k := q) (by rw [HAL.out]; omega)
        obtain ⟨y1, y2⟩ := HBD.out y (List.mem_of_getElem? hy)
        have HY := Lib.hid hy
        have g4 : (q : Int) < N.nodes.length := by omega
        clear hy
        go_wp2_with fail
        generalize hW : World.alloc wr _ = wq
        have hbq : Below wr.heap.size wr wq := by rw [← hW]; (repeat' (first | (with_reducible exact Below.refl _ _) | (with_reducible assumption) | (with_reducible refine Below.alloc ?_ ?_ _) | (with_reducible refine Below.drew ?_) | (with_reducible refine Below.drewN' ?_ _) | (with_reducible refine Below.setCell ?_ ?_ _) | (refine Below.via ?_ (by with_reducible assumption) ?_) | (with_reducible refine Below.via ?_ (Wd.h _) ?_) | go_size))
        have hzq : wr.heap.size < wq.heap.size := by rw [← hW]; simp
        have r1 : wq.cell? ⟨wr.heap.size, 1, none⟩ = some (.int .i64 q) := by rw [← hW]; simp
        have r2 : wq.cell? ⟨wr.heap.size, 2, none⟩ = some (.int .i64 xam) := by rw [← hW]; simp
        have HAq := Lib.hid (HA.out.below hbq (by omega))
        have s0' := ints_cell HAq.out HY.out
        clear hW t0 t1 t2 t3
        (have qk0 := Wd.cell (by first | assumption | omega | (simp; omega)) r1; have qk1 := Wd.cell (by first | assumption | omega | (simp; omega)) r2; have qk2 := Wd.cell (by first | assumption | omega | (simp; omega)) s0'; (refine wp_region_wd_tail 9 (by kernel_rfl) (by kernel_rfl) ?_; simp only [List.take_succ_cons, List.take_zero, List.drop_succ_cons, List.drop_zero]); (repeat (go_big_quiet_step ((first | fail)))); (refine wpQuiet_nil ?_); rintro wz ⟨⟨w'', hbwz⟩, hw''⟩; obtain rfl : wz = w'' := hw''; clear qk0 qk1 qk2; have hzwz := hbwz.size; (try simp at hzwz))
        have HAz := Lib.hid (HAq.out.below hbwz (by omega))
        have HBZ := Lib.hid ((HBR.out.below hbq (by omega)).below hbwz (by omega))
        have s0 := ints_cell HAz.out HY.out
        have s1 := HAz.out.free (j := q) (by omega)
        clear s0' r1 r2
        go_wp2
        go_roundw
        case rel =>
          refine ⟨k + 1, addAt acc q xam, by omega, by go_num, by rw [addAt_len]; exact HAL.out, fun z hz => by have := addAt_bd (a := -30000) (b := 30000) HBD.out (by omega) (by omega) (by omega) (by omega) z hz; omega, ?_, HAz.out.addAt HY.out (by omega), HBZ.out.below (B := w.heap.size + 1) ((Below.refl _ _).setCell (by simp; omega) _) (by omega), by have h1 := hbH.out; (repeat' (first | (with_reducible exact Below.refl _ _) | (with_reducible assumption) | (with_reducible refine Below.alloc ?_ ?_ _) | (with_reducible refine Below.drew ?_) | (with_reducible refine Below.drewN' ?_ _) | (with_reducible refine Below.setCell ?_ ?_ _) | (refine Below.via ?_ (by with_reducible assumption) ?_) | (with_reducible refine Below.via ?_ (Wd.h _) ?_) | go_size))⟩
          rw [← HF.out, HD.out, osF]; simp
        case measure => simp [intOf]; omega
      · clear hbw
        have HE := Lib.hid (show acc = osF (List.replicate N.nodes.length 0) lo by rw [← HF.out, drop_endI hlt, osF])
        have hy0 := hB.lt; have cw0_0 := hB.cell 0 rfl; have fw0_0 := hB.frozen 0 rfl; have cw0_1 := hB.cell 1 rfl; have fw0_1 := hB.frozen 1 rfl
        clear hB
        cases hs : supB N.nodes.length acc
        · have HR := Lib.hid (show osR N lo = ([], 7) by rw [osR, if_neg (by simp [H0.out]), ← HE.out, if_pos hs])
          go_wp2_with fail
          refine (impl_areSupplies' _ _ _ _ _ _ _ _ _ acc _ hln (HA.out.rd) HAL.out hln).mono ?_
          rintro e wq ⟨rfl, hbq⟩
          go_wp2
          go_ret2
          exact MadeR.nil HR.out rfl (by have h1 := hbH.out; (repeat' (first | (with_reducible exact Below.refl _ _) | (with_reducible assumption) | (with_reducible refine Below.alloc ?_ ?_ _) | (with_reducible refine Below.drew ?_) | (with_reducible refine Below.drewN' ?_ _) | (with_reducible refine Below.setCell ?_ ?_ _) | (refine Below.via ?_ (by with_reducible assumption) ?_) | (with_reducible refine Below.via ?_ (Wd.h _) ?_) | go_size)))
        · have HR := Lib.hid (show osR N lo = (acc, 0) by rw [osR, if_neg (by simp [H0.out]), ← HE.out, if_neg (by simp [hs])])
          go_wp2_with fail
          refine (impl_areSupplies' _ _ _ _ _ _ _ _ _ acc _ hln (HA.out.rd) HAL.out hln).mono ?_
          rintro e wq ⟨rfl, hbq⟩
          go_wp2
          go_ret2
          exact MadeR.arr HR.out HAL.out (Nat.le_refl _) (HA.out.below hbq (by omega)) hzz (by have h1 := hbH.out; (repeat' (first | (with_reducible exact Below.refl _ _) | (with_reducible assumption) | (with_reducible refine Below.alloc ?_ ?_ _) | (with_reducible refine Below.drew ?_) | (with_reducible refine Below.drewN' ?_ _) | (with_reducible refine Below.setCell ?_ ?_ _) | (refine Below.via ?_ (by with_reducible assumption) ?_) | (with_reducible refine Below.via ?_ (Wd.h _) ?_) | go_size)))
  · have b0 : (ordC N lo != 0) = true := by simp [h0]
    have HR := Lib.hid (show osR N lo = ([], ordC N lo) by simp [osR, h0])
    (go_enter Try.func22, Try.ntmps22; go_wp2_with (first | (go_at_call 53; ((with_reducible refine (impl_checkOrders _ _ _ _ _ _ _ _ N lo _ (by exact HN.out.below (by (repeat' (first | (with_reducible exact Below.refl _ _) | (with_reducible assumption) | (with_reducible refine Below.alloc ?_ ?_ _) | (with_reducible refine Below.drew ?_) | (with_reducible refine Below.drewN' ?_ _) | (with_reducible refine Below.setCell ?_ ?_ _) | (refine Below.via ?_ (by with_reducible assumption) ?_) | (with_reducible refine Below.via ?_ (Wd.h _) ?_) | go_size)))) rfl rfl (by omega) (by exact HL.out.below (by (repeat' (first | (with_reducible exact Below.refl _ _) | (with_reducible assumption) | (with_reducible refine Below.alloc ?_ ?_ _) | (with_reducible refine Below.drew ?_) | (with_reducible refine Below.drewN' ?_ _) | (with_reducible refine Below.setCell ?_ ?_ _) | (refine Below.via ?_ (by with_reducible assumption) ?_) | (with_reducible refine Below.via ?_ (Wd.h _) ?_) | go_size)))) (by omega)).mono ?_)); rintro e wn ⟨rfl, hbn⟩; (obtain ⟨hcn, hfn⟩ := bcell hbn; have hzn := hbn.size; (try simp at hzn); have Ncw0_0 := hcn (w.heap.size) (0) (by first | omega | (simp; done) | (simp; omega)); have Nfw0_0 := hfn (w.heap.size) (0) (by first | omega | (simp; done) | (simp; omega)); have Nhy0 : w.heap.size < wn.heap.size := (by omega); have Ncw0_1 := hcn (w.heap.size) (1) (by first | omega | (simp; done) | (simp; omega)); have Nfw0_1 := hfn (w.heap.size) (1) (by first | omega | (simp; done) | (simp; omega)); (first | (simp [go_sem, cw0_0, fw0_0, cw0_1, fw0_1, hy0] at Ncw0_0 Nfw0_0 Ncw0_1 Nfw0_1; clear cw0_0 fw0_0 cw0_1 fw0_1) | (simp [go_sem] at Ncw0_0 Nfw0_0 Ncw0_1 Nfw0_1)); clear hcn hfn; have cw0_0 := Ncw0_0; have fw0_0 := Nfw0_0; have cw0_1 := Ncw0_1; have fw0_1 := Nfw0_1; have hy0 := Nhy0; clear Ncw0_0 Nfw0_0 Ncw0_1 Nfw0_1 Nhy0))))
    go_ret2
    exact MadeR.nil HR.out rfl (by (repeat' (first | (with_reducible exact Below.refl _ _) | (with_reducible assumption) | (with_reducible refine Below.alloc ?_ ?_ _) | (with_reducible refine Below.drew ?_) | (with_reducible refine Below.drewN' ?_ _) | (with_reducible refine Below.setCell ?_ ?_ _) | (refine Below.via ?_ (by with_reducible assumption) ?_) | (with_reducible refine Below.via ?_ (Wd.h _) ?_) | go_size)))
end Go.Proofs.Ytigplpbdkjiekaa
namespace Go.Proofs.Ytigplpbdkjiekaa
set_option linter.unusedVariables false
set_option linter.unusedSimpArgs false
open Go.RowKit

def part1 (sh sg : Int) (x : Ord) : Int := if x.sh = sh then (if 0 < sg * x.am then sg * x.am else 0) else 0
def totF (sh sg : Int) : List Ord → Int
  | [] => 0
  | x :: l => part1 sh sg x + totF sh sg l
def AmOk (l : List Ord) : Prop := ∀ x ∈ l, -30000 ≤ x.am ∧ x.am ≤ 30000
theorem part1_bd {sh sg : Int} {x : Ord} (hs : sg = 1 ∨ sg = -1) (h : -30000 ≤ x.am ∧ x.am ≤ 30000) : 0 ≤ part1 sh sg x ∧ part1 sh sg x ≤ 30000 := by
  unfold part1; rcases hs with rfl | rfl <;> (split <;> (try split) <;> omega)
theorem sum_parts (sh sg : Int) : ∀ l : List Ord, sumF (l.map (part1 sh sg)) = totF sh sg l
  | [] => rfl
  | x :: l => by simp only [List.map_cons, sumF, totF, sum_parts sh sg l]
theorem parts_sml {sh sg : Int} {l : List Ord} (hs : sg = 1 ∨ sg = -1) (h : AmOk l) : Sml (l.map (part1 sh sg)) := by
  intro y hy
  obtain ⟨x, hx, rfl⟩ := List.mem_map.1 hy
  have := part1_bd (sh := sh) hs (h x hx)
  omega
theorem tot_bd {sh sg : Int} (hs : sg = 1 ∨ sg = -1) : ∀ {l : List Ord}, AmOk l → 0 ≤ totF sh sg l ∧ totF sh sg l ≤ l.length * 30000
  | [], _ => by simp [totF]
  | x :: l, h => by
    have h1 := part1_bd (sh := sh) hs (h x (by simp))
    have h2 := tot_bd (sh := sh) hs (l := l) (fun y hy => h y (by simp [hy]))
    simp only [totF, List.length_cons]
    omega

set_option maxRecDepth 100000 in
set_option maxHeartbeats 4000000 in
theorem impl_totalsOf (C : Option Addr) (e : Nat) (lo : List Ord) (sh : Int) (w : World) (h : Rd w C (lo.flatMap Ord.cells)) (hl : lo.length ≤ 1048576) (ha : AmOk lo) :
    Calls Try.prog 55 #[.slice C lo.length e, .int .i64 sh] w fun e w' => e = .returned (.tuple #[.int .i64 (totF sh 1 lo), .int .i64 (totF sh (-1) lo)]) ∧ Below w.heap.size w w' := by
  have HL := Lib.hid h
  have HA := Lib.hid ha
  clear h ha
  go_enter Try.func55, Try.ntmps55
  go_wp2
  go_loopw [6, 7, 12] (fun u u' v wr => ∃ (k : Nat) (r r' : Int), k ≤ lo.length ∧ v = .int .i64 k ∧ u = .int .i64 r ∧ u' = .int .i64 r' ∧ (0 ≤ r ∧ r ≤ k * 30000) ∧ (0 ≤ r' ∧ r' ≤ k * 30000) ∧ r + totF sh 1 (lo.drop k) = totF sh 1 lo ∧ r' + totF sh (-1) (lo.drop k) = totF sh (-1) lo ∧ Below w.heap.size w wr) (fun _ _ v _ => lo.length - (intOf v).toNat)
  case atStart => exact ⟨0, 0, 0, by omega, rfl, rfl, rfl, by omega, by omega, by simp, by simp, Below.refl _ _⟩
  case round =>
    obtain ⟨k, r, r', hk, rfl, rfl, rfl, ⟨hr0, hr1⟩, ⟨hr0', hr1'⟩, hF, hF', hbw⟩ := hrel
    have hbH := Lib.hid hbw
    have HF := Lib.hid hF
    have HF' := Lib.hid hF'
    clear hF hF'
    by_cases hlt : k < lo.length
    · obtain ⟨x, hx⟩ := get_some hlt; obtain ⟨bx, offx, rfl, hbx, hat⟩ := HL.out.opened (k := k) (by rw [flat_len Ord.len]; omega); have hat' := hat.below hbw hbx; have hybx : bx < wr.heap.size := Nat.lt_of_lt_of_le hbx hbw.size; have hzw := hbw.size; have t0 := hat'.elem0 Ord.len hx rfl; have t1 := hat'.elem Ord.len hx 1 rfl; have t2 := hat'.elem Ord.len hx 2 rfl; have t3 := hat'.elem Ord.len hx 3 rfl; have HX := Lib.hid hx; have HD := Lib.hid (drop_cons hx); have gx : (k : Int) < _ := Int.ofNat_lt.2 hlt; clear hx hat hat'
      obtain ⟨a1, a2⟩ := HA.out x (List.mem_of_getElem? HX.out)
      clear hbw
      by_cases hsh : x.sh = sh
      · have e1 : (x.sh == sh) = true := by simpa using hsh
        have HS := Lib.hid hsh
        clear hsh
        by_cases hp : 0 < x.am
        · have HP1 := Lib.hid (show part1 sh 1 x = x.am by unfold part1; rw [if_pos HS.out, if_pos (by omega)]; omega)
          have HP2 := Lib.hid (show part1 sh (-1) x = 0 by unfold part1; rw [if_pos HS.out, if_neg (by omega)])
          go_wp2
          all_goals first | (exfalso; omega) | skip
          all_goals
            go_roundw
            case rel =>
              refine ⟨k + 1, r + x.am, r', by omega, by go_num, by first | rfl | (congr 1; omega), by first | rfl | (congr 1; omega), by omega, by omega, ?_, ?_, by have h1 := hbH.out; (repeat' (first | (with_reducible exact Below.refl _ _) | (with_reducible assumption) | (with_reducible refine Below.alloc ?_ ?_ _) | (with_reducible refine Below.drew ?_) | (with_reducible refine Below.drewN' ?_ _) | (with_reducible refine Below.setCell ?_ ?_ _) | (refine Below.via ?_ (by with_reducible assumption) ?_) | (with_reducible refine Below.via ?_ (Wd.h _) ?_) | go_size))⟩
              · rw [← HF.out, HD.out, totF, HP1.out]; omega
              · rw [← HF'.out, HD.out, totF, HP2.out]; omega
            case measure => simp [intOf]; omega
        · have HP1 := Lib.hid (show part1 sh 1 x = 0 by unfold part1; rw [if_pos HS.out, if_neg (by omega)])
          have HP2 := Lib.hid (show part1 sh (-1) x = -x.am by unfold part1; rw [if_pos HS.out]; split <;> omega)
          go_wp2
          all_goals first | (exfalso; omega) | skip
          all_goals
            go_roundw
            case rel =>
              refine ⟨k + 1, r, r' - x.am, by omega, by go_num, by first | rfl | (congr 1; omega), by first | rfl | (congr 1; omega), by omega, by omega, ?_, ?_, by have h1 := hbH.out; (repeat' (first | (with_reducible exact Below.refl _ _) | (with_reducible assumption) | (with_reducible refine Below.alloc ?_ ?_ _) | (with_reducible refine Below.drew ?_) | (with_reducible refine Below.drewN' ?_ _) | (with_reducible refine Below.setCell ?_ ?_ _) | (refine Below.via ?_ (by with_reducible assumption) ?_) | (with_reducible refine Below.via ?_ (Wd.h _) ?_) | go_size))⟩
              · rw [← HF.out, HD.out, totF, HP1.out]; omega
              · rw [← HF'.out, HD.out, totF, HP2.out]; omega
            case measure => simp [intOf]; omega
      · have e1 : (x.sh == sh) = false := by simpa using hsh
        have HS := Lib.hid hsh
        clear hsh
        go_wp2
        go_roundw
        case rel =>
          refine ⟨k + 1, r, r', by omega, by go_num, rfl, rfl, by omega, by omega, ?_, ?_, by have h1 := hbH.out; (repeat' (first | (with_reducible exact Below.refl _ _) | (with_reducible assumption) | (with_reducible refine Below.alloc ?_ ?_ _) | (with_reducible refine Below.drew ?_) | (with_reducible refine Below.drewN' ?_ _) | (with_reducible refine Below.setCell ?_ ?_ _) | (refine Below.via ?_ (by with_reducible assumption) ?_) | (with_reducible refine Below.via ?_ (Wd.h _) ?_) | go_size))⟩
          · rw [← HF.out, HD.out, totF, part1, if_neg HS.out]; omega
          · rw [← HF'.out, HD.out, totF, part1, if_neg HS.out]; omega
        case measure => simp [intOf]; omega
    · clear hbw
      go_wp2
      go_ret2
      have h1 := HF.out
      have h2 := HF'.out
      rw [drop_endI hlt, totF] at h1 h2
      exact ⟨ri2 (by omega) (by omega), hbH.out⟩
noncomputable def totR (N : Net) (l : List Ord) (sh : Int) : Int × Int × Int :=
  if ordC N l ≠ 0 then (0, 0, ordC N l) else if inB sh 0 15 = false then (0, 0, 2) else (totF sh 1 l, totF sh (-1) l, 0)
theorem amOk_of {N : Net} {l : List Ord} (h : ordC N l = 0) : AmOk l := fun x hx => (ordB_of ((ord_of h).2.2 x hx)).2.2.1
noncomputable def matB (N : Net) (l : List Ord) : Bool := (ordC N l == 0) && (List.range 16).all (fun i => totF (i : Int) 1 l == totF (i : Int) (-1) l)
theorem matB_f {N : Net} {l : List Ord} {k : Nat} (hk : k < 16) (h : totF (k : Int) 1 l ≠ totF (k : Int) (-1) l) : matB N l = false := by
  unfold matB
  have : ((List.range 16).all fun i => totF (i : Int) 1 l == totF (i : Int) (-1) l) = false := by
    rw [List.all_eq_false]; exact ⟨k, List.mem_range.2 hk, by simpa using h⟩
  rw [this, Bool.and_false]
theorem matB_t {N : Net} {l : List Ord} (h0 : ordC N l = 0) (h : ∀ k : Nat, k < 16 → totF (k : Int) 1 l = totF (k : Int) (-1) l) : matB N l = true := by
  unfold matB
  simp only [h0, Bool.and_eq_true, List.all_eq_true, List.mem_range, beq_iff_eq]
  exact ⟨by simp, h⟩
set_option maxRecDepth 100000 in
set_option maxHeartbeats 4000000 in
theorem impl_IsMatched (A B C : Option Addr) (n c m d e : Nat) (N : Net) (lo : List Ord) (w : World) (hN : NetAt w A B N) (hn : n = N.nodes.length) (hm : m = N.pipes.length) (hc : n ≤ c) (h : Rd w C (lo.flatMap Ord.cells)) (hl : lo.length ≤ 1048576) :
    Calls Try.prog 24 #[netV A B n c m d, .slice C lo.length e] w fun e w' => e = .returned (.bool (matB N lo)) ∧ Below w.heap.size w w' := by
  subst hn hm
  have HN := Lib.hid hN
  have HL := Lib.hid h
  have hln := hN.ln
  clear hN h
  by_cases h0 : ordC N lo = 0
  · have b0 : (ordC N lo != 0) = false := by simp [h0]
    have HA := Lib.hid (amOk_of h0)
    have H0 := Lib.hid h0
    clear h0
    (go_enter Try.func24, Try.ntmps24; go_wp2_with (first | (go_at_call 53; ((with_reducible refine (impl_checkOrders _ _ _ _ _ _ _ _ N lo _ (by exact HN.out.below (by (repeat' (first | (with_reducible exact Below.refl _ _) | (with_reducible assumption) | (with_reducible refine Below.alloc ?_ ?_ _) | (with_reducible refine Below.drew ?_) | (with_reducible refine Below.drewN' ?_ _) | (with_reducible refine Below.setCell ?_ ?_ _) | (refine Below.via ?_ (by with_reducible assumption) ?_) | (with_reducible refine Below.via ?_ (Wd.h _) ?_) | go_size)))) rfl rfl (by omega) (by exact HL.out.below (by (repeat' (first | (with_reducible exact Below.refl _ _) | (with_reducible assumption) | (with_reducible refine Below.alloc ?_ ?_ _) | (with_reducible refine Below.drew ?_) | (with_reducible refine Below.drewN' ?_ _) | (with_reducible refine Below.setCell ?_ ?_ _) | (refine Below.via ?_ (by with_reducible assumption) ?_) | (with_reducible refine Below.via ?_ (Wd.h _) ?_) | go_size)))) (by omega)).mono ?_)); rintro e wn ⟨rfl, hbn⟩; (obtain ⟨hcn, hfn⟩ := bcell hbn; have hzn := hbn.size; (try simp at hzn); have Ncw0_0 := hcn (w.heap.size) (0) (by first | omega | (simp; done) | (simp; omega)); have Nfw0_0 := hfn (w.heap.size) (0) (by first | omega | (simp; done) | (simp; omega)); have Nhy0 : w.heap.size < wn.heap.size := (by omega); have Ncw0_1 := hcn (w.heap.size) (1) (by first | omega | (simp; done) | (simp; omega)); have Nfw0_1 := hfn (w.heap.size) (1) (by first | omega | (simp; done) | (simp; omega)); (first | (simp [go_sem, cw0_0, fw0_0, cw0_1, fw0_1, hy0] at Ncw0_0 Nfw0_0 Ncw0_1 Nfw0_1; clear cw0_0 fw0_0 cw0_1 fw0_1) | (simp [go_sem] at Ncw0_0 Nfw0_0 Ncw0_1 Nfw0_1)); clear hcn hfn; have cw0_0 := Ncw0_0; have fw0_0 := Nfw0_0; have cw0_1 := Ncw0_1; have fw0_1 := Nfw0_1; have hy0 := Nhy0; clear Ncw0_0 Nfw0_0 Ncw0_1 Nfw0_1 Nhy0)) | (go_at_call 55; ((with_reducible refine (impl_totalsOf _ _ lo _ _ (by exact HL.out.below (by (repeat' (first | (with_reducible exact Below.refl _ _) | (with_reducible assumption) | (with_reducible refine Below.alloc ?_ ?_ _) | (with_reducible refine Below.drew ?_) | (with_reducible refine Below.drewN' ?_ _) | (with_reducible refine Below.setCell ?_ ?_ _) | (refine Below.via ?_ (by with_reducible assumption) ?_) | (with_reducible refine Below.via ?_ (Wd.h _) ?_) | go_size)))) (by omega) HA.out).mono ?_)); rintro e wn ⟨rfl, hbn⟩; (obtain ⟨hcn, hfn⟩ := bcell hbn; have hzn := hbn.size; (try simp at hzn); have Ncw0_0 := hcn (w.heap.size) (0) (by first | omega | (simp; done) | (simp; omega)); have Nfw0_0 := hfn (w.heap.size) (0) (by first | omega | (simp; done) | (simp; omega)); have Nhy0 : w.heap.size < wn.heap.size := (by omega); have Ncw0_1 := hcn (w.heap.size) (1) (by first | omega | (simp; done) | (simp; omega)); have Nfw0_1 := hfn (w.heap.size) (1) (by first | omega | (simp; done) | (simp; omega)); (first | (simp [go_sem, cw0_0, fw0_0, cw0_1, fw0_1, hy0] at Ncw0_0 Nfw0_0 Ncw0_1 Nfw0_1; clear cw0_0 fw0_0 cw0_1 fw0_1) | (simp [go_sem] at Ncw0_0 Nfw0_0 Ncw0_1 Nfw0_1)); clear hcn hfn; have cw0_0 := Ncw0_0; have fw0_0 := Nfw0_0; have cw0_1 := Ncw0_1; have fw0_1 := Nfw0_1; have hy0 := Nhy0; clear Ncw0_0 Nfw0_0 Ncw0_1 Nfw0_1 Nhy0))))
    have hbn1 : Below w.heap.size w wn := by (repeat' (first | (with_reducible exact Below.refl _ _) | (with_reducible assumption) | (with_reducible refine Below.alloc ?_ ?_ _) | (with_reducible refine Below.drew ?_) | (with_reducible refine Below.drewN' ?_ _) | (with_reducible refine Below.setCell ?_ ?_ _) | (refine Below.via ?_ (by with_reducible assumption) ?_) | (with_reducible refine Below.via ?_ (Wd.h _) ?_) | go_size))
    have HBN := Lib.hid hbn1
    clear hy0 cw0_0 fw0_0 cw0_1 fw0_1
    clear hbn hbn1
    go_loopw [12] (fun v wr => ∃ (k : Nat), k ≤ 16 ∧ v = .int .i64 k ∧ (∀ i : Nat, i < k → totF (i : Int) 1 lo = totF (i : Int) (-1) lo) ∧ Below w.heap.size w wr) (fun v _ => 16 - (intOf v).toNat)
    case atStart => exact ⟨0, by omega, rfl, fun i h => by omega, HBN.out⟩
    case round =>
      obtain ⟨k, hk, rfl, hall, hbw⟩ := hrel
      have hbH := Lib.hid hbw
      have HK := Lib.hid hall
      have hzw := hbw.size
      clear hall
      by_cases hlt : k < 16
      · clear hbw
        by_cases he : totF (k : Int) 1 lo = totF (k : Int) (-1) lo
        · have b1 : (totF (k : Int) 1 lo != totF (k : Int) (-1) lo) = false := by simp [he]
          have HE := Lib.hid he
          clear he
          go_wp2_with ((go_at_call 55; refine (impl_totalsOf _ _ lo _ _ (HL.out.below hbH.out) (by omega) HA.out).mono ?_; rintro e wn ⟨rfl, hbn⟩))
          go_roundw
          case rel =>
            refine ⟨k + 1, by omega, by go_num, fun i hi => ?_, Below.via hbH.out hbn hbH.out.size⟩
            by_cases e : i = k
            · subst e; exact HE.out
            · exact HK.out i (by omega)
          case measure => simp [intOf]; omega
        · have b1 : (totF (k : Int) 1 lo != totF (k : Int) (-1) lo) = true := by simpa using he
          go_wp2_with ((go_at_call 55; refine (impl_totalsOf _ _ lo _ _ (HL.out.below hbH.out) (by omega) HA.out).mono ?_; rintro e wn ⟨rfl, hbn⟩))
          go_ret
          exact ⟨rbf (matB_f hlt he), Below.via hbH.out hbn hbH.out.size⟩
      · clear hbw
        go_wp2
        go_ret
        exact ⟨rbt (matB_t H0.out (fun i hi => HK.out i (by omega))), hbH.out⟩
  · have b0 : (ordC N lo != 0) = true := by simp [h0]
    (go_enter Try.func24, Try.ntmps24; go_wp2_with (first | (go_at_call 53; ((with_reducible refine (impl_checkOrders _ _ _ _ _ _ _ _ N lo _ (by exact HN.out.below (by (repeat' (first | (with_reducible exact Below.refl _ _) | (with_reducible assumption) | (with_reducible refine Below.alloc ?_ ?_ _) | (with_reducible refine Below.drew ?_) | (with_reducible refine Below.drewN' ?_ _) | (with_reducible refine Below.setCell ?_ ?_ _) | (refine Below.via ?_ (by with_reducible assumption) ?_) | (with_reducible refine Below.via ?_ (Wd.h _) ?_) | go_size)))) rfl rfl (by omega) (by exact HL.out.below (by (repeat' (first | (with_reducible exact Below.refl _ _) | (with_reducible assumption) | (with_reducible refine Below.alloc ?_ ?_ _) | (with_reducible refine Below.drew ?_) | (with_reducible refine Below.drewN' ?_ _) | (with_reducible refine Below.setCell ?_ ?_ _) | (refine Below.via ?_ (by with_reducible assumption) ?_) | (with_reducible refine Below.via ?_ (Wd.h _) ?_) | go_size)))) (by omega)).mono ?_)); rintro e wn ⟨rfl, hbn⟩; (obtain ⟨hcn, hfn⟩ := bcell hbn; have hzn := hbn.size; (try simp at hzn); have Ncw0_0 := hcn (w.heap.size) (0) (by first | omega | (simp; done) | (simp; omega)); have Nfw0_0 := hfn (w.heap.size) (0) (by first | omega | (simp; done) | (simp; omega)); have Nhy0 : w.heap.size < wn.heap.size := (by omega); have Ncw0_1 := hcn (w.heap.size) (1) (by first | omega | (simp; done) | (simp; omega)); have Nfw0_1 := hfn (w.heap.size) (1) (by first | omega | (simp; done) | (simp; omega)); (first | (simp [go_sem, cw0_0, fw0_0, cw0_1, fw0_1, hy0] at Ncw0_0 Nfw0_0 Ncw0_1 Nfw0_1; clear cw0_0 fw0_0 cw0_1 fw0_1) | (simp [go_sem] at Ncw0_0 Nfw0_0 Ncw0_1 Nfw0_1)); clear hcn hfn; have cw0_0 := Ncw0_0; have fw0_0 := Nfw0_0; have cw0_1 := Ncw0_1; have fw0_1 := Nfw0_1; have hy0 := Nhy0; clear Ncw0_0 Nfw0_0 Ncw0_1 Nfw0_1 Nhy0)) | (go_at_call 55; ((with_reducible refine (impl_totalsOf _ _ lo _ _ (by exact HL.out.below (by (repeat' (first | (with_reducible exact Below.refl _ _) | (with_reducible assumption) | (with_reducible refine Below.alloc ?_ ?_ _) | (with_reducible refine Below.drew ?_) | (with_reducible refine Below.drewN' ?_ _) | (with_reducible refine Below.setCell ?_ ?_ _) | (refine Below.via ?_ (by with_reducible assumption) ?_) | (with_reducible refine Below.via ?_ (Wd.h _) ?_) | go_size)))) (by omega) HA.out).mono ?_)); rintro e wn ⟨rfl, hbn⟩; (obtain ⟨hcn, hfn⟩ := bcell hbn; have hzn := hbn.size; (try simp at hzn); have Ncw0_0 := hcn (w.heap.size) (0) (by first | omega | (simp; done) | (simp; omega)); have Nfw0_0 := hfn (w.heap.size) (0) (by first | omega | (simp; done) | (simp; omega)); have Nhy0 : w.heap.size < wn.heap.size := (by omega); have Ncw0_1 := hcn (w.heap.size) (1) (by first | omega | (simp; done) | (simp; omega)); have Nfw0_1 := hfn (w.heap.size) (1) (by first | omega | (simp; done) | (simp; omega)); (first | (simp [go_sem, cw0_0, fw0_0, cw0_1, fw0_1, hy0] at Ncw0_0 Nfw0_0 Ncw0_1 Nfw0_1; clear cw0_0 fw0_0 cw0_1 fw0_1) | (simp [go_sem] at Ncw0_0 Nfw0_0 Ncw0_1 Nfw0_1)); clear hcn hfn; have cw0_0 := Ncw0_0; have fw0_0 := Nfw0_0; have cw0_1 := Ncw0_1; have fw0_1 := Nfw0_1; have hy0 := Nhy0; clear Ncw0_0 Nfw0_0 Ncw0_1 Nfw0_1 Nhy0))))
    go_ret
    exact ⟨rbf (by simp [matB, h0]), by (repeat' (first | (with_reducible exact Below.refl _ _) | (with_reducible assumption) | (with_reducible refine Below.alloc ?_ ?_ _) | (with_reducible refine Below.drew ?_) | (with_reducible refine Below.drewN' ?_ _) | (with_reducible refine Below.setCell ?_ ?_ _) | (refine Below.via ?_ (by with_reducible assumption) ?_) | (with_reducible refine Below.via ?_ (Wd.h _) ?_) | go_size))⟩
end Go.Proofs.Ytigplpbdkjiekaa
namespace Go.Proofs.Ytigplpbdkjiekaa
set_option linter.unusedVariables false
set_option linter.unusedSimpArgs false
open Go.RowKit
set_option maxRecDepth 100000 in
set_option maxHeartbeats 1000000 in
theorem laws_likeOrders (A B : Option Addr) (c d n m : Nat) (l : List Ord) (w : World) (h : Rd w A (l.flatMap Ord.cells)) (h' : Rd w B (l.flatMap Ord.cells)) (hn : n = l.length) (hm : m = l.length) (hl : l.length ≤ 1048576) :
    Calls Try.prog 21 #[.slice A n c, .slice B m d] w fun e w' => e = .returned (.bool true) ∧ Below w.heap.size w w' := by
  subst hn hm
  have H := Lib.hid h
  have H' := Lib.hid h'
  clear h h'
  go_enter Try.func21, Try.ntmps21
  go_wp2
  go_loopw [5] (fun v wr => ∃ k : Nat, k ≤ l.length ∧ v = .int .i64 k ∧ Below w.heap.size w wr) (fun v _ => l.length - (intOf v).toNat)
  case atStart => exact ⟨0, by omega, rfl, Below.refl _ _⟩
  case round =>
    obtain ⟨k, hk, rfl, hbw⟩ := hrel
    have hbH := Lib.hid hbw
    by_cases hlt : k < l.length
    · obtain ⟨x, hx⟩ := get_some hlt
      obtain ⟨b, off, rfl, hb, hat⟩ := H.out.opened (k := k) (by rw [flat_len Ord.len]; omega)
      obtain ⟨b', off', rfl, hb', hat'⟩ := H'.out.opened (k := k) (by rw [flat_len Ord.len]; omega)
      have hat2 := hat.below hbw hb
      have hat2' := hat'.below hbw hb'
      have hbr : b < wr.heap.size := Nat.lt_of_lt_of_le hb hbw.size
      have hbr' : b' < wr.heap.size := Nat.lt_of_lt_of_le hb' hbw.size
      have q0_0 := Wd.cell hbr (hat2.elem0 Ord.len hx rfl)
      have q0_1 := Wd.cell hbr' (hat2'.elem0 Ord.len hx rfl)
      have q1_0 := Wd.cell hbr (hat2.elem Ord.len hx 1 rfl)
      have q1_1 := Wd.cell hbr' (hat2'.elem Ord.len hx 1 rfl)
      have q2_0 := Wd.cell hbr (hat2.elem Ord.len hx 2 rfl)
      have q2_1 := Wd.cell hbr' (hat2'.elem Ord.len hx 2 rfl)
      have q3_0 := Wd.cell hbr (hat2.elem Ord.len hx 3 rfl)
      have q3_1 := Wd.cell hbr' (hat2'.elem Ord.len hx 3 rfl)
      clear hx hat hat' hat2 hat2' hbw hbr hbr'
      go_wp2_with fail
      ((refine wp_region_wd (by kernel_rfl) (by kernel_rfl) ?_); (repeat (go_big_quiet_step ((first | fail)))); (refine wpQuiet_nil ?_); rintro wn ⟨⟨w'', hbn⟩, hw''⟩; obtain rfl : wn = w'' := hw''; (obtain ⟨hcn, hfn⟩ := bcell hbn; have hzn := hbn.size; (try simp at hzn); clear hcn hfn))
      go_wp2
      go_roundw
      case rel => exact ⟨k + 1, by omega, by go_num, Below.via hbH.out hbn hbH.out.size⟩
      case measure => simp [intOf]; omega
    · clear hbw
      go_wp2
      go_ret
      exact ⟨rfl, hbH.out⟩
set_option maxRecDepth 100000 in
set_option maxHeartbeats 1000000 in
theorem laws_likeOwnNomination (A B : Option Addr) (c d n m : Nat) (l : List Nom) (w : World) (h : Rd w A (l.flatMap Nom.cells)) (h' : Rd w B (l.flatMap Nom.cells)) (hn : n = l.length) (hm : m = l.length) (hl : l.length ≤ 1048576) :
    Calls Try.prog 10 #[.slice A n c, .slice B m d] w fun e w' => e = .returned (.bool true) ∧ Below w.heap.size w w' := by
  subst hn hm
  have H := Lib.hid h
  have H' := Lib.hid h'
  clear h h'
  go_enter Try.func10, Try.ntmps10
  go_wp2
  go_loopw [5] (fun v wr => ∃ k : Nat, k ≤ l.length ∧ v = .int .i64 k ∧ Below w.heap.size w wr) (fun v _ => l.length - (intOf v).toNat)
  case atStart => exact ⟨0, by omega, rfl, Below.refl _ _⟩
  case round =>
    obtain ⟨k, hk, rfl, hbw⟩ := hrel
    have hbH := Lib.hid hbw
    by_cases hlt : k < l.length
    · obtain ⟨x, hx⟩ := get_some hlt
      obtain ⟨b, off, rfl, hb, hat⟩ := H.out.opened (k := k) (by rw [flat_len Nom.len]; omega)
      obtain ⟨b', off', rfl, hb', hat'⟩ := H'.out.opened (k := k) (by rw [flat_len Nom.len]; omega)
      have hat2 := hat.below hbw hb
      have hat2' := hat'.below hbw hb'
      have hbr : b < wr.heap.size := Nat.lt_of_lt_of_le hb hbw.size
      have hbr' : b' < wr.heap.size := Nat.lt_of_lt_of_le hb' hbw.size
      have q0_0 := Wd.cell hbr (hat2.elem0 Nom.len hx rfl)
      have q0_1 := Wd.cell hbr' (hat2'.elem0 Nom.len hx rfl)
      have q1_0 := Wd.cell hbr (hat2.elem Nom.len hx 1 rfl)
      have q1_1 := Wd.cell hbr' (hat2'.elem Nom.len hx 1 rfl)
      have q2_0 := Wd.cell hbr (hat2.elem Nom.len hx 2 rfl)
      have q2_1 := Wd.cell hbr' (hat2'.elem Nom.len hx 2 rfl)
      have q3_0 := Wd.cell hbr (hat2.elem Nom.len hx 3 rfl)
      have q3_1 := Wd.cell hbr' (hat2'.elem Nom.len hx 3 rfl)
      clear hx hat hat' hat2 hat2' hbw hbr hbr'
      go_wp2_with fail
      ((refine wp_region_wd (by kernel_rfl) (by kernel_rfl) ?_); (repeat (go_big_quiet_step ((first | fail)))); (refine wpQuiet_nil ?_); rintro wn ⟨⟨w'', hbn⟩, hw''⟩; obtain rfl : wn = w'' := hw''; (obtain ⟨hcn, hfn⟩ := bcell hbn; have hzn := hbn.size; (try simp at hzn); clear hcn hfn))
      go_wp2
      go_roundw
      case rel => exact ⟨k + 1, by omega, by go_num, Below.via hbH.out hbn hbH.out.size⟩
      case measure => simp [intOf]; omega
    · clear hbw
      go_wp2
      go_ret
      exact ⟨rfl, hbH.out⟩
end Go.Proofs.Ytigplpbdkjiekaa
namespace Go.Proofs.Ytigplpbdkjiekaa
set_option linter.unusedVariables false
set_option linter.unusedSimpArgs false
open Go.RowKit
set_option maxRecDepth 100000 in
set_option maxHeartbeats 1000000 in
theorem laws_likeInts (A B : Option Addr) (c d n m : Nat) (l : List Int) (w : World) (h : Rd w A (l.map iV)) (h' : Rd w B (l.map iV)) (hn : n = l.length) (hm : m = l.length) (hl : l.length ≤ 1048576) :
    Calls Try.prog 17 #[.slice A n c, .slice B m d] w fun e w' => e = .returned (.bool true) ∧ Below w.heap.size w w' := by
  subst hn hm
  have H := Lib.hid h
  have H' := Lib.hid h'
  clear h h'
  go_enter Try.func17, Try.ntmps17
  go_wp2
  go_loopw [5] (fun v wr => ∃ k : Nat, k ≤ l.length ∧ v = .int .i64 k ∧ Below w.heap.size w wr) (fun v _ => l.length - (intOf v).toNat)
  case atStart => exact ⟨0, by omega, rfl, Below.refl _ _⟩
  case round =>
    obtain ⟨k, hk, rfl, hbw⟩ := hrel
    have hbH := Lib.hid hbw
    by_cases hlt : k < l.length
    · obtain ⟨n, hn⟩ := get_some hlt
      obtain ⟨b, off, rfl, hb, hat⟩ := H.out.opened (k := k) (by simpa using hlt)
      obtain ⟨b', off', rfl, hb', hat'⟩ := H'.out.opened (k := k) (by simpa using hlt)
      have t0 := ints_at (hat.below hbw hb) hn
      have t1 := ints_at (hat'.below hbw hb') hn
      clear hn hat hat' hbw
      go_wp2
      go_quiet (fail)
      go_wp2
      go_roundw
      case rel => exact ⟨k + 1, by omega, by go_num, Below.drewN' hbH.out _⟩
      case measure => simp [intOf]; omega
    · clear hbw
      go_wp2
      go_ret
      exact ⟨rfl, hbH.out⟩
set_option maxRecDepth 100000 in
set_option maxHeartbeats 1000000 in
theorem laws_sum (A : Option Addr) (c n : Nat) (l : List Int) (w : World) (h : Rd w A (l.map iV)) (hn : n = l.length) (hl : l.length ≤ 1048576) (hs : Sml l) :
    Calls Try.prog 29 #[.slice A n c] w fun e w' => e = .returned (.int .i64 (sumF l)) ∧ w = w' := by
  subst hn
  have H := Lib.hid h
  have HS := Lib.hid hs
  clear h hs
  go_enter Try.func29, Try.ntmps29
  go_wp2
  go_loop [3, 4] (fun u v => ∃ (k : Nat) (r : Int), k ≤ l.length ∧ v = .int .i64 k ∧ u = .int .i64 r ∧ -(k * 1000000000000) ≤ r ∧ r ≤ k * 1000000000000 ∧ r + sumF (l.drop k) = sumF l) (fun _ v => l.length - (intOf v).toNat)
  case atStart => exact ⟨0, 0, by omega, rfl, rfl, by omega, by omega, by simp⟩
  case round =>
    obtain ⟨k, r, hk, rfl, rfl, hr0, hr1, hF⟩ := hrel
    have HF := Lib.hid hF
    clear hF
    by_cases hlt : k < l.length
    · obtain ⟨x, hx⟩ := get_some hlt
      obtain ⟨b, off, rfl, hb, hat⟩ := H.out.opened (k := k) (by simpa using hlt)
      have t0 := ints_at hat hx
      have HD := Lib.hid (drop_consI hx)
      obtain ⟨x1, x2⟩ := HS.out x (List.mem_of_getElem? hx)
      have g1 : (k : Int) < l.length := by omega
      clear hx hat
      go_wp2
      go_round
      case rel =>
        refine ⟨k + 1, r + x, by omega, by go_num, rfl, by omega, by omega, ?_⟩
        rw [← HF.out, HD.out, sumF]; omega
      case measure => simp [intOf]; omega
    · go_wp2
      go_ret
      refine ⟨ri ?_, rfl⟩
      have := HF.out
      rw [drop_endI hlt, sumF] at this
      omega
end Go.Proofs.Ytigplpbdkjiekaa
namespace Go.Proofs.Ytigplpbdkjiekaa
set_option linter.unusedVariables false
set_option linter.unusedSimpArgs false
open Go.RowKit
theorem laws_bigO (A : Option Addr) (n c : Nat) (w : World) : Calls Try.prog 6 #[.slice A n c] w fun e w' => e = .returned (.bool (decide (4096 < n))) ∧ w = w' := by
  go_enter Try.func6, Try.ntmps6
  go_wp2
  go_ret
  refine ⟨rb ?_, rfl⟩
  simp; omega
theorem _root_.Go.Calls.madeOy {P : Program} {f : FuncId} {args : Array Value} {w : World} {s : Nat} {p : List Ord × Int} {RL : List Ord} {RC : Int} (h : Calls P f args w (MadeR w s p.1.length (p.1.flatMap Ord.cells) p.2)) (hp : p = (RL, RC)) : Calls P f args w (MadeR w s RL.length (RL.flatMap Ord.cells) RC) := by subst hp; exact h
theorem osF_oo : ∀ (lb : List Ctr) (am acc : List Int), osF acc (ooF lb am) = nsF acc lb am
  | [], am, acc => by simp [ooF, osF, nsF]
  | c :: lb, [], acc => by simp [ooF, osF, nsF]
  | c :: lb, a :: am, acc => by simp only [ooF, osF, nsF, oo1, oo2, osF_oo lb am]
theorem tot_oo (s : Int) : ∀ (lb : List Ctr) (am : List Int), totF s 1 (ooF lb am) = totF s (-1) (ooF lb am)
  | [], am => by simp [ooF, totF]
  | c :: lb, [] => by simp [ooF, totF]
  | c :: lb, a :: am => by
    have ih := tot_oo s lb am
    simp only [ooF, totF, oo1, oo2, part1, ih]
    by_cases h : c.sh = s
    · simp only [h, if_true]; split <;> split <;> (try split) <;> omega
    · simp only [h, if_false]
theorem ord_oo {n : Int} : ∀ (lb : List Ctr) (am : List Int), (∀ c ∈ lb, ctrB c n = true) → (∀ a ∈ am, 0 ≤ a ∧ a ≤ 30000) → ∀ x ∈ ooF lb am, ordB x n = true
  | [], am, _, _, x, hx => by simp [ooF] at hx
  | c :: lb, [], _, _, x, hx => by simp [ooF] at hx
  | c :: lb, a :: am, hc, ha, x, hx => by
    have c1 := ctr_of (hc c (by simp))
    have a1 := ha a (by simp)
    simp only [ooF, List.mem_cons] at hx
    rcases hx with rfl | rfl | hx
    · show (inB c.sh 0 15 && inB c.en 0 (n - 1) && inB a (-30000) 30000 && inB c.cl 0 3) = true
      obtain ⟨⟨h1, h2⟩, ⟨h3, h4⟩, _, _, _, ⟨h5, h6⟩, _⟩ := c1
      simp only [inB, Bool.and_eq_true, decide_eq_true_eq]
      exact ⟨⟨⟨⟨h1, h2⟩, h3, h4⟩, by omega, by omega⟩, h5, h6⟩
    · show (inB c.sh 0 15 && inB c.ex 0 (n - 1) && inB (-a) (-30000) 30000 && inB c.cl 0 3) = true
      obtain ⟨⟨h1, h2⟩, _, ⟨h3, h4⟩, _, _, ⟨h5, h6⟩, _⟩ := c1
      simp only [inB, Bool.and_eq_true, decide_eq_true_eq]
      exact ⟨⟨⟨⟨h1, h2⟩, h3, h4⟩, by omega, by omega⟩, h5, h6⟩
    · exact ord_oo lb am (fun z hz => hc z (by simp [hz])) (fun z hz => ha z (by simp [hz])) x hx
theorem orders_plain {N : Net} {lb : List Ctr} {ln : List Nom} {hr : Int} {x : List Ord} (h : ooR N lb ln hr = (x, 0)) : osR N x = nsR N lb ln hr ∧ matB N x = true ∧ x.length = 2 * lb.length ∧ lb.length ≤ 20 := by
  unfold ooR at h
  by_cases h0 : (amR N lb ln hr).2 = 0
  case neg => rw [if_pos h0] at h; exact absurd (congrArg (fun p => p.2) h) h0
  rw [if_neg (show ¬ (amR N lb ln hr).2 ≠ 0 from fun q => q h0)] at h
  by_cases h1 : 20 < lb.length
  · rw [if_pos h1] at h; exact absurd (congrArg (fun p => p.2) h) (by simp)
  rw [if_neg h1] at h
  obtain rfl : ooF lb (amL lb ln hr) = x := congrArg (fun p => p.1) h
  have hn : nomsC N lb ln = 0 := by
    rcases amR_cases N lb ln hr with ⟨c, hc, e⟩ | ⟨e, _⟩
    · rw [e] at h0; exact absurd h0 hc
    · exact e
  have hb := book_of (noms_of hn).1
  have hlen := ooF_len (amL_len lb ln hr)
  have hom : ordC N (ooF lb (amL lb ln hr)) = 0 := by
    have e1 : netB N ≠ false := fun e => by
      have h2 := (noms_of hn).1
      unfold bookC at h2; rw [if_pos e] at h2; cases h2
    have e2 : ordsB (ooF lb (amL lb ln hr)) N.nodes.length = true := by
      unfold ordsB
      rw [Bool.and_eq_true, decide_eq_true_eq, hlen]
      exact ⟨by omega, ordsF_all.2 (ord_oo lb _ hb.2.2 (amL_bd hn))⟩
    unfold ordC
    rw [if_neg e1, if_neg (by rw [e2]; simp)]
  refine ⟨?_, matB_t hom fun k _ => tot_oo k lb _, hlen, by omega⟩
  unfold osR nsR
  rw [if_neg (show ¬ ordC N (ooF lb (amL lb ln hr)) ≠ 0 from fun q => q hom), if_neg (show ¬ (amR N lb ln hr).2 ≠ 0 from fun q => q h0), osF_oo, nsL]
set_option maxRecDepth 100000 in
set_option maxHeartbeats 8000000 in
theorem walk_FnOrders (w : World) (A0 : Option Addr) (c0 : Nat) (l0 : List Int) (h0 : BytesIn w A0 l0) :
    Calls Try.prog 4 #[.slice A0 l0.length c0] w fun e w' => e = .returned (.bool true) ∧ Below w.heap.size w w' := by
  have HI := Lib.hid h0
  clear h0
  by_cases hbig : 4096 < l0.length
  · have b0 : decide (4096 < l0.length) = true := by simpa using hbig
    go_enter Try.func4, Try.ntmps4
    go_wp2_with ((go_at_call 6; refine (laws_bigO _ _ _ _).mono ?_; rintro e w' ⟨rfl, rfl⟩))
    go_ret
    exact ⟨rfl, by (repeat' (first | (with_reducible exact Below.refl _ _) | (with_reducible assumption) | (with_reducible refine Below.alloc ?_ ?_ _) | (with_reducible refine Below.drew ?_) | (with_reducible refine Below.drewN' ?_ _) | (with_reducible refine Below.setCell ?_ ?_ _) | (refine Below.via ?_ (by with_reducible assumption) ?_) | (with_reducible refine Below.via ?_ (Wd.h _) ?_) | go_size))⟩
  have b0 : decide (4096 < l0.length) = false := by simpa using hbig
  go_enter Try.func4, Try.ntmps4
  go_wp2_with ((go_at_call 6; refine (laws_bigO _ _ _ _).mono ?_; rintro e w' ⟨rfl, rfl⟩))
  
  refine (spec_DrawOrdersOf A0 c0 l0 _ (HI.out.below (by (repeat' (first | (with_reducible exact Below.refl _ _) | (with_reducible assumption) | (with_reducible refine Below.alloc ?_ ?_ _) | (with_reducible refine Below.drew ?_) | (with_reducible refine Below.drewN' ?_ _) | (with_reducible refine Below.setCell ?_ ?_ _) | (refine Below.via ?_ (by with_reducible assumption) ?_) | (with_reducible refine Below.via ?_ (Wd.h _) ?_) | go_size)))) (by omega)).mono ?_
  rintro e w1 ⟨A, Bq, Al, An, c, d, cl, cn, N, l, ln, hr, rfl, hnc, hN, hL, hM, hl33, -, hn201, -, hb1, -, -, -, -⟩
  have hz1 := hb1.size
  have HN := Lib.hid hN
  have HL := Lib.hid hL
  have HM := Lib.hid hM
  obtain ⟨x, code, hR⟩ : ∃ x code, ooR N l ln hr = (x, code) := ⟨_, _, rfl⟩
  have HR := Lib.hid hR
  have hxl : x.length ≤ 1048576 := by have := ooR_len (N := N) (lb := l) (ln := ln) (hr := hr); rw [hR] at this; exact this
  clear hN hL hM hR
  go_wp2_with fail
  
  refine ((impl_OrdersOf A Bq Al An _ c _ d cl cn N l ln hr _ (HN.out.below (by (repeat' (first | (with_reducible exact Below.refl _ _) | (with_reducible assumption) | (with_reducible refine Below.alloc ?_ ?_ _) | (with_reducible refine Below.drew ?_) | (with_reducible refine Below.drewN' ?_ _) | (with_reducible refine Below.setCell ?_ ?_ _) | (refine Below.via ?_ (by with_reducible assumption) ?_) | (with_reducible refine Below.via ?_ (Wd.h _) ?_) | go_size)))) rfl rfl hnc (HL.out.below (by (repeat' (first | (with_reducible exact Below.refl _ _) | (with_reducible assumption) | (with_reducible refine Below.alloc ?_ ?_ _) | (with_reducible refine Below.drew ?_) | (with_reducible refine Below.drewN' ?_ _) | (with_reducible refine Below.setCell ?_ ?_ _) | (refine Below.via ?_ (by with_reducible assumption) ?_) | (with_reducible refine Below.via ?_ (Wd.h _) ?_) | go_size)))) (by omega) (HM.out.below (by (repeat' (first | (with_reducible exact Below.refl _ _) | (with_reducible assumption) | (with_reducible refine Below.alloc ?_ ?_ _) | (with_reducible refine Below.drew ?_) | (with_reducible refine Below.drewN' ?_ _) | (with_reducible refine Below.setCell ?_ ?_ _) | (refine Below.via ?_ (by with_reducible assumption) ?_) | (with_reducible refine Below.via ?_ (Wd.h _) ?_) | go_size)))) (by omega)).madeOy HR.out).mono ?_
  rintro e w2 ⟨A2, c2, rfl, hc2, hW2, hb2⟩
  have HR2 := Lib.hid hW2.rd
  clear hW2
  (obtain ⟨hcn, hfn⟩ := bcell hb2; have hz2 := hb2.size; (try simp at hz2); have Na_0 := hcn (w1.heap.size) (0) (by first | omega | (simp; done) | (simp; omega)); have Na_0f := hfn (w1.heap.size) (0) (by first | omega | (simp; done) | (simp; omega)); have Nhy_a : w1.heap.size < w2.heap.size := (by omega); have Na_1 := hcn (w1.heap.size) (1) (by first | omega | (simp; done) | (simp; omega)); have Na_1f := hfn (w1.heap.size) (1) (by first | omega | (simp; done) | (simp; omega)); simp [go_sem] at Na_0 Na_0f Na_1 Na_1f; clear hcn hfn; have a_0 := Na_0; have a_0f := Na_0f; have a_1 := Na_1; have a_1f := Na_1f; have hy_a := Nhy_a; clear Na_0 Na_0f Na_1 Na_1f Nhy_a)
  go_wp2_with fail
  refine ((spec_OrdersOf A Bq Al An _ c _ d cl cn N l ln hr _ (HN.out.below (by (repeat' (first | (with_reducible exact Below.refl _ _) | (with_reducible assumption) | (with_reducible refine Below.alloc ?_ ?_ _) | (with_reducible refine Below.drew ?_) | (with_reducible refine Below.drewN' ?_ _) | (with_reducible refine Below.setCell ?_ ?_ _) | (refine Below.via ?_ (by with_reducible assumption) ?_) | (with_reducible refine Below.via ?_ (Wd.h _) ?_) | go_size)))) rfl rfl (HL.out.below (by (repeat' (first | (with_reducible exact Below.refl _ _) | (with_reducible assumption) | (with_reducible refine Below.alloc ?_ ?_ _) | (with_reducible refine Below.drew ?_) | (with_reducible refine Below.drewN' ?_ _) | (with_reducible refine Below.setCell ?_ ?_ _) | (refine Below.via ?_ (by with_reducible assumption) ?_) | (with_reducible refine Below.via ?_ (Wd.h _) ?_) | go_size)))) (by omega) (HM.out.below (by (repeat' (first | (with_reducible exact Below.refl _ _) | (with_reducible assumption) | (with_reducible refine Below.alloc ?_ ?_ _) | (with_reducible refine Below.drew ?_) | (with_reducible refine Below.drewN' ?_ _) | (with_reducible refine Below.setCell ?_ ?_ _) | (refine Below.via ?_ (by with_reducible assumption) ?_) | (with_reducible refine Below.via ?_ (Wd.h _) ?_) | go_size)))) (by omega)).madeOy HR.out).mono ?_
  rintro e w3 ⟨A3, c3, rfl, hc3, hW3, hb3⟩
  have HR3 := Lib.hid hW3.rd
  clear hW3
  (obtain ⟨hcn, hfn⟩ := bcell hb3; have hz3 := hb3.size; (try simp at hz3); have Na_0 := hcn (w1.heap.size) (0) (by first | omega | (simp; done) | (simp; omega)); have Na_0f := hfn (w1.heap.size) (0) (by first | omega | (simp; done) | (simp; omega)); have Nhy_a : w1.heap.size < w3.heap.size := (by omega); have Na_1 := hcn (w1.heap.size) (1) (by first | omega | (simp; done) | (simp; omega)); have Na_1f := hfn (w1.heap.size) (1) (by first | omega | (simp; done) | (simp; omega)); simp [go_sem, a_0, a_0f, a_1, a_1f, hy_a] at Na_0 Na_0f Na_1 Na_1f; clear a_0 a_0f a_1 a_1f hy_a; clear hcn hfn; have a_0 := Na_0; have a_0f := Na_0f; have a_1 := Na_1; have a_1f := Na_1f; have hy_a := Nhy_a; clear Na_0 Na_0f Na_1 Na_1f Nhy_a)
  have HR23 := Lib.hid (HR2.out.below hb3)
  go_wp2_with fail
  refine (laws_likeOrders A2 A3 c2 c3 _ _ x _ HR23.out HR3.out rfl rfl hxl).mono ?_
  rintro e w4 ⟨rfl, hb4⟩
  (obtain ⟨hcn, hfn⟩ := bcell hb4; have hz4 := hb4.size; (try simp at hz4); have Na_0 := hcn (w1.heap.size) (0) (by first | omega | (simp; done) | (simp; omega)); have Na_0f := hfn (w1.heap.size) (0) (by first | omega | (simp; done) | (simp; omega)); have Nhy_a : w1.heap.size < w4.heap.size := (by omega); have Na_1 := hcn (w1.heap.size) (1) (by first | omega | (simp; done) | (simp; omega)); have Na_1f := hfn (w1.heap.size) (1) (by first | omega | (simp; done) | (simp; omega)); simp [go_sem, a_0, a_0f, a_1, a_1f, hy_a] at Na_0 Na_0f Na_1 Na_1f; clear a_0 a_0f a_1 a_1f hy_a; clear hcn hfn; have a_0 := Na_0; have a_0f := Na_0f; have a_1 := Na_1; have a_1f := Na_1f; have hy_a := Nhy_a; clear Na_0 Na_0f Na_1 Na_1f Nhy_a)
  by_cases e0 : code = 0
  · subst e0
    obtain ⟨q1, q2, q3, q4⟩ := orders_plain HR.out
    obtain ⟨R, code2, hQ⟩ : ∃ R code2, nsR N l ln hr = (R, code2) := ⟨_, _, rfl⟩
    have hRl : R.length ≤ 1048576 := by have := nsR_len (N := N) (lb := l) (ln := ln) (hr := hr); rw [hQ] at this; exact this
    rw [hQ] at q1
    have HQ := Lib.hid hQ
    have HO := Lib.hid q1
    have HMB := Lib.hid q2
    have HX4 := Lib.hid (HR23.out.below hb4)
    have hx1 : (x.length : Int) = 2 * (l.length : Int) := by omega
    have HXL := Lib.hid hx1
    have hwx : IntKind.i64.wrap (2 * (l.length : Int)) = (x.length : Int) := by rw [IntWalk.i64_in _ (by omega)]; omega
    clear q1 q2 q3 hQ hx1
    go_wp2_with fail
    refine ((impl_OrderSupplies A Bq A2 _ c _ d c2 N x _ (HN.out.below (by (repeat' (first | (with_reducible exact Below.refl _ _) | (with_reducible assumption) | (with_reducible refine Below.alloc ?_ ?_ _) | (with_reducible refine Below.drew ?_) | (with_reducible refine Below.drewN' ?_ _) | (with_reducible refine Below.setCell ?_ ?_ _) | (refine Below.via ?_ (by with_reducible assumption) ?_) | (with_reducible refine Below.via ?_ (Wd.h _) ?_) | go_size)))) rfl rfl hnc HX4.out (by omega)).made HO.out).mono ?_
    rintro e w5 ⟨A5, c5, rfl, hc5, hW5, hb5⟩
    have HR5 := Lib.hid hW5.rd
    clear hW5
    (obtain ⟨hcn, hfn⟩ := bcell hb5; have hz5 := hb5.size; (try simp at hz5); have Na_0 := hcn (w1.heap.size) (0) (by first | omega | (simp; done) | (simp; omega)); have Na_0f := hfn (w1.heap.size) (0) (by first | omega | (simp; done) | (simp; omega)); have Nhy_a : w1.heap.size < w5.heap.size := (by omega); have Na_1 := hcn (w1.heap.size) (1) (by first | omega | (simp; done) | (simp; omega)); have Na_1f := hfn (w1.heap.size) (1) (by first | omega | (simp; done) | (simp; omega)); simp [go_sem, a_0, a_0f, a_1, a_1f, hy_a] at Na_0 Na_0f Na_1 Na_1f; clear a_0 a_0f a_1 a_1f hy_a; clear hcn hfn; have a_0 := Na_0; have a_0f := Na_0f; have a_1 := Na_1; have a_1f := Na_1f; have hy_a := Nhy_a; clear Na_0 Na_0f Na_1 Na_1f Nhy_a)
    go_wp2_with fail
    refine ((impl_NominatedSupplies A Bq Al An _ c _ d cl cn N l ln hr _ (HN.out.below (by (repeat' (first | (with_reducible exact Below.refl _ _) | (with_reducible assumption) | (with_reducible refine Below.alloc ?_ ?_ _) | (with_reducible refine Below.drew ?_) | (with_reducible refine Below.drewN' ?_ _) | (with_reducible refine Below.setCell ?_ ?_ _) | (refine Below.via ?_ (by with_reducible assumption) ?_) | (with_reducible refine Below.via ?_ (Wd.h _) ?_) | go_size)))) rfl rfl hnc (HL.out.below (by (repeat' (first | (with_reducible exact Below.refl _ _) | (with_reducible assumption) | (with_reducible refine Below.alloc ?_ ?_ _) | (with_reducible refine Below.drew ?_) | (with_reducible refine Below.drewN' ?_ _) | (with_reducible refine Below.setCell ?_ ?_ _) | (refine Below.via ?_ (by with_reducible assumption) ?_) | (with_reducible refine Below.via ?_ (Wd.h _) ?_) | go_size)))) (by omega) (HM.out.below (by (repeat' (first | (with_reducible exact Below.refl _ _) | (with_reducible assumption) | (with_reducible refine Below.alloc ?_ ?_ _) | (with_reducible refine Below.drew ?_) | (with_reducible refine Below.drewN' ?_ _) | (with_reducible refine Below.setCell ?_ ?_ _) | (refine Below.via ?_ (by with_reducible assumption) ?_) | (with_reducible refine Below.via ?_ (Wd.h _) ?_) | go_size)))) (by omega)).made HQ.out).mono ?_
    rintro e w6 ⟨A6, c6, rfl, hc6, hW6, hb6⟩
    have HR6 := Lib.hid hW6.rd
    clear hW6
    (obtain ⟨hcn, hfn⟩ := bcell hb6; have hz6 := hb6.size; (try simp at hz6); have Na_0 := hcn (w1.heap.size) (0) (by first | omega | (simp; done) | (simp; omega)); have Na_0f := hfn (w1.heap.size) (0) (by first | omega | (simp; done) | (simp; omega)); have Nhy_a : w1.heap.size < w6.heap.size := (by omega); have Na_1 := hcn (w1.heap.size) (1) (by first | omega | (simp; done) | (simp; omega)); have Na_1f := hfn (w1.heap.size) (1) (by first | omega | (simp; done) | (simp; omega)); simp [go_sem, a_0, a_0f, a_1, a_1f, hy_a] at Na_0 Na_0f Na_1 Na_1f; clear a_0 a_0f a_1 a_1f hy_a; clear hcn hfn; have a_0 := Na_0; have a_0f := Na_0f; have a_1 := Na_1; have a_1f := Na_1f; have hy_a := Nhy_a; clear Na_0 Na_0f Na_1 Na_1f Nhy_a)
    have HR56 := Lib.hid (HR5.out.below hb6)
    have HX6 := Lib.hid ((HX4.out.below hb5).below hb6)
    have HN6 := Lib.hid (HN.out.below (show Below w1.heap.size w1 w6 by (repeat' (first | (with_reducible exact Below.refl _ _) | (with_reducible assumption) | (with_reducible refine Below.alloc ?_ ?_ _) | (with_reducible refine Below.drew ?_) | (with_reducible refine Below.drewN' ?_ _) | (with_reducible refine Below.setCell ?_ ?_ _) | (refine Below.via ?_ (by with_reducible assumption) ?_) | (with_reducible refine Below.via ?_ (Wd.h _) ?_) | go_size))))
    have HB6 := Lib.hid (show Below w.heap.size w w6 by (repeat' (first | (with_reducible exact Below.refl _ _) | (with_reducible assumption) | (with_reducible refine Below.alloc ?_ ?_ _) | (with_reducible refine Below.drew ?_) | (with_reducible refine Below.drewN' ?_ _) | (with_reducible refine Below.setCell ?_ ?_ _) | (refine Below.via ?_ (by with_reducible assumption) ?_) | (with_reducible refine Below.via ?_ (Wd.h _) ?_) | go_size)))
    clear hb1 hb2 hb3 hb4 hb5 hb6
    go_wp2_with (first | (go_at_call 17; refine (laws_likeInts A5 A6 c5 c6 _ _ R _ HR56.out HR6.out rfl rfl hRl).mono ?_; rintro e w7 ⟨rfl, hb7⟩; (obtain ⟨hcn, hfn⟩ := bcell hb7; have hz7 := hb7.size; (try simp at hz7); have Na_0 := hcn (w1.heap.size) (0) (by first | omega | (simp; done) | (simp; omega)); have Na_0f := hfn (w1.heap.size) (0) (by first | omega | (simp; done) | (simp; omega)); have Nhy_a : w1.heap.size < w7.heap.size := (by omega); have Na_1 := hcn (w1.heap.size) (1) (by first | omega | (simp; done) | (simp; omega)); have Na_1f := hfn (w1.heap.size) (1) (by first | omega | (simp; done) | (simp; omega)); simp [go_sem, a_0, a_0f, a_1, a_1f, hy_a] at Na_0 Na_0f Na_1 Na_1f; clear a_0 a_0f a_1 a_1f hy_a; clear hcn hfn; have a_0 := Na_0; have a_0f := Na_0f; have a_1 := Na_1; have a_1f := Na_1f; have hy_a := Nhy_a; clear Na_0 Na_0f Na_1 Na_1f Nhy_a)) | (go_at_call 24; refine (impl_IsMatched A Bq A2 _ c _ d c2 N x _ (HN6.out.below hb7) rfl rfl hnc (HX6.out.below hb7) (by omega)).mono ?_; rintro e w8 ⟨rfl, hb8⟩; rw [HMB.out]))
    go_ret
    exact ⟨rfl, by have h2 := HB6.out; (repeat' (first | (with_reducible exact Below.refl _ _) | (with_reducible assumption) | (with_reducible refine Below.alloc ?_ ?_ _) | (with_reducible refine Below.drew ?_) | (with_reducible refine Below.drewN' ?_ _) | (with_reducible refine Below.setCell ?_ ?_ _) | (refine Below.via ?_ (by with_reducible assumption) ?_) | (with_reducible refine Below.via ?_ (Wd.h _) ?_) | go_size))⟩
  · have b1 : (code != 0) = true := by simp [e0]
    go_wp2
    go_ret
    exact ⟨rfl, by (repeat' (first | (with_reducible exact Below.refl _ _) | (with_reducible assumption) | (with_reducible refine Below.alloc ?_ ?_ _) | (with_reducible refine Below.drew ?_) | (with_reducible refine Below.drewN' ?_ _) | (with_reducible refine Below.setCell ?_ ?_ _) | (refine Below.via ?_ (by with_reducible assumption) ?_) | (with_reducible refine Below.via ?_ (Wd.h _) ?_) | go_size))⟩
end Go.Proofs.Ytigplpbdkjiekaa

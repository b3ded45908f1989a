/- The laws' helpers on networks. -/
import Derived.Test.YtapdcndagnlmaaaNt3
import Derived.Test.YtapdcndagnlmaaaLNode
import Derived.Test.YtapdcndagnlmaaaLPipe
import Derived.Deep.RegionHeld3
namespace Go.Proofs.Ytapdcndagnlmaaa
set_option linter.unusedVariables false
set_option linter.unusedSimpArgs false
open Go.RowKit

/-- a network as it came in -/
structure NetIn (w : World) (A B : Option Addr) (N : Net) : Prop where
  nodes : Rd w A (N.nodes.flatMap Nd.cells)
  pipes : Rd w B (N.pipes.flatMap Pp.cells)
  ln : N.nodes.length ≤ 9223372036854775807
  lp : N.pipes.length ≤ 9223372036854775807
  nm : ∀ x ∈ N.nodes, x.ok
theorem NetIn.below {w w' : World} {A B : Option Addr} {N : Net} (h : NetIn w A B N) (hb : Below w.heap.size w w') : NetIn w' A B N :=
  ⟨h.nodes.below hb, h.pipes.below hb, h.ln, h.lp, h.nm⟩
theorem NetIn.at_ {w : World} {A B : Option Addr} {N : Net} (h : NetIn w A B N) (hl : N.nodes.length + N.pipes.length ≤ 1048576) : NetAt w A B N :=
  ⟨h.nodes, h.pipes, by omega, by omega, fun x hx => (h.nm x hx).1⟩

/-- a network in new memory -/
def MadeNet (w : World) (N : Net) (e : Ending) (w' : World) : Prop :=
  ∃ g g', e = .returned (netV (some ⟨g, 0, none⟩) (some ⟨g', 0, none⟩) N.nodes.length N.nodes.length N.pipes.length N.pipes.length) ∧ w.heap.size ≤ g ∧ w.heap.size ≤ g' ∧ g ≠ g' ∧
    Arr w' g (N.nodes.length * 3) (N.nodes.flatMap Nd.cells) ∧ Arr w' g' (N.pipes.length * 5) (N.pipes.flatMap Pp.cells) ∧ Below w.heap.size w w'

theorem MadeNet.at_ {w : World} {g g' : Nat} {N : Net} (h : Arr w g (N.nodes.length * 3) (N.nodes.flatMap Nd.cells)) (h' : Arr w g' (N.pipes.length * 5) (N.pipes.flatMap Pp.cells))
    (w0 : World) (A B : Option Addr) (h0 : NetAt w0 A B N) : NetAt w (some ⟨g, 0, none⟩) (some ⟨g', 0, none⟩) N := ⟨h.rd, h'.rd, h0.ln, h0.lp, h0.nm⟩
set_option maxRecDepth 100000 in
set_option maxHeartbeats 1000000 in
theorem laws_szNetwork (A B : Option Addr) (n c m d : Nat) (N : Net) (left : Int) (w : World) (h : NetIn w A B N) (hn : n = N.nodes.length) (hm : m = N.pipes.length) (h0 : 0 ≤ left) (h1 : left ≤ 1048576) :
    Calls Try.prog 5 #[netV A B n c m d, .int .i64 left] w (SzPost w left (N.nodes.length + N.pipes.length)) := by
  subst hn hm
  have H := Lib.hid h
  have hl1 := h.ln
  have hl2 := h.lp
  clear h
  go_enter Try.func5, Try.ntmps5
  go_wp2_with fail
  refine (laws_szNodeS _ _ N.nodes _ _ (H.out.nodes.below (by (repeat' (first | (with_reducible exact Below.refl _ _) | (with_reducible assumption) | (with_reducible refine Below.alloc ?_ ?_ _) | (with_reducible refine Below.drew ?_) | (with_reducible refine Below.drewN' ?_ _) | (with_reducible refine Below.setCell ?_ ?_ _) | (refine Below.via ?_ (by with_reducible assumption) ?_) | (with_reducible refine Below.via ?_ (Wd.h _) ?_) | go_size)))) h0 h1 hl1 H.out.nm).mono ?_
  rintro e wn ⟨r, rfl, hr, hbn⟩
  (obtain ⟨hcn, hfn⟩ := bcell hbn; have hzn := hbn.size; (try simp at hzn); have Ncw0_0 := hcn (w.heap.size) (0) (by first | omega | (simp; done) | (simp; omega)); have Nfw0_0 := hfn (w.heap.size) (0) (by first | omega | (simp; done) | (simp; omega)); have Nhy0 : w.heap.size < wn.heap.size := (by omega); have Ncw0_1 := hcn (w.heap.size) (1) (by first | omega | (simp; done) | (simp; omega)); have Nfw0_1 := hfn (w.heap.size) (1) (by first | omega | (simp; done) | (simp; omega)); (first | (simp [go_sem, cw0_0, fw0_0, cw0_1, fw0_1, hy0] at Ncw0_0 Nfw0_0 Ncw0_1 Nfw0_1; clear cw0_0 fw0_0 cw0_1 fw0_1) | (simp [go_sem] at Ncw0_0 Nfw0_0 Ncw0_1 Nfw0_1)); clear hcn hfn; have cw0_0 := Ncw0_0; have fw0_0 := Nfw0_0; have cw0_1 := Ncw0_1; have fw0_1 := Nfw0_1; have hy0 := Nhy0; clear Ncw0_0 Nfw0_0 Ncw0_1 Nfw0_1 Nhy0)
  by_cases hr0 : r < 0
  · go_wp2
    go_ret
    exact ⟨-1, rfl, .inl rfl, by (repeat' (first | (with_reducible exact Below.refl _ _) | (with_reducible assumption) | (with_reducible refine Below.alloc ?_ ?_ _) | (with_reducible refine Below.drew ?_) | (with_reducible refine Below.drewN' ?_ _) | (with_reducible refine Below.setCell ?_ ?_ _) | (refine Below.via ?_ (by with_reducible assumption) ?_) | (with_reducible refine Below.via ?_ (Wd.h _) ?_) | go_size))⟩
  · obtain ⟨hr1, hr2⟩ : 0 ≤ r ∧ r + N.nodes.length ≤ left := by omega
    go_wp2_with fail
    refine (laws_szPipeS _ _ _ _ _ hr1 (by omega) hl2).mono ?_
    rintro e wn ⟨r', rfl, hr', hbn⟩
    (obtain ⟨hcn, hfn⟩ := bcell hbn; have hzn := hbn.size; (try simp at hzn); have Ncw0_0 := hcn (w.heap.size) (0) (by first | omega | (simp; done) | (simp; omega)); have Nfw0_0 := hfn (w.heap.size) (0) (by first | omega | (simp; done) | (simp; omega)); have Nhy0 : w.heap.size < wn.heap.size := (by omega); have Ncw0_1 := hcn (w.heap.size) (1) (by first | omega | (simp; done) | (simp; omega)); have Nfw0_1 := hfn (w.heap.size) (1) (by first | omega | (simp; done) | (simp; omega)); (first | (simp [go_sem, cw0_0, fw0_0, cw0_1, fw0_1, hy0] at Ncw0_0 Nfw0_0 Ncw0_1 Nfw0_1; clear cw0_0 fw0_0 cw0_1 fw0_1) | (simp [go_sem] at Ncw0_0 Nfw0_0 Ncw0_1 Nfw0_1)); clear hcn hfn; have cw0_0 := Ncw0_0; have fw0_0 := Nfw0_0; have cw0_1 := Ncw0_1; have fw0_1 := Nfw0_1; have hy0 := Nhy0; clear Ncw0_0 Nfw0_0 Ncw0_1 Nfw0_1 Nhy0)
    by_cases hr0' : r' < 0
    · go_wp2
      go_ret
      exact ⟨-1, rfl, .inl rfl, by (repeat' (first | (with_reducible exact Below.refl _ _) | (with_reducible assumption) | (with_reducible refine Below.alloc ?_ ?_ _) | (with_reducible refine Below.drew ?_) | (with_reducible refine Below.drewN' ?_ _) | (with_reducible refine Below.setCell ?_ ?_ _) | (refine Below.via ?_ (by with_reducible assumption) ?_) | (with_reducible refine Below.via ?_ (Wd.h _) ?_) | go_size))⟩
    · go_wp2
      go_ret
      exact ⟨r', rfl, .inr ⟨by omega, by omega⟩, by (repeat' (first | (with_reducible exact Below.refl _ _) | (with_reducible assumption) | (with_reducible refine Below.alloc ?_ ?_ _) | (with_reducible refine Below.drew ?_) | (with_reducible refine Below.drewN' ?_ _) | (with_reducible refine Below.setCell ?_ ?_ _) | (refine Below.via ?_ (by with_reducible assumption) ?_) | (with_reducible refine Below.via ?_ (Wd.h _) ?_) | go_size))⟩

set_option maxRecDepth 100000 in
set_option maxHeartbeats 1000000 in
theorem laws_toNetwork (A B : Option Addr) (n c m d : Nat) (N : Net) (w : World) (h : NetAt w A B N) (hn : n = N.nodes.length) (hm : m = N.pipes.length) :
    Calls Try.prog 9 #[netV A B n c m d] w (MadeNet w N) := by
  subst hn hm
  have H := Lib.hid h
  have hl1 := h.ln
  have hl2 := h.lp
  clear h
  go_enter Try.func9, Try.ntmps9
  
  go_wp2_with fail
  refine (laws_toNodeS _ _ N.nodes _ (H.out.nodes.below (by (repeat' (first | (with_reducible exact Below.refl _ _) | (with_reducible assumption) | (with_reducible refine Below.alloc ?_ ?_ _) | (with_reducible refine Below.drew ?_) | (with_reducible refine Below.drewN' ?_ _) | (with_reducible refine Below.setCell ?_ ?_ _) | (refine Below.via ?_ (by with_reducible assumption) ?_) | (with_reducible refine Below.via ?_ (Wd.h _) ?_) | go_size)))) hl1).mono ?_
  rintro e wn ⟨g, rfl, hg, hA, hbn⟩
  simp at hg
  (obtain ⟨hcn, hfn⟩ := bcell hbn; have hzn := hbn.size; (try simp at hzn); have Ncw0_0 := hcn (w.heap.size) (0) (by first | omega | (simp; done) | (simp; omega)); have Nfw0_0 := hfn (w.heap.size) (0) (by first | omega | (simp; done) | (simp; omega)); have Nhy0 : w.heap.size < wn.heap.size := (by omega); have Ncw0_1 := hcn (w.heap.size) (1) (by first | omega | (simp; done) | (simp; omega)); have Nfw0_1 := hfn (w.heap.size) (1) (by first | omega | (simp; done) | (simp; omega)); have Ncw1_0 := hcn (w.heap.size + 1) (0) (by first | omega | (simp; done) | (simp; omega)); have Nfw1_0 := hfn (w.heap.size + 1) (0) (by first | omega | (simp; done) | (simp; omega)); have Nhy1 : w.heap.size + 1 < wn.heap.size := (by omega); have Ncw1_1 := hcn (w.heap.size + 1) (1) (by first | omega | (simp; done) | (simp; omega)); have Nfw1_1 := hfn (w.heap.size + 1) (1) (by first | omega | (simp; done) | (simp; omega)); have Ncx_0 := hcn (w.heap.size + 2) (0) (by first | omega | (simp; done) | (simp; omega)); have Ncx_0f := hfn (w.heap.size + 2) (0) (by first | omega | (simp; done) | (simp; omega)); have Nhy_cx : w.heap.size + 2 < wn.heap.size := (by omega); have Ncx_1 := hcn (w.heap.size + 2) (1) (by first | omega | (simp; done) | (simp; omega)); have Ncx_1f := hfn (w.heap.size + 2) (1) (by first | omega | (simp; done) | (simp; omega)); (first | (simp [go_sem, cw0_0, fw0_0, cw0_1, fw0_1, cw1_0, fw1_0, cw1_1, fw1_1, cx_0, cx_0f, cx_1, cx_1f, hy0, hy1, hy_cx] at Ncw0_0 Nfw0_0 Ncw0_1 Nfw0_1 Ncw1_0 Nfw1_0 Ncw1_1 Nfw1_1 Ncx_0 Ncx_0f Ncx_1 Ncx_1f; clear cw0_0 fw0_0 cw0_1 fw0_1 cw1_0 fw1_0 cw1_1 fw1_1 cx_0 cx_0f cx_1 cx_1f) | (simp [go_sem] at Ncw0_0 Nfw0_0 Ncw0_1 Nfw0_1 Ncw1_0 Nfw1_0 Ncw1_1 Nfw1_1 Ncx_0 Ncx_0f Ncx_1 Ncx_1f)); clear hcn hfn; have cw0_0 := Ncw0_0; have fw0_0 := Nfw0_0; have cw0_1 := Ncw0_1; have fw0_1 := Nfw0_1; have cw1_0 := Ncw1_0; have fw1_0 := Nfw1_0; have cw1_1 := Ncw1_1; have fw1_1 := Nfw1_1; have cx_0 := Ncx_0; have cx_0f := Ncx_0f; have cx_1 := Ncx_1; have cx_1f := Ncx_1f; have hy0 := Nhy0; have hy1 := Nhy1; have hy_cx := Nhy_cx; clear Ncw0_0 Nfw0_0 Ncw0_1 Nfw0_1 Ncw1_0 Nfw1_0 Ncw1_1 Nfw1_1 Ncx_0 Ncx_0f Ncx_1 Ncx_1f Nhy0 Nhy1 Nhy_cx)
  go_wp2_with fail
  have hb1 : Below w.heap.size w (wn.setCell ⟨w.heap.size + 2, 0, none⟩ (.slice (some ⟨g, 0, none⟩) N.nodes.length N.nodes.length)) := by (repeat' (first | (with_reducible exact Below.refl _ _) | (with_reducible assumption) | (with_reducible refine Below.alloc ?_ ?_ _) | (with_reducible refine Below.drew ?_) | (with_reducible refine Below.drewN' ?_ _) | (with_reducible refine Below.setCell ?_ ?_ _) | (refine Below.via ?_ (by with_reducible assumption) ?_) | (with_reducible refine Below.via ?_ (Wd.h _) ?_) | go_size))
  have hA1 := hA.far (p := ⟨w.heap.size + 2, 0, none⟩) (by simp; omega) (.slice (some ⟨g, 0, none⟩) N.nodes.length N.nodes.length)
  refine (laws_toPipeS _ _ N.pipes _ (H.out.pipes.below hb1) hl2).mono ?_
  rintro e wn ⟨g', rfl, hg', hA', hbn⟩
  have hA2 := hA1.below hbn hA1.lt
  have hz := hA1.lt
  simp at hg' hz
  have HA' := Lib.hid hA'
  have HA2 := Lib.hid hA2
  have HB1 := Lib.hid (Below.via hb1 hbn hb1.size)
  (obtain ⟨hcn, hfn⟩ := bcell hbn; have hzn := hbn.size; (try simp at hzn); have Ncw0_0 := hcn (w.heap.size) (0) (by first | omega | (simp; done) | (simp; omega)); have Nfw0_0 := hfn (w.heap.size) (0) (by first | omega | (simp; done) | (simp; omega)); have Nhy0 : w.heap.size < wn.heap.size := (by omega); have Ncw0_1 := hcn (w.heap.size) (1) (by first | omega | (simp; done) | (simp; omega)); have Nfw0_1 := hfn (w.heap.size) (1) (by first | omega | (simp; done) | (simp; omega)); have Ncw1_0 := hcn (w.heap.size + 1) (0) (by first | omega | (simp; done) | (simp; omega)); have Nfw1_0 := hfn (w.heap.size + 1) (0) (by first | omega | (simp; done) | (simp; omega)); have Nhy1 : w.heap.size + 1 < wn.heap.size := (by omega); have Ncw1_1 := hcn (w.heap.size + 1) (1) (by first | omega | (simp; done) | (simp; omega)); have Nfw1_1 := hfn (w.heap.size + 1) (1) (by first | omega | (simp; done) | (simp; omega)); have Ncx_0 := hcn (w.heap.size + 2) (0) (by first | omega | (simp; done) | (simp; omega)); have Ncx_0f := hfn (w.heap.size + 2) (0) (by first | omega | (simp; done) | (simp; omega)); have Nhy_cx : w.heap.size + 2 < wn.heap.size := (by omega); have Ncx_1 := hcn (w.heap.size + 2) (1) (by first | omega | (simp; done) | (simp; omega)); have Ncx_1f := hfn (w.heap.size + 2) (1) (by first | omega | (simp; done) | (simp; omega)); (first | (simp [go_sem, cw0_0, fw0_0, cw0_1, fw0_1, cw1_0, fw1_0, cw1_1, fw1_1, cx_0, cx_0f, cx_1, cx_1f, hy0, hy1, hy_cx] at Ncw0_0 Nfw0_0 Ncw0_1 Nfw0_1 Ncw1_0 Nfw1_0 Ncw1_1 Nfw1_1 Ncx_0 Ncx_0f Ncx_1 Ncx_1f; clear cw0_0 fw0_0 cw0_1 fw0_1 cw1_0 fw1_0 cw1_1 fw1_1 cx_0 cx_0f cx_1 cx_1f) | (simp [go_sem] at Ncw0_0 Nfw0_0 Ncw0_1 Nfw0_1 Ncw1_0 Nfw1_0 Ncw1_1 Nfw1_1 Ncx_0 Ncx_0f Ncx_1 Ncx_1f)); clear hcn hfn; have cw0_0 := Ncw0_0; have fw0_0 := Nfw0_0; have cw0_1 := Ncw0_1; have fw0_1 := Nfw0_1; have cw1_0 := Ncw1_0; have fw1_0 := Nfw1_0; have cw1_1 := Ncw1_1; have fw1_1 := Nfw1_1; have cx_0 := Ncx_0; have cx_0f := Ncx_0f; have cx_1 := Ncx_1; have cx_1f := Ncx_1f; have hy0 := Nhy0; have hy1 := Nhy1; have hy_cx := Nhy_cx; clear Ncw0_0 Nfw0_0 Ncw0_1 Nfw0_1 Ncw1_0 Nfw1_0 Ncw1_1 Nfw1_1 Ncx_0 Ncx_0f Ncx_1 Ncx_1f Nhy0 Nhy1 Nhy_cx)
  clear hA hA1 hA2 hA' hb1
  go_wp2
  (first | (refine bodyPost_ret (by simp [results, Try.results9, go_sem, cw0_0, cw0_1, cw1_0, cw1_1]; try rfl) rfl ?_) | (refine bodyPost_ret (by simp [results, Try.results9, go_sem]; try rfl) rfl ?_))
  refine ⟨g, g', rfl, by omega, by omega, by omega, ?_, ?_, ?_⟩
  · exact ((((HA2.out.far (by simp; omega) _).far (by simp; omega) _).far (by simp; omega) _))
  · exact ((((HA'.out.far (by simp; omega) _).far (by simp; omega) _).far (by simp; omega) _))
  · have := HB1.out; (repeat' (first | (with_reducible exact Below.refl _ _) | (with_reducible assumption) | (with_reducible refine Below.alloc ?_ ?_ _) | (with_reducible refine Below.drew ?_) | (with_reducible refine Below.drewN' ?_ _) | (with_reducible refine Below.setCell ?_ ?_ _) | (refine Below.via ?_ (by with_reducible assumption) ?_) | (with_reducible refine Below.via ?_ (Wd.h _) ?_) | go_size))


set_option maxRecDepth 100000 in
set_option maxHeartbeats 1000000 in
theorem laws_eqNetwork (A B A' B' : Option Addr) (n c m d c' d' : Nat) (N : Net) (w : World) (h : NetAt w A B N) (h' : NetAt w A' B' N) (hn : n = N.nodes.length) (hm : m = N.pipes.length) :
    Calls Try.prog 14 #[netV A B n c m d, netV A' B' n c' m d'] w fun e w' => e = .returned (.bool true) ∧ Below w.heap.size w w' := by
  subst hn hm
  have H := Lib.hid h
  have H' := Lib.hid h'
  have hl1 := h.ln
  have hl2 := h.lp
  clear h h'
  go_enter Try.func14, Try.ntmps14
  go_wp2_with fail
  refine (laws_eqNodeS _ _ _ _ N.nodes _ (H.out.nodes.below (by (repeat' (first | (with_reducible exact Below.refl _ _) | (with_reducible assumption) | (with_reducible refine Below.alloc ?_ ?_ _) | (with_reducible refine Below.drew ?_) | (with_reducible refine Below.drewN' ?_ _) | (with_reducible refine Below.setCell ?_ ?_ _) | (refine Below.via ?_ (by with_reducible assumption) ?_) | (with_reducible refine Below.via ?_ (Wd.h _) ?_) | go_size)))) (H'.out.nodes.below (by (repeat' (first | (with_reducible exact Below.refl _ _) | (with_reducible assumption) | (with_reducible refine Below.alloc ?_ ?_ _) | (with_reducible refine Below.drew ?_) | (with_reducible refine Below.drewN' ?_ _) | (with_reducible refine Below.setCell ?_ ?_ _) | (refine Below.via ?_ (by with_reducible assumption) ?_) | (with_reducible refine Below.via ?_ (Wd.h _) ?_) | go_size)))) hl1).mono ?_
  rintro e wn ⟨rfl, hbn⟩
  (obtain ⟨hcn, hfn⟩ := bcell hbn; have hzn := hbn.size; (try simp at hzn); have Ncw0_0 := hcn (w.heap.size) (0) (by first | omega | (simp; done) | (simp; omega)); have Nfw0_0 := hfn (w.heap.size) (0) (by first | omega | (simp; done) | (simp; omega)); have Nhy0 : w.heap.size < wn.heap.size := (by omega); have Ncw0_1 := hcn (w.heap.size) (1) (by first | omega | (simp; done) | (simp; omega)); have Nfw0_1 := hfn (w.heap.size) (1) (by first | omega | (simp; done) | (simp; omega)); have Ncw1_0 := hcn (w.heap.size + 1) (0) (by first | omega | (simp; done) | (simp; omega)); have Nfw1_0 := hfn (w.heap.size + 1) (0) (by first | omega | (simp; done) | (simp; omega)); have Nhy1 : w.heap.size + 1 < wn.heap.size := (by omega); have Ncw1_1 := hcn (w.heap.size + 1) (1) (by first | omega | (simp; done) | (simp; omega)); have Nfw1_1 := hfn (w.heap.size + 1) (1) (by first | omega | (simp; done) | (simp; omega)); (first | (simp [go_sem, cw0_0, fw0_0, cw0_1, fw0_1, cw1_0, fw1_0, cw1_1, fw1_1, hy0, hy1] at Ncw0_0 Nfw0_0 Ncw0_1 Nfw0_1 Ncw1_0 Nfw1_0 Ncw1_1 Nfw1_1; clear cw0_0 fw0_0 cw0_1 fw0_1 cw1_0 fw1_0 cw1_1 fw1_1) | (simp [go_sem] at Ncw0_0 Nfw0_0 Ncw0_1 Nfw0_1 Ncw1_0 Nfw1_0 Ncw1_1 Nfw1_1)); clear hcn hfn; have cw0_0 := Ncw0_0; have fw0_0 := Nfw0_0; have cw0_1 := Ncw0_1; have fw0_1 := Nfw0_1; have cw1_0 := Ncw1_0; have fw1_0 := Nfw1_0; have cw1_1 := Ncw1_1; have fw1_1 := Nfw1_1; have hy0 := Nhy0; have hy1 := Nhy1; clear Ncw0_0 Nfw0_0 Ncw0_1 Nfw0_1 Ncw1_0 Nfw1_0 Ncw1_1 Nfw1_1 Nhy0 Nhy1)
  go_wp2_with fail
  refine (laws_eqPipeS _ _ _ _ N.pipes _ (H.out.pipes.below (by (repeat' (first | (with_reducible exact Below.refl _ _) | (with_reducible assumption) | (with_reducible refine Below.alloc ?_ ?_ _) | (with_reducible refine Below.drew ?_) | (with_reducible refine Below.drewN' ?_ _) | (with_reducible refine Below.setCell ?_ ?_ _) | (refine Below.via ?_ (by with_reducible assumption) ?_) | (with_reducible refine Below.via ?_ (Wd.h _) ?_) | go_size)))) (H'.out.pipes.below (by (repeat' (first | (with_reducible exact Below.refl _ _) | (with_reducible assumption) | (with_reducible refine Below.alloc ?_ ?_ _) | (with_reducible refine Below.drew ?_) | (with_reducible refine Below.drewN' ?_ _) | (with_reducible refine Below.setCell ?_ ?_ _) | (refine Below.via ?_ (by with_reducible assumption) ?_) | (with_reducible refine Below.via ?_ (Wd.h _) ?_) | go_size)))) hl2).mono ?_
  rintro e wn ⟨rfl, hbn⟩
  (obtain ⟨hcn, hfn⟩ := bcell hbn; have hzn := hbn.size; (try simp at hzn); have Ncw0_0 := hcn (w.heap.size) (0) (by first | omega | (simp; done) | (simp; omega)); have Nfw0_0 := hfn (w.heap.size) (0) (by first | omega | (simp; done) | (simp; omega)); have Nhy0 : w.heap.size < wn.heap.size := (by omega); have Ncw0_1 := hcn (w.heap.size) (1) (by first | omega | (simp; done) | (simp; omega)); have Nfw0_1 := hfn (w.heap.size) (1) (by first | omega | (simp; done) | (simp; omega)); have Ncw1_0 := hcn (w.heap.size + 1) (0) (by first | omega | (simp; done) | (simp; omega)); have Nfw1_0 := hfn (w.heap.size + 1) (0) (by first | omega | (simp; done) | (simp; omega)); have Nhy1 : w.heap.size + 1 < wn.heap.size := (by omega); have Ncw1_1 := hcn (w.heap.size + 1) (1) (by first | omega | (simp; done) | (simp; omega)); have Nfw1_1 := hfn (w.heap.size + 1) (1) (by first | omega | (simp; done) | (simp; omega)); (first | (simp [go_sem, cw0_0, fw0_0, cw0_1, fw0_1, cw1_0, fw1_0, cw1_1, fw1_1, hy0, hy1] at Ncw0_0 Nfw0_0 Ncw0_1 Nfw0_1 Ncw1_0 Nfw1_0 Ncw1_1 Nfw1_1; clear cw0_0 fw0_0 cw0_1 fw0_1 cw1_0 fw1_0 cw1_1 fw1_1) | (simp [go_sem] at Ncw0_0 Nfw0_0 Ncw0_1 Nfw0_1 Ncw1_0 Nfw1_0 Ncw1_1 Nfw1_1)); clear hcn hfn; have cw0_0 := Ncw0_0; have fw0_0 := Nfw0_0; have cw0_1 := Ncw0_1; have fw0_1 := Nfw0_1; have cw1_0 := Ncw1_0; have fw1_0 := Nfw1_0; have cw1_1 := Ncw1_1; have fw1_1 := Nfw1_1; have hy0 := Nhy0; have hy1 := Nhy1; clear Ncw0_0 Nfw0_0 Ncw0_1 Nfw0_1 Ncw1_0 Nfw1_0 Ncw1_1 Nfw1_1 Nhy0 Nhy1)
  go_wp2
  go_ret
  exact ⟨rfl, by (repeat' (first | (with_reducible exact Below.refl _ _) | (with_reducible assumption) | (with_reducible refine Below.alloc ?_ ?_ _) | (with_reducible refine Below.drew ?_) | (with_reducible refine Below.drewN' ?_ _) | (with_reducible refine Below.setCell ?_ ?_ _) | (refine Below.via ?_ (by with_reducible assumption) ?_) | (with_reducible refine Below.via ?_ (Wd.h _) ?_) | go_size))⟩
end Go.Proofs.Ytapdcndagnlmaaa

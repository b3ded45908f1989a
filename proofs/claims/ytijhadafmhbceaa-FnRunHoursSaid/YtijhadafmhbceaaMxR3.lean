/- What the laws do with lists of numbers: like lists, sums. -/
import Derived.Test.YtijhadafmhbceaaMxR1
import Derived.Test.YtijhadafmhbceaaHo
import Derived.Test.YtijhadafmhbceaaSu
namespace Go.Proofs.Ytijhadafmhbceaa
set_option linter.unusedVariables false
set_option linter.unusedSimpArgs false
open Go.RowKit
def trB (nx ll lh : List Int) (k : Nat) : Bool := match nx[k]?, ll[k]?, lh[k]? with
  | some a, some l, some h => inB a l h
  | _, _, _ => true
def ftF (f : Nat → Bool) : Nat → Nat → Int
  | _, 0 => -1
  | k, m + 1 => if f k = false then (k : Int) else ftF f (k + 1) m
noncomputable def ftR (N : Net) (ll lh ln : List Int) (x : Hr) : Int × Int :=
  if hrC N ll lh ln x ≠ 0 then (0, hrC N ll lh ln x) else (ftF (trB (nextL N ln x.su x.fl) ll lh) 0 N.nodes.length, 0)
theorem trB_get {nx ll lh : List Int} {k : Nat} {a l h : Int} (h1 : nx[k]? = some a) (h2 : ll[k]? = some l) (h3 : lh[k]? = some h) : trB nx ll lh k = inB a l h := by simp [trB, h1, h2, h3]
theorem Rd.two {w : World} {t : TypeId} {a b : Value} {g : Nat} (hg : g = w.heap.size) : Rd (w.alloc (.cells #[a, b] t)) (some ⟨g, 0, none⟩) [a, b] := by
  subst hg
  refine Rd.mk (fun j v e => ?_) (by simp)
  rw [Nat.zero_add]
  have : (w.alloc (.cells #[a, b] t)).cell? ⟨w.heap.size, j, none⟩ = (#[a, b])[j]? := by simp
  rw [this]; simpa using e
def idxL (n : Nat) : List Int := (List.range n).map fun i : Nat => (i : Int)
theorem idxL_len (n : Nat) : (idxL n).length = n := by simp [idxL]
theorem idxL_get {n k : Nat} (h : k < n) : (idxL n)[k]? = some (k : Int) := by simp [idxL, h]
theorem idxL_succ (k : Nat) : idxL (k + 1) = idxL k ++ [(k : Int)] := by simp [idxL, List.range_succ]
structure FtBox (w : World) (A B Al Ah An : Option Addr) (n c m d nl nh nn cl ch cn bn bb bh : Nat) (x : Hr) : Prop where
  n0 : w.cell? ⟨bn, 0, none⟩ = some (.slice A n c)
  n1 : w.cell? ⟨bn, 1, none⟩ = some (.slice B m d)
  b0 : w.cell? ⟨bb, 0, none⟩ = some (.slice Al nl cl)
  b1 : w.cell? ⟨bb, 1, none⟩ = some (.slice Ah nh ch)
  b2 : w.cell? ⟨bb, 2, none⟩ = some (.slice An nn cn)
  h0 : w.cell? ⟨bh, 0, none⟩ = some (.slice x.A x.fl.length x.c)
  h1 : w.cell? ⟨bh, 1, none⟩ = some (.slice x.B x.su.length x.d)
  ln : bn < w.heap.size
  lb : bb < w.heap.size
  lh : bh < w.heap.size
theorem FtBox.below {w w' : World} {A B Al Ah An : Option Addr} {n c m d nl nh nn cl ch cn bn bb bh : Nat} {x : Hr} (h : FtBox w A B Al Ah An n c m d nl nh nn cl ch cn bn bb bh x) (hb : Below w.heap.size w w') : FtBox w' A B Al Ah An n c m d nl nh nn cl ch cn bn bb bh x :=
  ⟨bc hb h.ln h.n0, bc hb h.ln h.n1, bc hb h.lb h.b0, bc hb h.lb h.b1, bc hb h.lb h.b2, bc hb h.lh h.h0, bc hb h.lh h.h1, by have := hb.size; have := h.ln; omega, by have := hb.size; have := h.lb; omega, by have := hb.size; have := h.lh; omega⟩
end Go.Proofs.Ytijhadafmhbceaa
namespace Go.Proofs.Ytijhadafmhbceaa
set_option linter.unusedVariables false
set_option linter.unusedSimpArgs false
open Go.RowKit
noncomputable def shR (N : Net) (ll lh ln : List Int) (x : Hr) : Bfs × Int :=
  if hrC N ll lh ln x = 0 then (if (stR N ll lh ln x.fl x.su).2 = true then ((stR N ll lh ln x.fl x.su).1, 0) else (⟨[], [], []⟩, 7)) else (⟨[], [], []⟩, hrC N ll lh ln x)
/-- what a call that makes buffers and a code hands back -/
def MadeBI (w : World) (x : Bfs) (code : Int) (e : Ending) (w' : World) : Prop :=
  ∃ A1 A2 A3 c1 c2 c3, e = .returned (.tuple #[.agg #[.slice A1 x.lo.length c1, .slice A2 x.hi.length c2, .slice A3 x.nw.length c3], .int .i64 code]) ∧ BufW w.heap.size w' A1 A2 A3 x.lo x.hi x.nw ∧ Below w.heap.size w w'
set_option maxRecDepth 100000 in
set_option maxHeartbeats 4000000 in
theorem impl_StepHour (A B Al Ah An : Option Addr) (n c m d nl nh nn cl ch cn : Nat) (N : Net) (ll lh ln : List Int) (x : Hr) (w : World) (hN : NetAt w A B N) (hn : n = N.nodes.length) (hm : m = N.pipes.length) (hc : n ≤ c) (h : BufAt w Al Ah An ll lh ln) (e1 : nl = ll.length) (e2 : nh = lh.length) (e3 : nn = ln.length) (hat : HrAt w x) :
    Calls Try.prog 10 #[netV A B n c m d, bufV Al Ah An nl nh nn cl ch cn, x.val] w (MadeBI w (shR N ll lh ln x).1 (shR N ll lh ln x).2) := by
  subst hn hm e1 e2 e3
  have HN := Lib.hid hN
  have HR := Lib.hid h
  have HA := Lib.hid hat
  clear hN h hat
  have HC1 := Lib.hid (hrsC_one N ll lh ln x)
  go_enter Try.func10, Try.ntmps10
  go_wp2_with fail
  
  refine (impl_checkBuffers _ _ _ _ _ _ _ _ _ _ _ _ _ _ _ _ _ N ll lh ln [x] _ (HN.out.below (by (repeat' (first | (with_reducible exact Below.refl _ _) | (with_reducible assumption) | (with_reducible refine Below.alloc ?_ ?_ _) | (with_reducible refine Below.drew ?_) | (with_reducible refine Below.drewN' ?_ _) | (with_reducible refine Below.setCell ?_ ?_ _) | (refine Below.via ?_ (by with_reducible assumption) ?_) | (with_reducible refine Below.via ?_ (Wd.h _) ?_) | go_size)))) rfl rfl hc (HR.out.below (by (repeat' (first | (with_reducible exact Below.refl _ _) | (with_reducible assumption) | (with_reducible refine Below.alloc ?_ ?_ _) | (with_reducible refine Below.drew ?_) | (with_reducible refine Below.drewN' ?_ _) | (with_reducible refine Below.setCell ?_ ?_ _) | (refine Below.via ?_ (by with_reducible assumption) ?_) | (with_reducible refine Below.via ?_ (Wd.h _) ?_) | go_size)))) rfl rfl rfl ?hH ?hA (by simp)).mono ?_
  case hH => exact Rd.two (by simp)
  case hA => exact fun y hy => by obtain rfl : y = x := by simpa using hy
                                  exact HA.out.below (by (repeat' (first | (with_reducible exact Below.refl _ _) | (with_reducible assumption) | (with_reducible refine Below.alloc ?_ ?_ _) | (with_reducible refine Below.drew ?_) | (with_reducible refine Below.drewN' ?_ _) | (with_reducible refine Below.setCell ?_ ?_ _) | (refine Below.via ?_ (by with_reducible assumption) ?_) | (with_reducible refine Below.via ?_ (Wd.h _) ?_) | go_size)))
  rintro e w1 ⟨rfl, hb1⟩
  rw [HC1.out]
  (obtain ⟨hcn, hfn⟩ := bcell hb1; have hz1 := hb1.size; (try simp at hz1); have Ncw0_0 := hcn (w.heap.size) (0) (by first | omega | (simp; done) | (simp; omega)); have Nfw0_0 := hfn (w.heap.size) (0) (by first | omega | (simp; done) | (simp; omega)); have Nhy0 : w.heap.size < w1.heap.size := (by omega); have Ncw0_1 := hcn (w.heap.size) (1) (by first | omega | (simp; done) | (simp; omega)); have Nfw0_1 := hfn (w.heap.size) (1) (by first | omega | (simp; done) | (simp; omega)); have Ncw1_0 := hcn (w.heap.size + 1) (0) (by first | omega | (simp; done) | (simp; omega)); have Nfw1_0 := hfn (w.heap.size + 1) (0) (by first | omega | (simp; done) | (simp; omega)); have Nhy1 : w.heap.size + 1 < w1.heap.size := (by omega); have Ncw1_1 := hcn (w.heap.size + 1) (1) (by first | omega | (simp; done) | (simp; omega)); have Nfw1_1 := hfn (w.heap.size + 1) (1) (by first | omega | (simp; done) | (simp; omega)); have Ncw1_2 := hcn (w.heap.size + 1) (2) (by first | omega | (simp; done) | (simp; omega)); have Nfw1_2 := hfn (w.heap.size + 1) (2) (by first | omega | (simp; done) | (simp; omega)); have Ncw2_0 := hcn (w.heap.size + 2) (0) (by first | omega | (simp; done) | (simp; omega)); have Nfw2_0 := hfn (w.heap.size + 2) (0) (by first | omega | (simp; done) | (simp; omega)); have Nhy2 : w.heap.size + 2 < w1.heap.size := (by omega); have Ncw2_1 := hcn (w.heap.size + 2) (1) (by first | omega | (simp; done) | (simp; omega)); have Nfw2_1 := hfn (w.heap.size + 2) (1) (by first | omega | (simp; done) | (simp; omega)); have Ncw3_0 := hcn (w.heap.size + 3) (0) (by first | omega | (simp; done) | (simp; omega)); have Nfw3_0 := hfn (w.heap.size + 3) (0) (by first | omega | (simp; done) | (simp; omega)); have Nhy3 : w.heap.size + 3 < w1.heap.size := (by omega); have Ncw3_1 := hcn (w.heap.size + 3) (1) (by first | omega | (simp; done) | (simp; omega)); have Nfw3_1 := hfn (w.heap.size + 3) (1) (by first | omega | (simp; done) | (simp; omega)); have Ncw3_2 := hcn (w.heap.size + 3) (2) (by first | omega | (simp; done) | (simp; omega)); have Nfw3_2 := hfn (w.heap.size + 3) (2) (by first | omega | (simp; done) | (simp; omega)); simp [go_sem] at Ncw0_0 Nfw0_0 Ncw0_1 Nfw0_1 Ncw1_0 Nfw1_0 Ncw1_1 Nfw1_1 Ncw1_2 Nfw1_2 Ncw2_0 Nfw2_0 Ncw2_1 Nfw2_1 Ncw3_0 Nfw3_0 Ncw3_1 Nfw3_1 Ncw3_2 Nfw3_2; clear hcn hfn; have cw0_0 := Ncw0_0; have fw0_0 := Nfw0_0; have cw0_1 := Ncw0_1; have fw0_1 := Nfw0_1; have cw1_0 := Ncw1_0; have fw1_0 := Nfw1_0; have cw1_1 := Ncw1_1; have fw1_1 := Nfw1_1; have cw1_2 := Ncw1_2; have fw1_2 := Nfw1_2; have cw2_0 := Ncw2_0; have fw2_0 := Nfw2_0; have cw2_1 := Ncw2_1; have fw2_1 := Nfw2_1; have cw3_0 := Ncw3_0; have fw3_0 := Nfw3_0; have cw3_1 := Ncw3_1; have fw3_1 := Nfw3_1; have cw3_2 := Ncw3_2; have fw3_2 := Nfw3_2; have hy0 := Nhy0; have hy1 := Nhy1; have hy2 := Nhy2; have hy3 := Nhy3; clear Ncw0_0 Nfw0_0 Ncw0_1 Nfw0_1 Ncw1_0 Nfw1_0 Ncw1_1 Nfw1_1 Ncw1_2 Nfw1_2 Ncw2_0 Nfw2_0 Ncw2_1 Nfw2_1 Ncw3_0 Nfw3_0 Ncw3_1 Nfw3_1 Ncw3_2 Nfw3_2 Nhy0 Nhy1 Nhy2 Nhy3)
  by_cases h0 : hrC N ll lh ln x = 0
  · have b0 : (hrC N ll lh ln x != 0) = false := by simp [h0]
    have HH := Lib.hid (hrC_of h0)
    have HBK := Lib.hid (bufC_of (hrC_of h0).1)
    have H0 := Lib.hid h0
    clear h0
    go_wp2_with fail
    refine (impl_stepHour _ _ _ _ _ _ _ _ _ _ _ _ _ _ _ N ll lh ln x _ (HN.out.below (by (repeat' (first | (with_reducible exact Below.refl _ _) | (with_reducible assumption) | (with_reducible refine Below.alloc ?_ ?_ _) | (with_reducible refine Below.drew ?_) | (with_reducible refine Below.drewN' ?_ _) | (with_reducible refine Below.setCell ?_ ?_ _) | (refine Below.via ?_ (by with_reducible assumption) ?_) | (with_reducible refine Below.via ?_ (Wd.h _) ?_) | go_size)))) rfl rfl HBK.out.1 (HR.out.below (by (repeat' (first | (with_reducible exact Below.refl _ _) | (with_reducible assumption) | (with_reducible refine Below.alloc ?_ ?_ _) | (with_reducible refine Below.drew ?_) | (with_reducible refine Below.drewN' ?_ _) | (with_reducible refine Below.setCell ?_ ?_ _) | (refine Below.via ?_ (by with_reducible assumption) ?_) | (with_reducible refine Below.via ?_ (Wd.h _) ?_) | go_size)))) HBK.out.2 rfl rfl rfl (HA.out.below (by (repeat' (first | (with_reducible exact Below.refl _ _) | (with_reducible assumption) | (with_reducible refine Below.alloc ?_ ?_ _) | (with_reducible refine Below.drew ?_) | (with_reducible refine Below.drewN' ?_ _) | (with_reducible refine Below.setCell ?_ ?_ _) | (refine Below.via ?_ (by with_reducible assumption) ?_) | (with_reducible refine Below.via ?_ (Wd.h _) ?_) | go_size)))) HH.out.2).mono ?_
    rintro e w3 ⟨A4, A5, A6, c4, c5, c6, rfl, hW, hb3⟩
    obtain ⟨b', ok, hs⟩ : ∃ b' ok, stR N ll lh ln x.fl x.su = (b', ok) := ⟨_, _, rfl⟩
    rw [hs] at hW ⊢
    dsimp only at hW
    have HW := Lib.hid hW
    have HS := Lib.hid hs
    clear hW hs
    (obtain ⟨hcn, hfn⟩ := bcell hb3; have hz3 := hb3.size; (try simp at hz3); have Ncw0_0 := hcn (w.heap.size) (0) (by first | omega | (simp; done) | (simp; omega)); have Nfw0_0 := hfn (w.heap.size) (0) (by first | omega | (simp; done) | (simp; omega)); have Nhy0 : w.heap.size < w3.heap.size := (by omega); have Ncw0_1 := hcn (w.heap.size) (1) (by first | omega | (simp; done) | (simp; omega)); have Nfw0_1 := hfn (w.heap.size) (1) (by first | omega | (simp; done) | (simp; omega)); have Ncw1_0 := hcn (w.heap.size + 1) (0) (by first | omega | (simp; done) | (simp; omega)); have Nfw1_0 := hfn (w.heap.size + 1) (0) (by first | omega | (simp; done) | (simp; omega)); have Nhy1 : w.heap.size + 1 < w3.heap.size := (by omega); have Ncw1_1 := hcn (w.heap.size + 1) (1) (by first | omega | (simp; done) | (simp; omega)); have Nfw1_1 := hfn (w.heap.size + 1) (1) (by first | omega | (simp; done) | (simp; omega)); have Ncw1_2 := hcn (w.heap.size + 1) (2) (by first | omega | (simp; done) | (simp; omega)); have Nfw1_2 := hfn (w.heap.size + 1) (2) (by first | omega | (simp; done) | (simp; omega)); have Ncw2_0 := hcn (w.heap.size + 2) (0) (by first | omega | (simp; done) | (simp; omega)); have Nfw2_0 := hfn (w.heap.size + 2) (0) (by first | omega | (simp; done) | (simp; omega)); have Nhy2 : w.heap.size + 2 < w3.heap.size := (by omega); have Ncw2_1 := hcn (w.heap.size + 2) (1) (by first | omega | (simp; done) | (simp; omega)); have Nfw2_1 := hfn (w.heap.size + 2) (1) (by first | omega | (simp; done) | (simp; omega)); have Ncw3_0 := hcn (w.heap.size + 3) (0) (by first | omega | (simp; done) | (simp; omega)); have Nfw3_0 := hfn (w.heap.size + 3) (0) (by first | omega | (simp; done) | (simp; omega)); have Nhy3 : w.heap.size + 3 < w3.heap.size := (by omega); have Ncw3_1 := hcn (w.heap.size + 3) (1) (by first | omega | (simp; done) | (simp; omega)); have Nfw3_1 := hfn (w.heap.size + 3) (1) (by first | omega | (simp; done) | (simp; omega)); have Ncw3_2 := hcn (w.heap.size + 3) (2) (by first | omega | (simp; done) | (simp; omega)); have Nfw3_2 := hfn (w.heap.size + 3) (2) (by first | omega | (simp; done) | (simp; omega)); simp [go_sem, cw0_0, fw0_0, cw0_1, fw0_1, cw1_0, fw1_0, cw1_1, fw1_1, cw1_2, fw1_2, cw2_0, fw2_0, cw2_1, fw2_1, cw3_0, fw3_0, cw3_1, fw3_1, cw3_2, fw3_2, hy0, hy1, hy2, hy3] at Ncw0_0 Nfw0_0 Ncw0_1 Nfw0_1 Ncw1_0 Nfw1_0 Ncw1_1 Nfw1_1 Ncw1_2 Nfw1_2 Ncw2_0 Nfw2_0 Ncw2_1 Nfw2_1 Ncw3_0 Nfw3_0 Ncw3_1 Nfw3_1 Ncw3_2 Nfw3_2; clear cw0_0 fw0_0 cw0_1 fw0_1 cw1_0 fw1_0 cw1_1 fw1_1 cw1_2 fw1_2 cw2_0 fw2_0 cw2_1 fw2_1 cw3_0 fw3_0 cw3_1 fw3_1 cw3_2 fw3_2 hy0 hy1 hy2 hy3; clear hcn hfn; have cw0_0 := Ncw0_0; have fw0_0 := Nfw0_0; have cw0_1 := Ncw0_1; have fw0_1 := Nfw0_1; have cw1_0 := Ncw1_0; have fw1_0 := Nfw1_0; have cw1_1 := Ncw1_1; have fw1_1 := Nfw1_1; have cw1_2 := Ncw1_2; have fw1_2 := Nfw1_2; have cw2_0 := Ncw2_0; have fw2_0 := Nfw2_0; have cw2_1 := Ncw2_1; have fw2_1 := Nfw2_1; have cw3_0 := Ncw3_0; have fw3_0 := Nfw3_0; have cw3_1 := Ncw3_1; have fw3_1 := Nfw3_1; have cw3_2 := Ncw3_2; have fw3_2 := Nfw3_2; have hy0 := Nhy0; have hy1 := Nhy1; have hy2 := Nhy2; have hy3 := Nhy3; clear Ncw0_0 Nfw0_0 Ncw0_1 Nfw0_1 Ncw1_0 Nfw1_0 Ncw1_1 Nfw1_1 Ncw1_2 Nfw1_2 Ncw2_0 Nfw2_0 Ncw2_1 Nfw2_1 Ncw3_0 Nfw3_0 Ncw3_1 Nfw3_1 Ncw3_2 Nfw3_2 Nhy0 Nhy1 Nhy2 Nhy3)
    cases ok
    · have HRR := Lib.hid (show shR N ll lh ln x = (⟨[], [], []⟩, 7) by simp [shR, H0.out, HS.out])
      go_wp2
      refine bodyPost_ret (by simp [results, Try.results10, go_sem, hy3, fw3_0, fw3_1, fw3_2, cw3_0, cw3_1, cw3_2]; try rfl) rfl ?_
      rw [HRR.out]
      exact ⟨none, none, none, 0, 0, 0, rfl, BufW.nil _ _, by (repeat' (first | (with_reducible exact Below.refl _ _) | (with_reducible assumption) | (with_reducible refine Below.alloc ?_ ?_ _) | (with_reducible refine Below.drew ?_) | (with_reducible refine Below.drewN' ?_ _) | (with_reducible refine Below.setCell ?_ ?_ _) | (refine Below.via ?_ (by with_reducible assumption) ?_) | (with_reducible refine Below.via ?_ (Wd.h _) ?_) | go_size))⟩
    · have HRR := Lib.hid (show shR N ll lh ln x = (b', 0) by simp [shR, H0.out, HS.out])
      have o1 : Off (w.heap.size + 3) A4 A5 A6 := HW.out.off (by omega)
      have o2 : Off w3.heap.size A4 A5 A6 := HW.out.fresh (Nat.le_refl _)
      have hz13 : w.heap.size ≤ w1.heap.size := by omega
      go_wp2
      refine bodyPost_ret (by simp [results, Try.results10, go_sem, hy3, fw3_0, fw3_1, fw3_2, cw3_0, cw3_1, cw3_2]; try rfl) rfl ?_
      rw [HRR.out]
      have hW3 : BufW w1.heap.size (((w3.setCell ⟨w.heap.size + 3, 0, none⟩ (.slice A4 b'.lo.length c4)).setCell ⟨w.heap.size + 3, 1, none⟩ (.slice A5 b'.hi.length c5)).setCell ⟨w.heap.size + 3, 2, none⟩ (.slice A6 b'.nw.length c6)) A4 A5 A6 b'.lo b'.hi b'.nw := ((HW.out.seto o1 _).seto o1 _).seto o1 _
      exact ⟨A4, A5, A6, c4, c5, c6, rfl, (hW3.below (by (repeat' (first | (with_reducible exact Below.refl _ _) | (with_reducible assumption) | (with_reducible refine Below.alloc ?_ ?_ _) | (with_reducible refine Below.drew ?_) | (with_reducible refine Below.drewN' ?_ _) | (with_reducible refine Below.setCell ?_ ?_ _) | (refine Below.via ?_ (by with_reducible assumption) ?_) | (with_reducible refine Below.via ?_ (Wd.h _) ?_) | go_size)))).lower hz13, by (repeat' (first | (with_reducible exact Below.refl _ _) | (with_reducible assumption) | (with_reducible refine Below.alloc ?_ ?_ _) | (with_reducible refine Below.drew ?_) | (with_reducible refine Below.drewN' ?_ _) | (with_reducible refine Below.setCell ?_ ?_ _) | (refine Below.via ?_ (by with_reducible assumption) ?_) | (with_reducible refine Below.via ?_ (Wd.h _) ?_) | go_size))⟩
  · have b0 : (hrC N ll lh ln x != 0) = true := by simp [h0]
    have HRR := Lib.hid (show shR N ll lh ln x = (⟨[], [], []⟩, hrC N ll lh ln x) by simp [shR, h0])
    clear h0
    go_wp2
    refine bodyPost_ret (by simp [results, Try.results10, go_sem, hy3, fw3_0, fw3_1, fw3_2, cw3_0, cw3_1, cw3_2]; try rfl) rfl ?_
    rw [HRR.out]
    exact ⟨none, none, none, 0, 0, 0, rfl, BufW.nil _ _, by (repeat' (first | (with_reducible exact Below.refl _ _) | (with_reducible assumption) | (with_reducible refine Below.alloc ?_ ?_ _) | (with_reducible refine Below.drew ?_) | (with_reducible refine Below.drewN' ?_ _) | (with_reducible refine Below.setCell ?_ ?_ _) | (refine Below.via ?_ (by with_reducible assumption) ?_) | (with_reducible refine Below.via ?_ (Wd.h _) ?_) | go_size))⟩
noncomputable def shQ (N : Net) (ll lh ln la lb : List Int) : Bfs × Int := shR N ll lh ln ⟨none, none, 0, 0, la, lb⟩
/-- its lists are short -/
theorem shQ_len (N : Net) (ll lh ln la lb : List Int) : (shQ N ll lh ln la lb).1.lo.length ≤ 24 ∧ (shQ N ll lh ln la lb).1.hi.length ≤ 24 ∧ (shQ N ll lh ln la lb).1.nw.length ≤ 24 := by
  unfold shQ shR
  split
  · rename_i h
    split
    · rename_i h2
      have hok := stR_ok h2
      have h24 := (bufC_of (hrC_of h).1).1.n2
      have h1 := hok.l1
      have h2 := hok.l2
      have h3 := hok.l3
      dsimp only at h1 h2 h3 h24 ⊢
      omega
    · simp
  · simp
theorem impl_StepHourL (A B Al Ah An Fa Fb : Option Addr) (n c m d nl nh nn cl ch cn ca cb : Nat) (N : Net) (ll lh ln la lb : List Int) (w : World) (hN : NetAt w A B N) (hn : n = N.nodes.length) (hm : m = N.pipes.length) (hc : n ≤ c) (h : BufAt w Al Ah An ll lh ln) (e1 : nl = ll.length) (e2 : nh = lh.length) (e3 : nn = ln.length) (hat : HouAt w Fa Fb la lb) :
    Calls Try.prog 10 #[netV A B n c m d, bufV Al Ah An nl nh nn cl ch cn, .agg #[.slice Fa la.length ca, .slice Fb lb.length cb]] w (MadeBI w (shQ N ll lh ln la lb).1 (shQ N ll lh ln la lb).2) :=
  impl_StepHour A B Al Ah An n c m d nl nh nn cl ch cn N ll lh ln ⟨Fa, Fb, ca, cb, la, lb⟩ w hN hn hm hc h e1 e2 e3 hat.hr
end Go.Proofs.Ytijhadafmhbceaa
namespace Go.Proofs.Ytijhadafmhbceaa
set_option linter.unusedVariables false
set_option linter.unusedSimpArgs false
open Go.RowKit
theorem rhGo_ge {N : Net} : ∀ {l : List (List Int × List Int)} {k : Nat} {b : Bfs}, k ≤ (rhGo N l k b).2
  | [], k, b => Nat.le_refl _
  | x :: l, k, b => by
    rw [rhGo]
    split
    · exact Nat.le_refl _
    · exact Nat.le_trans (Nat.le_succ k) rhGo_ge
/-- the buffers y behind i hours of l -/
structure RlI (N : Net) (l : List (List Int × List Int)) (R : Bfs) (rk i : Nat) (y : Bfs) : Prop where
  le : i ≤ rk
  go : rhGo N (l.drop i) i y = (R, rk)
  ok : BufOk N.nodes.length y.lo y.hi y.nw
theorem rl_start {N : Net} {ll lh ln : List Int} {l : List (List Int × List Int)} {R : Bfs} {rk : Int} (h : rhR N ll lh ln l = (R, rk, 0)) : ∃ m : Nat, rk = m ∧ RlI N l R m 0 ⟨ll, lh, ln⟩ ∧ N.Ok ∧ qsB N.pipes.length N.nodes.length l = true ∧ l.length ≤ 48 ∧ m ≤ l.length := by
  by_cases hc : rhC N ll lh ln l = 0
  · rw [rhR_zero hc] at h
    injection h with e1 e2
    injection e2 with e2 e3
    have hb := bufC_of (rhC_of hc).1
    have hle : ∀ (l : List (List Int × List Int)) (k : Nat) (b : Bfs), (rhGo N l k b).2 ≤ k + l.length := by
      intro l
      induction l with
      | nil => intro k b; simp [rhGo]
      | cons x l ih =>
        intro k b
        rw [rhGo]
        split
        · simp
        · have := ih (k + 1) (stR N b.lo b.hi b.nw x.1 x.2).1
          simp only [List.length_cons]; omega
    refine ⟨_, e2.symm, ⟨Nat.zero_le _, by rw [List.drop_zero, ← e1], hb.2⟩, hb.1, (rhC_of hc).2.2, (rhC_of hc).2.1, by have := hle l 0 ⟨ll, lh, ln⟩; omega⟩
  · rw [rhR_code rfl hc] at h
    injection h with e1 e2
    injection e2 with e2 e3
    exact absurd e3 hc
theorem rl_hrC {N : Net} {l : List (List Int × List Int)} {x : List Int × List Int} {y : Bfs} {i : Nat} (hO : N.Ok) (hq : qsB N.pipes.length N.nodes.length l = true) (hx : l[i]? = some x) (hy : BufOk N.nodes.length y.lo y.hi y.nw) : hrC N y.lo y.hi y.nw ⟨none, none, 0, 0, x.1, x.2⟩ = 0 := by
  have hb : bufC N y.lo y.hi y.nw = 0 := by simp [bufC, netB_t hO, bufB_t hy]
  have hqx : qB N.pipes.length N.nodes.length x = true := List.all_eq_true.1 hq x (List.mem_of_getElem? hx)
  unfold hrC
  rw [if_neg (by simp [hb]), if_neg]
  show ¬ hrB N.pipes.length N.nodes.length ⟨none, none, 0, 0, x.1, x.2⟩ = false
  rw [show hrB N.pipes.length N.nodes.length ⟨none, none, 0, 0, x.1, x.2⟩ = qB N.pipes.length N.nodes.length x from rfl, hqx]; simp
theorem rl_step {N : Net} {l : List (List Int × List Int)} {R y : Bfs} {rk i : Nat} {x : List Int × List Int} (h : RlI N l R rk i y) (hO : N.Ok) (hq : qsB N.pipes.length N.nodes.length l = true) (hi : i < rk) (hx : l[i]? = some x) :
    ∃ z, shQ N y.lo y.hi y.nw x.1 x.2 = (z, 0) ∧ RlI N l R rk (i + 1) z := by
  have hg := h.go
  cases hs : (stR N y.lo y.hi y.nw x.1 x.2).2
  · rw [rhGo_no hx hs] at hg
    injection hg with e1 e2
    omega
  · rw [rhGo_yes hx hs] at hg
    refine ⟨_, ?_, by omega, hg, stR_ok hs⟩
    unfold shQ shR
    rw [if_pos (rl_hrC hO hq hx h.ok), if_pos hs]
theorem rl_end {N : Net} {l : List (List Int × List Int)} {R y : Bfs} {rk : Nat} (h : RlI N l R rk rk y) (hO : N.Ok) (hq : qsB N.pipes.length N.nodes.length l = true) :
    y = R ∧ ∀ x, l[rk]? = some x → ∃ z, shQ N y.lo y.hi y.nw x.1 x.2 = (z, 7) := by
  have hg := h.go
  by_cases hlt : rk < l.length
  · obtain ⟨x, hx⟩ := get_some hlt
    cases hs : (stR N y.lo y.hi y.nw x.1 x.2).2
    · rw [rhGo_no hx hs] at hg
      injection hg with e1 e2
      refine ⟨e1, fun x' hx' => ?_⟩
      rw [hx] at hx'
      injection hx' with e
      subst e
      refine ⟨⟨[], [], []⟩, ?_⟩
      unfold shQ shR
      rw [if_pos (rl_hrC hO hq hx h.ok), if_neg (by rw [hs]; simp)]
    · rw [rhGo_yes hx hs] at hg
      have := rhGo_ge (N := N) (l := l.drop (rk + 1)) (k := rk + 1) (b := (stR N y.lo y.hi y.nw x.1 x.2).1)
      rw [hg] at this
      dsimp only at this
      omega
  · rw [rhGo_end hlt] at hg
    injection hg with e1 e2
    refine ⟨e1, fun x hx => absurd (List.getElem?_eq_some_iff.1 hx).1 hlt⟩
end Go.Proofs.Ytijhadafmhbceaa
namespace Go.Proofs.Ytijhadafmhbceaa
set_option linter.unusedVariables false
set_option linter.unusedSimpArgs false
open Go.RowKit
set_option maxRecDepth 100000 in
set_option maxHeartbeats 1000000 in
theorem laws_likeInts (A B : Option Addr) (c d n m : Nat) (l : List Int) (w : World) (h : Rd w A (l.map iV)) (h' : Rd w B (l.map iV)) (hn : n = l.length) (hm : m = l.length) (hl : l.length ≤ 1048576) :
    Calls Try.prog 9 #[.slice A n c, .slice B m d] w fun e w' => e = .returned (.bool true) ∧ Below w.heap.size w w' := by
  subst hn hm
  have H := Lib.hid h
  have H' := Lib.hid h'
  clear h h'
  go_enter Try.func9, Try.ntmps9
  go_wp2
  go_loopw [5] (fun v wr => ∃ k : Nat, k ≤ l.length ∧ v = .int .i64 k ∧ Below w.heap.size w wr) (fun v _ => l.length - (intOf v).toNat)
  case atStart => exact ⟨0, by omega, rfl, Below.refl _ _⟩
  case round =>
    obtain ⟨k, hk, rfl, hbw⟩ := hrel
    have hbH := Lib.hid hbw
    by_cases hlt : k < l.length
    · obtain ⟨n, hn⟩ := get_some hlt
      obtain ⟨b, off, rfl, hb, hat⟩ := H.out.opened (k := k) (by simpa using hlt)
      obtain ⟨b', off', rfl, hb', hat'⟩ := H'.out.opened (k := k) (by simpa using hlt)
      have t0 := ints_at (hat.below hbw hb) hn
      have t1 := ints_at (hat'.below hbw hb') hn
      clear hn hat hat' hbw
      go_wp2
      go_quiet (fail)
      go_wp2
      go_roundw
      case rel => exact ⟨k + 1, by omega, by go_num, Below.drewN' hbH.out _⟩
      case measure => simp [intOf]; omega
    · clear hbw
      go_wp2
      go_ret
      exact ⟨rfl, hbH.out⟩
end Go.Proofs.Ytijhadafmhbceaa

/- The law FnNominatedSupplies: plain. -/
import Derived.Test.YtlbidcblpmdgaaaSp
import Derived.Test.YtlbidcblpmdgaaaNl
import Derived.RangeFuncNested
import Derived.RangeFuncBound
import Derived.RangeFuncCalls
import Derived.RangeFuncLeaves
import Derived.Shelf.Abstract
import Derived.WalkKit
import Derived.OwnWalkIn
import Derived.TacticsInMore
import Derived.LoopNIn
import Derived.LoopIn
namespace Go.Proofs.Ytlbidcblpmdgaaa
set_option linter.unusedVariables false
set_option linter.unusedSimpArgs false
open Go.RowKit
theorem MadeL.arr {w w' : World} {g n c : Nat} {l : List Int} (hl : l.length = n) (hnc : n ≤ c) (h : Arr w' g n (l.map iV)) (hg : w.heap.size ≤ g) (hb : Below w.heap.size w w') : MadeL w 1 n (l.map iV) (.returned (.slice (some ⟨g, 0, none⟩) n c)) w' := by
  subst hl
  exact ⟨_, c, rfl, hnc, by simpa using Wr.of_arr hg h, hb⟩
theorem MadeR.ofWr {w w' : World} {A : Option Addr} {n c : Nat} {l : List Int} {p : List Int × Int} (hp : p = (l, 0)) (hl : l.length = n) (hnc : n ≤ c) (h : Wr w.heap.size w' A (n * 1) (l.map iV)) (hb : Below w.heap.size w w') : MadeR w 1 p.1.length (p.1.map iV) p.2 (.returned (.tuple #[.slice A n c, .int .i64 0])) w' := by
  subst hp; subst hl
  exact ⟨_, c, rfl, hnc, h, hb⟩
end Go.Proofs.Ytlbidcblpmdgaaa
namespace Go.Proofs.Ytlbidcblpmdgaaa
set_option linter.unusedVariables false
set_option linter.unusedSimpArgs false
open Go.RowKit
theorem noms_of {N : Net} {lb : List Ctr} {l : List Nom} (h : nomsC N lb l = 0) : bookC N lb = 0 ∧ NomsOk lb l := by
  unfold nomsC at h
  by_cases h1 : bookC N lb = 0
  · cases h2 : nomsB lb l
    · simp [h1, h2] at h
    · exact ⟨h1, by simpa [nomsB] using h2⟩
  · simp [h1] at h
theorem nomB_of {lb : List Ctr} {x : Nom} (hk : CtrsOk lb) (h : nomB lb x = true) : 0 ≤ x.con ∧ x.con < lb.length ∧ 0 ≤ x.am ∧ x.am ≤ 30000 ∧ -48 ≤ x.sent ∧ x.sent ≤ x.hr - 2 ∧ 0 ≤ x.hr ∧ x.hr ≤ 47 := by
  cases hin : inB x.con 0 ((lb.length : Int) - 1)
  · rw [nomB_out hin] at h; cases h
  · obtain ⟨i1, i2⟩ := inB_iff.1 hin
    obtain ⟨c, hc⟩ := get_some (l := lb) (k := x.con.toNat) (by omega)
    obtain ⟨con, hr, sent, am⟩ := x
    dsimp only at i1 i2 hc ⊢
    rw [nomB_in (k := con.toNat) (by omega) (by omega) hc] at h
    simp only [Bool.and_eq_true, inB_iff] at h
    obtain ⟨n, hn⟩ := hk
    have := ctr_of (hn c (List.mem_of_getElem? hc))
    omega
theorem nom_mem {lb : List Ctr} {l : List Nom} (hk : CtrsOk lb) (h : NomsOk lb l) {x : Nom} (hx : x ∈ l) : 0 ≤ x.con ∧ x.con < lb.length ∧ 0 ≤ x.am ∧ x.am ≤ 30000 := by
  obtain ⟨i, hi⟩ := List.getElem?_of_mem hx
  have := nomB_of hk (h.2.1 i x hi)
  omega
set_option maxRecDepth 100000 in
set_option maxHeartbeats 1000000 in
theorem spec_l21Code (A B C D : Option Addr) (n c m d e f : Nat) (N : Net) (lb : List Ctr) (ln : List Nom) (w : World) (hN : NetAt w A B N) (hn : n = N.nodes.length) (hm : m = N.pipes.length) (h : Rd w C (lb.flatMap Ctr.cells)) (hl : lb.length ≤ 1048576) (h' : Rd w D (ln.flatMap Nom.cells)) (hl' : ln.length ≤ 1048576) :
    Calls Try.prog 22 #[netV A B n c m d, .slice C lb.length e, .slice D ln.length f] w fun e w' => e = .returned (.int .i64 (nomsC N lb ln)) ∧ Below w.heap.size w w' := by
  subst hn hm
  have HN := Lib.hid hN
  have HB := Lib.hid h
  have HM := Lib.hid h'
  have hln := hN.ln
  clear hN h h'
  by_cases h0 : bookC N lb = 0
  · have b1 : (bookC N lb == 0) = true := by simp [h0]
    have HKK := Lib.hid (ctrsOk_of h0)
    have H0 := Lib.hid h0
    clear h0
    cases hb : nomsB lb ln
    · (go_enter Try.func22, Try.ntmps22; go_wp2_with (first | (go_at_call 37; ((with_reducible refine (spec_l20Code _ _ _ _ _ _ _ _ N lb _ (by exact HN.out.below (by (repeat' (first | (with_reducible exact Below.refl _ _) | (with_reducible assumption) | (with_reducible refine Below.alloc ?_ ?_ _) | (with_reducible refine Below.drew ?_) | (with_reducible refine Below.drewN' ?_ _) | (with_reducible refine Below.setCell ?_ ?_ _) | (refine Below.via ?_ (by with_reducible assumption) ?_) | (with_reducible refine Below.via ?_ (Wd.h _) ?_) | go_size)))) rfl rfl (by exact HB.out.below (by (repeat' (first | (with_reducible exact Below.refl _ _) | (with_reducible assumption) | (with_reducible refine Below.alloc ?_ ?_ _) | (with_reducible refine Below.drew ?_) | (with_reducible refine Below.drewN' ?_ _) | (with_reducible refine Below.setCell ?_ ?_ _) | (refine Below.via ?_ (by with_reducible assumption) ?_) | (with_reducible refine Below.via ?_ (Wd.h _) ?_) | go_size)))) (by omega)).mono ?_)); rintro e wn ⟨rfl, hbn⟩; (obtain ⟨hcn, hfn⟩ := bcell hbn; have hzn := hbn.size; (try simp at hzn); have Ncw0_0 := hcn (w.heap.size) (0) (by first | omega | (simp; done) | (simp; omega)); have Nfw0_0 := hfn (w.heap.size) (0) (by first | omega | (simp; done) | (simp; omega)); have Nhy0 : w.heap.size < wn.heap.size := (by omega); have Ncw0_1 := hcn (w.heap.size) (1) (by first | omega | (simp; done) | (simp; omega)); have Nfw0_1 := hfn (w.heap.size) (1) (by first | omega | (simp; done) | (simp; omega)); (first | (simp [go_sem, cw0_0, fw0_0, cw0_1, fw0_1, hy0] at Ncw0_0 Nfw0_0 Ncw0_1 Nfw0_1; clear cw0_0 fw0_0 cw0_1 fw0_1) | (simp [go_sem] at Ncw0_0 Nfw0_0 Ncw0_1 Nfw0_1)); clear hcn hfn; have cw0_0 := Ncw0_0; have fw0_0 := Nfw0_0; have cw0_1 := Ncw0_1; have fw0_1 := Nfw0_1; have hy0 := Nhy0; clear Ncw0_0 Nfw0_0 Ncw0_1 Nfw0_1 Nhy0)) | (go_at_call 38; ((with_reducible refine (spec_l21List _ _ _ _ lb ln _ (by exact HB.out.below (by (repeat' (first | (with_reducible exact Below.refl _ _) | (with_reducible assumption) | (with_reducible refine Below.alloc ?_ ?_ _) | (with_reducible refine Below.drew ?_) | (with_reducible refine Below.drewN' ?_ _) | (with_reducible refine Below.setCell ?_ ?_ _) | (refine Below.via ?_ (by with_reducible assumption) ?_) | (with_reducible refine Below.via ?_ (Wd.h _) ?_) | go_size)))) (by omega) HKK.out (by exact HM.out.below (by (repeat' (first | (with_reducible exact Below.refl _ _) | (with_reducible assumption) | (with_reducible refine Below.alloc ?_ ?_ _) | (with_reducible refine Below.drew ?_) | (with_reducible refine Below.drewN' ?_ _) | (with_reducible refine Below.setCell ?_ ?_ _) | (refine Below.via ?_ (by with_reducible assumption) ?_) | (with_reducible refine Below.via ?_ (Wd.h _) ?_) | go_size)))) (by omega)).mono ?_)); rintro e wn ⟨rfl, hbn⟩; (obtain ⟨hcn, hfn⟩ := bcell hbn; have hzn := hbn.size; (try simp at hzn); have Ncw0_0 := hcn (w.heap.size) (0) (by first | omega | (simp; done) | (simp; omega)); have Nfw0_0 := hfn (w.heap.size) (0) (by first | omega | (simp; done) | (simp; omega)); have Nhy0 : w.heap.size < wn.heap.size := (by omega); have Ncw0_1 := hcn (w.heap.size) (1) (by first | omega | (simp; done) | (simp; omega)); have Nfw0_1 := hfn (w.heap.size) (1) (by first | omega | (simp; done) | (simp; omega)); (first | (simp [go_sem, cw0_0, fw0_0, cw0_1, fw0_1, hy0] at Ncw0_0 Nfw0_0 Ncw0_1 Nfw0_1; clear cw0_0 fw0_0 cw0_1 fw0_1) | (simp [go_sem] at Ncw0_0 Nfw0_0 Ncw0_1 Nfw0_1)); clear hcn hfn; have cw0_0 := Ncw0_0; have fw0_0 := Nfw0_0; have cw0_1 := Ncw0_1; have fw0_1 := Nfw0_1; have hy0 := Nhy0; clear Ncw0_0 Nfw0_0 Ncw0_1 Nfw0_1 Nhy0))))
      go_ret
      exact ⟨ri (by simp [nomsC, H0.out, hb]), by (repeat' (first | (with_reducible exact Below.refl _ _) | (with_reducible assumption) | (with_reducible refine Below.alloc ?_ ?_ _) | (with_reducible refine Below.drew ?_) | (with_reducible refine Below.drewN' ?_ _) | (with_reducible refine Below.setCell ?_ ?_ _) | (refine Below.via ?_ (by with_reducible assumption) ?_) | (with_reducible refine Below.via ?_ (Wd.h _) ?_) | go_size))⟩
    · (go_enter Try.func22, Try.ntmps22; go_wp2_with (first | (go_at_call 37; ((with_reducible refine (spec_l20Code _ _ _ _ _ _ _ _ N lb _ (by exact HN.out.below (by (repeat' (first | (with_reducible exact Below.refl _ _) | (with_reducible assumption) | (with_reducible refine Below.alloc ?_ ?_ _) | (with_reducible refine Below.drew ?_) | (with_reducible refine Below.drewN' ?_ _) | (with_reducible refine Below.setCell ?_ ?_ _) | (refine Below.via ?_ (by with_reducible assumption) ?_) | (with_reducible refine Below.via ?_ (Wd.h _) ?_) | go_size)))) rfl rfl (by exact HB.out.below (by (repeat' (first | (with_reducible exact Below.refl _ _) | (with_reducible assumption) | (with_reducible refine Below.alloc ?_ ?_ _) | (with_reducible refine Below.drew ?_) | (with_reducible refine Below.drewN' ?_ _) | (with_reducible refine Below.setCell ?_ ?_ _) | (refine Below.via ?_ (by with_reducible assumption) ?_) | (with_reducible refine Below.via ?_ (Wd.h _) ?_) | go_size)))) (by omega)).mono ?_)); rintro e wn ⟨rfl, hbn⟩; (obtain ⟨hcn, hfn⟩ := bcell hbn; have hzn := hbn.size; (try simp at hzn); have Ncw0_0 := hcn (w.heap.size) (0) (by first | omega | (simp; done) | (simp; omega)); have Nfw0_0 := hfn (w.heap.size) (0) (by first | omega | (simp; done) | (simp; omega)); have Nhy0 : w.heap.size < wn.heap.size := (by omega); have Ncw0_1 := hcn (w.heap.size) (1) (by first | omega | (simp; done) | (simp; omega)); have Nfw0_1 := hfn (w.heap.size) (1) (by first | omega | (simp; done) | (simp; omega)); (first | (simp [go_sem, cw0_0, fw0_0, cw0_1, fw0_1, hy0] at Ncw0_0 Nfw0_0 Ncw0_1 Nfw0_1; clear cw0_0 fw0_0 cw0_1 fw0_1) | (simp [go_sem] at Ncw0_0 Nfw0_0 Ncw0_1 Nfw0_1)); clear hcn hfn; have cw0_0 := Ncw0_0; have fw0_0 := Nfw0_0; have cw0_1 := Ncw0_1; have fw0_1 := Nfw0_1; have hy0 := Nhy0; clear Ncw0_0 Nfw0_0 Ncw0_1 Nfw0_1 Nhy0)) | (go_at_call 38; ((with_reducible refine (spec_l21List _ _ _ _ lb ln _ (by exact HB.out.below (by (repeat' (first | (with_reducible exact Below.refl _ _) | (with_reducible assumption) | (with_reducible refine Below.alloc ?_ ?_ _) | (with_reducible refine Below.drew ?_) | (with_reducible refine Below.drewN' ?_ _) | (with_reducible refine Below.setCell ?_ ?_ _) | (refine Below.via ?_ (by with_reducible assumption) ?_) | (with_reducible refine Below.via ?_ (Wd.h _) ?_) | go_size)))) (by omega) HKK.out (by exact HM.out.below (by (repeat' (first | (with_reducible exact Below.refl _ _) | (with_reducible assumption) | (with_reducible refine Below.alloc ?_ ?_ _) | (with_reducible refine Below.drew ?_) | (with_reducible refine Below.drewN' ?_ _) | (with_reducible refine Below.setCell ?_ ?_ _) | (refine Below.via ?_ (by with_reducible assumption) ?_) | (with_reducible refine Below.via ?_ (Wd.h _) ?_) | go_size)))) (by omega)).mono ?_)); rintro e wn ⟨rfl, hbn⟩; (obtain ⟨hcn, hfn⟩ := bcell hbn; have hzn := hbn.size; (try simp at hzn); have Ncw0_0 := hcn (w.heap.size) (0) (by first | omega | (simp; done) | (simp; omega)); have Nfw0_0 := hfn (w.heap.size) (0) (by first | omega | (simp; done) | (simp; omega)); have Nhy0 : w.heap.size < wn.heap.size := (by omega); have Ncw0_1 := hcn (w.heap.size) (1) (by first | omega | (simp; done) | (simp; omega)); have Nfw0_1 := hfn (w.heap.size) (1) (by first | omega | (simp; done) | (simp; omega)); (first | (simp [go_sem, cw0_0, fw0_0, cw0_1, fw0_1, hy0] at Ncw0_0 Nfw0_0 Ncw0_1 Nfw0_1; clear cw0_0 fw0_0 cw0_1 fw0_1) | (simp [go_sem] at Ncw0_0 Nfw0_0 Ncw0_1 Nfw0_1)); clear hcn hfn; have cw0_0 := Ncw0_0; have fw0_0 := Nfw0_0; have cw0_1 := Ncw0_1; have fw0_1 := Nfw0_1; have hy0 := Nhy0; clear Ncw0_0 Nfw0_0 Ncw0_1 Nfw0_1 Nhy0))))
      go_ret
      exact ⟨ri (by simp [nomsC, H0.out, hb]), by (repeat' (first | (with_reducible exact Below.refl _ _) | (with_reducible assumption) | (with_reducible refine Below.alloc ?_ ?_ _) | (with_reducible refine Below.drew ?_) | (with_reducible refine Below.drewN' ?_ _) | (with_reducible refine Below.setCell ?_ ?_ _) | (refine Below.via ?_ (by with_reducible assumption) ?_) | (with_reducible refine Below.via ?_ (Wd.h _) ?_) | go_size))⟩
  · have b1 : (bookC N lb == 0) = false := by simp [h0]
    (go_enter Try.func22, Try.ntmps22; go_wp2_with (first | (go_at_call 37; ((with_reducible refine (spec_l20Code _ _ _ _ _ _ _ _ N lb _ (by exact HN.out.below (by (repeat' (first | (with_reducible exact Below.refl _ _) | (with_reducible assumption) | (with_reducible refine Below.alloc ?_ ?_ _) | (with_reducible refine Below.drew ?_) | (with_reducible refine Below.drewN' ?_ _) | (with_reducible refine Below.setCell ?_ ?_ _) | (refine Below.via ?_ (by with_reducible assumption) ?_) | (with_reducible refine Below.via ?_ (Wd.h _) ?_) | go_size)))) rfl rfl (by exact HB.out.below (by (repeat' (first | (with_reducible exact Below.refl _ _) | (with_reducible assumption) | (with_reducible refine Below.alloc ?_ ?_ _) | (with_reducible refine Below.drew ?_) | (with_reducible refine Below.drewN' ?_ _) | (with_reducible refine Below.setCell ?_ ?_ _) | (refine Below.via ?_ (by with_reducible assumption) ?_) | (with_reducible refine Below.via ?_ (Wd.h _) ?_) | go_size)))) (by omega)).mono ?_)); rintro e wn ⟨rfl, hbn⟩; (obtain ⟨hcn, hfn⟩ := bcell hbn; have hzn := hbn.size; (try simp at hzn); have Ncw0_0 := hcn (w.heap.size) (0) (by first | omega | (simp; done) | (simp; omega)); have Nfw0_0 := hfn (w.heap.size) (0) (by first | omega | (simp; done) | (simp; omega)); have Nhy0 : w.heap.size < wn.heap.size := (by omega); have Ncw0_1 := hcn (w.heap.size) (1) (by first | omega | (simp; done) | (simp; omega)); have Nfw0_1 := hfn (w.heap.size) (1) (by first | omega | (simp; done) | (simp; omega)); (first | (simp [go_sem, cw0_0, fw0_0, cw0_1, fw0_1, hy0] at Ncw0_0 Nfw0_0 Ncw0_1 Nfw0_1; clear cw0_0 fw0_0 cw0_1 fw0_1) | (simp [go_sem] at Ncw0_0 Nfw0_0 Ncw0_1 Nfw0_1)); clear hcn hfn; have cw0_0 := Ncw0_0; have fw0_0 := Nfw0_0; have cw0_1 := Ncw0_1; have fw0_1 := Nfw0_1; have hy0 := Nhy0; clear Ncw0_0 Nfw0_0 Ncw0_1 Nfw0_1 Nhy0)) | (go_at_call 38; ((with_reducible refine (spec_l21List _ _ _ _ lb ln _ (by exact HB.out.below (by (repeat' (first | (with_reducible exact Below.refl _ _) | (with_reducible assumption) | (with_reducible refine Below.alloc ?_ ?_ _) | (with_reducible refine Below.drew ?_) | (with_reducible refine Below.drewN' ?_ _) | (with_reducible refine Below.setCell ?_ ?_ _) | (refine Below.via ?_ (by with_reducible assumption) ?_) | (with_reducible refine Below.via ?_ (Wd.h _) ?_) | go_size)))) (by omega) HKK.out (by exact HM.out.below (by (repeat' (first | (with_reducible exact Below.refl _ _) | (with_reducible assumption) | (with_reducible refine Below.alloc ?_ ?_ _) | (with_reducible refine Below.drew ?_) | (with_reducible refine Below.drewN' ?_ _) | (with_reducible refine Below.setCell ?_ ?_ _) | (refine Below.via ?_ (by with_reducible assumption) ?_) | (with_reducible refine Below.via ?_ (Wd.h _) ?_) | go_size)))) (by omega)).mono ?_)); rintro e wn ⟨rfl, hbn⟩; (obtain ⟨hcn, hfn⟩ := bcell hbn; have hzn := hbn.size; (try simp at hzn); have Ncw0_0 := hcn (w.heap.size) (0) (by first | omega | (simp; done) | (simp; omega)); have Nfw0_0 := hfn (w.heap.size) (0) (by first | omega | (simp; done) | (simp; omega)); have Nhy0 : w.heap.size < wn.heap.size := (by omega); have Ncw0_1 := hcn (w.heap.size) (1) (by first | omega | (simp; done) | (simp; omega)); have Nfw0_1 := hfn (w.heap.size) (1) (by first | omega | (simp; done) | (simp; omega)); (first | (simp [go_sem, cw0_0, fw0_0, cw0_1, fw0_1, hy0] at Ncw0_0 Nfw0_0 Ncw0_1 Nfw0_1; clear cw0_0 fw0_0 cw0_1 fw0_1) | (simp [go_sem] at Ncw0_0 Nfw0_0 Ncw0_1 Nfw0_1)); clear hcn hfn; have cw0_0 := Ncw0_0; have fw0_0 := Nfw0_0; have cw0_1 := Ncw0_1; have fw0_1 := Nfw0_1; have hy0 := Nhy0; clear Ncw0_0 Nfw0_0 Ncw0_1 Nfw0_1 Nhy0))))
    go_ret
    exact ⟨ri (by simp [nomsC, h0]), by (repeat' (first | (with_reducible exact Below.refl _ _) | (with_reducible assumption) | (with_reducible refine Below.alloc ?_ ?_ _) | (with_reducible refine Below.drew ?_) | (with_reducible refine Below.drewN' ?_ _) | (with_reducible refine Below.setCell ?_ ?_ _) | (refine Below.via ?_ (by with_reducible assumption) ?_) | (with_reducible refine Below.via ?_ (Wd.h _) ?_) | go_size))⟩
def amF (hr : Int) : List Int → List Nom → List Int
  | acc, [] => acc
  | acc, x :: l => amF hr (if (x.hr == hr) = true then acc.set x.con.toNat x.am else acc) l
theorem amF_len (hr : Int) : ∀ (l : List Nom) (acc : List Int), (amF hr acc l).length = acc.length
  | [], acc => rfl
  | x :: l, acc => by
    rw [amF, amF_len hr l]
    split <;> simp
theorem amF_bd (hr : Int) : ∀ (l : List Nom) (acc : List Int), (∀ x ∈ l, 0 ≤ x.am ∧ x.am ≤ 30000) → (∀ y ∈ acc, 0 ≤ y ∧ y ≤ 30000) → ∀ y ∈ amF hr acc l, 0 ≤ y ∧ y ≤ 30000
  | [], acc, _, h => by simpa [amF] using h
  | x :: l, acc, hx, h => by
    rw [amF]
    refine amF_bd hr l _ (fun z hz => hx z (by simp [hz])) ?_
    split
    · intro y hy
      rcases List.mem_or_eq_of_mem_set hy with hy | rfl
      · exact h y hy
      · exact hx x (by simp)
    · exact h
def amL (lb : List Ctr) (ln : List Nom) (hr : Int) : List Int := amF hr (List.replicate lb.length 0) ln
theorem amL_len (lb : List Ctr) (ln : List Nom) (hr : Int) : (amL lb ln hr).length = lb.length := by rw [amL, amF_len]; simp
noncomputable def amR (N : Net) (lb : List Ctr) (ln : List Nom) (hr : Int) : List Int × Int :=
  if nomsC N lb ln ≠ 0 then ([], nomsC N lb ln) else if inB hr 0 47 = false then ([], 2) else (amL lb ln hr, 0)
theorem amR_len {N : Net} {lb : List Ctr} {ln : List Nom} {hr : Int} : (amR N lb ln hr).1.length ≤ 1048576 := by
  unfold amR; split
  · simp
  · rename_i h
    have := (book_of (noms_of (by simpa using h)).1).2.1
    split
    · simp
    · simp [amL_len]; omega
set_option maxRecDepth 100000 in
set_option maxHeartbeats 4000000 in
theorem impl_amountsIn (C D : Option Addr) (e f : Nat) (lb : List Ctr) (ln : List Nom) (hr : Int) (w : World) (hl : lb.length ≤ 1048576) (h' : Rd w D (ln.flatMap Nom.cells)) (hl' : ln.length ≤ 1048576) (hc : ∀ x ∈ ln, 0 ≤ x.con ∧ x.con < lb.length) :
    Calls Try.prog 21 #[.slice C lb.length e, .slice D ln.length f, .int .i64 hr] w (MadeL w 1 lb.length ((amL lb ln hr).map iV)) := by
  have HM := Lib.hid h'
  have HC := Lib.hid hc
  clear h' hc
  have hmk := make_i64 lb.length (by omega)
  have HA0 := Lib.hid (Arr.madeI w lb.length 2)
  go_enter Try.func21, Try.ntmps21
  go_wp2
  clear hmk
  go_loopw [15] (fun v wr => ∃ (k : Nat) (acc : List Int), k ≤ ln.length ∧ v = .int .i64 k ∧ acc.length = lb.length ∧ amF hr acc (ln.drop k) = amL lb ln hr ∧ Arr wr w.heap.size lb.length (acc.map iV) ∧ Below w.heap.size w wr) (fun v _ => ln.length - (intOf v).toNat)
  case atStart => exact ⟨0, List.replicate lb.length 0, by omega, rfl, by simp, by simp [amL], HA0.out, by (repeat' (first | (with_reducible exact Below.refl _ _) | (with_reducible assumption) | (with_reducible refine Below.alloc ?_ ?_ _) | (with_reducible refine Below.drew ?_) | (with_reducible refine Below.drewN' ?_ _) | (with_reducible refine Below.setCell ?_ ?_ _) | (refine Below.via ?_ (by with_reducible assumption) ?_) | (with_reducible refine Below.via ?_ (Wd.h _) ?_) | go_size))⟩
  case round =>
    obtain ⟨k, acc, hk, rfl, hal, hF, hA, hbw⟩ := hrel
    have hbH := Lib.hid hbw
    have HF := Lib.hid hF
    have HA := Lib.hid hA
    have HAL := Lib.hid hal
    have hyA := hA.lt
    clear hF hA hal
    by_cases hlt : k < ln.length
    · obtain ⟨x, hx⟩ := get_some hlt; obtain ⟨bx, offx, rfl, hbx, hat⟩ := HM.out.opened (k := k) (by rw [flat_len Nom.len]; omega); have hat' := hat.below hbw hbx; have hybx : bx < wr.heap.size := Nat.lt_of_lt_of_le hbx hbw.size; have hzw := hbw.size; have t0 := hat'.elem0 Nom.len hx rfl; have t1 := hat'.elem Nom.len hx 1 rfl; have t2 := hat'.elem Nom.len hx 2 rfl; have t3 := hat'.elem Nom.len hx 3 rfl; have HX := Lib.hid hx; have HD := Lib.hid (drop_cons hx); have gx : (k : Int) < _ := Int.ofNat_lt.2 hlt; clear hx hat hat'
      obtain ⟨p1, p2⟩ := HC.out x (List.mem_of_getElem? HX.out)
      clear hbw
      cases hh : (x.hr == hr)
      · have HH := Lib.hid hh
        go_wp2
        go_roundw
        case rel =>
          refine ⟨k + 1, acc, by omega, by go_num, HAL.out, ?_, HA.out.alloc _, by have h1 := hbH.out; (repeat' (first | (with_reducible exact Below.refl _ _) | (with_reducible assumption) | (with_reducible refine Below.alloc ?_ ?_ _) | (with_reducible refine Below.drew ?_) | (with_reducible refine Below.drewN' ?_ _) | (with_reducible refine Below.setCell ?_ ?_ _) | (refine Below.via ?_ (by with_reducible assumption) ?_) | (with_reducible refine Below.via ?_ (Wd.h _) ?_) | go_size))⟩
          rw [← HF.out, HD.out, amF, HH.out]; simp
        case measure => simp [intOf]; omega
      · have HH := Lib.hid hh
        obtain ⟨xcon, xhr, xsent, xam⟩ := x
        dsimp only at t0 t1 t2 t3 hh p1 p2
        obtain ⟨q, rfl⟩ : ∃ q : Nat, xcon = q := ⟨xcon.toNat, by omega⟩
        obtain ⟨y, hy⟩ := get_some (l := acc) (k := q) (by rw [HAL.out]; omega)
        have s0 := ints_cell HA.out hy
        have s1 := HA.out.free (j := q) (by omega)
        have g4 : (q : Int) < lb.length := by omega
        clear hy
        go_wp2
        go_roundw
        case rel =>
          refine ⟨k + 1, acc.set q xam, by omega, by go_num, by rw [List.length_set]; exact HAL.out, ?_, ?_, by have h1 := hbH.out; (repeat' (first | (with_reducible exact Below.refl _ _) | (with_reducible assumption) | (with_reducible refine Below.alloc ?_ ?_ _) | (with_reducible refine Below.drew ?_) | (with_reducible refine Below.drewN' ?_ _) | (with_reducible refine Below.setCell ?_ ?_ _) | (refine Below.via ?_ (by with_reducible assumption) ?_) | (with_reducible refine Below.via ?_ (Wd.h _) ?_) | go_size))⟩
          · rw [← HF.out, HD.out, amF, HH.out]; simp
          · rw [map_set_iV]; exact (HA.out.setAt (i := q) (by omega) _).alloc _
        case measure => simp [intOf]; omega
    · clear hbw
      have HE := Lib.hid (show acc = amL lb ln hr by rw [← HF.out, drop_endI hlt, amF])
      go_wp2
      go_ret
      rw [← HE.out]
      exact ⟨_, _, rfl, Nat.le_refl _, by simpa using Wr.of_arr (Nat.le_refl _) HA.out, hbH.out⟩
set_option maxRecDepth 100000 in
set_option maxHeartbeats 4000000 in
theorem spec_l21Amounts (C D : Option Addr) (e f : Nat) (lb : List Ctr) (ln : List Nom) (hr : Int) (w : World) (hl : lb.length ≤ 1048576) (h' : Rd w D (ln.flatMap Nom.cells)) (hl' : ln.length ≤ 1048576) (hc : ∀ x ∈ ln, 0 ≤ x.con ∧ x.con < lb.length) :
    Calls Try.prog 24 #[.slice C lb.length e, .slice D ln.length f, .int .i64 hr] w (MadeL w 1 lb.length ((amL lb ln hr).map iV)) := by
  have HM := Lib.hid h'
  have HC := Lib.hid hc
  clear h' hc
  have hmk := make_i64 lb.length (by omega)
  have HA0 := Lib.hid (Arr.madeI w lb.length 2)
  go_enter Try.func24, Try.ntmps24
  go_wp2
  clear hmk
  go_loopw [8] (fun v wr => ∃ (k : Nat) (acc : List Int), k ≤ ln.length ∧ v = .int .i64 k ∧ acc.length = lb.length ∧ amF hr acc (ln.drop k) = amL lb ln hr ∧ Arr wr w.heap.size lb.length (acc.map iV) ∧ Below w.heap.size w wr) (fun v _ => ln.length - (intOf v).toNat)
  case atStart => exact ⟨0, List.replicate lb.length 0, by omega, rfl, by simp, by simp [amL], HA0.out, by (repeat' (first | (with_reducible exact Below.refl _ _) | (with_reducible assumption) | (with_reducible refine Below.alloc ?_ ?_ _) | (with_reducible refine Below.drew ?_) | (with_reducible refine Below.drewN' ?_ _) | (with_reducible refine Below.setCell ?_ ?_ _) | (refine Below.via ?_ (by with_reducible assumption) ?_) | (with_reducible refine Below.via ?_ (Wd.h _) ?_) | go_size))⟩
  case round =>
    obtain ⟨k, acc, hk, rfl, hal, hF, hA, hbw⟩ := hrel
    have hbH := Lib.hid hbw
    have HF := Lib.hid hF
    have HA := Lib.hid hA
    have HAL := Lib.hid hal
    have hyA := hA.lt
    clear hF hA hal
    by_cases hlt : k < ln.length
    · obtain ⟨x, hx⟩ := get_some hlt; obtain ⟨bx, offx, rfl, hbx, hat⟩ := HM.out.opened (k := k) (by rw [flat_len Nom.len]; omega); have hat' := hat.below hbw hbx; have hybx : bx < wr.heap.size := Nat.lt_of_lt_of_le hbx hbw.size; have hzw := hbw.size; have t0 := hat'.elem0 Nom.len hx rfl; have t1 := hat'.elem Nom.len hx 1 rfl; have t2 := hat'.elem Nom.len hx 2 rfl; have t3 := hat'.elem Nom.len hx 3 rfl; have HX := Lib.hid hx; have HD := Lib.hid (drop_cons hx); have gx : (k : Int) < _ := Int.ofNat_lt.2 hlt; clear hx hat hat'
      obtain ⟨p1, p2⟩ := HC.out x (List.mem_of_getElem? HX.out)
      clear hbw
      cases hh : (x.hr == hr)
      · have HH := Lib.hid hh
        go_wp2
        go_roundw
        case rel =>
          refine ⟨k + 1, acc, by omega, by go_num, HAL.out, ?_, HA.out, hbH.out⟩
          rw [← HF.out, HD.out, amF, HH.out]; simp
        case measure => simp [intOf]; omega
      · have HH := Lib.hid hh
        obtain ⟨xcon, xhr, xsent, xam⟩ := x
        dsimp only at t0 t1 t2 t3 hh p1 p2
        obtain ⟨q, rfl⟩ : ∃ q : Nat, xcon = q := ⟨xcon.toNat, by omega⟩
        obtain ⟨y, hy⟩ := get_some (l := acc) (k := q) (by rw [HAL.out]; omega)
        have g4 : (q : Int) < lb.length := by omega
        have HY := Lib.hid hy
        clear hy
        go_wp2_with fail
        (have qk0 := Wd.cell (by first | assumption | omega | (simp; omega)) t0; have qk1 := Wd.cell (by first | assumption | omega | (simp; omega)) t3; (refine wp_region_wd_tail 12 (by kernel_rfl) (by kernel_rfl) ?_; simp only [List.take_succ_cons, List.take_zero, List.drop_succ_cons, List.drop_zero]); (repeat (go_big_quiet_step ((first | fail)))); (refine wpQuiet_nil ?_); rintro wz ⟨⟨w'', hbwz⟩, hw''⟩; obtain rfl : wz = w'' := hw''; clear qk0 qk1; have hzwz := hbwz.size; (try simp at hzwz))
        have HAz := Lib.hid (HA.out.below hbwz (by omega))
        have s0 := ints_cell HAz.out HY.out
        have s1 := HAz.out.free (j := q) (by omega)
        clear t0 t1 t2 t3
        go_wp2
        go_roundw
        case rel =>
          refine ⟨k + 1, acc.set q xam, by omega, by go_num, by rw [List.length_set]; exact HAL.out, ?_, ?_, by have h1 := hbH.out; (repeat' (first | (with_reducible exact Below.refl _ _) | (with_reducible assumption) | (with_reducible refine Below.alloc ?_ ?_ _) | (with_reducible refine Below.drew ?_) | (with_reducible refine Below.drewN' ?_ _) | (with_reducible refine Below.setCell ?_ ?_ _) | (refine Below.via ?_ (by with_reducible assumption) ?_) | (with_reducible refine Below.via ?_ (Wd.h _) ?_) | go_size))⟩
          · rw [← HF.out, HD.out, amF, HH.out]; simp
          · rw [map_set_iV]; exact HAz.out.setAt (i := q) (by omega) _
        case measure => simp [intOf]; omega
    · clear hbw
      have HE := Lib.hid (show acc = amL lb ln hr by rw [← HF.out, drop_endI hlt, amF])
      go_wp2
      go_ret
      rw [← HE.out]
      exact ⟨_, _, rfl, Nat.le_refl _, by simpa using Wr.of_arr (Nat.le_refl _) HA.out, hbH.out⟩
set_option maxRecDepth 100000 in
set_option maxHeartbeats 4000000 in
theorem impl_AmountsIn (A B C D : Option Addr) (n c m d e f : Nat) (N : Net) (lb : List Ctr) (ln : List Nom) (hr : Int) (w : World) (hN : NetAt w A B N) (hn : n = N.nodes.length) (hm : m = N.pipes.length) (hc : n ≤ c) (h : Rd w C (lb.flatMap Ctr.cells)) (hl : lb.length ≤ 1048576) (h' : Rd w D (ln.flatMap Nom.cells)) (hl' : ln.length ≤ 1048576) :
    Calls Try.prog 8 #[netV A B n c m d, .slice C lb.length e, .slice D ln.length f, .int .i64 hr] w (MadeR w 1 (amR N lb ln hr).1.length ((amR N lb ln hr).1.map iV) (amR N lb ln hr).2) := by
  subst hn hm
  have HN := Lib.hid hN
  have HB := Lib.hid h
  have HM := Lib.hid h'
  have hln := hN.ln
  clear hN h h'
  by_cases h0 : nomsC N lb ln = 0
  · have b0 : (nomsC N lb ln != 0) = false := by simp [h0]
    have HQ := Lib.hid (noms_of h0)
    have H0 := Lib.hid h0
    clear h0
    cases hs : inB hr 0 47
    · have HR := Lib.hid (show amR N lb ln hr = ([], 2) by simp [amR, H0.out, hs])
      (go_enter Try.func8, Try.ntmps8; go_wp2_with (first | (go_at_call 19; ((with_reducible refine (impl_checkNominations _ _ _ _ _ _ _ _ _ _ N lb ln _ (by exact HN.out.below (by (repeat' (first | (with_reducible exact Below.refl _ _) | (with_reducible assumption) | (with_reducible refine Below.alloc ?_ ?_ _) | (with_reducible refine Below.drew ?_) | (with_reducible refine Below.drewN' ?_ _) | (with_reducible refine Below.setCell ?_ ?_ _) | (refine Below.via ?_ (by with_reducible assumption) ?_) | (with_reducible refine Below.via ?_ (Wd.h _) ?_) | go_size)))) rfl rfl (by omega) (by exact HB.out.below (by (repeat' (first | (with_reducible exact Below.refl _ _) | (with_reducible assumption) | (with_reducible refine Below.alloc ?_ ?_ _) | (with_reducible refine Below.drew ?_) | (with_reducible refine Below.drewN' ?_ _) | (with_reducible refine Below.setCell ?_ ?_ _) | (refine Below.via ?_ (by with_reducible assumption) ?_) | (with_reducible refine Below.via ?_ (Wd.h _) ?_) | go_size)))) (by omega) (by exact HM.out.below (by (repeat' (first | (with_reducible exact Below.refl _ _) | (with_reducible assumption) | (with_reducible refine Below.alloc ?_ ?_ _) | (with_reducible refine Below.drew ?_) | (with_reducible refine Below.drewN' ?_ _) | (with_reducible refine Below.setCell ?_ ?_ _) | (refine Below.via ?_ (by with_reducible assumption) ?_) | (with_reducible refine Below.via ?_ (Wd.h _) ?_) | go_size)))) (by omega)).mono ?_)); rintro e wn ⟨rfl, hbn⟩; (obtain ⟨hcn, hfn⟩ := bcell hbn; have hzn := hbn.size; (try simp at hzn); have Ncw0_0 := hcn (w.heap.size) (0) (by first | omega | (simp; done) | (simp; omega)); have Nfw0_0 := hfn (w.heap.size) (0) (by first | omega | (simp; done) | (simp; omega)); have Nhy0 : w.heap.size < wn.heap.size := (by omega); have Ncw0_1 := hcn (w.heap.size) (1) (by first | omega | (simp; done) | (simp; omega)); have Nfw0_1 := hfn (w.heap.size) (1) (by first | omega | (simp; done) | (simp; omega)); (first | (simp [go_sem, cw0_0, fw0_0, cw0_1, fw0_1, hy0] at Ncw0_0 Nfw0_0 Ncw0_1 Nfw0_1; clear cw0_0 fw0_0 cw0_1 fw0_1) | (simp [go_sem] at Ncw0_0 Nfw0_0 Ncw0_1 Nfw0_1)); clear hcn hfn; have cw0_0 := Ncw0_0; have fw0_0 := Nfw0_0; have cw0_1 := Ncw0_1; have fw0_1 := Nfw0_1; have hy0 := Nhy0; clear Ncw0_0 Nfw0_0 Ncw0_1 Nfw0_1 Nhy0)) | (go_at_call 20; ((with_reducible refine (impl_isHour _ _).mono ?_)); rintro e wn ⟨rfl, rfl⟩)))
      go_ret2
      exact MadeR.nil HR.out rfl (by (repeat' (first | (with_reducible exact Below.refl _ _) | (with_reducible assumption) | (with_reducible refine Below.alloc ?_ ?_ _) | (with_reducible refine Below.drew ?_) | (with_reducible refine Below.drewN' ?_ _) | (with_reducible refine Below.setCell ?_ ?_ _) | (refine Below.via ?_ (by with_reducible assumption) ?_) | (with_reducible refine Below.via ?_ (Wd.h _) ?_) | go_size)))
    · have HR := Lib.hid (show amR N lb ln hr = (amL lb ln hr, 0) by simp [amR, H0.out, hs])
      (go_enter Try.func8, Try.ntmps8; go_wp2_with (first | (go_at_call 19; ((with_reducible refine (impl_checkNominations _ _ _ _ _ _ _ _ _ _ N lb ln _ (by exact HN.out.below (by (repeat' (first | (with_reducible exact Below.refl _ _) | (with_reducible assumption) | (with_reducible refine Below.alloc ?_ ?_ _) | (with_reducible refine Below.drew ?_) | (with_reducible refine Below.drewN' ?_ _) | (with_reducible refine Below.setCell ?_ ?_ _) | (refine Below.via ?_ (by with_reducible assumption) ?_) | (with_reducible refine Below.via ?_ (Wd.h _) ?_) | go_size)))) rfl rfl (by omega) (by exact HB.out.below (by (repeat' (first | (with_reducible exact Below.refl _ _) | (with_reducible assumption) | (with_reducible refine Below.alloc ?_ ?_ _) | (with_reducible refine Below.drew ?_) | (with_reducible refine Below.drewN' ?_ _) | (with_reducible refine Below.setCell ?_ ?_ _) | (refine Below.via ?_ (by with_reducible assumption) ?_) | (with_reducible refine Below.via ?_ (Wd.h _) ?_) | go_size)))) (by omega) (by exact HM.out.below (by (repeat' (first | (with_reducible exact Below.refl _ _) | (with_reducible assumption) | (with_reducible refine Below.alloc ?_ ?_ _) | (with_reducible refine Below.drew ?_) | (with_reducible refine Below.drewN' ?_ _) | (with_reducible refine Below.setCell ?_ ?_ _) | (refine Below.via ?_ (by with_reducible assumption) ?_) | (with_reducible refine Below.via ?_ (Wd.h _) ?_) | go_size)))) (by omega)).mono ?_)); rintro e wn ⟨rfl, hbn⟩; (obtain ⟨hcn, hfn⟩ := bcell hbn; have hzn := hbn.size; (try simp at hzn); have Ncw0_0 := hcn (w.heap.size) (0) (by first | omega | (simp; done) | (simp; omega)); have Nfw0_0 := hfn (w.heap.size) (0) (by first | omega | (simp; done) | (simp; omega)); have Nhy0 : w.heap.size < wn.heap.size := (by omega); have Ncw0_1 := hcn (w.heap.size) (1) (by first | omega | (simp; done) | (simp; omega)); have Nfw0_1 := hfn (w.heap.size) (1) (by first | omega | (simp; done) | (simp; omega)); (first | (simp [go_sem, cw0_0, fw0_0, cw0_1, fw0_1, hy0] at Ncw0_0 Nfw0_0 Ncw0_1 Nfw0_1; clear cw0_0 fw0_0 cw0_1 fw0_1) | (simp [go_sem] at Ncw0_0 Nfw0_0 Ncw0_1 Nfw0_1)); clear hcn hfn; have cw0_0 := Ncw0_0; have fw0_0 := Nfw0_0; have cw0_1 := Ncw0_1; have fw0_1 := Nfw0_1; have hy0 := Nhy0; clear Ncw0_0 Nfw0_0 Ncw0_1 Nfw0_1 Nhy0)) | (go_at_call 20; ((with_reducible refine (impl_isHour _ _).mono ?_)); rintro e wn ⟨rfl, rfl⟩)))
      refine (impl_amountsIn _ _ _ _ lb ln hr _ hl (HM.out.below (by (repeat' (first | (with_reducible exact Below.refl _ _) | (with_reducible assumption) | (with_reducible refine Below.alloc ?_ ?_ _) | (with_reducible refine Below.drew ?_) | (with_reducible refine Below.drewN' ?_ _) | (with_reducible refine Below.setCell ?_ ?_ _) | (refine Below.via ?_ (by with_reducible assumption) ?_) | (with_reducible refine Below.via ?_ (Wd.h _) ?_) | go_size)))) hl' (fun x hx => by have := nom_mem (ctrsOk_of HQ.out.1) HQ.out.2 hx; omega)).mono ?_
      rintro e w1 ⟨G, c1, rfl, hc1, hW1, hb1⟩
      have HW1 := Lib.hid hW1
      clear hW1
      go_wp2
      go_ret2
      exact MadeR.ofWr HR.out (amL_len _ _ _) hc1 (HW1.out.lower (by omega)) (by (repeat' (first | (with_reducible exact Below.refl _ _) | (with_reducible assumption) | (with_reducible refine Below.alloc ?_ ?_ _) | (with_reducible refine Below.drew ?_) | (with_reducible refine Below.drewN' ?_ _) | (with_reducible refine Below.setCell ?_ ?_ _) | (refine Below.via ?_ (by with_reducible assumption) ?_) | (with_reducible refine Below.via ?_ (Wd.h _) ?_) | go_size)))
  · have b0 : (nomsC N lb ln != 0) = true := by simp [h0]
    have HR := Lib.hid (show amR N lb ln hr = ([], nomsC N lb ln) by simp [amR, h0])
    (go_enter Try.func8, Try.ntmps8; go_wp2_with (first | (go_at_call 19; ((with_reducible refine (impl_checkNominations _ _ _ _ _ _ _ _ _ _ N lb ln _ (by exact HN.out.below (by (repeat' (first | (with_reducible exact Below.refl _ _) | (with_reducible assumption) | (with_reducible refine Below.alloc ?_ ?_ _) | (with_reducible refine Below.drew ?_) | (with_reducible refine Below.drewN' ?_ _) | (with_reducible refine Below.setCell ?_ ?_ _) | (refine Below.via ?_ (by with_reducible assumption) ?_) | (with_reducible refine Below.via ?_ (Wd.h _) ?_) | go_size)))) rfl rfl (by omega) (by exact HB.out.below (by (repeat' (first | (with_reducible exact Below.refl _ _) | (with_reducible assumption) | (with_reducible refine Below.alloc ?_ ?_ _) | (with_reducible refine Below.drew ?_) | (with_reducible refine Below.drewN' ?_ _) | (with_reducible refine Below.setCell ?_ ?_ _) | (refine Below.via ?_ (by with_reducible assumption) ?_) | (with_reducible refine Below.via ?_ (Wd.h _) ?_) | go_size)))) (by omega) (by exact HM.out.below (by (repeat' (first | (with_reducible exact Below.refl _ _) | (with_reducible assumption) | (with_reducible refine Below.alloc ?_ ?_ _) | (with_reducible refine Below.drew ?_) | (with_reducible refine Below.drewN' ?_ _) | (with_reducible refine Below.setCell ?_ ?_ _) | (refine Below.via ?_ (by with_reducible assumption) ?_) | (with_reducible refine Below.via ?_ (Wd.h _) ?_) | go_size)))) (by omega)).mono ?_)); rintro e wn ⟨rfl, hbn⟩; (obtain ⟨hcn, hfn⟩ := bcell hbn; have hzn := hbn.size; (try simp at hzn); have Ncw0_0 := hcn (w.heap.size) (0) (by first | omega | (simp; done) | (simp; omega)); have Nfw0_0 := hfn (w.heap.size) (0) (by first | omega | (simp; done) | (simp; omega)); have Nhy0 : w.heap.size < wn.heap.size := (by omega); have Ncw0_1 := hcn (w.heap.size) (1) (by first | omega | (simp; done) | (simp; omega)); have Nfw0_1 := hfn (w.heap.size) (1) (by first | omega | (simp; done) | (simp; omega)); (first | (simp [go_sem, cw0_0, fw0_0, cw0_1, fw0_1, hy0] at Ncw0_0 Nfw0_0 Ncw0_1 Nfw0_1; clear cw0_0 fw0_0 cw0_1 fw0_1) | (simp [go_sem] at Ncw0_0 Nfw0_0 Ncw0_1 Nfw0_1)); clear hcn hfn; have cw0_0 := Ncw0_0; have fw0_0 := Nfw0_0; have cw0_1 := Ncw0_1; have fw0_1 := Nfw0_1; have hy0 := Nhy0; clear Ncw0_0 Nfw0_0 Ncw0_1 Nfw0_1 Nhy0)) | (go_at_call 20; ((with_reducible refine (impl_isHour _ _).mono ?_)); rintro e wn ⟨rfl, rfl⟩)))
    go_ret2
    exact MadeR.nil HR.out rfl (by (repeat' (first | (with_reducible exact Below.refl _ _) | (with_reducible assumption) | (with_reducible refine Below.alloc ?_ ?_ _) | (with_reducible refine Below.drew ?_) | (with_reducible refine Below.drewN' ?_ _) | (with_reducible refine Below.setCell ?_ ?_ _) | (refine Below.via ?_ (by with_reducible assumption) ?_) | (with_reducible refine Below.via ?_ (Wd.h _) ?_) | go_size)))
set_option maxRecDepth 100000 in
set_option maxHeartbeats 4000000 in
theorem spec_AmountsIn (A B C D : Option Addr) (n c m d e f : Nat) (N : Net) (lb : List Ctr) (ln : List Nom) (hr : Int) (w : World) (hN : NetAt w A B N) (hn : n = N.nodes.length) (hm : m = N.pipes.length) (h : Rd w C (lb.flatMap Ctr.cells)) (hl : lb.length ≤ 1048576) (h' : Rd w D (ln.flatMap Nom.cells)) (hl' : ln.length ≤ 1048576) :
    Calls Try.prog 9 #[netV A B n c m d, .slice C lb.length e, .slice D ln.length f, .int .i64 hr] w (MadeR w 1 (amR N lb ln hr).1.length ((amR N lb ln hr).1.map iV) (amR N lb ln hr).2) := by
  subst hn hm
  have HN := Lib.hid hN
  have HB := Lib.hid h
  have HM := Lib.hid h'
  have hln := hN.ln
  clear hN h h'
  by_cases h0 : nomsC N lb ln = 0
  · have b0 : (nomsC N lb ln != 0) = false := by simp [h0]
    have b1 : (nomsC N lb ln == 0) = true := by simp [h0]
    have HQ := Lib.hid (noms_of h0)
    have H0 := Lib.hid h0
    clear h0
    cases hs : inB hr 0 47
    · have HR := Lib.hid (show amR N lb ln hr = ([], 2) by simp [amR, H0.out, hs])
      (go_enter Try.func9, Try.ntmps9; go_wp2_with (first | (go_at_call 22; ((with_reducible refine (spec_l21Code _ _ _ _ _ _ _ _ _ _ N lb ln _ (by exact HN.out.below (by (repeat' (first | (with_reducible exact Below.refl _ _) | (with_reducible assumption) | (with_reducible refine Below.alloc ?_ ?_ _) | (with_reducible refine Below.drew ?_) | (with_reducible refine Below.drewN' ?_ _) | (with_reducible refine Below.setCell ?_ ?_ _) | (refine Below.via ?_ (by with_reducible assumption) ?_) | (with_reducible refine Below.via ?_ (Wd.h _) ?_) | go_size)))) rfl rfl (by exact HB.out.below (by (repeat' (first | (with_reducible exact Below.refl _ _) | (with_reducible assumption) | (with_reducible refine Below.alloc ?_ ?_ _) | (with_reducible refine Below.drew ?_) | (with_reducible refine Below.drewN' ?_ _) | (with_reducible refine Below.setCell ?_ ?_ _) | (refine Below.via ?_ (by with_reducible assumption) ?_) | (with_reducible refine Below.via ?_ (Wd.h _) ?_) | go_size)))) (by omega) (by exact HM.out.below (by (repeat' (first | (with_reducible exact Below.refl _ _) | (with_reducible assumption) | (with_reducible refine Below.alloc ?_ ?_ _) | (with_reducible refine Below.drew ?_) | (with_reducible refine Below.drewN' ?_ _) | (with_reducible refine Below.setCell ?_ ?_ _) | (refine Below.via ?_ (by with_reducible assumption) ?_) | (with_reducible refine Below.via ?_ (Wd.h _) ?_) | go_size)))) (by omega)).mono ?_)); rintro e wn ⟨rfl, hbn⟩; (obtain ⟨hcn, hfn⟩ := bcell hbn; have hzn := hbn.size; (try simp at hzn); have Ncw0_0 := hcn (w.heap.size) (0) (by first | omega | (simp; done) | (simp; omega)); have Nfw0_0 := hfn (w.heap.size) (0) (by first | omega | (simp; done) | (simp; omega)); have Nhy0 : w.heap.size < wn.heap.size := (by omega); have Ncw0_1 := hcn (w.heap.size) (1) (by first | omega | (simp; done) | (simp; omega)); have Nfw0_1 := hfn (w.heap.size) (1) (by first | omega | (simp; done) | (simp; omega)); (first | (simp [go_sem, cw0_0, fw0_0, cw0_1, fw0_1, hy0] at Ncw0_0 Nfw0_0 Ncw0_1 Nfw0_1; clear cw0_0 fw0_0 cw0_1 fw0_1) | (simp [go_sem] at Ncw0_0 Nfw0_0 Ncw0_1 Nfw0_1)); clear hcn hfn; have cw0_0 := Ncw0_0; have fw0_0 := Nfw0_0; have cw0_1 := Ncw0_1; have fw0_1 := Nfw0_1; have hy0 := Nhy0; clear Ncw0_0 Nfw0_0 Ncw0_1 Nfw0_1 Nhy0)) | (go_at_call 23; ((with_reducible refine (spec_l20Hour _ _).mono ?_)); rintro e wn ⟨rfl, rfl⟩)))
      go_ret2
      exact MadeR.nil HR.out rfl (by (repeat' (first | (with_reducible exact Below.refl _ _) | (with_reducible assumption) | (with_reducible refine Below.alloc ?_ ?_ _) | (with_reducible refine Below.drew ?_) | (with_reducible refine Below.drewN' ?_ _) | (with_reducible refine Below.setCell ?_ ?_ _) | (refine Below.via ?_ (by with_reducible assumption) ?_) | (with_reducible refine Below.via ?_ (Wd.h _) ?_) | go_size)))
    · have HR := Lib.hid (show amR N lb ln hr = (amL lb ln hr, 0) by simp [amR, H0.out, hs])
      (go_enter Try.func9, Try.ntmps9; go_wp2_with (first | (go_at_call 22; ((with_reducible refine (spec_l21Code _ _ _ _ _ _ _ _ _ _ N lb ln _ (by exact HN.out.below (by (repeat' (first | (with_reducible exact Below.refl _ _) | (with_reducible assumption) | (with_reducible refine Below.alloc ?_ ?_ _) | (with_reducible refine Below.drew ?_) | (with_reducible refine Below.drewN' ?_ _) | (with_reducible refine Below.setCell ?_ ?_ _) | (refine Below.via ?_ (by with_reducible assumption) ?_) | (with_reducible refine Below.via ?_ (Wd.h _) ?_) | go_size)))) rfl rfl (by exact HB.out.below (by (repeat' (first | (with_reducible exact Below.refl _ _) | (with_reducible assumption) | (with_reducible refine Below.alloc ?_ ?_ _) | (with_reducible refine Below.drew ?_) | (with_reducible refine Below.drewN' ?_ _) | (with_reducible refine Below.setCell ?_ ?_ _) | (refine Below.via ?_ (by with_reducible assumption) ?_) | (with_reducible refine Below.via ?_ (Wd.h _) ?_) | go_size)))) (by omega) (by exact HM.out.below (by (repeat' (first | (with_reducible exact Below.refl _ _) | (with_reducible assumption) | (with_reducible refine Below.alloc ?_ ?_ _) | (with_reducible refine Below.drew ?_) | (with_reducible refine Below.drewN' ?_ _) | (with_reducible refine Below.setCell ?_ ?_ _) | (refine Below.via ?_ (by with_reducible assumption) ?_) | (with_reducible refine Below.via ?_ (Wd.h _) ?_) | go_size)))) (by omega)).mono ?_)); rintro e wn ⟨rfl, hbn⟩; (obtain ⟨hcn, hfn⟩ := bcell hbn; have hzn := hbn.size; (try simp at hzn); have Ncw0_0 := hcn (w.heap.size) (0) (by first | omega | (simp; done) | (simp; omega)); have Nfw0_0 := hfn (w.heap.size) (0) (by first | omega | (simp; done) | (simp; omega)); have Nhy0 : w.heap.size < wn.heap.size := (by omega); have Ncw0_1 := hcn (w.heap.size) (1) (by first | omega | (simp; done) | (simp; omega)); have Nfw0_1 := hfn (w.heap.size) (1) (by first | omega | (simp; done) | (simp; omega)); (first | (simp [go_sem, cw0_0, fw0_0, cw0_1, fw0_1, hy0] at Ncw0_0 Nfw0_0 Ncw0_1 Nfw0_1; clear cw0_0 fw0_0 cw0_1 fw0_1) | (simp [go_sem] at Ncw0_0 Nfw0_0 Ncw0_1 Nfw0_1)); clear hcn hfn; have cw0_0 := Ncw0_0; have fw0_0 := Nfw0_0; have cw0_1 := Ncw0_1; have fw0_1 := Nfw0_1; have hy0 := Nhy0; clear Ncw0_0 Nfw0_0 Ncw0_1 Nfw0_1 Nhy0)) | (go_at_call 23; ((with_reducible refine (spec_l20Hour _ _).mono ?_)); rintro e wn ⟨rfl, rfl⟩)))
      refine (spec_l21Amounts _ _ _ _ lb ln hr _ hl (HM.out.below (by (repeat' (first | (with_reducible exact Below.refl _ _) | (with_reducible assumption) | (with_reducible refine Below.alloc ?_ ?_ _) | (with_reducible refine Below.drew ?_) | (with_reducible refine Below.drewN' ?_ _) | (with_reducible refine Below.setCell ?_ ?_ _) | (refine Below.via ?_ (by with_reducible assumption) ?_) | (with_reducible refine Below.via ?_ (Wd.h _) ?_) | go_size)))) hl' (fun x hx => by have := nom_mem (ctrsOk_of HQ.out.1) HQ.out.2 hx; omega)).mono ?_
      rintro e w1 ⟨G, c1, rfl, hc1, hW1, hb1⟩
      have HW1 := Lib.hid hW1
      clear hW1
      go_wp2
      go_ret2
      exact MadeR.ofWr HR.out (amL_len _ _ _) hc1 (HW1.out.lower (by omega)) (by (repeat' (first | (with_reducible exact Below.refl _ _) | (with_reducible assumption) | (with_reducible refine Below.alloc ?_ ?_ _) | (with_reducible refine Below.drew ?_) | (with_reducible refine Below.drewN' ?_ _) | (with_reducible refine Below.setCell ?_ ?_ _) | (refine Below.via ?_ (by with_reducible assumption) ?_) | (with_reducible refine Below.via ?_ (Wd.h _) ?_) | go_size)))
  · have b0 : (nomsC N lb ln != 0) = true := by simp [h0]
    have b1 : (nomsC N lb ln == 0) = false := by simp [h0]
    have HR := Lib.hid (show amR N lb ln hr = ([], nomsC N lb ln) by simp [amR, h0])
    (go_enter Try.func9, Try.ntmps9; go_wp2_with (first | (go_at_call 22; ((with_reducible refine (spec_l21Code _ _ _ _ _ _ _ _ _ _ N lb ln _ (by exact HN.out.below (by (repeat' (first | (with_reducible exact Below.refl _ _) | (with_reducible assumption) | (with_reducible refine Below.alloc ?_ ?_ _) | (with_reducible refine Below.drew ?_) | (with_reducible refine Below.drewN' ?_ _) | (with_reducible refine Below.setCell ?_ ?_ _) | (refine Below.via ?_ (by with_reducible assumption) ?_) | (with_reducible refine Below.via ?_ (Wd.h _) ?_) | go_size)))) rfl rfl (by exact HB.out.below (by (repeat' (first | (with_reducible exact Below.refl _ _) | (with_reducible assumption) | (with_reducible refine Below.alloc ?_ ?_ _) | (with_reducible refine Below.drew ?_) | (with_reducible refine Below.drewN' ?_ _) | (with_reducible refine Below.setCell ?_ ?_ _) | (refine Below.via ?_ (by with_reducible assumption) ?_) | (with_reducible refine Below.via ?_ (Wd.h _) ?_) | go_size)))) (by omega) (by exact HM.out.below (by (repeat' (first | (with_reducible exact Below.refl _ _) | (with_reducible assumption) | (with_reducible refine Below.alloc ?_ ?_ _) | (with_reducible refine Below.drew ?_) | (with_reducible refine Below.drewN' ?_ _) | (with_reducible refine Below.setCell ?_ ?_ _) | (refine Below.via ?_ (by with_reducible assumption) ?_) | (with_reducible refine Below.via ?_ (Wd.h _) ?_) | go_size)))) (by omega)).mono ?_)); rintro e wn ⟨rfl, hbn⟩; (obtain ⟨hcn, hfn⟩ := bcell hbn; have hzn := hbn.size; (try simp at hzn); have Ncw0_0 := hcn (w.heap.size) (0) (by first | omega | (simp; done) | (simp; omega)); have Nfw0_0 := hfn (w.heap.size) (0) (by first | omega | (simp; done) | (simp; omega)); have Nhy0 : w.heap.size < wn.heap.size := (by omega); have Ncw0_1 := hcn (w.heap.size) (1) (by first | omega | (simp; done) | (simp; omega)); have Nfw0_1 := hfn (w.heap.size) (1) (by first | omega | (simp; done) | (simp; omega)); (first | (simp [go_sem, cw0_0, fw0_0, cw0_1, fw0_1, hy0] at Ncw0_0 Nfw0_0 Ncw0_1 Nfw0_1; clear cw0_0 fw0_0 cw0_1 fw0_1) | (simp [go_sem] at Ncw0_0 Nfw0_0 Ncw0_1 Nfw0_1)); clear hcn hfn; have cw0_0 := Ncw0_0; have fw0_0 := Nfw0_0; have cw0_1 := Ncw0_1; have fw0_1 := Nfw0_1; have hy0 := Nhy0; clear Ncw0_0 Nfw0_0 Ncw0_1 Nfw0_1 Nhy0)) | (go_at_call 23; ((with_reducible refine (spec_l20Hour _ _).mono ?_)); rintro e wn ⟨rfl, rfl⟩)))
    go_ret2
    exact MadeR.nil HR.out rfl (by (repeat' (first | (with_reducible exact Below.refl _ _) | (with_reducible assumption) | (with_reducible refine Below.alloc ?_ ?_ _) | (with_reducible refine Below.drew ?_) | (with_reducible refine Below.drewN' ?_ _) | (with_reducible refine Below.setCell ?_ ?_ _) | (refine Below.via ?_ (by with_reducible assumption) ?_) | (with_reducible refine Below.via ?_ (Wd.h _) ?_) | go_size)))
def hisF (con hr : Int) : List Nom → List Int
  | [] => []
  | x :: l => if ((x.con == con) && (x.hr == hr)) = true then x.am :: hisF con hr l else hisF con hr l
theorem hisF_len (con hr : Int) : ∀ (l : List Nom), (hisF con hr l).length ≤ l.length
  | [] => by simp [hisF]
  | x :: l => by
    have := hisF_len con hr l
    unfold hisF; split <;> simp <;> omega
noncomputable def askC (N : Net) (lb : List Ctr) (ln : List Nom) (con hr : Int) : Int :=
  if nomsC N lb ln ≠ 0 then nomsC N lb ln else if inB con 0 ((lb.length : Int) - 1) = false then 2 else if inB hr 0 47 = false then 2 else 0
noncomputable def hisR (N : Net) (lb : List Ctr) (ln : List Nom) (con hr : Int) : List Int × Int := if askC N lb ln con hr ≠ 0 then ([], askC N lb ln con hr) else (hisF con hr ln, 0)
theorem ask_of {N : Net} {lb : List Ctr} {ln : List Nom} {con hr : Int} (h : askC N lb ln con hr = 0) : nomsC N lb ln = 0 ∧ inB con 0 ((lb.length : Int) - 1) = true ∧ inB hr 0 47 = true := by
  unfold askC at h
  by_cases h1 : nomsC N lb ln = 0
  · cases h2 : inB con 0 ((lb.length : Int) - 1)
    · simp [h1, h2] at h
    · cases h3 : inB hr 0 47
      · simp [h1, h2, h3] at h
      · exact ⟨h1, rfl, rfl⟩
  · simp [h1] at h
theorem hisR_len {N : Net} {lb : List Ctr} {ln : List Nom} {con hr : Int} : (hisR N lb ln con hr).1.length ≤ 1048576 := by
  unfold hisR; split
  · simp
  · rename_i h
    have := (noms_of (ask_of (by simpa using h)).1).2.1
    have := hisF_len con hr ln
    simp; omega
end Go.Proofs.Ytlbidcblpmdgaaa
namespace Go.Proofs.Ytlbidcblpmdgaaa
set_option linter.unusedVariables false
set_option linter.unusedSimpArgs false
open Go.RowKit
def nsF : List Int → List Ctr → List Int → List Int
  | acc, p :: ps, x :: xs => nsF (addAt (addAt acc p.en.toNat x) p.ex.toNat (-x)) ps xs
  | acc, _, _ => acc
theorem nsF_len : ∀ (ps : List Ctr) (xs acc : List Int), (nsF acc ps xs).length = acc.length
  | [], _, acc => by simp [nsF]
  | p :: ps, [], acc => by simp [nsF]
  | p :: ps, x :: xs, acc => by rw [nsF, nsF_len ps xs, addAt_len, addAt_len]
def nsL (n : Nat) (lb : List Ctr) (am : List Int) : List Int := nsF (List.replicate n 0) lb am
theorem nsL_len (n : Nat) (lb : List Ctr) (am : List Int) : (nsL n lb am).length = n := by rw [nsL, nsF_len]; simp
theorem nsF_step {acc : List Int} {ps : List Ctr} {xs : List Int} {k : Nat} {p : Ctr} {x : Int} (hp : ps[k]? = some p) (hx : xs[k]? = some x) : nsF acc (ps.drop k) (xs.drop k) = nsF (addAt (addAt acc p.en.toNat x) p.ex.toNat (-x)) (ps.drop (k + 1)) (xs.drop (k + 1)) := by
  rw [drop_consI hp, drop_consI hx, nsF]
theorem nsF_end {acc : List Int} {ps : List Ctr} {xs : List Int} {k : Nat} (h : ¬ k < ps.length) : nsF acc (ps.drop k) (xs.drop k) = acc := by
  rw [drop_endI h]; simp [nsF]
noncomputable def nsR (N : Net) (lb : List Ctr) (ln : List Nom) (hr : Int) : List Int × Int :=
  if (amR N lb ln hr).2 ≠ 0 then ([], (amR N lb ln hr).2) else if supB N.nodes.length (nsL N.nodes.length lb (amL lb ln hr)) = false then ([], 7) else (nsL N.nodes.length lb (amL lb ln hr), 0)
theorem amR_cases (N : Net) (lb : List Ctr) (ln : List Nom) (hr : Int) : (∃ c, c ≠ 0 ∧ amR N lb ln hr = ([], c)) ∨ (nomsC N lb ln = 0 ∧ amR N lb ln hr = (amL lb ln hr, 0)) := by
  unfold amR
  by_cases h : nomsC N lb ln = 0
  · cases h2 : inB hr 0 47
    · left; exact ⟨2, by omega, by simp [h]⟩
    · right; simp [h]
  · left; exact ⟨_, h, by simp [h]⟩
theorem nsR_len {N : Net} {lb : List Ctr} {ln : List Nom} {hr : Int} : (nsR N lb ln hr).1.length ≤ 1048576 := by
  unfold nsR
  rcases amR_cases N lb ln hr with ⟨c, hc, e⟩ | ⟨h0, e⟩
  · rw [e]; simp [hc]
  · have := (book_of (noms_of h0).1).1.n2
    rw [e]
    split
    · simp
    · split
      · simp
      · simp [nsL_len]; omega
theorem amL_bd {N : Net} {lb : List Ctr} {ln : List Nom} {hr : Int} (h : nomsC N lb ln = 0) : ∀ y ∈ amL lb ln hr, 0 ≤ y ∧ y ≤ 30000 :=
  amF_bd hr ln _ (fun x hx => by have := nom_mem (ctrsOk_of (noms_of h).1) (noms_of h).2 hx; omega) (fun y hy => by have := (List.mem_replicate.1 hy).2; omega)
set_option maxRecDepth 100000 in
set_option maxHeartbeats 4000000 in
theorem impl_NominatedSupplies (A B C D : Option Addr) (n c m d e f : Nat) (N : Net) (lb : List Ctr) (ln : List Nom) (hr : Int) (w : World) (hN : NetAt w A B N) (hn : n = N.nodes.length) (hm : m = N.pipes.length) (hc : n ≤ c) (h : Rd w C (lb.flatMap Ctr.cells)) (hl : lb.length ≤ 1048576) (h' : Rd w D (ln.flatMap Nom.cells)) (hl' : ln.length ≤ 1048576) :
    Calls Try.prog 6 #[netV A B n c m d, .slice C lb.length e, .slice D ln.length f, .int .i64 hr] w (MadeR w 1 (nsR N lb ln hr).1.length ((nsR N lb ln hr).1.map iV) (nsR N lb ln hr).2) := by
  subst hn hm
  have HN := Lib.hid hN
  have HB := Lib.hid h
  have HM := Lib.hid h'
  have hln := hN.ln
  clear hN h h'
  rcases amR_cases N lb ln hr with ⟨cc, hcc, hea⟩ | ⟨h0, hea⟩
  · have HE := Lib.hid hea
    have b0 : (cc != 0) = true := by simp [hcc]
    have HR := Lib.hid (show nsR N lb ln hr = ([], cc) by rw [nsR, hea]; simp [hcc])
    clear hea hcc
    go_enter Try.func6, Try.ntmps6
    go_wp2_with fail
    
    refine (((impl_AmountsIn _ _ _ _ _ _ _ _ _ _ N lb ln hr _ (HN.out.below (by (repeat' (first | (with_reducible exact Below.refl _ _) | (with_reducible assumption) | (with_reducible refine Below.alloc ?_ ?_ _) | (with_reducible refine Below.drew ?_) | (with_reducible refine Below.drewN' ?_ _) | (with_reducible refine Below.setCell ?_ ?_ _) | (refine Below.via ?_ (by with_reducible assumption) ?_) | (with_reducible refine Below.via ?_ (Wd.h _) ?_) | go_size)))) rfl rfl hc (HB.out.below (by (repeat' (first | (with_reducible exact Below.refl _ _) | (with_reducible assumption) | (with_reducible refine Below.alloc ?_ ?_ _) | (with_reducible refine Below.drew ?_) | (with_reducible refine Below.drewN' ?_ _) | (with_reducible refine Below.setCell ?_ ?_ _) | (refine Below.via ?_ (by with_reducible assumption) ?_) | (with_reducible refine Below.via ?_ (Wd.h _) ?_) | go_size)))) hl (HM.out.below (by (repeat' (first | (with_reducible exact Below.refl _ _) | (with_reducible assumption) | (with_reducible refine Below.alloc ?_ ?_ _) | (with_reducible refine Below.drew ?_) | (with_reducible refine Below.drewN' ?_ _) | (with_reducible refine Below.setCell ?_ ?_ _) | (refine Below.via ?_ (by with_reducible assumption) ?_) | (with_reducible refine Below.via ?_ (Wd.h _) ?_) | go_size)))) hl')).made HE.out).mono ?_
    rintro e w1 ⟨G, c1, rfl, hc1, hW1, hb1⟩
    clear hW1
    go_wp2
    go_ret2
    exact MadeR.nil HR.out rfl (by (repeat' (first | (with_reducible exact Below.refl _ _) | (with_reducible assumption) | (with_reducible refine Below.alloc ?_ ?_ _) | (with_reducible refine Below.drew ?_) | (with_reducible refine Below.drewN' ?_ _) | (with_reducible refine Below.setCell ?_ ?_ _) | (refine Below.via ?_ (by with_reducible assumption) ?_) | (with_reducible refine Below.via ?_ (Wd.h _) ?_) | go_size)))
  obtain ⟨am, ham⟩ : ∃ am, am = amL lb ln hr := ⟨_, rfl⟩
  have HE := Lib.hid (show amR N lb ln hr = (am, 0) by rw [ham]; exact hea)
  have HAM := Lib.hid ham
  have HBA := Lib.hid (show ∀ y ∈ am, 0 ≤ y ∧ y ≤ 30000 by rw [ham]; exact amL_bd h0)
  have la1 : am.length ≤ lb.length := by rw [ham, amL_len]; omega
  have la2 : lb.length ≤ am.length := by rw [ham, amL_len]; omega
  have HO := Lib.hid (book_of (noms_of h0).1)
  have h32 := (book_of (noms_of h0).1).2.1
  have HRS := Lib.hid (show nsR N lb ln hr = (if supB N.nodes.length (nsL N.nodes.length lb am) = false then ([], 7) else (nsL N.nodes.length lb am, 0)) by rw [nsR, hea, ham]; simp)
  clear h0 hea ham
  have hmk := make_i64 N.nodes.length (by omega)
  go_enter Try.func6, Try.ntmps6
  go_wp2_with fail
  
  refine (((impl_AmountsIn _ _ _ _ _ _ _ _ _ _ N lb ln hr _ (HN.out.below (by (repeat' (first | (with_reducible exact Below.refl _ _) | (with_reducible assumption) | (with_reducible refine Below.alloc ?_ ?_ _) | (with_reducible refine Below.drew ?_) | (with_reducible refine Below.drewN' ?_ _) | (with_reducible refine Below.setCell ?_ ?_ _) | (refine Below.via ?_ (by with_reducible assumption) ?_) | (with_reducible refine Below.via ?_ (Wd.h _) ?_) | go_size)))) rfl rfl hc (HB.out.below (by (repeat' (first | (with_reducible exact Below.refl _ _) | (with_reducible assumption) | (with_reducible refine Below.alloc ?_ ?_ _) | (with_reducible refine Below.drew ?_) | (with_reducible refine Below.drewN' ?_ _) | (with_reducible refine Below.setCell ?_ ?_ _) | (refine Below.via ?_ (by with_reducible assumption) ?_) | (with_reducible refine Below.via ?_ (Wd.h _) ?_) | go_size)))) hl (HM.out.below (by (repeat' (first | (with_reducible exact Below.refl _ _) | (with_reducible assumption) | (with_reducible refine Below.alloc ?_ ?_ _) | (with_reducible refine Below.drew ?_) | (with_reducible refine Below.drewN' ?_ _) | (with_reducible refine Below.setCell ?_ ?_ _) | (refine Below.via ?_ (by with_reducible assumption) ?_) | (with_reducible refine Below.via ?_ (Wd.h _) ?_) | go_size)))) hl')).made HE.out).mono ?_
  rintro e w1 ⟨G, c1, rfl, hc1, hW1, hb1⟩
  have HW1 := Lib.hid hW1
  have HAr := Lib.hid hW1.rd
  clear hW1
  (obtain ⟨hcn, hfn⟩ := bcell hb1; have hz1 := hb1.size; (try simp at hz1); have Ncw0_0 := hcn (w.heap.size) (0) (by first | omega | (simp; done) | (simp; omega)); have Nfw0_0 := hfn (w.heap.size) (0) (by first | omega | (simp; done) | (simp; omega)); have Nhy0 : w.heap.size < w1.heap.size := (by omega); have Ncw0_1 := hcn (w.heap.size) (1) (by first | omega | (simp; done) | (simp; omega)); have Nfw0_1 := hfn (w.heap.size) (1) (by first | omega | (simp; done) | (simp; omega)); simp [go_sem] at Ncw0_0 Nfw0_0 Ncw0_1 Nfw0_1; clear hcn hfn; have cw0_0 := Ncw0_0; have fw0_0 := Nfw0_0; have cw0_1 := Ncw0_1; have fw0_1 := Nfw0_1; have hy0 := Nhy0; clear Ncw0_0 Nfw0_0 Ncw0_1 Nfw0_1 Nhy0)
  have hb1' : Below w.heap.size w w1 := by (repeat' (first | (with_reducible exact Below.refl _ _) | (with_reducible assumption) | (with_reducible refine Below.alloc ?_ ?_ _) | (with_reducible refine Below.drew ?_) | (with_reducible refine Below.drewN' ?_ _) | (with_reducible refine Below.setCell ?_ ?_ _) | (refine Below.via ?_ (by with_reducible assumption) ?_) | (with_reducible refine Below.via ?_ (Wd.h _) ?_) | go_size))
  have HB1 := Lib.hid hb1'
  have HBX := Lib.hid (show Bx w1 w.heap.size [.slice A N.nodes.length c, .slice B N.pipes.length d] from (bx2 (by first | exact hy0 | go_size) (by first | (with_reducible exact cw0_0) | go_cell_look | (simp [go_sem, hy0, cw0_0, fw0_0, cw0_1, fw0_1]; done) | (simp [go_sem]; done)) (by first | (with_reducible exact fw0_0) | (simp only [World.frozen?_setCell, fw0_0]; done) | (simp [go_sem, hy0, cw0_0, fw0_0, cw0_1, fw0_1]; done) | (simp [go_sem]; done)) (by first | (with_reducible exact cw0_1) | go_cell_look | (simp [go_sem, hy0, cw0_0, fw0_0, cw0_1, fw0_1]; done) | (simp [go_sem]; done)) (by first | (with_reducible exact fw0_1) | (simp only [World.frozen?_setCell, fw0_1]; done) | (simp [go_sem, hy0, cw0_0, fw0_0, cw0_1, fw0_1]; done) | (simp [go_sem]; done))))
  have hzz : w.heap.size ≤ w1.heap.size := hb1'.size
  have HA0 := Lib.hid (Arr.madeI w1 N.nodes.length 2)
  go_wp2_with fail
  clear hy0 cw0_0 fw0_0 cw0_1 fw0_1
  clear hb1 hb1' hmk
  go_loopw [32] (fun v wr => ∃ (k : Nat) (acc : List Int), k ≤ lb.length ∧ v = .int .i64 k ∧ acc.length = N.nodes.length ∧ (∀ y ∈ acc, -(k * 60000 : Int) ≤ y ∧ y ≤ (k * 60000 : Int)) ∧ nsF acc (lb.drop k) (am.drop k) = nsL N.nodes.length lb am ∧ Arr wr w1.heap.size N.nodes.length (acc.map iV) ∧ Bx wr w.heap.size [.slice A N.nodes.length c, .slice B N.pipes.length d] ∧ Below w1.heap.size w1 wr) (fun v _ => lb.length - (intOf v).toNat)
  case atStart => exact ⟨0, List.replicate N.nodes.length 0, by omega, rfl, by simp, fun y hy => by have := (List.mem_replicate.1 hy).2; omega, by simp [nsL], HA0.out, HBX.out.below ((Below.refl _ _).alloc (Nat.le_refl _) _) (by omega), by (repeat' (first | (with_reducible exact Below.refl _ _) | (with_reducible assumption) | (with_reducible refine Below.alloc ?_ ?_ _) | (with_reducible refine Below.drew ?_) | (with_reducible refine Below.drewN' ?_ _) | (with_reducible refine Below.setCell ?_ ?_ _) | (refine Below.via ?_ (by with_reducible assumption) ?_) | (with_reducible refine Below.via ?_ (Wd.h _) ?_) | go_size))⟩
  case round =>
    obtain ⟨k, acc, hk, rfl, hal, hbd, hF, hA, hB, hbw1⟩ := hrel
    have hbH1 := Lib.hid hbw1
    have hbw : Below w.heap.size w wr := Below.via HB1.out hbw1 (by omega)
    have hbH := Lib.hid hbw
    have HF := Lib.hid hF
    have HA := Lib.hid hA
    have HBD := Lib.hid hbd
    have HAL := Lib.hid hal
    have HBR := Lib.hid hB
    have hyA := hA.lt
    have hzr1 := hbw1.size
    clear hF hA hbd hal
    by_cases hlt : k < lb.length
    · clear hB
      obtain ⟨fv, hfv⟩ := get_some (show k < am.length by omega)
      obtain ⟨b2, off2, rfl, hb2, hat2⟩ := HAr.out.opened (k := k) (by simp; omega)
      obtain ⟨x, hx⟩ := get_some hlt; obtain ⟨bx, offx, rfl, hbx, hat⟩ := HB.out.opened (k := k) (by rw [flat_len Ctr.len]; omega); have hat' := hat.below hbw hbx; have hybx : bx < wr.heap.size := Nat.lt_of_lt_of_le hbx hbw.size; have hzw := hbw.size; have t0 := hat'.elem0 Ctr.len hx rfl; have t1 := hat'.elem Ctr.len hx 1 rfl; have t2 := hat'.elem Ctr.len hx 2 rfl; have t3 := hat'.elem Ctr.len hx 3 rfl; have t4 := hat'.elem Ctr.len hx 4 rfl; have t5 := hat'.elem Ctr.len hx 5 rfl; have t6 := hat'.elem Ctr.len hx 6 rfl; have t7 := hat'.elem Ctr.len hx 7 rfl; have HX := Lib.hid hx; have HD := Lib.hid (drop_cons hx); have gx : (k : Int) < _ := Int.ofNat_lt.2 hlt; clear hx hat hat'
      have t9 := ints_at (hat2.below hbw1 hb2) hfv
      have hyb2 : b2 < wr.heap.size := by omega
      obtain ⟨f1, f2⟩ := HBA.out fv (List.mem_of_getElem? hfv)
      have cc := ctr_of (HO.out.2.2 x (List.mem_of_getElem? HX.out))
      obtain ⟨_, ⟨p1, p2⟩, ⟨p3, p4⟩, _⟩ := cc
      have HST := Lib.hid (nsF_step (acc := acc) HX.out hfv)
      clear hbw hbw1 hfv hat2
      obtain ⟨xsh, xen, xex, xam, xcl, xfr, xto, xpr⟩ := x
      dsimp only at t0 t1 t2 t3 t4 t5 t6 t7 p1 p2 p3 p4
      obtain ⟨q, rfl⟩ : ∃ q : Nat, xen = q := ⟨xen.toNat, by omega⟩
      obtain ⟨r, rfl⟩ : ∃ r : Nat, xex = r := ⟨xex.toNat, by omega⟩
      obtain ⟨y, hy⟩ := get_some (l := acc) (k := q) (by rw [HAL.out]; omega)
      obtain ⟨y1, y2⟩ := HBD.out y (List.mem_of_getElem? hy)
      have HBD1 := Lib.hid (addAt_bd (l := acc) (k := q) (x := fv) (a := -30000) (b := 30000) HBD.out (by omega) (by omega) (by omega) (by omega))
      have HBD2 := Lib.hid (addAt_bd (l := addAt acc q fv) (k := r) (x := -fv) (a := -30000) (b := 30000) HBD1.out (by omega) (by omega) (by omega) (by omega))
      obtain ⟨z, hz⟩ := get_some (l := addAt acc q fv) (k := r) (by rw [addAt_len, HAL.out]; omega)
      obtain ⟨z1, z2⟩ := HBD1.out z (List.mem_of_getElem? hz)
      have HY := Lib.hid hy
      have HZ := Lib.hid hz
      have g4 : (q : Int) < N.nodes.length := by omega
      have g5 : (r : Int) < N.nodes.length := by omega
      have g6 : (k : Int) < am.length := by omega
      clear hy hz
      go_wp2_with fail
      generalize hW : World.alloc wr _ = wq
      have hbq : Below wr.heap.size wr wq := by rw [← hW]; (repeat' (first | (with_reducible exact Below.refl _ _) | (with_reducible assumption) | (with_reducible refine Below.alloc ?_ ?_ _) | (with_reducible refine Below.drew ?_) | (with_reducible refine Below.drewN' ?_ _) | (with_reducible refine Below.setCell ?_ ?_ _) | (refine Below.via ?_ (by with_reducible assumption) ?_) | (with_reducible refine Below.via ?_ (Wd.h _) ?_) | go_size))
      have hzq : wr.heap.size < wq.heap.size := by rw [← hW]; simp
      have r1 : wq.cell? ⟨wr.heap.size, 1, none⟩ = some (.int .i64 q) := by rw [← hW]; simp
      have r2 : wq.cell? ⟨wr.heap.size, 2, none⟩ = some (.int .i64 r) := by rw [← hW]; simp
      have r9 := bc hbq hyb2 t9
      have HAq := Lib.hid (HA.out.below hbq (by omega))
      have HBQ := Lib.hid (HBR.out.below hbq (by omega))
      have s0' := ints_cell HAq.out HY.out
      clear hW t0 t1 t2 t3 t4 t5 t6 t7 t9
      (have qk0 := Wd.cell (by first | assumption | omega | (simp; omega)) r1; have qk1 := Wd.cell (by first | assumption | omega | (simp; omega)) r2; have qk2 := Wd.cell (by first | assumption | omega | (simp; omega)) r9; have qk3 := Wd.cell (by first | assumption | omega | (simp; omega)) s0'; (refine wp_region_wd_tail 11 (by kernel_rfl) (by kernel_rfl) ?_; simp only [List.take_succ_cons, List.take_zero, List.drop_succ_cons, List.drop_zero]); (repeat (go_big_quiet_step ((first | fail)))); (refine wpQuiet_nil ?_); rintro wz ⟨⟨w'', hbwz⟩, hw''⟩; obtain rfl : wz = w'' := hw''; clear qk0 qk1 qk2 qk3; have hzwz := hbwz.size; (try simp at hzwz))
      have HAz := Lib.hid (HAq.out.below hbwz (by omega))
      have HBZ := Lib.hid (HBQ.out.below hbwz (by omega))
      have s0 := ints_cell HAz.out HY.out
      have s1 := HAz.out.free (j := q) (by omega)
      have v2 := bc hbwz (by omega) r2
      have v9 := bc hbwz (by omega) r9
      clear s0' r1 r2 r9
      go_wp2_with fail
      generalize hW : World.setCell wz _ _ = wy
      have HAy := Lib.hid (show Arr wy w1.heap.size N.nodes.length ((addAt acc q fv).map iV) from hW ▸ HAz.out.addAt HY.out (by omega))
      have hby : Below w1.heap.size wz wy := by rw [← hW]; exact (Below.refl w1.heap.size wz).setCell (show w1.heap.size ≤ w1.heap.size from Nat.le_refl _) _
      have hzy : wz.heap.size ≤ wy.heap.size := hby.size
      have u2 : wy.cell? ⟨wr.heap.size, 2, none⟩ = some (.int .i64 r) := by rw [← hW, World.cell?_setCell_other _ _ _ _ (by intro e; injection e; omega)]; exact v2
      have u9 := bc hby hb2 v9
      have HBY := Lib.hid (HBZ.out.below hby (by omega))
      have s2' := ints_cell HAy.out HZ.out
      clear hW s0 s1 v2 v9
      (have qk0 := Wd.cell (by first | assumption | omega | (simp; omega)) u2; have qk1 := Wd.cell (by first | assumption | omega | (simp; omega)) u9; have qk2 := Wd.cell (by first | assumption | omega | (simp; omega)) s2'; (refine wp_region_wd_tail 11 (by kernel_rfl) (by kernel_rfl) ?_; simp only [List.take_succ_cons, List.take_zero, List.drop_succ_cons, List.drop_zero]); (repeat (go_big_quiet_step ((first | fail)))); (refine wpQuiet_nil ?_); rintro wx ⟨⟨w'', hbwx⟩, hw''⟩; obtain rfl : wx = w'' := hw''; clear qk0 qk1 qk2; have hzwx := hbwx.size; (try simp at hzwx))
      have HAx := Lib.hid (HAy.out.below hbwx (by omega))
      have HBXx := Lib.hid (HBY.out.below hbwx (by omega))
      have s2 := ints_cell HAx.out HZ.out
      have s3 := HAx.out.free (j := r) (by omega)
      clear s2' u2 u9
      go_wp2
      go_roundw
      case rel =>
        refine ⟨k + 1, addAt (addAt acc q fv) r (-fv), by omega, by go_num, by rw [addAt_len, addAt_len]; exact HAL.out, fun z hz => by have := HBD2.out z hz; omega, ?_, ?_, HBXx.out.below (B := w.heap.size + 1) ((Below.refl _ _).setCell (by simp; omega) _) (by omega), ?_⟩
        · rw [← HF.out, HST.out]; simp
        · have := HAx.out.addAt (x := -fv) HZ.out (by omega)
          rw [← Int.sub_eq_add_neg] at this
          exact this
        · have h1 := hbH1.out
          have h2 : Below w1.heap.size w1 wy := Below.via (Below.via (Below.via h1 hbq (by omega)) hbwz (by omega)) hby (Nat.le_refl _)
          exact (Below.via h2 hbwx (by omega)).setCell (by simp) _
      case measure => simp [intOf]; omega
    · clear hbw hbw1
      have HEE := Lib.hid (show acc = nsL N.nodes.length lb am by rw [← HF.out, nsF_end hlt])
      have hy0 := hB.lt; have cw0_0 := hB.cell 0 rfl; have fw0_0 := hB.frozen 0 rfl; have cw0_1 := hB.cell 1 rfl; have fw0_1 := hB.frozen 1 rfl
      clear hB
      cases hs : supB N.nodes.length acc
      · have HR := Lib.hid (show nsR N lb ln hr = ([], 7) by rw [HRS.out, ← HEE.out, if_pos hs])
        go_wp2_with fail
        refine (impl_areSupplies' _ _ _ _ _ _ _ _ _ acc _ hln (HA.out.rd) HAL.out hln).mono ?_
        rintro e wq ⟨rfl, hbq⟩
        go_wp2
        go_ret2
        exact MadeR.nil HR.out rfl (by have h1 := hbH.out; (repeat' (first | (with_reducible exact Below.refl _ _) | (with_reducible assumption) | (with_reducible refine Below.alloc ?_ ?_ _) | (with_reducible refine Below.drew ?_) | (with_reducible refine Below.drewN' ?_ _) | (with_reducible refine Below.setCell ?_ ?_ _) | (refine Below.via ?_ (by with_reducible assumption) ?_) | (with_reducible refine Below.via ?_ (Wd.h _) ?_) | go_size)))
      · have HR := Lib.hid (show nsR N lb ln hr = (acc, 0) by rw [HRS.out, ← HEE.out, if_neg (by simp [hs])])
        go_wp2_with fail
        refine (impl_areSupplies' _ _ _ _ _ _ _ _ _ acc _ hln (HA.out.rd) HAL.out hln).mono ?_
        rintro e wq ⟨rfl, hbq⟩
        go_wp2
        go_ret2
        exact MadeR.arr HR.out HAL.out (Nat.le_refl _) (HA.out.below hbq (by omega)) hzz (by have h1 := hbH.out; (repeat' (first | (with_reducible exact Below.refl _ _) | (with_reducible assumption) | (with_reducible refine Below.alloc ?_ ?_ _) | (with_reducible refine Below.drew ?_) | (with_reducible refine Below.drewN' ?_ _) | (with_reducible refine Below.setCell ?_ ?_ _) | (refine Below.via ?_ (by with_reducible assumption) ?_) | (with_reducible refine Below.via ?_ (Wd.h _) ?_) | go_size)))
set_option maxRecDepth 100000 in
set_option maxHeartbeats 4000000 in
theorem spec_l21Supplies (A B C G : Option Addr) (n c m d e f : Nat) (N : Net) (lb : List Ctr) (am : List Int) (w : World) (hn : n = N.nodes.length) (hln : N.nodes.length ≤ 1048576) (h : Rd w C (lb.flatMap Ctr.cells)) (h32 : lb.length ≤ 32) (ho : ∀ x ∈ lb, ctrB x N.nodes.length = true) (hg : Rd w G (am.map iV)) (hla : am.length = lb.length) (hba : ∀ y ∈ am, 0 ≤ y ∧ y ≤ 30000) :
    Calls Try.prog 17 #[netV A B n c m d, .slice C lb.length e, .slice G am.length f] w (MadeL w 1 N.nodes.length ((nsL N.nodes.length lb am).map iV)) := by
  subst hn
  have HB := Lib.hid h
  have HO := Lib.hid ho
  have HAr := Lib.hid hg
  have HBA := Lib.hid hba
  have la1 : am.length ≤ lb.length := by omega
  have la2 : lb.length ≤ am.length := by omega
  clear h ho hg hla hba
  have hmk := make_i64 N.nodes.length (by omega)
  go_enter Try.func17, Try.ntmps17
  go_wp2
  have HA0 := Lib.hid (Arr.madeI (w.alloc (.cells #[.slice A N.nodes.length c, .slice B m d] 27)) N.nodes.length 2)
  clear hmk
  go_loopw [8] (fun v wr => ∃ (k : Nat) (acc : List Int), k ≤ lb.length ∧ v = .int .i64 k ∧ acc.length = N.nodes.length ∧ (∀ y ∈ acc, -(k * 60000 : Int) ≤ y ∧ y ≤ (k * 60000 : Int)) ∧ nsF acc (lb.drop k) (am.drop k) = nsL N.nodes.length lb am ∧ Arr wr (w.heap.size + 1) N.nodes.length (acc.map iV) ∧ Below w.heap.size w wr) (fun v _ => lb.length - (intOf v).toNat)
  case atStart => exact ⟨0, List.replicate N.nodes.length 0, by omega, rfl, by simp, fun y hy => by have := (List.mem_replicate.1 hy).2; omega, by simp [nsL], by simpa using HA0.out, by (repeat' (first | (with_reducible exact Below.refl _ _) | (with_reducible assumption) | (with_reducible refine Below.alloc ?_ ?_ _) | (with_reducible refine Below.drew ?_) | (with_reducible refine Below.drewN' ?_ _) | (with_reducible refine Below.setCell ?_ ?_ _) | (refine Below.via ?_ (by with_reducible assumption) ?_) | (with_reducible refine Below.via ?_ (Wd.h _) ?_) | go_size))⟩
  case round =>
    obtain ⟨k, acc, hk, rfl, hal, hbd, hF, hA, hbw⟩ := hrel
    have hbH := Lib.hid hbw
    have HF := Lib.hid hF
    have HA := Lib.hid hA
    have HBD := Lib.hid hbd
    have HAL := Lib.hid hal
    have hyA := hA.lt
    clear hF hA hbd hal
    by_cases hlt : k < lb.length
    · obtain ⟨fv, hfv⟩ := get_some (show k < am.length by omega)
      obtain ⟨b2, off2, rfl, hb2, hat2⟩ := HAr.out.opened (k := k) (by simp; omega)
      obtain ⟨x, hx⟩ := get_some hlt; obtain ⟨bx, offx, rfl, hbx, hat⟩ := HB.out.opened (k := k) (by rw [flat_len Ctr.len]; omega); have hat' := hat.below hbw hbx; have hybx : bx < wr.heap.size := Nat.lt_of_lt_of_le hbx hbw.size; have hzw := hbw.size; have t0 := hat'.elem0 Ctr.len hx rfl; have t1 := hat'.elem Ctr.len hx 1 rfl; have t2 := hat'.elem Ctr.len hx 2 rfl; have t3 := hat'.elem Ctr.len hx 3 rfl; have t4 := hat'.elem Ctr.len hx 4 rfl; have t5 := hat'.elem Ctr.len hx 5 rfl; have t6 := hat'.elem Ctr.len hx 6 rfl; have t7 := hat'.elem Ctr.len hx 7 rfl; have HX := Lib.hid hx; have HD := Lib.hid (drop_cons hx); have gx : (k : Int) < _ := Int.ofNat_lt.2 hlt; clear hx hat hat'
      have t9 := ints_at (hat2.below hbw hb2) hfv
      have hyb2 : b2 < wr.heap.size := Nat.lt_of_lt_of_le hb2 hbw.size
      obtain ⟨f1, f2⟩ := HBA.out fv (List.mem_of_getElem? hfv)
      have cc := ctr_of (HO.out x (List.mem_of_getElem? HX.out))
      obtain ⟨_, ⟨p1, p2⟩, ⟨p3, p4⟩, _⟩ := cc
      have HST := Lib.hid (nsF_step (acc := acc) HX.out hfv)
      clear hbw hfv hat2
      obtain ⟨xsh, xen, xex, xam, xcl, xfr, xto, xpr⟩ := x
      dsimp only at t0 t1 t2 t3 t4 t5 t6 t7 p1 p2 p3 p4
      obtain ⟨q, rfl⟩ : ∃ q : Nat, xen = q := ⟨xen.toNat, by omega⟩
      obtain ⟨r, rfl⟩ : ∃ r : Nat, xex = r := ⟨xex.toNat, by omega⟩
      obtain ⟨y, hy⟩ := get_some (l := acc) (k := q) (by rw [HAL.out]; omega)
      obtain ⟨y1, y2⟩ := HBD.out y (List.mem_of_getElem? hy)
      have HBD1 := Lib.hid (addAt_bd (l := acc) (k := q) (x := fv) (a := -30000) (b := 30000) HBD.out (by omega) (by omega) (by omega) (by omega))
      have HBD2 := Lib.hid (addAt_bd (l := addAt acc q fv) (k := r) (x := -fv) (a := -30000) (b := 30000) HBD1.out (by omega) (by omega) (by omega) (by omega))
      obtain ⟨z, hz⟩ := get_some (l := addAt acc q fv) (k := r) (by rw [addAt_len, HAL.out]; omega)
      obtain ⟨z1, z2⟩ := HBD1.out z (List.mem_of_getElem? hz)
      have HY := Lib.hid hy
      have HZ := Lib.hid hz
      have g4 : (q : Int) < N.nodes.length := by omega
      have g5 : (r : Int) < N.nodes.length := by omega
      have g6 : (k : Int) < am.length := by omega
      have s0' := ints_cell HA.out hy
      clear hy hz
      go_wp2_with fail
      (have qk0 := Wd.cell (by first | assumption | omega | (simp; omega)) t1; have qk1 := Wd.cell (by first | assumption | omega | (simp; omega)) t2; have qk2 := Wd.cell (by first | assumption | omega | (simp; omega)) t9; have qk3 := Wd.cell (by first | assumption | omega | (simp; omega)) s0'; (refine wp_region_wd_tail 20 (by kernel_rfl) (by kernel_rfl) ?_; simp only [List.take_succ_cons, List.take_zero, List.drop_succ_cons, List.drop_zero]); (repeat (go_big_quiet_step ((first | fail)))); (refine wpQuiet_nil ?_); rintro wz ⟨⟨w'', hbwz⟩, hw''⟩; obtain rfl : wz = w'' := hw''; clear qk0 qk1 qk2 qk3; have hzwz := hbwz.size; (try simp at hzwz))
      have HAz := Lib.hid (HA.out.below hbwz (by omega))
      have s0 := ints_cell HAz.out HY.out
      have s1 := HAz.out.free (j := q) (by omega)
      have v2 := bc hbwz hybx t2
      have v9 := bc hbwz hyb2 t9
      clear s0' t0 t1 t2 t3 t4 t5 t6 t7 t9
      go_wp2_with fail
      generalize hW : World.setCell wz _ _ = wy
      have HAy := Lib.hid (show Arr wy (w.heap.size + 1) N.nodes.length ((addAt acc q fv).map iV) from hW ▸ HAz.out.addAt HY.out (by omega))
      have hby : Below (w.heap.size + 1) wz wy := by rw [← hW]; exact (Below.refl (w.heap.size + 1) wz).setCell (show w.heap.size + 1 ≤ w.heap.size + 1 from Nat.le_refl _) _
      have hzy : wz.heap.size ≤ wy.heap.size := hby.size
      have u2 := bc hby (by omega) v2
      have u9 := bc hby (by omega) v9
      have s2' := ints_cell HAy.out HZ.out
      clear hW s0 s1 v2 v9
      (have qk0 := Wd.cell (by first | assumption | omega | (simp; omega)) u2; have qk1 := Wd.cell (by first | assumption | omega | (simp; omega)) u9; have qk2 := Wd.cell (by first | assumption | omega | (simp; omega)) s2'; (refine wp_region_wd_tail 20 (by kernel_rfl) (by kernel_rfl) ?_; simp only [List.take_succ_cons, List.take_zero, List.drop_succ_cons, List.drop_zero]); (repeat (go_big_quiet_step ((first | fail)))); (refine wpQuiet_nil ?_); rintro wx ⟨⟨w'', hbwx⟩, hw''⟩; obtain rfl : wx = w'' := hw''; clear qk0 qk1 qk2; have hzwx := hbwx.size; (try simp at hzwx))
      have HAx := Lib.hid (HAy.out.below hbwx (by omega))
      have s2 := ints_cell HAx.out HZ.out
      have s3 := HAx.out.free (j := r) (by omega)
      clear s2' u2 u9
      go_wp2
      go_roundw
      case rel =>
        refine ⟨k + 1, addAt (addAt acc q fv) r (-fv), by omega, by go_num, by rw [addAt_len, addAt_len]; exact HAL.out, fun z hz => by have := HBD2.out z hz; omega, ?_, ?_, ?_⟩
        · rw [← HF.out, HST.out]; simp
        · have := HAx.out.addAt (x := -fv) HZ.out (by omega)
          rw [← Int.sub_eq_add_neg] at this
          exact this
        · have h1 := hbH.out
          have h2 : Below w.heap.size w wy := Below.via (show Below w.heap.size w wz by (repeat' (first | (with_reducible exact Below.refl _ _) | (with_reducible assumption) | (with_reducible refine Below.alloc ?_ ?_ _) | (with_reducible refine Below.drew ?_) | (with_reducible refine Below.drewN' ?_ _) | (with_reducible refine Below.setCell ?_ ?_ _) | (refine Below.via ?_ (by with_reducible assumption) ?_) | (with_reducible refine Below.via ?_ (Wd.h _) ?_) | go_size))) hby (by omega)
          exact (Below.via h2 hbwx (by omega)).setCell (by simp) _
      case measure => simp [intOf]; omega
    · clear hbw
      have HE := Lib.hid (show acc = nsL N.nodes.length lb am by rw [← HF.out, nsF_end hlt])
      go_wp2
      go_ret
      rw [← HE.out]
      exact ⟨_, _, rfl, Nat.le_refl _, by simpa using Wr.of_arr (by omega) HA.out, hbH.out⟩
set_option maxRecDepth 100000 in
set_option maxHeartbeats 4000000 in
theorem spec_NominatedSupplies (A B C D : Option Addr) (n c m d e f : Nat) (N : Net) (lb : List Ctr) (ln : List Nom) (hr : Int) (w : World) (hN : NetAt w A B N) (hn : n = N.nodes.length) (hm : m = N.pipes.length) (h : Rd w C (lb.flatMap Ctr.cells)) (hl : lb.length ≤ 1048576) (h' : Rd w D (ln.flatMap Nom.cells)) (hl' : ln.length ≤ 1048576) :
    Calls Try.prog 7 #[netV A B n c m d, .slice C lb.length e, .slice D ln.length f, .int .i64 hr] w (MadeR w 1 (nsR N lb ln hr).1.length ((nsR N lb ln hr).1.map iV) (nsR N lb ln hr).2) := by
  subst hn hm
  have HN := Lib.hid hN
  have HB := Lib.hid h
  have HM := Lib.hid h'
  have hln := hN.ln
  clear hN h h'
  rcases amR_cases N lb ln hr with ⟨cc, hcc, hea⟩ | ⟨h0, hea⟩
  · have HE := Lib.hid hea
    have b0 : (cc != 0) = true := by simp [hcc]
    have HR := Lib.hid (show nsR N lb ln hr = ([], cc) by rw [nsR, hea]; simp [hcc])
    clear hea hcc
    go_enter Try.func7, Try.ntmps7
    go_wp2_with fail
    
    refine (((spec_AmountsIn _ _ _ _ _ _ _ _ _ _ N lb ln hr _ (HN.out.below (by (repeat' (first | (with_reducible exact Below.refl _ _) | (with_reducible assumption) | (with_reducible refine Below.alloc ?_ ?_ _) | (with_reducible refine Below.drew ?_) | (with_reducible refine Below.drewN' ?_ _) | (with_reducible refine Below.setCell ?_ ?_ _) | (refine Below.via ?_ (by with_reducible assumption) ?_) | (with_reducible refine Below.via ?_ (Wd.h _) ?_) | go_size)))) rfl rfl (HB.out.below (by (repeat' (first | (with_reducible exact Below.refl _ _) | (with_reducible assumption) | (with_reducible refine Below.alloc ?_ ?_ _) | (with_reducible refine Below.drew ?_) | (with_reducible refine Below.drewN' ?_ _) | (with_reducible refine Below.setCell ?_ ?_ _) | (refine Below.via ?_ (by with_reducible assumption) ?_) | (with_reducible refine Below.via ?_ (Wd.h _) ?_) | go_size)))) hl (HM.out.below (by (repeat' (first | (with_reducible exact Below.refl _ _) | (with_reducible assumption) | (with_reducible refine Below.alloc ?_ ?_ _) | (with_reducible refine Below.drew ?_) | (with_reducible refine Below.drewN' ?_ _) | (with_reducible refine Below.setCell ?_ ?_ _) | (refine Below.via ?_ (by with_reducible assumption) ?_) | (with_reducible refine Below.via ?_ (Wd.h _) ?_) | go_size)))) hl')).made HE.out).mono ?_
    rintro e w1 ⟨G, c1, rfl, hc1, hW1, hb1⟩
    clear hW1
    go_wp2
    go_ret2
    exact MadeR.nil HR.out rfl (by (repeat' (first | (with_reducible exact Below.refl _ _) | (with_reducible assumption) | (with_reducible refine Below.alloc ?_ ?_ _) | (with_reducible refine Below.drew ?_) | (with_reducible refine Below.drewN' ?_ _) | (with_reducible refine Below.setCell ?_ ?_ _) | (refine Below.via ?_ (by with_reducible assumption) ?_) | (with_reducible refine Below.via ?_ (Wd.h _) ?_) | go_size)))
  obtain ⟨am, ham⟩ : ∃ am, am = amL lb ln hr := ⟨_, rfl⟩
  have HE := Lib.hid (show amR N lb ln hr = (am, 0) by rw [ham]; exact hea)
  have HBA := Lib.hid (show ∀ y ∈ am, 0 ≤ y ∧ y ≤ 30000 by rw [ham]; exact amL_bd h0)
  have HLA := Lib.hid (show am.length = lb.length by rw [ham, amL_len])
  have HO := Lib.hid (book_of (noms_of h0).1)
  have h32 := (book_of (noms_of h0).1).2.1
  have HRS := Lib.hid (show nsR N lb ln hr = (if supB N.nodes.length (nsL N.nodes.length lb am) = false then ([], 7) else (nsL N.nodes.length lb am, 0)) by rw [nsR, hea, ham]; simp)
  clear h0 hea ham
  obtain ⟨acc, hacc⟩ : ∃ acc, acc = nsL N.nodes.length lb am := ⟨_, rfl⟩
  have HEE := Lib.hid hacc
  have HAL := Lib.hid (show acc.length = N.nodes.length by rw [hacc, nsL_len])
  clear hacc
  cases hs : supB N.nodes.length acc
  all_goals
    go_enter Try.func7, Try.ntmps7
    go_wp2_with fail
    refine (((spec_AmountsIn _ _ _ _ _ _ _ _ _ _ N lb ln hr _ (HN.out.below (by (repeat' (first | (with_reducible exact Below.refl _ _) | (with_reducible assumption) | (with_reducible refine Below.alloc ?_ ?_ _) | (with_reducible refine Below.drew ?_) | (with_reducible refine Below.drewN' ?_ _) | (with_reducible refine Below.setCell ?_ ?_ _) | (refine Below.via ?_ (by with_reducible assumption) ?_) | (with_reducible refine Below.via ?_ (Wd.h _) ?_) | go_size)))) rfl rfl (HB.out.below (by (repeat' (first | (with_reducible exact Below.refl _ _) | (with_reducible assumption) | (with_reducible refine Below.alloc ?_ ?_ _) | (with_reducible refine Below.drew ?_) | (with_reducible refine Below.drewN' ?_ _) | (with_reducible refine Below.setCell ?_ ?_ _) | (refine Below.via ?_ (by with_reducible assumption) ?_) | (with_reducible refine Below.via ?_ (Wd.h _) ?_) | go_size)))) hl (HM.out.below (by (repeat' (first | (with_reducible exact Below.refl _ _) | (with_reducible assumption) | (with_reducible refine Below.alloc ?_ ?_ _) | (with_reducible refine Below.drew ?_) | (with_reducible refine Below.drewN' ?_ _) | (with_reducible refine Below.setCell ?_ ?_ _) | (refine Below.via ?_ (by with_reducible assumption) ?_) | (with_reducible refine Below.via ?_ (Wd.h _) ?_) | go_size)))) hl')).made HE.out).mono ?_
    rintro e w1 ⟨G, c1, rfl, hc1, hW1, hb1⟩
    have HW1 := Lib.hid hW1
    clear hW1
    (obtain ⟨hcn, hfn⟩ := bcell hb1; have hz1 := hb1.size; (try simp at hz1); have Ncw0_0 := hcn (w.heap.size) (0) (by first | omega | (simp; done) | (simp; omega)); have Nfw0_0 := hfn (w.heap.size) (0) (by first | omega | (simp; done) | (simp; omega)); have Nhy0 : w.heap.size < w1.heap.size := (by omega); have Ncw0_1 := hcn (w.heap.size) (1) (by first | omega | (simp; done) | (simp; omega)); have Nfw0_1 := hfn (w.heap.size) (1) (by first | omega | (simp; done) | (simp; omega)); simp [go_sem] at Ncw0_0 Nfw0_0 Ncw0_1 Nfw0_1; clear hcn hfn; have cw0_0 := Ncw0_0; have fw0_0 := Nfw0_0; have cw0_1 := Ncw0_1; have fw0_1 := Nfw0_1; have hy0 := Nhy0; clear Ncw0_0 Nfw0_0 Ncw0_1 Nfw0_1 Nhy0)
    go_wp2_with fail
    refine (spec_l21Supplies _ _ _ _ _ _ _ _ _ _ N lb am _ rfl hln (HB.out.below (by (repeat' (first | (with_reducible exact Below.refl _ _) | (with_reducible assumption) | (with_reducible refine Below.alloc ?_ ?_ _) | (with_reducible refine Below.drew ?_) | (with_reducible refine Below.drewN' ?_ _) | (with_reducible refine Below.setCell ?_ ?_ _) | (refine Below.via ?_ (by with_reducible assumption) ?_) | (with_reducible refine Below.via ?_ (Wd.h _) ?_) | go_size)))) h32 HO.out.2.2 HW1.out.rd HLA.out HBA.out).mono ?_
    rintro e w2 ⟨G2, c2, rfl, hc2, hW2, hb2⟩
    rw [← HEE.out] at hW2
    have HW2 := Lib.hid hW2
    clear hW2
    (obtain ⟨hcn, hfn⟩ := bcell hb2; have hz2 := hb2.size; (try simp at hz2); have Ncw0_0 := hcn (w.heap.size) (0) (by first | omega | (simp; done) | (simp; omega)); have Nfw0_0 := hfn (w.heap.size) (0) (by first | omega | (simp; done) | (simp; omega)); have Nhy0 : w.heap.size < w2.heap.size := (by omega); have Ncw0_1 := hcn (w.heap.size) (1) (by first | omega | (simp; done) | (simp; omega)); have Nfw0_1 := hfn (w.heap.size) (1) (by first | omega | (simp; done) | (simp; omega)); simp [go_sem, cw0_0, fw0_0, cw0_1, fw0_1, hy0] at Ncw0_0 Nfw0_0 Ncw0_1 Nfw0_1; clear cw0_0 fw0_0 cw0_1 fw0_1 hy0; clear hcn hfn; have cw0_0 := Ncw0_0; have fw0_0 := Nfw0_0; have cw0_1 := Ncw0_1; have fw0_1 := Nfw0_1; have hy0 := Nhy0; clear Ncw0_0 Nfw0_0 Ncw0_1 Nfw0_1 Nhy0)
    go_wp2_with fail
    refine (spec_l06List' _ _ _ _ _ _ _ _ _ acc _ hln HW2.out.rd HAL.out hln).mono ?_
    rintro e w3 ⟨rfl, hb3⟩
    go_wp2
    go_ret2
    first
      | (exact MadeR.nil (show nsR N lb ln hr = ([], 7) by rw [HRS.out, ← HEE.out, if_pos hs]) rfl (by (repeat' (first | (with_reducible exact Below.refl _ _) | (with_reducible assumption) | (with_reducible refine Below.alloc ?_ ?_ _) | (with_reducible refine Below.drew ?_) | (with_reducible refine Below.drewN' ?_ _) | (with_reducible refine Below.setCell ?_ ?_ _) | (refine Below.via ?_ (by with_reducible assumption) ?_) | (with_reducible refine Below.via ?_ (Wd.h _) ?_) | go_size))))
      | (exact MadeR.ofWr (show nsR N lb ln hr = (acc, 0) by rw [HRS.out, ← HEE.out, if_neg (by simp [hs])]) HAL.out hc2 ((HW2.out.lower (by omega)).below hb3) (by (repeat' (first | (with_reducible exact Below.refl _ _) | (with_reducible assumption) | (with_reducible refine Below.alloc ?_ ?_ _) | (with_reducible refine Below.drew ?_) | (with_reducible refine Below.drewN' ?_ _) | (with_reducible refine Below.setCell ?_ ?_ _) | (refine Below.via ?_ (by with_reducible assumption) ?_) | (with_reducible refine Below.via ?_ (Wd.h _) ?_) | go_size))))
end Go.Proofs.Ytlbidcblpmdgaaa
namespace Go.Proofs.Ytlbidcblpmdgaaa
set_option linter.unusedVariables false
set_option linter.unusedSimpArgs false
open Go.RowKit Go.Shelf
attribute [local go_sem] Oper.semAt_some
def mtB (con hr : Int) (x : Nom) : Bool := (x.con == con) && (x.hr == hr)
def Nom.zero : Nom := ⟨0, 0, 0, 0⟩
theorem rd_lt {w : World} {D : Option Addr} {ls : List Nom} {b off : Nat} (hR : Rd w D (ls.flatMap Nom.cells)) (e : D = some ⟨b, off, none⟩) (hne : ls ≠ []) : b < w.heap.size := by
  subst e
  obtain ⟨b', off', e', hb', _⟩ := hR (by
    cases ls with
    | nil => exact absurd rfl hne
    | cons x l => simp [Nom.cells])
  injection e' with e'
  injection e' with e1
  omega
/-- what comes in round j -/
def bkAt (ls : List Nom) (j : Nat) : Nat × Nom := (ls.length - 1 - j, ls[ls.length - 1 - j]?.getD Nom.zero)
/-- what has come when k rounds are over -/
def bkUp (ls : List Nom) (k : Nat) : List (Nat × Nom) := (List.range k).map (bkAt ls)
theorem bkUp_succ (ls : List Nom) (k : Nat) : bkUp ls (k + 1) = bkUp ls k ++ [bkAt ls k] := by simp [bkUp, List.range_succ]
theorem bkUp_len (ls : List Nom) (k : Nat) : (bkUp ls k).length = k := by simp [bkUp]
set_option maxRecDepth 100000 in
set_option maxHeartbeats 4000000 in
theorem back1_in (F : Fence) (n : Nat) (hf : F.fn 56) (hro : F.round = none) (hn : 1 ≤ n) (l Bs n₀ c : Nat) (A : Option Addr) (ls : List Nom) (hlen : ls.length ≤ 1048576) (J Jx : List (Nat × Nom) → World → Prop)
    (hY : ∀ pre x W, J pre W → pre.length < ls.length → YieldAt F (n - 1) Try.prog l #[.int .i64 (x.1 : Int), x.2.val] W fun e W' =>
      (e = .returned (.bool true) ∧ J (pre ++ [x]) W' ∧ Below n₀ W W') ∨ (e = .returned (.bool false) ∧ Jx (pre ++ [x]) W'))
    (W : World) (hBl : Bs < n₀) (hn0 : n₀ ≤ W.heap.size) (hBs : W.cell? ⟨Bs, 0, none⟩ = some (.slice A ls.length c)) (hR : Rd W A (ls.flatMap Nom.cells)) (hA : ∀ b off, A = some ⟨b, off, none⟩ → ls ≠ [] → b < n₀) (h0 : J [] W) :
    CallsIn F n Try.prog 56 #[.func (.yield l) #[] #[], .pointer (some ⟨Bs, 0, none⟩)] W fun e W' => (∃ v, e = .returned v) ∧
      ((∃ ys, ys = bkUp ls ls.length ∧ J ys W') ∨ (∃ pre, (∃ k, k ≤ ls.length ∧ pre = bkUp ls k) ∧ Jx pre W')) := by
  refine callsIn_of_wp Try.func56 rfl hf ?_ hro
  simp only [Try.ntmps56, List.size_toArray, List.length_cons, List.length_nil, Nat.reduceAdd, Nat.reduceSub, Array.replicate_succ, Array.replicate_zero, List.push_toArray, List.append_toArray, List.nil_append, List.cons_append]
  gi_wp2
  gi_loopw [3] (fun i wr => ∃ j : Nat, j ≤ ls.length ∧ i = .int .i64 ((j : Int) - 1) ∧ J (bkUp ls (ls.length - j)) wr ∧ Below n₀ W wr)
    (fun i _ => (intOf i + 1).toNat)
  case atStart => exact ⟨ls.length, Nat.le_refl _, rfl, by rw [Nat.sub_self]; exact h0, Below.refl _ _⟩
  case round =>
    obtain ⟨j, hj, hv, hJs, hnx⟩ := hrel
    have hBx : wr.cell? ⟨Bs, 0, none⟩ = some (.slice A ls.length c) := (hnx.cell (p := ⟨Bs, 0, none⟩) hBl).trans hBs
    cases j with
    | zero =>
      have hv' := hv.trans (show Value.int .i64 (((0 : Nat) : Int) - 1) = .int .i64 (-1) by simp)
      clear hv
      subst hv'
      gi_wp2
      go_end0
      exact ⟨⟨_, rfl⟩, .inl ⟨_, rfl, by simpa using hJs⟩⟩
    | succ i =>
      have hv' := hv.trans (show Value.int .i64 (((i + 1 : Nat) : Int) - 1) = .int .i64 (i : Int) by congr 1; omega)
      clear hv
      subst hv'
      obtain ⟨x, hx⟩ := get_some (show i < ls.length by omega)
      obtain ⟨b, off, rfl, hb, hat⟩ := hR.opened (k := i) (by rw [flat_len Nom.len]; omega)
      have hb0 := hA b off rfl (by rintro rfl; simp at hx)
      have t0 := (hnx.cell (p := ⟨b, off + i * 4, none⟩) hb0).trans (hat.elem0 Nom.len hx rfl)
      have t1 := (hnx.cell (p := ⟨b, off + i * 4 + 1, none⟩) hb0).trans (hat.elem Nom.len hx 1 rfl)
      have t2 := (hnx.cell (p := ⟨b, off + i * 4 + 2, none⟩) hb0).trans (hat.elem Nom.len hx 2 rfl)
      have t3 := (hnx.cell (p := ⟨b, off + i * 4 + 3, none⟩) hb0).trans (hat.elem Nom.len hx 3 rfl)
      have g1 : (i : Int) < ls.length := by omega
      have HUP := Lib.hid (show bkUp ls (ls.length - (i + 1)) ++ [((i : Nat), x)] = bkUp ls (ls.length - i) by
        rw [show ls.length - i = (ls.length - (i + 1)) + 1 by omega, bkUp_succ, bkAt]
        rw [show ls.length - 1 - (ls.length - (i + 1)) = i by omega, hx]; rfl)
      obtain ⟨fn, tmps, assign, body, hy, hRR⟩ := hY _ (i, x) wr hJs (by rw [bkUp_len]; omega)
      dsimp only at hy
      clear hx hat
      gi_wp2
      refine hRR.mono ?_
      rintro e W3 (⟨rfl, hJ3, hk3⟩ | ⟨rfl, hJx3⟩)
      · gi_wp2
        go_roundw
        case rel => exact ⟨i, by omega, rfl, by rw [← HUP.out]; exact hJ3, hnx.trans hk3⟩
        case measure => first | (simp [intOf]; done) | (simp [intOf]; omega)
      · gi_wp2
        refine bodyPost_ret (results_none rfl _ _ _) rfl ?_
        exact ⟨⟨_, rfl⟩, .inr ⟨_, ⟨ls.length - i, by omega, HUP.out⟩, hJx3⟩⟩
set_option maxHeartbeats 1000000 in
theorem back_in (F : Fence) (n : Nat) (hf : F.fn 40) (hro : F.round = none) (a : Option Addr) (len cap : Nat) (w : World) :
    CallsIn F n Try.prog 40 #[.slice a len cap] w fun e w' => e = .returned (.func (.func 56) #[] #[.pointer (some ⟨w.heap.size, 0, none⟩)]) ∧ w' = w.alloc (.cells #[.slice a len cap] 29) := by
  refine callsIn_of_wp Try.func40 rfl hf ?_ hro
  simp only [Try.ntmps40, List.size_toArray, List.length_cons, List.length_nil, Nat.reduceAdd, Nat.reduceSub, Array.replicate_succ, Array.replicate_zero, List.push_toArray, List.append_toArray, List.nil_append, List.cons_append]
  gi_wp2
  go_ret
  exact ⟨rfl, rfl⟩
theorem back_stops (F : Fence) (n : Nat) (hf : F.fn 56) (hro : F.round = none) (hn : 1 ≤ n) (Bs n₀ c : Nat) (A : Option Addr) (ls : List Nom) (hlen : ls.length ≤ 1048576) (w : World) (hBl : Bs < n₀) (hn0 : n₀ ≤ w.heap.size)
    (hc : w.cell? ⟨Bs, 0, none⟩ = some (.slice A ls.length c)) (hR : Rd w A (ls.flatMap Nom.cells)) (hA : ∀ b off, A = some ⟨b, off, none⟩ → ls ≠ [] → b < n₀) :
    SeqStopsK F n Try.prog 56 #[.pointer (some ⟨Bs, 0, none⟩)] (fun x : Nat × Nom => #[Value.int .i64 (x.1 : Int), x.2.val]) (Below n₀) (fun ys => ys = bkUp ls ls.length)
      (fun pre => ∃ k, k ≤ ls.length ∧ pre = bkUp ls k) ls.length w := fun l J Jx W hW _ _ hY h0 =>
  back1_in F n hf hro hn l Bs n₀ c A ls hlen J Jx hY W hBl (Nat.le_trans hn0 hW.size) ((hW.cell (p := ⟨Bs, 0, none⟩) (Nat.lt_of_lt_of_le hBl hn0)).trans hc) (hR.below hW) hA h0
/-- r is the last place of a nomination for a contract and an hour, -1 if there is none -/
def LastP (con hr : Int) (ls : List Nom) (r : Int) : Prop :=
  (r = -1 ∧ ∀ x ∈ ls, mtB con hr x = false) ∨ ∃ (k : Nat) (x : Nom), r = k ∧ ls[k]? = some x ∧ mtB con hr x = true ∧ ∀ (j : Nat) (y : Nom), k < j → ls[j]? = some y → mtB con hr y = false
def LastPost (w : World) (con hr : Int) (ls : List Nom) (e : Ending) (w' : World) : Prop := ∃ r, e = .returned (.int .i64 r) ∧ LastP con hr ls r ∧ Below w.heap.size w w'
theorem bk_mem {ls : List Nom} {k : Nat} (hk : k ≤ ls.length) {j : Nat} {y : Nom} (hj : ls.length - k ≤ j) (hy : ls[j]? = some y) : (j, y) ∈ bkUp ls k := by
  have hlt := (List.getElem?_eq_some_iff.1 hy).1
  refine List.mem_map.2 ⟨ls.length - 1 - j, List.mem_range.2 (by omega), ?_⟩
  rw [bkAt, show ls.length - 1 - (ls.length - 1 - j) = j by omega, hy]; rfl
/-- the box of a round's nomination -/
def NBox (W : World) (B : Nat) (x : Nom) : Prop := W.heap[B]? = some (.cells #[.int .i64 x.con, .int .i64 x.hr, .int .i64 x.sent, .int .i64 x.am] 50 (0, 0))
theorem NBox.cell {W : World} {B : Nat} {x : Nom} (h : NBox W B x) (i : Nat) {v : Value} (e : (#[Value.int .i64 x.con, .int .i64 x.hr, .int .i64 x.sent, .int .i64 x.am] : Array Value)[i]? = some v) : W.cell? ⟨B, i, none⟩ = some v :=
  (cell_of_row W B i _ _ (0, 0) h).trans e
set_option maxRecDepth 100000 in
set_option maxHeartbeats 4000000 in
theorem last_in (F : Fence) (n : Nat) (h1f : F.fn 26) (h2f : F.fn 40) (h3f : F.fn 56) (hro : F.round = none) (hn : 3 ≤ n) (D : Option Addr) (f : Nat) (ls : List Nom) (con hr : Int) (w : World) (hlen : ls.length ≤ 1048576) (hR : Rd w D (ls.flatMap Nom.cells)) :
    CallsIn F n Try.prog 26 #[.slice D ls.length f, .int .i64 con, .int .i64 hr] w (LastPost w con hr ls) := by
  have h1 : 1 ≤ n := by omega
  refine callsIn_of_wp_marks Try.func26 rfl h1f ?_ hro
  simp only [Try.ntmps26, List.size_toArray, List.length_cons, List.length_nil, Nat.reduceAdd, Nat.reduceSub, Array.replicate_succ, Array.replicate_zero, List.push_toArray, List.append_toArray, List.nil_append, List.cons_append]
  gi_wp2_with (gi_at_call 40; refine (back_in F (n - 1) h2f hro _ _ _ _).mono ?_; rintro e w' ⟨rfl, rfl⟩)
  have bC := (((Boxed.new w 2 (.int .i64 con)).alloc (.cells #[.int .i64 hr] 2)).alloc (.cells #[.int .i64 0] 3)).alloc (.cells #[.slice D ls.length f] 29)
  have bH := ((Boxed.new (w.alloc (.cells #[.int .i64 con] 2)) 2 (.int .i64 hr)).alloc (.cells #[.int .i64 0] 3)).alloc (.cells #[.slice D ls.length f] 29)
  have bR := (Boxed.new ((w.alloc (.cells #[.int .i64 con] 2)).alloc (.cells #[.int .i64 hr] 2)) 3 (.int .i64 0)).alloc (.cells #[.slice D ls.length f] 29)
  have bS := Boxed.new (((w.alloc (.cells #[.int .i64 con] 2)).alloc (.cells #[.int .i64 hr] 2)).alloc (.cells #[.int .i64 0] 3)) 29 (.slice D ls.length f)
  simp only [World.size_alloc] at bC bH bR bS
  have hB0 : Below w.heap.size w ((((w.alloc (.cells #[.int .i64 con] 2)).alloc (.cells #[.int .i64 hr] 2)).alloc (.cells #[.int .i64 0] 3)).alloc (.cells #[.slice D ls.length f] 29)) := ((((Below.refl _ w).alloc (Nat.le_refl _) _).alloc (by simp) _).alloc (by simp; omega) _).alloc (by simp; omega) _
  have hsz : ((((w.alloc (.cells #[.int .i64 con] 2)).alloc (.cells #[.int .i64 hr] 2)).alloc (.cells #[.int .i64 0] 3)).alloc (.cells #[.slice D ls.length f] 29)).heap.size = w.heap.size + 4 := by simp
  obtain ⟨W0, hW0⟩ : ∃ W0, (((w.alloc (.cells #[.int .i64 con] 2)).alloc (.cells #[.int .i64 hr] 2)).alloc (.cells #[.int .i64 0] 3)).alloc (.cells #[.slice D ls.length f] 29) = W0 := ⟨_, rfl⟩
  rw [hW0] at bC bH bR bS hB0 hsz ⊢
  clear hW0
  refine wpIn_rangeFunc_ownH hro h1 (gf := 56) (lb := #[.pointer (some ⟨w.heap.size + 1 + 1 + 1, 0, none⟩)]) rfl h3f (enters_of Try.func56 (by kernel_rfl) rfl)
    (back_stops F (n - 1) h3f hro (by omega) (w.heap.size + 1 + 1 + 1) (w.heap.size + 4) f D ls hlen W0 (by omega) (by omega) bS.cell (hR.below hB0) (fun b off e hne => by have := rd_lt hR e hne; omega)) belowK_t (belowK_b (by omega)) (Below.refl _ _) (fun _ => rfl)
    (fun pre W => ((∀ p ∈ pre, mtB con hr p.2 = false) ∧ Boxed W (w.heap.size + 1 + 1) 3 (.int .i64 0) ∧ Boxed W w.heap.size 2 (.int .i64 con) ∧ Boxed W (w.heap.size + 1) 2 (.int .i64 hr) ∧ Boxed W (w.heap.size + 1 + 1 + 1) 29 (.slice D ls.length f)) ∧ Below w.heap.size w W)
    (fun c pre W => (c = .ret ∧ ∃ ini last, pre = ini ++ [last] ∧ (∀ p ∈ ini, mtB con hr p.2 = false) ∧ mtB con hr last.2 = true ∧ W.cell? ⟨w.heap.size + 1 + 1, 0, none⟩ = some (.int .i64 (last.1 : Int))) ∧ Below w.heap.size w W)
    (OwnFrom.and (OwnFrom.and (ownFrom_pure _ _) (OwnFrom.and (Go.Own.from (boxed_own _ _ _) _) (OwnFrom.and (Go.Own.from (boxed_own _ _ _) _) (OwnFrom.and (Go.Own.from (boxed_own _ _ _) _) (Go.Own.from (boxed_own _ _ _) _))))) (ownFrom_below (Nat.le_refl _) (by omega)))
    (fun c => OwnFrom.and (Go.Own.from (fun s A B row hs hg hr' => by obtain ⟨hc, ini, last, e1, e2, e3, e4⟩ := hs; exact ⟨hc, ini, last, e1, e2, e3, cell_kept e4 hg hr'⟩) _) (ownFrom_below (Nat.le_refl _) (by omega)))
    ⟨⟨by simp, bR, bC, bH, bS⟩, hB0⟩
    (fun x a' W => ∃ Bx, w.heap.size + 1 + 1 + 1 < Bx ∧ NBox W Bx x.2 ∧ a' = { tmps := #[.slice D ls.length f, .int .i64 con, .int .i64 hr, undef, .pointer (some ⟨w.heap.size, 0, none⟩), .pointer (some ⟨w.heap.size + 1, 0, none⟩), .pointer (some ⟨w.heap.size + 1 + 1, 0, none⟩), .int .i64 (x.1 : Int), .pointer (some ⟨Bx, 0, none⟩), .slice D ls.length f, .func (.func 56) #[] #[.pointer (some ⟨w.heap.size + 1 + 1 + 1, 0, none⟩)], .int .i64 (x.1 : Int), x.2.val, undef, undef, undef, undef, undef, undef, undef, undef, undef, undef, undef], defers := [] })
    (fun x a' _ X Y row hs hg hr' => by obtain ⟨Bx, q1, q2, q3⟩ := hs; exact ⟨Bx, q1, (grownBy_keeps_cells hg (fun r e => (hr' r e).2) q2 rfl).trans q2, q3⟩)
    ?assign ?body ?done ?stop
  case assign =>
    rintro l pre x W K ⟨⟨hp, bR1, bC1, bH1, bS1⟩, hB1⟩ hK
    have hlt := bS1.lt
    gi_wp2
    exact hK _ _ ((KeepsOthers.alloc _ _).from _) ((Below.refl _ W).alloc (by omega) _) ⟨⟨hp, bR1.alloc _, bC1.alloc _, bH1.alloc _, bS1.alloc _⟩, hB1.alloc hB1.size _⟩ ⟨W.heap.size, hlt, World.alloc_heap_new W _, rfl⟩
  case body =>
    rintro l pre x a' W hl ⟨r, hr2⟩ ⟨⟨hp, bR1, bC1, bH1, bS1⟩, hB1⟩ ⟨Bx, hBx, bX, rfl⟩ hlt
    have cC := bC1.cell
    have cH := bH1.cell
    have cR := bR1.cell
    have fR := bR1.frozen
    have x0 := bX.cell 0 rfl
    have x1 := bX.cell 1 rfl
    cases m1 : (x.2.con == con)
    · have hm : mtB con hr x.2 = false := by simp only [mtB, m1, Bool.false_and]
      gi_wp2
      exact ⟨KeepsFrom.refl _ _, Below.refl _ _, ⟨fun p hp' => (List.mem_append.1 hp').elim (hp p) (fun e => by simp at e; subst e; exact hm), bR1, bC1, bH1, bS1⟩, hB1⟩
    cases m2 : (x.2.hr == hr)
    · have hm : mtB con hr x.2 = false := by simp only [mtB, m1, m2, Bool.true_and]
      gi_wp2
      exact ⟨KeepsFrom.refl _ _, Below.refl _ _, ⟨fun p hp' => (List.mem_append.1 hp').elim (hp p) (fun e => by simp at e; subst e; exact hm), bR1, bC1, bH1, bS1⟩, hB1⟩
    · have hm : mtB con hr x.2 = true := by simp only [mtB, m1, m2, Bool.true_and]
      gi_wp2
      exact ⟨(KeepsOthers.setCell _ _ _).from _, ⟨rfl, pre, x, rfl, hp, hm, World.cell?_setCell_same' _ _ _ (by rw [cR]; rfl)⟩, hB1.setCell (p := ⟨w.heap.size + 1 + 1, 0, none⟩) (by simp; omega) _⟩
  case done =>
    rintro D' ys W hD' rfl ⟨⟨hp, bR1, bC1, bH1, bS1⟩, hB1⟩ hK
    have cR := bR1.cell
    have fR := bR1.frozen
    gi_wp2
    have hK' := (KeepsOthers.setCell W ⟨w.heap.size + 1 + 1, 0, none⟩ (.int .i64 (-1))).same D' _ hK rfl
    refine ⟨by simp, .inl ⟨_, _, rfl, run_takeDeferred hK', ?_⟩⟩
    have hc5 := cell_kept (World.cell?_setCell_same' W ⟨w.heap.size + 1 + 1, 0, none⟩ (.int .i64 (-1)) (by rw [cR]; rfl)) (grownBy_putObj' _ D' (.deferred none)) (fun r e => by cases e; exact ⟨_, hK', rfl⟩)
    refine ⟨.int .i64 (-1), ?_, ⟨-1, rfl, .inl ⟨rfl, fun x hx => ?_⟩, (hB1.setCell (p := ⟨w.heap.size + 1 + 1, 0, none⟩) (by simp; omega) _).trans (belowK_b (w := w) (Nat.le_refl _) _ D' _ _ (by omega) hK' rfl rfl)⟩⟩
    · simp [results, Try.results26, go_sem, hc5]
    · obtain ⟨j, hj⟩ := List.getElem?_of_mem hx
      exact hp (j, x) (bk_mem (Nat.le_refl _) (by omega) hj)
  case stop =>
    rintro D' c pre W hD' ⟨k, hk, rfl⟩ ⟨⟨rfl, ini, last, e1, e2, e3, hcr⟩, hB1⟩ hK
    gi_wp2
    refine ⟨by simp, .inl ⟨_, _, rfl, run_takeDeferred hK, ?_⟩⟩
    have hc5 := cell_kept hcr (grownBy_putObj' _ D' (.deferred none)) (fun r e => by cases e; exact ⟨_, hK, rfl⟩)
    obtain ⟨k', rfl⟩ : ∃ k', k = k' + 1 := by
      cases k with
      | zero => simp [bkUp] at e1
      | succ k' => exact ⟨k', rfl⟩
    rw [bkUp_succ] at e1
    obtain ⟨rfl, e5⟩ := List.append_inj' e1 rfl
    obtain rfl : bkAt ls k' = last := by simpa using e5
    obtain ⟨x, hx⟩ := get_some (show ls.length - 1 - k' < ls.length by omega)
    have ex : (bkAt ls k').2 = x := by rw [bkAt, hx]; rfl
    rw [ex] at e3
    refine ⟨.int .i64 ((bkAt ls k').1 : Int), ?_, ⟨_, rfl, .inr ⟨(bkAt ls k').1, x, rfl, hx, e3, fun j y hj hy => e2 (j, y) (bk_mem (by omega) (by simp only [bkAt] at hj; omega) hy)⟩, hB1.trans (belowK_b (w := w) (Nat.le_refl _) W D' _ _ (by omega) hK rfl rfl)⟩⟩
    simp [results, Try.results26, go_sem, hc5]
theorem impl_lastNomination (D : Option Addr) (f : Nat) (ls : List Nom) (con hr : Int) (w : World) (hlen : ls.length ≤ 1048576) (hR : Rd w D (ls.flatMap Nom.cells)) :
    Calls Try.prog 26 #[.slice D ls.length f, .int .i64 con, .int .i64 hr] w (LastPost w con hr ls) :=
  (callsIn_wide (n := 3)).1 (last_in Fence.wide 3 trivial trivial trivial rfl (by omega) D f ls con hr w hlen hR)
end Go.Proofs.Ytlbidcblpmdgaaa
namespace Go.Proofs.Ytlbidcblpmdgaaa
set_option linter.unusedVariables false
set_option linter.unusedSimpArgs false
open Go.RowKit
theorem hisF_append (con hr : Int) : ∀ (a b : List Nom), hisF con hr (a ++ b) = hisF con hr a ++ hisF con hr b
  | [], b => by simp [hisF]
  | x :: a, b => by
    rw [List.cons_append, hisF, hisF, hisF_append con hr a b]
    split <;> simp
theorem hisF_none {con hr : Int} : ∀ {l : List Nom}, (∀ x ∈ l, mtB con hr x = false) → hisF con hr l = []
  | [], _ => rfl
  | x :: l, h => by
    have h1 := h x (by simp)
    rw [hisF, hisF_none (fun y hy => h y (by simp [hy]))]
    simp only [mtB] at h1
    rw [h1]; rfl
theorem last_his {con hr : Int} {ls : List Nom} {r : Int} (h : LastP con hr ls r) : (r = -1 ∧ hisF con hr ls = []) ∨ ∃ (k : Nat) (x : Nom), r = k ∧ ls[k]? = some x ∧ ∃ pre, hisF con hr ls = pre ++ [x.am] := by
  rcases h with ⟨rfl, hn⟩ | ⟨k, x, rfl, hx, hm, hj⟩
  · exact .inl ⟨rfl, hisF_none hn⟩
  · refine .inr ⟨k, x, rfl, hx, hisF con hr (ls.take k), ?_⟩
    have e : ls = ls.take k ++ (x :: ls.drop (k + 1)) := by rw [← drop_consI hx, List.take_append_drop]
    have e2 : hisF con hr (ls.drop (k + 1)) = [] := hisF_none (fun y hy => by
      obtain ⟨i, hi⟩ := List.getElem?_of_mem hy
      rw [List.getElem?_drop] at hi
      exact hj (k + 1 + i) y (by omega) hi)
    conv => lhs; rw [e]
    rw [hisF_append, hisF, e2]
    simp only [mtB] at hm
    rw [hm]; rfl
noncomputable def nfR (N : Net) (lb : List Ctr) (ln : List Nom) (con hr : Int) : Int × Int :=
  if askC N lb ln con hr ≠ 0 then (0, askC N lb ln con hr) else match (hisF con hr ln).getLast? with
    | none => (0, 4)
    | some a => (a, 0)
theorem nfR_nil {N : Net} {lb : List Ctr} {ln : List Nom} {con hr : Int} (h : askC N lb ln con hr = 0) (hh : hisF con hr ln = []) : nfR N lb ln con hr = (0, 4) := by simp [nfR, h, hh]
theorem nfR_some {N : Net} {lb : List Ctr} {ln : List Nom} {con hr a : Int} {pre : List Int} (h : askC N lb ln con hr = 0) (hh : hisF con hr ln = pre ++ [a]) : nfR N lb ln con hr = (a, 0) := by simp [nfR, h, hh]
set_option maxRecDepth 100000 in
set_option maxHeartbeats 4000000 in
theorem impl_NominatedFor (A B C D : Option Addr) (n c m d e f : Nat) (N : Net) (lb : List Ctr) (ln : List Nom) (con hr : Int) (w : World) (hN : NetAt w A B N) (hn : n = N.nodes.length) (hm : m = N.pipes.length) (hc : n ≤ c) (h : Rd w C (lb.flatMap Ctr.cells)) (hl : lb.length ≤ 1048576) (h' : Rd w D (ln.flatMap Nom.cells)) (hl' : ln.length ≤ 1048576) :
    Calls Try.prog 11 #[netV A B n c m d, .slice C lb.length e, .slice D ln.length f, .int .i64 con, .int .i64 hr] w fun e w' => e = .returned (.tuple #[.int .i64 (nfR N lb ln con hr).1, .int .i64 (nfR N lb ln con hr).2]) ∧ Below w.heap.size w w' := by
  subst hn hm
  have HN := Lib.hid hN
  have HB := Lib.hid h
  have HM := Lib.hid h'
  have hln := hN.ln
  clear hN h h'
  by_cases h0 : nomsC N lb ln = 0
  · have b0 : (nomsC N lb ln != 0) = false := by simp [h0]
    have H0 := Lib.hid h0
    clear h0
    cases hs : inB con 0 ((lb.length : Int) - 1)
    · have HR := Lib.hid (show nfR N lb ln con hr = (0, 2) by simp [nfR, askC, H0.out, hs])
      (go_enter Try.func11, Try.ntmps11; go_wp2_with (first | (go_at_call 19; ((with_reducible refine (impl_checkNominations _ _ _ _ _ _ _ _ _ _ N lb ln _ (by exact HN.out.below (by (repeat' (first | (with_reducible exact Below.refl _ _) | (with_reducible assumption) | (with_reducible refine Below.alloc ?_ ?_ _) | (with_reducible refine Below.drew ?_) | (with_reducible refine Below.drewN' ?_ _) | (with_reducible refine Below.setCell ?_ ?_ _) | (refine Below.via ?_ (by with_reducible assumption) ?_) | (with_reducible refine Below.via ?_ (Wd.h _) ?_) | go_size)))) rfl rfl (by omega) (by exact HB.out.below (by (repeat' (first | (with_reducible exact Below.refl _ _) | (with_reducible assumption) | (with_reducible refine Below.alloc ?_ ?_ _) | (with_reducible refine Below.drew ?_) | (with_reducible refine Below.drewN' ?_ _) | (with_reducible refine Below.setCell ?_ ?_ _) | (refine Below.via ?_ (by with_reducible assumption) ?_) | (with_reducible refine Below.via ?_ (Wd.h _) ?_) | go_size)))) (by omega) (by exact HM.out.below (by (repeat' (first | (with_reducible exact Below.refl _ _) | (with_reducible assumption) | (with_reducible refine Below.alloc ?_ ?_ _) | (with_reducible refine Below.drew ?_) | (with_reducible refine Below.drewN' ?_ _) | (with_reducible refine Below.setCell ?_ ?_ _) | (refine Below.via ?_ (by with_reducible assumption) ?_) | (with_reducible refine Below.via ?_ (Wd.h _) ?_) | go_size)))) (by omega)).mono ?_)); rintro e wn ⟨rfl, hbn⟩; (obtain ⟨hcn, hfn⟩ := bcell hbn; have hzn := hbn.size; (try simp at hzn); have Ncw0_0 := hcn (w.heap.size) (0) (by first | omega | (simp; done) | (simp; omega)); have Nfw0_0 := hfn (w.heap.size) (0) (by first | omega | (simp; done) | (simp; omega)); have Nhy0 : w.heap.size < wn.heap.size := (by omega); have Ncw0_1 := hcn (w.heap.size) (1) (by first | omega | (simp; done) | (simp; omega)); have Nfw0_1 := hfn (w.heap.size) (1) (by first | omega | (simp; done) | (simp; omega)); (first | (simp [go_sem, cw0_0, fw0_0, cw0_1, fw0_1, hy0] at Ncw0_0 Nfw0_0 Ncw0_1 Nfw0_1; clear cw0_0 fw0_0 cw0_1 fw0_1) | (simp [go_sem] at Ncw0_0 Nfw0_0 Ncw0_1 Nfw0_1)); clear hcn hfn; have cw0_0 := Ncw0_0; have fw0_0 := Nfw0_0; have cw0_1 := Ncw0_1; have fw0_1 := Nfw0_1; have hy0 := Nhy0; clear Ncw0_0 Nfw0_0 Ncw0_1 Nfw0_1 Nhy0)) | (go_at_call 25; ((with_reducible refine (within_any _ _ _ _).mono ?_)); rintro e wn ⟨rfl, rfl⟩) | (go_at_call 25; ((with_reducible refine (within_any _ _ _ _).mono ?_)); rintro e wn ⟨rfl, rfl⟩) | (go_at_call 20; ((with_reducible refine (impl_isHour _ _).mono ?_)); rintro e wn ⟨rfl, rfl⟩)))
      go_ret2
      exact ⟨ri2 (by rw [HR.out]) (by rw [HR.out]), by (repeat' (first | (with_reducible exact Below.refl _ _) | (with_reducible assumption) | (with_reducible refine Below.alloc ?_ ?_ _) | (with_reducible refine Below.drew ?_) | (with_reducible refine Below.drewN' ?_ _) | (with_reducible refine Below.setCell ?_ ?_ _) | (refine Below.via ?_ (by with_reducible assumption) ?_) | (with_reducible refine Below.via ?_ (Wd.h _) ?_) | go_size))⟩
    cases hs2 : inB hr 0 47
    · have HR := Lib.hid (show nfR N lb ln con hr = (0, 2) by simp [nfR, askC, H0.out, hs, hs2])
      (go_enter Try.func11, Try.ntmps11; go_wp2_with (first | (go_at_call 19; ((with_reducible refine (impl_checkNominations _ _ _ _ _ _ _ _ _ _ N lb ln _ (by exact HN.out.below (by (repeat' (first | (with_reducible exact Below.refl _ _) | (with_reducible assumption) | (with_reducible refine Below.alloc ?_ ?_ _) | (with_reducible refine Below.drew ?_) | (with_reducible refine Below.drewN' ?_ _) | (with_reducible refine Below.setCell ?_ ?_ _) | (refine Below.via ?_ (by with_reducible assumption) ?_) | (with_reducible refine Below.via ?_ (Wd.h _) ?_) | go_size)))) rfl rfl (by omega) (by exact HB.out.below (by (repeat' (first | (with_reducible exact Below.refl _ _) | (with_reducible assumption) | (with_reducible refine Below.alloc ?_ ?_ _) | (with_reducible refine Below.drew ?_) | (with_reducible refine Below.drewN' ?_ _) | (with_reducible refine Below.setCell ?_ ?_ _) | (refine Below.via ?_ (by with_reducible assumption) ?_) | (with_reducible refine Below.via ?_ (Wd.h _) ?_) | go_size)))) (by omega) (by exact HM.out.below (by (repeat' (first | (with_reducible exact Below.refl _ _) | (with_reducible assumption) | (with_reducible refine Below.alloc ?_ ?_ _) | (with_reducible refine Below.drew ?_) | (with_reducible refine Below.drewN' ?_ _) | (with_reducible refine Below.setCell ?_ ?_ _) | (refine Below.via ?_ (by with_reducible assumption) ?_) | (with_reducible refine Below.via ?_ (Wd.h _) ?_) | go_size)))) (by omega)).mono ?_)); rintro e wn ⟨rfl, hbn⟩; (obtain ⟨hcn, hfn⟩ := bcell hbn; have hzn := hbn.size; (try simp at hzn); have Ncw0_0 := hcn (w.heap.size) (0) (by first | omega | (simp; done) | (simp; omega)); have Nfw0_0 := hfn (w.heap.size) (0) (by first | omega | (simp; done) | (simp; omega)); have Nhy0 : w.heap.size < wn.heap.size := (by omega); have Ncw0_1 := hcn (w.heap.size) (1) (by first | omega | (simp; done) | (simp; omega)); have Nfw0_1 := hfn (w.heap.size) (1) (by first | omega | (simp; done) | (simp; omega)); (first | (simp [go_sem, cw0_0, fw0_0, cw0_1, fw0_1, hy0] at Ncw0_0 Nfw0_0 Ncw0_1 Nfw0_1; clear cw0_0 fw0_0 cw0_1 fw0_1) | (simp [go_sem] at Ncw0_0 Nfw0_0 Ncw0_1 Nfw0_1)); clear hcn hfn; have cw0_0 := Ncw0_0; have fw0_0 := Nfw0_0; have cw0_1 := Ncw0_1; have fw0_1 := Nfw0_1; have hy0 := Nhy0; clear Ncw0_0 Nfw0_0 Ncw0_1 Nfw0_1 Nhy0)) | (go_at_call 25; ((with_reducible refine (within_any _ _ _ _).mono ?_)); rintro e wn ⟨rfl, rfl⟩) | (go_at_call 25; ((with_reducible refine (within_any _ _ _ _).mono ?_)); rintro e wn ⟨rfl, rfl⟩) | (go_at_call 20; ((with_reducible refine (impl_isHour _ _).mono ?_)); rintro e wn ⟨rfl, rfl⟩)))
      go_ret2
      exact ⟨ri2 (by rw [HR.out]) (by rw [HR.out]), by (repeat' (first | (with_reducible exact Below.refl _ _) | (with_reducible assumption) | (with_reducible refine Below.alloc ?_ ?_ _) | (with_reducible refine Below.drew ?_) | (with_reducible refine Below.drewN' ?_ _) | (with_reducible refine Below.setCell ?_ ?_ _) | (refine Below.via ?_ (by with_reducible assumption) ?_) | (with_reducible refine Below.via ?_ (Wd.h _) ?_) | go_size))⟩
    have HA := Lib.hid (show askC N lb ln con hr = 0 by simp [askC, H0.out, hs, hs2])
    (go_enter Try.func11, Try.ntmps11; go_wp2_with (first | (go_at_call 19; ((with_reducible refine (impl_checkNominations _ _ _ _ _ _ _ _ _ _ N lb ln _ (by exact HN.out.below (by (repeat' (first | (with_reducible exact Below.refl _ _) | (with_reducible assumption) | (with_reducible refine Below.alloc ?_ ?_ _) | (with_reducible refine Below.drew ?_) | (with_reducible refine Below.drewN' ?_ _) | (with_reducible refine Below.setCell ?_ ?_ _) | (refine Below.via ?_ (by with_reducible assumption) ?_) | (with_reducible refine Below.via ?_ (Wd.h _) ?_) | go_size)))) rfl rfl (by omega) (by exact HB.out.below (by (repeat' (first | (with_reducible exact Below.refl _ _) | (with_reducible assumption) | (with_reducible refine Below.alloc ?_ ?_ _) | (with_reducible refine Below.drew ?_) | (with_reducible refine Below.drewN' ?_ _) | (with_reducible refine Below.setCell ?_ ?_ _) | (refine Below.via ?_ (by with_reducible assumption) ?_) | (with_reducible refine Below.via ?_ (Wd.h _) ?_) | go_size)))) (by omega) (by exact HM.out.below (by (repeat' (first | (with_reducible exact Below.refl _ _) | (with_reducible assumption) | (with_reducible refine Below.alloc ?_ ?_ _) | (with_reducible refine Below.drew ?_) | (with_reducible refine Below.drewN' ?_ _) | (with_reducible refine Below.setCell ?_ ?_ _) | (refine Below.via ?_ (by with_reducible assumption) ?_) | (with_reducible refine Below.via ?_ (Wd.h _) ?_) | go_size)))) (by omega)).mono ?_)); rintro e wn ⟨rfl, hbn⟩; (obtain ⟨hcn, hfn⟩ := bcell hbn; have hzn := hbn.size; (try simp at hzn); have Ncw0_0 := hcn (w.heap.size) (0) (by first | omega | (simp; done) | (simp; omega)); have Nfw0_0 := hfn (w.heap.size) (0) (by first | omega | (simp; done) | (simp; omega)); have Nhy0 : w.heap.size < wn.heap.size := (by omega); have Ncw0_1 := hcn (w.heap.size) (1) (by first | omega | (simp; done) | (simp; omega)); have Nfw0_1 := hfn (w.heap.size) (1) (by first | omega | (simp; done) | (simp; omega)); (first | (simp [go_sem, cw0_0, fw0_0, cw0_1, fw0_1, hy0] at Ncw0_0 Nfw0_0 Ncw0_1 Nfw0_1; clear cw0_0 fw0_0 cw0_1 fw0_1) | (simp [go_sem] at Ncw0_0 Nfw0_0 Ncw0_1 Nfw0_1)); clear hcn hfn; have cw0_0 := Ncw0_0; have fw0_0 := Nfw0_0; have cw0_1 := Ncw0_1; have fw0_1 := Nfw0_1; have hy0 := Nhy0; clear Ncw0_0 Nfw0_0 Ncw0_1 Nfw0_1 Nhy0)) | (go_at_call 25; ((with_reducible refine (within_any _ _ _ _).mono ?_)); rintro e wn ⟨rfl, rfl⟩) | (go_at_call 25; ((with_reducible refine (within_any _ _ _ _).mono ?_)); rintro e wn ⟨rfl, rfl⟩) | (go_at_call 20; ((with_reducible refine (impl_isHour _ _).mono ?_)); rintro e wn ⟨rfl, rfl⟩)))
    refine (impl_lastNomination _ _ ln con hr _ hl' (HM.out.below (by (repeat' (first | (with_reducible exact Below.refl _ _) | (with_reducible assumption) | (with_reducible refine Below.alloc ?_ ?_ _) | (with_reducible refine Below.drew ?_) | (with_reducible refine Below.drewN' ?_ _) | (with_reducible refine Below.setCell ?_ ?_ _) | (refine Below.via ?_ (by with_reducible assumption) ?_) | (with_reducible refine Below.via ?_ (Wd.h _) ?_) | go_size))))).mono ?_
    rintro e w1 ⟨r, rfl, hp, hb1⟩
    rcases last_his hp with ⟨hr1, hh⟩ | ⟨k, x, hr1, hx, pre, hh⟩
    · subst hr1
      have HR := Lib.hid (nfR_nil HA.out hh)
      clear hp hh
      go_wp2
      go_ret2
      exact ⟨ri2 (by rw [HR.out]) (by rw [HR.out]), by (repeat' (first | (with_reducible exact Below.refl _ _) | (with_reducible assumption) | (with_reducible refine Below.alloc ?_ ?_ _) | (with_reducible refine Below.drew ?_) | (with_reducible refine Below.drewN' ?_ _) | (with_reducible refine Below.setCell ?_ ?_ _) | (refine Below.via ?_ (by with_reducible assumption) ?_) | (with_reducible refine Below.via ?_ (Wd.h _) ?_) | go_size))⟩
    · subst hr1
      have HR := Lib.hid (nfR_some HA.out hh)
      have hlt := (List.getElem?_eq_some_iff.1 hx).1
      have hB1 : Below w.heap.size w w1 := by (repeat' (first | (with_reducible exact Below.refl _ _) | (with_reducible assumption) | (with_reducible refine Below.alloc ?_ ?_ _) | (with_reducible refine Below.drew ?_) | (with_reducible refine Below.drewN' ?_ _) | (with_reducible refine Below.setCell ?_ ?_ _) | (refine Below.via ?_ (by with_reducible assumption) ?_) | (with_reducible refine Below.via ?_ (Wd.h _) ?_) | go_size))
      obtain ⟨bx, ox, rfl, hbx, hat⟩ := HM.out.opened (k := k) (by rw [flat_len Nom.len]; omega)
      have t3 := (hat.below hB1 hbx).elem Nom.len hx 3 rfl
      have g1 : (k : Int) < ln.length := by omega
      have HB1 := Lib.hid hB1
      clear hp hh hx hat hB1 hb1
      go_wp2
      go_ret2
      exact ⟨ri2 (by rw [HR.out]) (by rw [HR.out]), HB1.out⟩
  · have b0 : (nomsC N lb ln != 0) = true := by simp [h0]
    have HR := Lib.hid (show nfR N lb ln con hr = (0, nomsC N lb ln) by simp [nfR, askC, h0])
    (go_enter Try.func11, Try.ntmps11; go_wp2_with (first | (go_at_call 19; ((with_reducible refine (impl_checkNominations _ _ _ _ _ _ _ _ _ _ N lb ln _ (by exact HN.out.below (by (repeat' (first | (with_reducible exact Below.refl _ _) | (with_reducible assumption) | (with_reducible refine Below.alloc ?_ ?_ _) | (with_reducible refine Below.drew ?_) | (with_reducible refine Below.drewN' ?_ _) | (with_reducible refine Below.setCell ?_ ?_ _) | (refine Below.via ?_ (by with_reducible assumption) ?_) | (with_reducible refine Below.via ?_ (Wd.h _) ?_) | go_size)))) rfl rfl (by omega) (by exact HB.out.below (by (repeat' (first | (with_reducible exact Below.refl _ _) | (with_reducible assumption) | (with_reducible refine Below.alloc ?_ ?_ _) | (with_reducible refine Below.drew ?_) | (with_reducible refine Below.drewN' ?_ _) | (with_reducible refine Below.setCell ?_ ?_ _) | (refine Below.via ?_ (by with_reducible assumption) ?_) | (with_reducible refine Below.via ?_ (Wd.h _) ?_) | go_size)))) (by omega) (by exact HM.out.below (by (repeat' (first | (with_reducible exact Below.refl _ _) | (with_reducible assumption) | (with_reducible refine Below.alloc ?_ ?_ _) | (with_reducible refine Below.drew ?_) | (with_reducible refine Below.drewN' ?_ _) | (with_reducible refine Below.setCell ?_ ?_ _) | (refine Below.via ?_ (by with_reducible assumption) ?_) | (with_reducible refine Below.via ?_ (Wd.h _) ?_) | go_size)))) (by omega)).mono ?_)); rintro e wn ⟨rfl, hbn⟩; (obtain ⟨hcn, hfn⟩ := bcell hbn; have hzn := hbn.size; (try simp at hzn); have Ncw0_0 := hcn (w.heap.size) (0) (by first | omega | (simp; done) | (simp; omega)); have Nfw0_0 := hfn (w.heap.size) (0) (by first | omega | (simp; done) | (simp; omega)); have Nhy0 : w.heap.size < wn.heap.size := (by omega); have Ncw0_1 := hcn (w.heap.size) (1) (by first | omega | (simp; done) | (simp; omega)); have Nfw0_1 := hfn (w.heap.size) (1) (by first | omega | (simp; done) | (simp; omega)); (first | (simp [go_sem, cw0_0, fw0_0, cw0_1, fw0_1, hy0] at Ncw0_0 Nfw0_0 Ncw0_1 Nfw0_1; clear cw0_0 fw0_0 cw0_1 fw0_1) | (simp [go_sem] at Ncw0_0 Nfw0_0 Ncw0_1 Nfw0_1)); clear hcn hfn; have cw0_0 := Ncw0_0; have fw0_0 := Nfw0_0; have cw0_1 := Ncw0_1; have fw0_1 := Nfw0_1; have hy0 := Nhy0; clear Ncw0_0 Nfw0_0 Ncw0_1 Nfw0_1 Nhy0)) | (go_at_call 25; ((with_reducible refine (within_any _ _ _ _).mono ?_)); rintro e wn ⟨rfl, rfl⟩) | (go_at_call 25; ((with_reducible refine (within_any _ _ _ _).mono ?_)); rintro e wn ⟨rfl, rfl⟩) | (go_at_call 20; ((with_reducible refine (impl_isHour _ _).mono ?_)); rintro e wn ⟨rfl, rfl⟩)))
    go_ret2
    exact ⟨ri2 (by rw [HR.out]) (by rw [HR.out]), by (repeat' (first | (with_reducible exact Below.refl _ _) | (with_reducible assumption) | (with_reducible refine Below.alloc ?_ ?_ _) | (with_reducible refine Below.drew ?_) | (with_reducible refine Below.drewN' ?_ _) | (with_reducible refine Below.setCell ?_ ?_ _) | (refine Below.via ?_ (by with_reducible assumption) ?_) | (with_reducible refine Below.via ?_ (Wd.h _) ?_) | go_size))⟩
end Go.Proofs.Ytlbidcblpmdgaaa
namespace Go.Proofs.Ytlbidcblpmdgaaa
set_option linter.unusedVariables false
set_option linter.unusedSimpArgs false
open Go.RowKit
theorem getD_some {l : List Int} {k : Nat} (h : k < l.length) : l[k]? = some (l.getD k 0) := by
  rw [List.getD_eq_getElem?_getD, List.getElem?_eq_getElem h]; rfl
/-- the amount of a contract in an hour is that of its last nomination -/
theorem amF_at (hr : Int) {k : Nat} : ∀ (l : List Nom) (acc : List Int), (∀ x ∈ l, 0 ≤ x.con) → k < acc.length → (amF hr acc l)[k]? = some ((hisF k hr l).getLast?.getD (acc.getD k 0))
  | [], acc, _, hk => by simp only [amF, hisF, List.getLast?_nil, Option.getD_none]; exact getD_some hk
  | x :: l, acc, hc, hk => by
    have hx := hc x List.mem_cons_self
    have ih := amF_at hr (k := k) l (if (x.hr == hr) = true then acc.set x.con.toNat x.am else acc) (fun y hy => hc y (List.mem_cons_of_mem _ hy)) (by split <;> simpa using hk)
    rw [amF, ih, hisF]
    by_cases h1 : (x.hr == hr) = true
    · rw [if_pos h1]
      by_cases h2 : x.con = k
      · have e : x.con.toNat = k := by omega
        have b : ((x.con == (k : Int)) && (x.hr == hr)) = true := by simp [h2] at *; exact h1
        rw [if_pos b, List.getLast?_cons, Option.getD_some]
        have e2 : (acc.set x.con.toNat x.am).getD k 0 = x.am := by
          rw [List.getD_eq_getElem?_getD, e, List.getElem?_set_self hk]; rfl
        rw [e2]
      · have e : ¬ x.con.toNat = k := by omega
        have b : ¬ ((x.con == (k : Int)) && (x.hr == hr)) = true := by simp [h2]
        rw [if_neg b]
        have e2 : (acc.set x.con.toNat x.am).getD k 0 = acc.getD k 0 := by
          rw [List.getD_eq_getElem?_getD, List.getElem?_set_ne e, ← List.getD_eq_getElem?_getD]
        rw [e2]
    · rw [if_neg h1]
      have b : ¬ ((x.con == (k : Int)) && (x.hr == hr)) = true := by
        intro q; rw [Bool.and_eq_true] at q; exact h1 q.2
      rw [if_neg b]
theorem amL_at {lb : List Ctr} {ln : List Nom} {hr : Int} {k : Nat} (hc : ∀ x ∈ ln, 0 ≤ x.con) (hk : k < lb.length) : (amL lb ln hr)[k]? = some ((hisF k hr ln).getLast?.getD 0) := by
  have := amF_at hr (k := k) ln (List.replicate lb.length 0) hc (by simpa using hk)
  rw [amL, this]
  have e : (List.replicate lb.length (0 : Int)).getD k 0 = 0 := by
    rw [List.getD_eq_getElem?_getD, List.getElem?_replicate, if_pos hk]; rfl
  rw [e]
theorem sumF_setP : ∀ (l : List Int) (k : Nat) (y z : Int), l[k]? = some y → sumF (l.set k z) = sumF l - y + z
  | [], k, y, z, h => by simp at h
  | x :: l, 0, y, z, h => by
    have e : x = y := by simpa using h
    subst e; simp only [List.set_cons_zero, sumF]; omega
  | x :: l, k + 1, y, z, h => by
    have ih := sumF_setP l k y z (by simpa using h)
    simp only [List.set_cons_succ, sumF, ih]; omega
theorem sumF_addAt {l : List Int} {k : Nat} {x : Int} (h : k < l.length) : sumF (addAt l k x) = sumF l + x := by
  obtain ⟨y, hy⟩ := get_some h
  rw [addAt_eq hy, sumF_setP l k y (y + x) hy]; omega
theorem nsF_sum {n : Nat} : ∀ (ps : List Ctr) (xs acc : List Int), (∀ p ∈ ps, ctrB p n = true) → acc.length = n → sumF (nsF acc ps xs) = sumF acc
  | [], xs, acc, _, _ => by simp [nsF]
  | p :: ps, [], acc, _, _ => by simp [nsF]
  | p :: ps, x :: xs, acc, h, hl => by
    have hp := h p List.mem_cons_self
    simp only [ctrB, Bool.and_eq_true, inB_iff, decide_eq_true_eq] at hp
    have h1 : p.en.toNat < acc.length := by omega
    have h2 : p.ex.toNat < (addAt acc p.en.toNat x).length := by rw [addAt_len]; omega
    rw [nsF, nsF_sum ps xs _ (fun q hq => h q (List.mem_cons_of_mem _ hq)) (by rw [addAt_len, addAt_len, hl]), sumF_addAt h2, sumF_addAt h1]
    omega
theorem sumF_rep0 : ∀ n : Nat, sumF (List.replicate n 0) = 0
  | 0 => rfl
  | n + 1 => by rw [List.replicate_succ, sumF, sumF_rep0 n]; rfl
/-- what the law asks where supplies are handed back -/
structure NsZ (N : Net) (lb : List Ctr) (ln : List Nom) (hr : Int) (S am : List Int) : Prop where
  ok : N.Ok
  am_ : amR N lb ln hr = (am, 0)
  al : am.length = lb.length
  sl : S.length = N.nodes.length
  sb : ∀ x ∈ S, -30000 ≤ x ∧ x ≤ 30000
  s0 : sumF S = 0
  nf : ∀ (k : Nat) (a x z : Int), k < lb.length → am[k]? = some a → nfR N lb ln k hr = (x, z) → (z = 0 ∧ x = a) ∨ (z ≠ 0 ∧ a = 0)
theorem ns_zero {N : Net} {lb : List Ctr} {ln : List Nom} {hr : Int} {S : List Int} (h : nsR N lb ln hr = (S, 0)) : ∃ am, NsZ N lb ln hr S am := by
  unfold nsR at h
  rcases amR_cases N lb ln hr with ⟨c, hc, e⟩ | ⟨h0, e⟩
  · rw [e] at h
    simp only [ne_eq, hc, not_false_eq_true, if_true] at h
    injection h with e1 e2
    exact absurd e2 hc
  · have hb := noms_of h0
    have hk := book_of hb.1
    have hnm : ∀ x ∈ ln, 0 ≤ x.con := fun x hx => (nom_mem (ctrsOk_of hb.1) hb.2 hx).1
    rw [e] at h
    simp only [ne_eq, not_true, if_false] at h
    cases hs : supB N.nodes.length (nsL N.nodes.length lb (amL lb ln hr))
    · rw [if_pos hs] at h; injection h with e1 e2; cases e2
    · rw [if_neg (by rw [hs]; simp)] at h
      injection h with e1 e2
      have hr0 : inB hr 0 47 = true := by
        cases hh : inB hr 0 47
        · unfold amR at e; rw [if_neg (by simp [h0]), if_pos hh] at e; injection e with q1 q2; cases q2
        · rfl
      refine ⟨amL lb ln hr, hk.1, e, amL_len _ _ _, by rw [← e1, nsL_len], ?_, ?_, ?_⟩
      · rw [← e1]
        simp only [supB, Bool.and_eq_true] at hs
        exact allB_iff.1 hs.2
      · rw [← e1, nsL, nsF_sum (n := N.nodes.length) lb _ _ hk.2.2 (by simp), sumF_rep0]
      · intro k a x z hkl ha hn
        rw [amL_at hnm hkl] at ha
        injection ha with ha
        have hask : askC N lb ln k hr = 0 := by
          unfold askC
          rw [if_neg (by simp [h0]), if_neg (by rw [show inB (k : Int) 0 ((lb.length : Int) - 1) = true from inB_iff.2 (by omega)]; simp), if_neg (by rw [hr0]; simp)]
        unfold nfR at hn
        rw [if_neg (by simp [hask])] at hn
        cases hl : (hisF k hr ln).getLast? with
        | none =>
          rw [hl] at hn ha
          injection hn with n1 n2
          exact .inr ⟨by omega, by rw [← ha]; rfl⟩
        | some b =>
          rw [hl] at hn ha
          injection hn with n1 n2
          exact .inl ⟨by omega, by rw [← n1, ← ha]; rfl⟩
end Go.Proofs.Ytlbidcblpmdgaaa

/- The codes of nominations, AmountsIn and HistoryOf. -/
import Derived.Test.YtigplpbdkjiekaaNl
import Derived.Test.YtigplpbdkjiekaaOs0
namespace Go.Proofs.Ytigplpbdkjiekaa
set_option linter.unusedVariables false
set_option linter.unusedSimpArgs false
open Go.RowKit
theorem noms_of {N : Net} {lb : List Ctr} {l : List Nom} (h : nomsC N lb l = 0) : bookC N lb = 0 ∧ NomsOk lb l := by
  unfold nomsC at h
  by_cases h1 : bookC N lb = 0
  · cases h2 : nomsB lb l
    · simp [h1, h2] at h
    · exact ⟨h1, by simpa [nomsB] using h2⟩
  · simp [h1] at h
theorem nomB_of {lb : List Ctr} {x : Nom} (hk : CtrsOk lb) (h : nomB lb x = true) : 0 ≤ x.con ∧ x.con < lb.length ∧ 0 ≤ x.am ∧ x.am ≤ 30000 ∧ -48 ≤ x.sent ∧ x.sent ≤ x.hr - 2 ∧ 0 ≤ x.hr ∧ x.hr ≤ 47 := by
  cases hin : inB x.con 0 ((lb.length : Int) - 1)
  · rw [nomB_out hin] at h; cases h
  · obtain ⟨i1, i2⟩ := inB_iff.1 hin
    obtain ⟨c, hc⟩ := get_some (l := lb) (k := x.con.toNat) (by omega)
    obtain ⟨con, hr, sent, am⟩ := x
    dsimp only at i1 i2 hc ⊢
    rw [nomB_in (k := con.toNat) (by omega) (by omega) hc] at h
    simp only [Bool.and_eq_true, inB_iff] at h
    obtain ⟨n, hn⟩ := hk
    have := ctr_of (hn c (List.mem_of_getElem? hc))
    omega
theorem nom_mem {lb : List Ctr} {l : List Nom} (hk : CtrsOk lb) (h : NomsOk lb l) {x : Nom} (hx : x ∈ l) : 0 ≤ x.con ∧ x.con < lb.length ∧ 0 ≤ x.am ∧ x.am ≤ 30000 := by
  obtain ⟨i, hi⟩ := List.getElem?_of_mem hx
  have := nomB_of hk (h.2.1 i x hi)
  omega
set_option maxRecDepth 100000 in
set_option maxHeartbeats 1000000 in
theorem spec_l21Code (A B C D : Option Addr) (n c m d e f : Nat) (N : Net) (lb : List Ctr) (ln : List Nom) (w : World) (hN : NetAt w A B N) (hn : n = N.nodes.length) (hm : m = N.pipes.length) (h : Rd w C (lb.flatMap Ctr.cells)) (hl : lb.length ≤ 1048576) (h' : Rd w D (ln.flatMap Nom.cells)) (hl' : ln.length ≤ 1048576) :
    Calls Try.prog 41 #[netV A B n c m d, .slice C lb.length e, .slice D ln.length f] w fun e w' => e = .returned (.int .i64 (nomsC N lb ln)) ∧ Below w.heap.size w w' := by
  subst hn hm
  have HN := Lib.hid hN
  have HB := Lib.hid h
  have HM := Lib.hid h'
  have hln := hN.ln
  clear hN h h'
  by_cases h0 : bookC N lb = 0
  · have b1 : (bookC N lb == 0) = true := by simp [h0]
    have HKK := Lib.hid (ctrsOk_of h0)
    have H0 := Lib.hid h0
    clear h0
    cases hb : nomsB lb ln
    · (go_enter Try.func41, Try.ntmps41; go_wp2_with (first | (go_at_call 69; ((with_reducible refine (spec_l20Code _ _ _ _ _ _ _ _ N lb _ (by exact HN.out.below (by (repeat' (first | (with_reducible exact Below.refl _ _) | (with_reducible assumption) | (with_reducible refine Below.alloc ?_ ?_ _) | (with_reducible refine Below.drew ?_) | (with_reducible refine Below.drewN' ?_ _) | (with_reducible refine Below.setCell ?_ ?_ _) | (refine Below.via ?_ (by with_reducible assumption) ?_) | (with_reducible refine Below.via ?_ (Wd.h _) ?_) | go_size)))) rfl rfl (by exact HB.out.below (by (repeat' (first | (with_reducible exact Below.refl _ _) | (with_reducible assumption) | (with_reducible refine Below.alloc ?_ ?_ _) | (with_reducible refine Below.drew ?_) | (with_reducible refine Below.drewN' ?_ _) | (with_reducible refine Below.setCell ?_ ?_ _) | (refine Below.via ?_ (by with_reducible assumption) ?_) | (with_reducible refine Below.via ?_ (Wd.h _) ?_) | go_size)))) (by omega)).mono ?_)); rintro e wn ⟨rfl, hbn⟩; (obtain ⟨hcn, hfn⟩ := bcell hbn; have hzn := hbn.size; (try simp at hzn); have Ncw0_0 := hcn (w.heap.size) (0) (by first | omega | (simp; done) | (simp; omega)); have Nfw0_0 := hfn (w.heap.size) (0) (by first | omega | (simp; done) | (simp; omega)); have Nhy0 : w.heap.size < wn.heap.size := (by omega); have Ncw0_1 := hcn (w.heap.size) (1) (by first | omega | (simp; done) | (simp; omega)); have Nfw0_1 := hfn (w.heap.size) (1) (by first | omega | (simp; done) | (simp; omega)); (first | (simp [go_sem, cw0_0, fw0_0, cw0_1, fw0_1, hy0] at Ncw0_0 Nfw0_0 Ncw0_1 Nfw0_1; clear cw0_0 fw0_0 cw0_1 fw0_1) | (simp [go_sem] at Ncw0_0 Nfw0_0 Ncw0_1 Nfw0_1)); clear hcn hfn; have cw0_0 := Ncw0_0; have fw0_0 := Nfw0_0; have cw0_1 := Ncw0_1; have fw0_1 := Nfw0_1; have hy0 := Nhy0; clear Ncw0_0 Nfw0_0 Ncw0_1 Nfw0_1 Nhy0)) | (go_at_call 45; ((with_reducible refine (spec_l21List _ _ _ _ lb ln _ (by exact HB.out.below (by (repeat' (first | (with_reducible exact Below.refl _ _) | (with_reducible assumption) | (with_reducible refine Below.alloc ?_ ?_ _) | (with_reducible refine Below.drew ?_) | (with_reducible refine Below.drewN' ?_ _) | (with_reducible refine Below.setCell ?_ ?_ _) | (refine Below.via ?_ (by with_reducible assumption) ?_) | (with_reducible refine Below.via ?_ (Wd.h _) ?_) | go_size)))) (by omega) HKK.out (by exact HM.out.below (by (repeat' (first | (with_reducible exact Below.refl _ _) | (with_reducible assumption) | (with_reducible refine Below.alloc ?_ ?_ _) | (with_reducible refine Below.drew ?_) | (with_reducible refine Below.drewN' ?_ _) | (with_reducible refine Below.setCell ?_ ?_ _) | (refine Below.via ?_ (by with_reducible assumption) ?_) | (with_reducible refine Below.via ?_ (Wd.h _) ?_) | go_size)))) (by omega)).mono ?_)); rintro e wn ⟨rfl, hbn⟩; (obtain ⟨hcn, hfn⟩ := bcell hbn; have hzn := hbn.size; (try simp at hzn); have Ncw0_0 := hcn (w.heap.size) (0) (by first | omega | (simp; done) | (simp; omega)); have Nfw0_0 := hfn (w.heap.size) (0) (by first | omega | (simp; done) | (simp; omega)); have Nhy0 : w.heap.size < wn.heap.size := (by omega); have Ncw0_1 := hcn (w.heap.size) (1) (by first | omega | (simp; done) | (simp; omega)); have Nfw0_1 := hfn (w.heap.size) (1) (by first | omega | (simp; done) | (simp; omega)); (first | (simp [go_sem, cw0_0, fw0_0, cw0_1, fw0_1, hy0] at Ncw0_0 Nfw0_0 Ncw0_1 Nfw0_1; clear cw0_0 fw0_0 cw0_1 fw0_1) | (simp [go_sem] at Ncw0_0 Nfw0_0 Ncw0_1 Nfw0_1)); clear hcn hfn; have cw0_0 := Ncw0_0; have fw0_0 := Nfw0_0; have cw0_1 := Ncw0_1; have fw0_1 := Nfw0_1; have hy0 := Nhy0; clear Ncw0_0 Nfw0_0 Ncw0_1 Nfw0_1 Nhy0))))
      go_ret
      exact ⟨ri (by simp [nomsC, H0.out, hb]), by (repeat' (first | (with_reducible exact Below.refl _ _) | (with_reducible assumption) | (with_reducible refine Below.alloc ?_ ?_ _) | (with_reducible refine Below.drew ?_) | (with_reducible refine Below.drewN' ?_ _) | (with_reducible refine Below.setCell ?_ ?_ _) | (refine Below.via ?_ (by with_reducible assumption) ?_) | (with_reducible refine Below.via ?_ (Wd.h _) ?_) | go_size))⟩
    · (go_enter Try.func41, Try.ntmps41; go_wp2_with (first | (go_at_call 69; ((with_reducible refine (spec_l20Code _ _ _ _ _ _ _ _ N lb _ (by exact HN.out.below (by (repeat' (first | (with_reducible exact Below.refl _ _) | (with_reducible assumption) | (with_reducible refine Below.alloc ?_ ?_ _) | (with_reducible refine Below.drew ?_) | (with_reducible refine Below.drewN' ?_ _) | (with_reducible refine Below.setCell ?_ ?_ _) | (refine Below.via ?_ (by with_reducible assumption) ?_) | (with_reducible refine Below.via ?_ (Wd.h _) ?_) | go_size)))) rfl rfl (by exact HB.out.below (by (repeat' (first | (with_reducible exact Below.refl _ _) | (with_reducible assumption) | (with_reducible refine Below.alloc ?_ ?_ _) | (with_reducible refine Below.drew ?_) | (with_reducible refine Below.drewN' ?_ _) | (with_reducible refine Below.setCell ?_ ?_ _) | (refine Below.via ?_ (by with_reducible assumption) ?_) | (with_reducible refine Below.via ?_ (Wd.h _) ?_) | go_size)))) (by omega)).mono ?_)); rintro e wn ⟨rfl, hbn⟩; (obtain ⟨hcn, hfn⟩ := bcell hbn; have hzn := hbn.size; (try simp at hzn); have Ncw0_0 := hcn (w.heap.size) (0) (by first | omega | (simp; done) | (simp; omega)); have Nfw0_0 := hfn (w.heap.size) (0) (by first | omega | (simp; done) | (simp; omega)); have Nhy0 : w.heap.size < wn.heap.size := (by omega); have Ncw0_1 := hcn (w.heap.size) (1) (by first | omega | (simp; done) | (simp; omega)); have Nfw0_1 := hfn (w.heap.size) (1) (by first | omega | (simp; done) | (simp; omega)); (first | (simp [go_sem, cw0_0, fw0_0, cw0_1, fw0_1, hy0] at Ncw0_0 Nfw0_0 Ncw0_1 Nfw0_1; clear cw0_0 fw0_0 cw0_1 fw0_1) | (simp [go_sem] at Ncw0_0 Nfw0_0 Ncw0_1 Nfw0_1)); clear hcn hfn; have cw0_0 := Ncw0_0; have fw0_0 := Nfw0_0; have cw0_1 := Ncw0_1; have fw0_1 := Nfw0_1; have hy0 := Nhy0; clear Ncw0_0 Nfw0_0 Ncw0_1 Nfw0_1 Nhy0)) | (go_at_call 45; ((with_reducible refine (spec_l21List _ _ _ _ lb ln _ (by exact HB.out.below (by (repeat' (first | (with_reducible exact Below.refl _ _) | (with_reducible assumption) | (with_reducible refine Below.alloc ?_ ?_ _) | (with_reducible refine Below.drew ?_) | (with_reducible refine Below.drewN' ?_ _) | (with_reducible refine Below.setCell ?_ ?_ _) | (refine Below.via ?_ (by with_reducible assumption) ?_) | (with_reducible refine Below.via ?_ (Wd.h _) ?_) | go_size)))) (by omega) HKK.out (by exact HM.out.below (by (repeat' (first | (with_reducible exact Below.refl _ _) | (with_reducible assumption) | (with_reducible refine Below.alloc ?_ ?_ _) | (with_reducible refine Below.drew ?_) | (with_reducible refine Below.drewN' ?_ _) | (with_reducible refine Below.setCell ?_ ?_ _) | (refine Below.via ?_ (by with_reducible assumption) ?_) | (with_reducible refine Below.via ?_ (Wd.h _) ?_) | go_size)))) (by omega)).mono ?_)); rintro e wn ⟨rfl, hbn⟩; (obtain ⟨hcn, hfn⟩ := bcell hbn; have hzn := hbn.size; (try simp at hzn); have Ncw0_0 := hcn (w.heap.size) (0) (by first | omega | (simp; done) | (simp; omega)); have Nfw0_0 := hfn (w.heap.size) (0) (by first | omega | (simp; done) | (simp; omega)); have Nhy0 : w.heap.size < wn.heap.size := (by omega); have Ncw0_1 := hcn (w.heap.size) (1) (by first | omega | (simp; done) | (simp; omega)); have Nfw0_1 := hfn (w.heap.size) (1) (by first | omega | (simp; done) | (simp; omega)); (first | (simp [go_sem, cw0_0, fw0_0, cw0_1, fw0_1, hy0] at Ncw0_0 Nfw0_0 Ncw0_1 Nfw0_1; clear cw0_0 fw0_0 cw0_1 fw0_1) | (simp [go_sem] at Ncw0_0 Nfw0_0 Ncw0_1 Nfw0_1)); clear hcn hfn; have cw0_0 := Ncw0_0; have fw0_0 := Nfw0_0; have cw0_1 := Ncw0_1; have fw0_1 := Nfw0_1; have hy0 := Nhy0; clear Ncw0_0 Nfw0_0 Ncw0_1 Nfw0_1 Nhy0))))
      go_ret
      exact ⟨ri (by simp [nomsC, H0.out, hb]), by (repeat' (first | (with_reducible exact Below.refl _ _) | (with_reducible assumption) | (with_reducible refine Below.alloc ?_ ?_ _) | (with_reducible refine Below.drew ?_) | (with_reducible refine Below.drewN' ?_ _) | (with_reducible refine Below.setCell ?_ ?_ _) | (refine Below.via ?_ (by with_reducible assumption) ?_) | (with_reducible refine Below.via ?_ (Wd.h _) ?_) | go_size))⟩
  · have b1 : (bookC N lb == 0) = false := by simp [h0]
    (go_enter Try.func41, Try.ntmps41; go_wp2_with (first | (go_at_call 69; ((with_reducible refine (spec_l20Code _ _ _ _ _ _ _ _ N lb _ (by exact HN.out.below (by (repeat' (first | (with_reducible exact Below.refl _ _) | (with_reducible assumption) | (with_reducible refine Below.alloc ?_ ?_ _) | (with_reducible refine Below.drew ?_) | (with_reducible refine Below.drewN' ?_ _) | (with_reducible refine Below.setCell ?_ ?_ _) | (refine Below.via ?_ (by with_reducible assumption) ?_) | (with_reducible refine Below.via ?_ (Wd.h _) ?_) | go_size)))) rfl rfl (by exact HB.out.below (by (repeat' (first | (with_reducible exact Below.refl _ _) | (with_reducible assumption) | (with_reducible refine Below.alloc ?_ ?_ _) | (with_reducible refine Below.drew ?_) | (with_reducible refine Below.drewN' ?_ _) | (with_reducible refine Below.setCell ?_ ?_ _) | (refine Below.via ?_ (by with_reducible assumption) ?_) | (with_reducible refine Below.via ?_ (Wd.h _) ?_) | go_size)))) (by omega)).mono ?_)); rintro e wn ⟨rfl, hbn⟩; (obtain ⟨hcn, hfn⟩ := bcell hbn; have hzn := hbn.size; (try simp at hzn); have Ncw0_0 := hcn (w.heap.size) (0) (by first | omega | (simp; done) | (simp; omega)); have Nfw0_0 := hfn (w.heap.size) (0) (by first | omega | (simp; done) | (simp; omega)); have Nhy0 : w.heap.size < wn.heap.size := (by omega); have Ncw0_1 := hcn (w.heap.size) (1) (by first | omega | (simp; done) | (simp; omega)); have Nfw0_1 := hfn (w.heap.size) (1) (by first | omega | (simp; done) | (simp; omega)); (first | (simp [go_sem, cw0_0, fw0_0, cw0_1, fw0_1, hy0] at Ncw0_0 Nfw0_0 Ncw0_1 Nfw0_1; clear cw0_0 fw0_0 cw0_1 fw0_1) | (simp [go_sem] at Ncw0_0 Nfw0_0 Ncw0_1 Nfw0_1)); clear hcn hfn; have cw0_0 := Ncw0_0; have fw0_0 := Nfw0_0; have cw0_1 := Ncw0_1; have fw0_1 := Nfw0_1; have hy0 := Nhy0; clear Ncw0_0 Nfw0_0 Ncw0_1 Nfw0_1 Nhy0)) | (go_at_call 45; ((with_reducible refine (spec_l21List _ _ _ _ lb ln _ (by exact HB.out.below (by (repeat' (first | (with_reducible exact Below.refl _ _) | (with_reducible assumption) | (with_reducible refine Below.alloc ?_ ?_ _) | (with_reducible refine Below.drew ?_) | (with_reducible refine Below.drewN' ?_ _) | (with_reducible refine Below.setCell ?_ ?_ _) | (refine Below.via ?_ (by with_reducible assumption) ?_) | (with_reducible refine Below.via ?_ (Wd.h _) ?_) | go_size)))) (by omega) HKK.out (by exact HM.out.below (by (repeat' (first | (with_reducible exact Below.refl _ _) | (with_reducible assumption) | (with_reducible refine Below.alloc ?_ ?_ _) | (with_reducible refine Below.drew ?_) | (with_reducible refine Below.drewN' ?_ _) | (with_reducible refine Below.setCell ?_ ?_ _) | (refine Below.via ?_ (by with_reducible assumption) ?_) | (with_reducible refine Below.via ?_ (Wd.h _) ?_) | go_size)))) (by omega)).mono ?_)); rintro e wn ⟨rfl, hbn⟩; (obtain ⟨hcn, hfn⟩ := bcell hbn; have hzn := hbn.size; (try simp at hzn); have Ncw0_0 := hcn (w.heap.size) (0) (by first | omega | (simp; done) | (simp; omega)); have Nfw0_0 := hfn (w.heap.size) (0) (by first | omega | (simp; done) | (simp; omega)); have Nhy0 : w.heap.size < wn.heap.size := (by omega); have Ncw0_1 := hcn (w.heap.size) (1) (by first | omega | (simp; done) | (simp; omega)); have Nfw0_1 := hfn (w.heap.size) (1) (by first | omega | (simp; done) | (simp; omega)); (first | (simp [go_sem, cw0_0, fw0_0, cw0_1, fw0_1, hy0] at Ncw0_0 Nfw0_0 Ncw0_1 Nfw0_1; clear cw0_0 fw0_0 cw0_1 fw0_1) | (simp [go_sem] at Ncw0_0 Nfw0_0 Ncw0_1 Nfw0_1)); clear hcn hfn; have cw0_0 := Ncw0_0; have fw0_0 := Nfw0_0; have cw0_1 := Ncw0_1; have fw0_1 := Nfw0_1; have hy0 := Nhy0; clear Ncw0_0 Nfw0_0 Ncw0_1 Nfw0_1 Nhy0))))
    go_ret
    exact ⟨ri (by simp [nomsC, h0]), by (repeat' (first | (with_reducible exact Below.refl _ _) | (with_reducible assumption) | (with_reducible refine Below.alloc ?_ ?_ _) | (with_reducible refine Below.drew ?_) | (with_reducible refine Below.drewN' ?_ _) | (with_reducible refine Below.setCell ?_ ?_ _) | (refine Below.via ?_ (by with_reducible assumption) ?_) | (with_reducible refine Below.via ?_ (Wd.h _) ?_) | go_size))⟩
def amF (hr : Int) : List Int → List Nom → List Int
  | acc, [] => acc
  | acc, x :: l => amF hr (if (x.hr == hr) = true then acc.set x.con.toNat x.am else acc) l
theorem amF_len (hr : Int) : ∀ (l : List Nom) (acc : List Int), (amF hr acc l).length = acc.length
  | [], acc => rfl
  | x :: l, acc => by
    rw [amF, amF_len hr l]
    split <;> simp
theorem amF_bd (hr : Int) : ∀ (l : List Nom) (acc : List Int), (∀ x ∈ l, 0 ≤ x.am ∧ x.am ≤ 30000) → (∀ y ∈ acc, 0 ≤ y ∧ y ≤ 30000) → ∀ y ∈ amF hr acc l, 0 ≤ y ∧ y ≤ 30000
  | [], acc, _, h => by simpa [amF] using h
  | x :: l, acc, hx, h => by
    rw [amF]
    refine amF_bd hr l _ (fun z hz => hx z (by simp [hz])) ?_
    split
    · intro y hy
      rcases List.mem_or_eq_of_mem_set hy with hy | rfl
      · exact h y hy
      · exact hx x (by simp)
    · exact h
def amL (lb : List Ctr) (ln : List Nom) (hr : Int) : List Int := amF hr (List.replicate lb.length 0) ln
theorem amL_len (lb : List Ctr) (ln : List Nom) (hr : Int) : (amL lb ln hr).length = lb.length := by rw [amL, amF_len]; simp
noncomputable def amR (N : Net) (lb : List Ctr) (ln : List Nom) (hr : Int) : List Int × Int :=
  if nomsC N lb ln ≠ 0 then ([], nomsC N lb ln) else if inB hr 0 47 = false then ([], 2) else (amL lb ln hr, 0)
theorem amR_len {N : Net} {lb : List Ctr} {ln : List Nom} {hr : Int} : (amR N lb ln hr).1.length ≤ 1048576 := by
  unfold amR; split
  · simp
  · rename_i h
    have := (book_of (noms_of (by simpa using h)).1).2.1
    split
    · simp
    · simp [amL_len]; omega
set_option maxRecDepth 100000 in
set_option maxHeartbeats 4000000 in
theorem impl_amountsIn (C D : Option Addr) (e f : Nat) (lb : List Ctr) (ln : List Nom) (hr : Int) (w : World) (hl : lb.length ≤ 1048576) (h' : Rd w D (ln.flatMap Nom.cells)) (hl' : ln.length ≤ 1048576) (hc : ∀ x ∈ ln, 0 ≤ x.con ∧ x.con < lb.length) :
    Calls Try.prog 58 #[.slice C lb.length e, .slice D ln.length f, .int .i64 hr] w (MadeL w 1 lb.length ((amL lb ln hr).map iV)) := by
  have HM := Lib.hid h'
  have HC := Lib.hid hc
  clear h' hc
  have hmk := make_i64 lb.length (by omega)
  have HA0 := Lib.hid (Arr.madeI w lb.length 2)
  go_enter Try.func58, Try.ntmps58
  go_wp2
  clear hmk
  go_loopw [15] (fun v wr => ∃ (k : Nat) (acc : List Int), k ≤ ln.length ∧ v = .int .i64 k ∧ acc.length = lb.length ∧ amF hr acc (ln.drop k) = amL lb ln hr ∧ Arr wr w.heap.size lb.length (acc.map iV) ∧ Below w.heap.size w wr) (fun v _ => ln.length - (intOf v).toNat)
  case atStart => exact ⟨0, List.replicate lb.length 0, by omega, rfl, by simp, by simp [amL], HA0.out, by (repeat' (first | (with_reducible exact Below.refl _ _) | (with_reducible assumption) | (with_reducible refine Below.alloc ?_ ?_ _) | (with_reducible refine Below.drew ?_) | (with_reducible refine Below.drewN' ?_ _) | (with_reducible refine Below.setCell ?_ ?_ _) | (refine Below.via ?_ (by with_reducible assumption) ?_) | (with_reducible refine Below.via ?_ (Wd.h _) ?_) | go_size))⟩
  case round =>
    obtain ⟨k, acc, hk, rfl, hal, hF, hA, hbw⟩ := hrel
    have hbH := Lib.hid hbw
    have HF := Lib.hid hF
    have HA := Lib.hid hA
    have HAL := Lib.hid hal
    have hyA := hA.lt
    clear hF hA hal
    by_cases hlt : k < ln.length
    · obtain ⟨x, hx⟩ := get_some hlt; obtain ⟨bx, offx, rfl, hbx, hat⟩ := HM.out.opened (k := k) (by rw [flat_len Nom.len]; omega); have hat' := hat.below hbw hbx; have hybx : bx < wr.heap.size := Nat.lt_of_lt_of_le hbx hbw.size; have hzw := hbw.size; have t0 := hat'.elem0 Nom.len hx rfl; have t1 := hat'.elem Nom.len hx 1 rfl; have t2 := hat'.elem Nom.len hx 2 rfl; have t3 := hat'.elem Nom.len hx 3 rfl; have HX := Lib.hid hx; have HD := Lib.hid (drop_cons hx); have gx : (k : Int) < _ := Int.ofNat_lt.2 hlt; clear hx hat hat'
      obtain ⟨p1, p2⟩ := HC.out x (List.mem_of_getElem? HX.out)
      clear hbw
      cases hh : (x.hr == hr)
      · have HH := Lib.hid hh
        go_wp2
        go_roundw
        case rel =>
          refine ⟨k + 1, acc, by omega, by go_num, HAL.out, ?_, HA.out.alloc _, by have h1 := hbH.out; (repeat' (first | (with_reducible exact Below.refl _ _) | (with_reducible assumption) | (with_reducible refine Below.alloc ?_ ?_ _) | (with_reducible refine Below.drew ?_) | (with_reducible refine Below.drewN' ?_ _) | (with_reducible refine Below.setCell ?_ ?_ _) | (refine Below.via ?_ (by with_reducible assumption) ?_) | (with_reducible refine Below.via ?_ (Wd.h _) ?_) | go_size))⟩
          rw [← HF.out, HD.out, amF, HH.out]; simp
        case measure => simp [intOf]; omega
      · have HH := Lib.hid hh
        obtain ⟨xcon, xhr, xsent, xam⟩ := x
        dsimp only at t0 t1 t2 t3 hh p1 p2
        obtain ⟨q, rfl⟩ : ∃ q : Nat, xcon = q := ⟨xcon.toNat, by omega⟩
        obtain ⟨y, hy⟩ := get_some (l := acc) (k := q) (by rw [HAL.out]; omega)
        have s0 := ints_cell HA.out hy
        have s1 := HA.out.free (j := q) (by omega)
        have g4 : (q : Int) < lb.length := by omega
        clear hy
        go_wp2
        go_roundw
        case rel =>
          refine ⟨k + 1, acc.set q xam, by omega, by go_num, by rw [List.length_set]; exact HAL.out, ?_, ?_, by have h1 := hbH.out; (repeat' (first | (with_reducible exact Below.refl _ _) | (with_reducible assumption) | (with_reducible refine Below.alloc ?_ ?_ _) | (with_reducible refine Below.drew ?_) | (with_reducible refine Below.drewN' ?_ _) | (with_reducible refine Below.setCell ?_ ?_ _) | (refine Below.via ?_ (by with_reducible assumption) ?_) | (with_reducible refine Below.via ?_ (Wd.h _) ?_) | go_size))⟩
          · rw [← HF.out, HD.out, amF, HH.out]; simp
          · rw [map_set_iV]; exact (HA.out.setAt (i := q) (by omega) _).alloc _
        case measure => simp [intOf]; omega
    · clear hbw
      have HE := Lib.hid (show acc = amL lb ln hr by rw [← HF.out, drop_endI hlt, amF])
      go_wp2
      go_ret
      rw [← HE.out]
      exact ⟨_, _, rfl, Nat.le_refl _, by simpa using Wr.of_arr (Nat.le_refl _) HA.out, hbH.out⟩
set_option maxRecDepth 100000 in
set_option maxHeartbeats 4000000 in
theorem spec_l21Amounts (C D : Option Addr) (e f : Nat) (lb : List Ctr) (ln : List Nom) (hr : Int) (w : World) (hl : lb.length ≤ 1048576) (h' : Rd w D (ln.flatMap Nom.cells)) (hl' : ln.length ≤ 1048576) (hc : ∀ x ∈ ln, 0 ≤ x.con ∧ x.con < lb.length) :
    Calls Try.prog 60 #[.slice C lb.length e, .slice D ln.length f, .int .i64 hr] w (MadeL w 1 lb.length ((amL lb ln hr).map iV)) := by
  have HM := Lib.hid h'
  have HC := Lib.hid hc
  clear h' hc
  have hmk := make_i64 lb.length (by omega)
  have HA0 := Lib.hid (Arr.madeI w lb.length 2)
  go_enter Try.func60, Try.ntmps60
  go_wp2
  clear hmk
  go_loopw [8] (fun v wr => ∃ (k : Nat) (acc : List Int), k ≤ ln.length ∧ v = .int .i64 k ∧ acc.length = lb.length ∧ amF hr acc (ln.drop k) = amL lb ln hr ∧ Arr wr w.heap.size lb.length (acc.map iV) ∧ Below w.heap.size w wr) (fun v _ => ln.length - (intOf v).toNat)
  case atStart => exact ⟨0, List.replicate lb.length 0, by omega, rfl, by simp, by simp [amL], HA0.out, by (repeat' (first | (with_reducible exact Below.refl _ _) | (with_reducible assumption) | (with_reducible refine Below.alloc ?_ ?_ _) | (with_reducible refine Below.drew ?_) | (with_reducible refine Below.drewN' ?_ _) | (with_reducible refine Below.setCell ?_ ?_ _) | (refine Below.via ?_ (by with_reducible assumption) ?_) | (with_reducible refine Below.via ?_ (Wd.h _) ?_) | go_size))⟩
  case round =>
    obtain ⟨k, acc, hk, rfl, hal, hF, hA, hbw⟩ := hrel
    have hbH := Lib.hid hbw
    have HF := Lib.hid hF
    have HA := Lib.hid hA
    have HAL := Lib.hid hal
    have hyA := hA.lt
    clear hF hA hal
    by_cases hlt : k < ln.length
    · obtain ⟨x, hx⟩ := get_some hlt; obtain ⟨bx, offx, rfl, hbx, hat⟩ := HM.out.opened (k := k) (by rw [flat_len Nom.len]; omega); have hat' := hat.below hbw hbx; have hybx : bx < wr.heap.size := Nat.lt_of_lt_of_le hbx hbw.size; have hzw := hbw.size; have t0 := hat'.elem0 Nom.len hx rfl; have t1 := hat'.elem Nom.len hx 1 rfl; have t2 := hat'.elem Nom.len hx 2 rfl; have t3 := hat'.elem Nom.len hx 3 rfl; have HX := Lib.hid hx; have HD := Lib.hid (drop_cons hx); have gx : (k : Int) < _ := Int.ofNat_lt.2 hlt; clear hx hat hat'
      obtain ⟨p1, p2⟩ := HC.out x (List.mem_of_getElem? HX.out)
      clear hbw
      cases hh : (x.hr == hr)
      · have HH := Lib.hid hh
        go_wp2
        go_roundw
        case rel =>
          refine ⟨k + 1, acc, by omega, by go_num, HAL.out, ?_, HA.out, hbH.out⟩
          rw [← HF.out, HD.out, amF, HH.out]; simp
        case measure => simp [intOf]; omega
      · have HH := Lib.hid hh
        obtain ⟨xcon, xhr, xsent, xam⟩ := x
        dsimp only at t0 t1 t2 t3 hh p1 p2
        obtain ⟨q, rfl⟩ : ∃ q : Nat, xcon = q := ⟨xcon.toNat, by omega⟩
        obtain ⟨y, hy⟩ := get_some (l := acc) (k := q) (by rw [HAL.out]; omega)
        have g4 : (q : Int) < lb.length := by omega
        have HY := Lib.hid hy
        clear hy
        go_wp2_with fail
        (have qk0 := Wd.cell (by first | assumption | omega | (simp; omega)) t0; have qk1 := Wd.cell (by first | assumption | omega | (simp; omega)) t3; (refine wp_region_wd_tail 12 (by kernel_rfl) (by kernel_rfl) ?_; simp only [List.take_succ_cons, List.take_zero, List.drop_succ_cons, List.drop_zero]); (repeat (go_big_quiet_step ((first | fail)))); (refine wpQuiet_nil ?_); rintro wz ⟨⟨w'', hbwz⟩, hw''⟩; obtain rfl : wz = w'' := hw''; clear qk0 qk1; have hzwz := hbwz.size; (try simp at hzwz))
        have HAz := Lib.hid (HA.out.below hbwz (by omega))
        have s0 := ints_cell HAz.out HY.out
        have s1 := HAz.out.free (j := q) (by omega)
        clear t0 t1 t2 t3
        go_wp2
        go_roundw
        case rel =>
          refine ⟨k + 1, acc.set q xam, by omega, by go_num, by rw [List.length_set]; exact HAL.out, ?_, ?_, by have h1 := hbH.out; (repeat' (first | (with_reducible exact Below.refl _ _) | (with_reducible assumption) | (with_reducible refine Below.alloc ?_ ?_ _) | (with_reducible refine Below.drew ?_) | (with_reducible refine Below.drewN' ?_ _) | (with_reducible refine Below.setCell ?_ ?_ _) | (refine Below.via ?_ (by with_reducible assumption) ?_) | (with_reducible refine Below.via ?_ (Wd.h _) ?_) | go_size))⟩
          · rw [← HF.out, HD.out, amF, HH.out]; simp
          · rw [map_set_iV]; exact HAz.out.setAt (i := q) (by omega) _
        case measure => simp [intOf]; omega
    · clear hbw
      have HE := Lib.hid (show acc = amL lb ln hr by rw [← HF.out, drop_endI hlt, amF])
      go_wp2
      go_ret
      rw [← HE.out]
      exact ⟨_, _, rfl, Nat.le_refl _, by simpa using Wr.of_arr (Nat.le_refl _) HA.out, hbH.out⟩
set_option maxRecDepth 100000 in
set_option maxHeartbeats 4000000 in
theorem impl_AmountsIn (A B C D : Option Addr) (n c m d e f : Nat) (N : Net) (lb : List Ctr) (ln : List Nom) (hr : Int) (w : World) (hN : NetAt w A B N) (hn : n = N.nodes.length) (hm : m = N.pipes.length) (hc : n ≤ c) (h : Rd w C (lb.flatMap Ctr.cells)) (hl : lb.length ≤ 1048576) (h' : Rd w D (ln.flatMap Nom.cells)) (hl' : ln.length ≤ 1048576) :
    Calls Try.prog 27 #[netV A B n c m d, .slice C lb.length e, .slice D ln.length f, .int .i64 hr] w (MadeR w 1 (amR N lb ln hr).1.length ((amR N lb ln hr).1.map iV) (amR N lb ln hr).2) := by
  subst hn hm
  have HN := Lib.hid hN
  have HB := Lib.hid h
  have HM := Lib.hid h'
  have hln := hN.ln
  clear hN h h'
  by_cases h0 : nomsC N lb ln = 0
  · have b0 : (nomsC N lb ln != 0) = false := by simp [h0]
    have HQ := Lib.hid (noms_of h0)
    have H0 := Lib.hid h0
    clear h0
    cases hs : inB hr 0 47
    · have HR := Lib.hid (show amR N lb ln hr = ([], 2) by simp [amR, H0.out, hs])
      (go_enter Try.func27, Try.ntmps27; go_wp2_with (first | (go_at_call 36; ((with_reducible refine (impl_checkNominations _ _ _ _ _ _ _ _ _ _ N lb ln _ (by exact HN.out.below (by (repeat' (first | (with_reducible exact Below.refl _ _) | (with_reducible assumption) | (with_reducible refine Below.alloc ?_ ?_ _) | (with_reducible refine Below.drew ?_) | (with_reducible refine Below.drewN' ?_ _) | (with_reducible refine Below.setCell ?_ ?_ _) | (refine Below.via ?_ (by with_reducible assumption) ?_) | (with_reducible refine Below.via ?_ (Wd.h _) ?_) | go_size)))) rfl rfl (by omega) (by exact HB.out.below (by (repeat' (first | (with_reducible exact Below.refl _ _) | (with_reducible assumption) | (with_reducible refine Below.alloc ?_ ?_ _) | (with_reducible refine Below.drew ?_) | (with_reducible refine Below.drewN' ?_ _) | (with_reducible refine Below.setCell ?_ ?_ _) | (refine Below.via ?_ (by with_reducible assumption) ?_) | (with_reducible refine Below.via ?_ (Wd.h _) ?_) | go_size)))) (by omega) (by exact HM.out.below (by (repeat' (first | (with_reducible exact Below.refl _ _) | (with_reducible assumption) | (with_reducible refine Below.alloc ?_ ?_ _) | (with_reducible refine Below.drew ?_) | (with_reducible refine Below.drewN' ?_ _) | (with_reducible refine Below.setCell ?_ ?_ _) | (refine Below.via ?_ (by with_reducible assumption) ?_) | (with_reducible refine Below.via ?_ (Wd.h _) ?_) | go_size)))) (by omega)).mono ?_)); rintro e wn ⟨rfl, hbn⟩; (obtain ⟨hcn, hfn⟩ := bcell hbn; have hzn := hbn.size; (try simp at hzn); have Ncw0_0 := hcn (w.heap.size) (0) (by first | omega | (simp; done) | (simp; omega)); have Nfw0_0 := hfn (w.heap.size) (0) (by first | omega | (simp; done) | (simp; omega)); have Nhy0 : w.heap.size < wn.heap.size := (by omega); have Ncw0_1 := hcn (w.heap.size) (1) (by first | omega | (simp; done) | (simp; omega)); have Nfw0_1 := hfn (w.heap.size) (1) (by first | omega | (simp; done) | (simp; omega)); (first | (simp [go_sem, cw0_0, fw0_0, cw0_1, fw0_1, hy0] at Ncw0_0 Nfw0_0 Ncw0_1 Nfw0_1; clear cw0_0 fw0_0 cw0_1 fw0_1) | (simp [go_sem] at Ncw0_0 Nfw0_0 Ncw0_1 Nfw0_1)); clear hcn hfn; have cw0_0 := Ncw0_0; have fw0_0 := Nfw0_0; have cw0_1 := Ncw0_1; have fw0_1 := Nfw0_1; have hy0 := Nhy0; clear Ncw0_0 Nfw0_0 Ncw0_1 Nfw0_1 Nhy0)) | (go_at_call 48; ((with_reducible refine (impl_isHour _ _).mono ?_)); rintro e wn ⟨rfl, rfl⟩)))
      go_ret2
      exact MadeR.nil HR.out rfl (by (repeat' (first | (with_reducible exact Below.refl _ _) | (with_reducible assumption) | (with_reducible refine Below.alloc ?_ ?_ _) | (with_reducible refine Below.drew ?_) | (with_reducible refine Below.drewN' ?_ _) | (with_reducible refine Below.setCell ?_ ?_ _) | (refine Below.via ?_ (by with_reducible assumption) ?_) | (with_reducible refine Below.via ?_ (Wd.h _) ?_) | go_size)))
    · have HR := Lib.hid (show amR N lb ln hr = (amL lb ln hr, 0) by simp [amR, H0.out, hs])
      (go_enter Try.func27, Try.ntmps27; go_wp2_with (first | (go_at_call 36; ((with_reducible refine (impl_checkNominations _ _ _ _ _ _ _ _ _ _ N lb ln _ (by exact HN.out.below (by (repeat' (first | (with_reducible exact Below.refl _ _) | (with_reducible assumption) | (with_reducible refine Below.alloc ?_ ?_ _) | (with_reducible refine Below.drew ?_) | (with_reducible refine Below.drewN' ?_ _) | (with_reducible refine Below.setCell ?_ ?_ _) | (refine Below.via ?_ (by with_reducible assumption) ?_) | (with_reducible refine Below.via ?_ (Wd.h _) ?_) | go_size)))) rfl rfl (by omega) (by exact HB.out.below (by (repeat' (first | (with_reducible exact Below.refl _ _) | (with_reducible assumption) | (with_reducible refine Below.alloc ?_ ?_ _) | (with_reducible refine Below.drew ?_) | (with_reducible refine Below.drewN' ?_ _) | (with_reducible refine Below.setCell ?_ ?_ _) | (refine Below.via ?_ (by with_reducible assumption) ?_) | (with_reducible refine Below.via ?_ (Wd.h _) ?_) | go_size)))) (by omega) (by exact HM.out.below (by (repeat' (first | (with_reducible exact Below.refl _ _) | (with_reducible assumption) | (with_reducible refine Below.alloc ?_ ?_ _) | (with_reducible refine Below.drew ?_) | (with_reducible refine Below.drewN' ?_ _) | (with_reducible refine Below.setCell ?_ ?_ _) | (refine Below.via ?_ (by with_reducible assumption) ?_) | (with_reducible refine Below.via ?_ (Wd.h _) ?_) | go_size)))) (by omega)).mono ?_)); rintro e wn ⟨rfl, hbn⟩; (obtain ⟨hcn, hfn⟩ := bcell hbn; have hzn := hbn.size; (try simp at hzn); have Ncw0_0 := hcn (w.heap.size) (0) (by first | omega | (simp; done) | (simp; omega)); have Nfw0_0 := hfn (w.heap.size) (0) (by first | omega | (simp; done) | (simp; omega)); have Nhy0 : w.heap.size < wn.heap.size := (by omega); have Ncw0_1 := hcn (w.heap.size) (1) (by first | omega | (simp; done) | (simp; omega)); have Nfw0_1 := hfn (w.heap.size) (1) (by first | omega | (simp; done) | (simp; omega)); (first | (simp [go_sem, cw0_0, fw0_0, cw0_1, fw0_1, hy0] at Ncw0_0 Nfw0_0 Ncw0_1 Nfw0_1; clear cw0_0 fw0_0 cw0_1 fw0_1) | (simp [go_sem] at Ncw0_0 Nfw0_0 Ncw0_1 Nfw0_1)); clear hcn hfn; have cw0_0 := Ncw0_0; have fw0_0 := Nfw0_0; have cw0_1 := Ncw0_1; have fw0_1 := Nfw0_1; have hy0 := Nhy0; clear Ncw0_0 Nfw0_0 Ncw0_1 Nfw0_1 Nhy0)) | (go_at_call 48; ((with_reducible refine (impl_isHour _ _).mono ?_)); rintro e wn ⟨rfl, rfl⟩)))
      refine (impl_amountsIn _ _ _ _ lb ln hr _ hl (HM.out.below (by (repeat' (first | (with_reducible exact Below.refl _ _) | (with_reducible assumption) | (with_reducible refine Below.alloc ?_ ?_ _) | (with_reducible refine Below.drew ?_) | (with_reducible refine Below.drewN' ?_ _) | (with_reducible refine Below.setCell ?_ ?_ _) | (refine Below.via ?_ (by with_reducible assumption) ?_) | (with_reducible refine Below.via ?_ (Wd.h _) ?_) | go_size)))) hl' (fun x hx => by have := nom_mem (ctrsOk_of HQ.out.1) HQ.out.2 hx; omega)).mono ?_
      rintro e w1 ⟨G, c1, rfl, hc1, hW1, hb1⟩
      have HW1 := Lib.hid hW1
      clear hW1
      go_wp2
      go_ret2
      exact MadeR.ofWr HR.out (amL_len _ _ _) hc1 (HW1.out.lower (by omega)) (by (repeat' (first | (with_reducible exact Below.refl _ _) | (with_reducible assumption) | (with_reducible refine Below.alloc ?_ ?_ _) | (with_reducible refine Below.drew ?_) | (with_reducible refine Below.drewN' ?_ _) | (with_reducible refine Below.setCell ?_ ?_ _) | (refine Below.via ?_ (by with_reducible assumption) ?_) | (with_reducible refine Below.via ?_ (Wd.h _) ?_) | go_size)))
  · have b0 : (nomsC N lb ln != 0) = true := by simp [h0]
    have HR := Lib.hid (show amR N lb ln hr = ([], nomsC N lb ln) by simp [amR, h0])
    (go_enter Try.func27, Try.ntmps27; go_wp2_with (first | (go_at_call 36; ((with_reducible refine (impl_checkNominations _ _ _ _ _ _ _ _ _ _ N lb ln _ (by exact HN.out.below (by (repeat' (first | (with_reducible exact Below.refl _ _) | (with_reducible assumption) | (with_reducible refine Below.alloc ?_ ?_ _) | (with_reducible refine Below.drew ?_) | (with_reducible refine Below.drewN' ?_ _) | (with_reducible refine Below.setCell ?_ ?_ _) | (refine Below.via ?_ (by with_reducible assumption) ?_) | (with_reducible refine Below.via ?_ (Wd.h _) ?_) | go_size)))) rfl rfl (by omega) (by exact HB.out.below (by (repeat' (first | (with_reducible exact Below.refl _ _) | (with_reducible assumption) | (with_reducible refine Below.alloc ?_ ?_ _) | (with_reducible refine Below.drew ?_) | (with_reducible refine Below.drewN' ?_ _) | (with_reducible refine Below.setCell ?_ ?_ _) | (refine Below.via ?_ (by with_reducible assumption) ?_) | (with_reducible refine Below.via ?_ (Wd.h _) ?_) | go_size)))) (by omega) (by exact HM.out.below (by (repeat' (first | (with_reducible exact Below.refl _ _) | (with_reducible assumption) | (with_reducible refine Below.alloc ?_ ?_ _) | (with_reducible refine Below.drew ?_) | (with_reducible refine Below.drewN' ?_ _) | (with_reducible refine Below.setCell ?_ ?_ _) | (refine Below.via ?_ (by with_reducible assumption) ?_) | (with_reducible refine Below.via ?_ (Wd.h _) ?_) | go_size)))) (by omega)).mono ?_)); rintro e wn ⟨rfl, hbn⟩; (obtain ⟨hcn, hfn⟩ := bcell hbn; have hzn := hbn.size; (try simp at hzn); have Ncw0_0 := hcn (w.heap.size) (0) (by first | omega | (simp; done) | (simp; omega)); have Nfw0_0 := hfn (w.heap.size) (0) (by first | omega | (simp; done) | (simp; omega)); have Nhy0 : w.heap.size < wn.heap.size := (by omega); have Ncw0_1 := hcn (w.heap.size) (1) (by first | omega | (simp; done) | (simp; omega)); have Nfw0_1 := hfn (w.heap.size) (1) (by first | omega | (simp; done) | (simp; omega)); (first | (simp [go_sem, cw0_0, fw0_0, cw0_1, fw0_1, hy0] at Ncw0_0 Nfw0_0 Ncw0_1 Nfw0_1; clear cw0_0 fw0_0 cw0_1 fw0_1) | (simp [go_sem] at Ncw0_0 Nfw0_0 Ncw0_1 Nfw0_1)); clear hcn hfn; have cw0_0 := Ncw0_0; have fw0_0 := Nfw0_0; have cw0_1 := Ncw0_1; have fw0_1 := Nfw0_1; have hy0 := Nhy0; clear Ncw0_0 Nfw0_0 Ncw0_1 Nfw0_1 Nhy0)) | (go_at_call 48; ((with_reducible refine (impl_isHour _ _).mono ?_)); rintro e wn ⟨rfl, rfl⟩)))
    go_ret2
    exact MadeR.nil HR.out rfl (by (repeat' (first | (with_reducible exact Below.refl _ _) | (with_reducible assumption) | (with_reducible refine Below.alloc ?_ ?_ _) | (with_reducible refine Below.drew ?_) | (with_reducible refine Below.drewN' ?_ _) | (with_reducible refine Below.setCell ?_ ?_ _) | (refine Below.via ?_ (by with_reducible assumption) ?_) | (with_reducible refine Below.via ?_ (Wd.h _) ?_) | go_size)))
set_option maxRecDepth 100000 in
set_option maxHeartbeats 4000000 in
theorem spec_AmountsIn (A B C D : Option Addr) (n c m d e f : Nat) (N : Net) (lb : List Ctr) (ln : List Nom) (hr : Int) (w : World) (hN : NetAt w A B N) (hn : n = N.nodes.length) (hm : m = N.pipes.length) (h : Rd w C (lb.flatMap Ctr.cells)) (hl : lb.length ≤ 1048576) (h' : Rd w D (ln.flatMap Nom.cells)) (hl' : ln.length ≤ 1048576) :
    Calls Try.prog 28 #[netV A B n c m d, .slice C lb.length e, .slice D ln.length f, .int .i64 hr] w (MadeR w 1 (amR N lb ln hr).1.length ((amR N lb ln hr).1.map iV) (amR N lb ln hr).2) := by
  subst hn hm
  have HN := Lib.hid hN
  have HB := Lib.hid h
  have HM := Lib.hid h'
  have hln := hN.ln
  clear hN h h'
  by_cases h0 : nomsC N lb ln = 0
  · have b0 : (nomsC N lb ln != 0) = false := by simp [h0]
    have b1 : (nomsC N lb ln == 0) = true := by simp [h0]
    have HQ := Lib.hid (noms_of h0)
    have H0 := Lib.hid h0
    clear h0
    cases hs : inB hr 0 47
    · have HR := Lib.hid (show amR N lb ln hr = ([], 2) by simp [amR, H0.out, hs])
      (go_enter Try.func28, Try.ntmps28; go_wp2_with (first | (go_at_call 41; ((with_reducible refine (spec_l21Code _ _ _ _ _ _ _ _ _ _ N lb ln _ (by exact HN.out.below (by (repeat' (first | (with_reducible exact Below.refl _ _) | (with_reducible assumption) | (with_reducible refine Below.alloc ?_ ?_ _) | (with_reducible refine Below.drew ?_) | (with_reducible refine Below.drewN' ?_ _) | (with_reducible refine Below.setCell ?_ ?_ _) | (refine Below.via ?_ (by with_reducible assumption) ?_) | (with_reducible refine Below.via ?_ (Wd.h _) ?_) | go_size)))) rfl rfl (by exact HB.out.below (by (repeat' (first | (with_reducible exact Below.refl _ _) | (with_reducible assumption) | (with_reducible refine Below.alloc ?_ ?_ _) | (with_reducible refine Below.drew ?_) | (with_reducible refine Below.drewN' ?_ _) | (with_reducible refine Below.setCell ?_ ?_ _) | (refine Below.via ?_ (by with_reducible assumption) ?_) | (with_reducible refine Below.via ?_ (Wd.h _) ?_) | go_size)))) (by omega) (by exact HM.out.below (by (repeat' (first | (with_reducible exact Below.refl _ _) | (with_reducible assumption) | (with_reducible refine Below.alloc ?_ ?_ _) | (with_reducible refine Below.drew ?_) | (with_reducible refine Below.drewN' ?_ _) | (with_reducible refine Below.setCell ?_ ?_ _) | (refine Below.via ?_ (by with_reducible assumption) ?_) | (with_reducible refine Below.via ?_ (Wd.h _) ?_) | go_size)))) (by omega)).mono ?_)); rintro e wn ⟨rfl, hbn⟩; (obtain ⟨hcn, hfn⟩ := bcell hbn; have hzn := hbn.size; (try simp at hzn); have Ncw0_0 := hcn (w.heap.size) (0) (by first | omega | (simp; done) | (simp; omega)); have Nfw0_0 := hfn (w.heap.size) (0) (by first | omega | (simp; done) | (simp; omega)); have Nhy0 : w.heap.size < wn.heap.size := (by omega); have Ncw0_1 := hcn (w.heap.size) (1) (by first | omega | (simp; done) | (simp; omega)); have Nfw0_1 := hfn (w.heap.size) (1) (by first | omega | (simp; done) | (simp; omega)); (first | (simp [go_sem, cw0_0, fw0_0, cw0_1, fw0_1, hy0] at Ncw0_0 Nfw0_0 Ncw0_1 Nfw0_1; clear cw0_0 fw0_0 cw0_1 fw0_1) | (simp [go_sem] at Ncw0_0 Nfw0_0 Ncw0_1 Nfw0_1)); clear hcn hfn; have cw0_0 := Ncw0_0; have fw0_0 := Nfw0_0; have cw0_1 := Ncw0_1; have fw0_1 := Nfw0_1; have hy0 := Nhy0; clear Ncw0_0 Nfw0_0 Ncw0_1 Nfw0_1 Nhy0)) | (go_at_call 59; ((with_reducible refine (spec_l20Hour _ _).mono ?_)); rintro e wn ⟨rfl, rfl⟩)))
      go_ret2
      exact MadeR.nil HR.out rfl (by (repeat' (first | (with_reducible exact Below.refl _ _) | (with_reducible assumption) | (with_reducible refine Below.alloc ?_ ?_ _) | (with_reducible refine Below.drew ?_) | (with_reducible refine Below.drewN' ?_ _) | (with_reducible refine Below.setCell ?_ ?_ _) | (refine Below.via ?_ (by with_reducible assumption) ?_) | (with_reducible refine Below.via ?_ (Wd.h _) ?_) | go_size)))
    · have HR := Lib.hid (show amR N lb ln hr = (amL lb ln hr, 0) by simp [amR, H0.out, hs])
      (go_enter Try.func28, Try.ntmps28; go_wp2_with (first | (go_at_call 41; ((with_reducible refine (spec_l21Code _ _ _ _ _ _ _ _ _ _ N lb ln _ (by exact HN.out.below (by (repeat' (first | (with_reducible exact Below.refl _ _) | (with_reducible assumption) | (with_reducible refine Below.alloc ?_ ?_ _) | (with_reducible refine Below.drew ?_) | (with_reducible refine Below.drewN' ?_ _) | (with_reducible refine Below.setCell ?_ ?_ _) | (refine Below.via ?_ (by with_reducible assumption) ?_) | (with_reducible refine Below.via ?_ (Wd.h _) ?_) | go_size)))) rfl rfl (by exact HB.out.below (by (repeat' (first | (with_reducible exact Below.refl _ _) | (with_reducible assumption) | (with_reducible refine Below.alloc ?_ ?_ _) | (with_reducible refine Below.drew ?_) | (with_reducible refine Below.drewN' ?_ _) | (with_reducible refine Below.setCell ?_ ?_ _) | (refine Below.via ?_ (by with_reducible assumption) ?_) | (with_reducible refine Below.via ?_ (Wd.h _) ?_) | go_size)))) (by omega) (by exact HM.out.below (by (repeat' (first | (with_reducible exact Below.refl _ _) | (with_reducible assumption) | (with_reducible refine Below.alloc ?_ ?_ _) | (with_reducible refine Below.drew ?_) | (with_reducible refine Below.drewN' ?_ _) | (with_reducible refine Below.setCell ?_ ?_ _) | (refine Below.via ?_ (by with_reducible assumption) ?_) | (with_reducible refine Below.via ?_ (Wd.h _) ?_) | go_size)))) (by omega)).mono ?_)); rintro e wn ⟨rfl, hbn⟩; (obtain ⟨hcn, hfn⟩ := bcell hbn; have hzn := hbn.size; (try simp at hzn); have Ncw0_0 := hcn (w.heap.size) (0) (by first | omega | (simp; done) | (simp; omega)); have Nfw0_0 := hfn (w.heap.size) (0) (by first | omega | (simp; done) | (simp; omega)); have Nhy0 : w.heap.size < wn.heap.size := (by omega); have Ncw0_1 := hcn (w.heap.size) (1) (by first | omega | (simp; done) | (simp; omega)); have Nfw0_1 := hfn (w.heap.size) (1) (by first | omega | (simp; done) | (simp; omega)); (first | (simp [go_sem, cw0_0, fw0_0, cw0_1, fw0_1, hy0] at Ncw0_0 Nfw0_0 Ncw0_1 Nfw0_1; clear cw0_0 fw0_0 cw0_1 fw0_1) | (simp [go_sem] at Ncw0_0 Nfw0_0 Ncw0_1 Nfw0_1)); clear hcn hfn; have cw0_0 := Ncw0_0; have fw0_0 := Nfw0_0; have cw0_1 := Ncw0_1; have fw0_1 := Nfw0_1; have hy0 := Nhy0; clear Ncw0_0 Nfw0_0 Ncw0_1 Nfw0_1 Nhy0)) | (go_at_call 59; ((with_reducible refine (spec_l20Hour _ _).mono ?_)); rintro e wn ⟨rfl, rfl⟩)))
      refine (spec_l21Amounts _ _ _ _ lb ln hr _ hl (HM.out.below (by (repeat' (first | (with_reducible exact Below.refl _ _) | (with_reducible assumption) | (with_reducible refine Below.alloc ?_ ?_ _) | (with_reducible refine Below.drew ?_) | (with_reducible refine Below.drewN' ?_ _) | (with_reducible refine Below.setCell ?_ ?_ _) | (refine Below.via ?_ (by with_reducible assumption) ?_) | (with_reducible refine Below.via ?_ (Wd.h _) ?_) | go_size)))) hl' (fun x hx => by have := nom_mem (ctrsOk_of HQ.out.1) HQ.out.2 hx; omega)).mono ?_
      rintro e w1 ⟨G, c1, rfl, hc1, hW1, hb1⟩
      have HW1 := Lib.hid hW1
      clear hW1
      go_wp2
      go_ret2
      exact MadeR.ofWr HR.out (amL_len _ _ _) hc1 (HW1.out.lower (by omega)) (by (repeat' (first | (with_reducible exact Below.refl _ _) | (with_reducible assumption) | (with_reducible refine Below.alloc ?_ ?_ _) | (with_reducible refine Below.drew ?_) | (with_reducible refine Below.drewN' ?_ _) | (with_reducible refine Below.setCell ?_ ?_ _) | (refine Below.via ?_ (by with_reducible assumption) ?_) | (with_reducible refine Below.via ?_ (Wd.h _) ?_) | go_size)))
  · have b0 : (nomsC N lb ln != 0) = true := by simp [h0]
    have b1 : (nomsC N lb ln == 0) = false := by simp [h0]
    have HR := Lib.hid (show amR N lb ln hr = ([], nomsC N lb ln) by simp [amR, h0])
    (go_enter Try.func28, Try.ntmps28; go_wp2_with (first | (go_at_call 41; ((with_reducible refine (spec_l21Code _ _ _ _ _ _ _ _ _ _ N lb ln _ (by exact HN.out.below (by (repeat' (first | (with_reducible exact Below.refl _ _) | (with_reducible assumption) | (with_reducible refine Below.alloc ?_ ?_ _) | (with_reducible refine Below.drew ?_) | (with_reducible refine Below.drewN' ?_ _) | (with_reducible refine Below.setCell ?_ ?_ _) | (refine Below.via ?_ (by with_reducible assumption) ?_) | (with_reducible refine Below.via ?_ (Wd.h _) ?_) | go_size)))) rfl rfl (by exact HB.out.below (by (repeat' (first | (with_reducible exact Below.refl _ _) | (with_reducible assumption) | (with_reducible refine Below.alloc ?_ ?_ _) | (with_reducible refine Below.drew ?_) | (with_reducible refine Below.drewN' ?_ _) | (with_reducible refine Below.setCell ?_ ?_ _) | (refine Below.via ?_ (by with_reducible assumption) ?_) | (with_reducible refine Below.via ?_ (Wd.h _) ?_) | go_size)))) (by omega) (by exact HM.out.below (by (repeat' (first | (with_reducible exact Below.refl _ _) | (with_reducible assumption) | (with_reducible refine Below.alloc ?_ ?_ _) | (with_reducible refine Below.drew ?_) | (with_reducible refine Below.drewN' ?_ _) | (with_reducible refine Below.setCell ?_ ?_ _) | (refine Below.via ?_ (by with_reducible assumption) ?_) | (with_reducible refine Below.via ?_ (Wd.h _) ?_) | go_size)))) (by omega)).mono ?_)); rintro e wn ⟨rfl, hbn⟩; (obtain ⟨hcn, hfn⟩ := bcell hbn; have hzn := hbn.size; (try simp at hzn); have Ncw0_0 := hcn (w.heap.size) (0) (by first | omega | (simp; done) | (simp; omega)); have Nfw0_0 := hfn (w.heap.size) (0) (by first | omega | (simp; done) | (simp; omega)); have Nhy0 : w.heap.size < wn.heap.size := (by omega); have Ncw0_1 := hcn (w.heap.size) (1) (by first | omega | (simp; done) | (simp; omega)); have Nfw0_1 := hfn (w.heap.size) (1) (by first | omega | (simp; done) | (simp; omega)); (first | (simp [go_sem, cw0_0, fw0_0, cw0_1, fw0_1, hy0] at Ncw0_0 Nfw0_0 Ncw0_1 Nfw0_1; clear cw0_0 fw0_0 cw0_1 fw0_1) | (simp [go_sem] at Ncw0_0 Nfw0_0 Ncw0_1 Nfw0_1)); clear hcn hfn; have cw0_0 := Ncw0_0; have fw0_0 := Nfw0_0; have cw0_1 := Ncw0_1; have fw0_1 := Nfw0_1; have hy0 := Nhy0; clear Ncw0_0 Nfw0_0 Ncw0_1 Nfw0_1 Nhy0)) | (go_at_call 59; ((with_reducible refine (spec_l20Hour _ _).mono ?_)); rintro e wn ⟨rfl, rfl⟩)))
    go_ret2
    exact MadeR.nil HR.out rfl (by (repeat' (first | (with_reducible exact Below.refl _ _) | (with_reducible assumption) | (with_reducible refine Below.alloc ?_ ?_ _) | (with_reducible refine Below.drew ?_) | (with_reducible refine Below.drewN' ?_ _) | (with_reducible refine Below.setCell ?_ ?_ _) | (refine Below.via ?_ (by with_reducible assumption) ?_) | (with_reducible refine Below.via ?_ (Wd.h _) ?_) | go_size)))
def hisF (con hr : Int) : List Nom → List Int
  | [] => []
  | x :: l => if ((x.con == con) && (x.hr == hr)) = true then x.am :: hisF con hr l else hisF con hr l
theorem hisF_len (con hr : Int) : ∀ (l : List Nom), (hisF con hr l).length ≤ l.length
  | [] => by simp [hisF]
  | x :: l => by
    have := hisF_len con hr l
    unfold hisF; split <;> simp <;> omega
noncomputable def askC (N : Net) (lb : List Ctr) (ln : List Nom) (con hr : Int) : Int :=
  if nomsC N lb ln ≠ 0 then nomsC N lb ln else if inB con 0 ((lb.length : Int) - 1) = false then 2 else if inB hr 0 47 = false then 2 else 0
noncomputable def hisR (N : Net) (lb : List Ctr) (ln : List Nom) (con hr : Int) : List Int × Int := if askC N lb ln con hr ≠ 0 then ([], askC N lb ln con hr) else (hisF con hr ln, 0)
theorem ask_of {N : Net} {lb : List Ctr} {ln : List Nom} {con hr : Int} (h : askC N lb ln con hr = 0) : nomsC N lb ln = 0 ∧ inB con 0 ((lb.length : Int) - 1) = true ∧ inB hr 0 47 = true := by
  unfold askC at h
  by_cases h1 : nomsC N lb ln = 0
  · cases h2 : inB con 0 ((lb.length : Int) - 1)
    · simp [h1, h2] at h
    · cases h3 : inB hr 0 47
      · simp [h1, h2, h3] at h
      · exact ⟨h1, rfl, rfl⟩
  · simp [h1] at h
theorem hisR_len {N : Net} {lb : List Ctr} {ln : List Nom} {con hr : Int} : (hisR N lb ln con hr).1.length ≤ 1048576 := by
  unfold hisR; split
  · simp
  · rename_i h
    have := (noms_of (ask_of (by simpa using h)).1).2.1
    have := hisF_len con hr ln
    simp; omega
set_option maxRecDepth 100000 in
set_option maxHeartbeats 1000000 in
theorem spec_l21Ask (A B C D : Option Addr) (n c m d e f : Nat) (N : Net) (lb : List Ctr) (ln : List Nom) (con hr : Int) (w : World) (hN : NetAt w A B N) (hn : n = N.nodes.length) (hm : m = N.pipes.length) (h : Rd w C (lb.flatMap Ctr.cells)) (hl : lb.length ≤ 1048576) (h' : Rd w D (ln.flatMap Nom.cells)) (hl' : ln.length ≤ 1048576) :
    Calls Try.prog 49 #[netV A B n c m d, .slice C lb.length e, .slice D ln.length f, .int .i64 con, .int .i64 hr] w fun e w' => e = .returned (.int .i64 (askC N lb ln con hr)) ∧ Below w.heap.size w w' := by
  subst hn hm
  have HN := Lib.hid hN
  have HB := Lib.hid h
  have HM := Lib.hid h'
  have hln := hN.ln
  clear hN h h'
  by_cases h0 : nomsC N lb ln = 0
  · have b1 : (nomsC N lb ln == 0) = true := by simp [h0]
    have H0 := Lib.hid h0
    clear h0
    cases hs : inB con 0 ((lb.length : Int) - 1)
    · (go_enter Try.func49, Try.ntmps49; go_wp2_with (first | (go_at_call 41; ((with_reducible refine (spec_l21Code _ _ _ _ _ _ _ _ _ _ N lb ln _ (by exact HN.out.below (by (repeat' (first | (with_reducible exact Below.refl _ _) | (with_reducible assumption) | (with_reducible refine Below.alloc ?_ ?_ _) | (with_reducible refine Below.drew ?_) | (with_reducible refine Below.drewN' ?_ _) | (with_reducible refine Below.setCell ?_ ?_ _) | (refine Below.via ?_ (by with_reducible assumption) ?_) | (with_reducible refine Below.via ?_ (Wd.h _) ?_) | go_size)))) rfl rfl (by exact HB.out.below (by (repeat' (first | (with_reducible exact Below.refl _ _) | (with_reducible assumption) | (with_reducible refine Below.alloc ?_ ?_ _) | (with_reducible refine Below.drew ?_) | (with_reducible refine Below.drewN' ?_ _) | (with_reducible refine Below.setCell ?_ ?_ _) | (refine Below.via ?_ (by with_reducible assumption) ?_) | (with_reducible refine Below.via ?_ (Wd.h _) ?_) | go_size)))) (by omega) (by exact HM.out.below (by (repeat' (first | (with_reducible exact Below.refl _ _) | (with_reducible assumption) | (with_reducible refine Below.alloc ?_ ?_ _) | (with_reducible refine Below.drew ?_) | (with_reducible refine Below.drewN' ?_ _) | (with_reducible refine Below.setCell ?_ ?_ _) | (refine Below.via ?_ (by with_reducible assumption) ?_) | (with_reducible refine Below.via ?_ (Wd.h _) ?_) | go_size)))) (by omega)).mono ?_)); rintro e wn ⟨rfl, hbn⟩; (obtain ⟨hcn, hfn⟩ := bcell hbn; have hzn := hbn.size; (try simp at hzn); have Ncw0_0 := hcn (w.heap.size) (0) (by first | omega | (simp; done) | (simp; omega)); have Nfw0_0 := hfn (w.heap.size) (0) (by first | omega | (simp; done) | (simp; omega)); have Nhy0 : w.heap.size < wn.heap.size := (by omega); have Ncw0_1 := hcn (w.heap.size) (1) (by first | omega | (simp; done) | (simp; omega)); have Nfw0_1 := hfn (w.heap.size) (1) (by first | omega | (simp; done) | (simp; omega)); (first | (simp [go_sem, cw0_0, fw0_0, cw0_1, fw0_1, hy0] at Ncw0_0 Nfw0_0 Ncw0_1 Nfw0_1; clear cw0_0 fw0_0 cw0_1 fw0_1) | (simp [go_sem] at Ncw0_0 Nfw0_0 Ncw0_1 Nfw0_1)); clear hcn hfn; have cw0_0 := Ncw0_0; have fw0_0 := Nfw0_0; have cw0_1 := Ncw0_1; have fw0_1 := Nfw0_1; have hy0 := Nhy0; clear Ncw0_0 Nfw0_0 Ncw0_1 Nfw0_1 Nhy0)) | (go_at_call 70; ((with_reducible refine (l01In_any _ _ _ _).mono ?_)); rintro e wn ⟨rfl, rfl⟩) | (go_at_call 70; ((with_reducible refine (l01In_any _ _ _ _).mono ?_)); rintro e wn ⟨rfl, rfl⟩) | (go_at_call 59; ((with_reducible refine (spec_l20Hour _ _).mono ?_)); rintro e wn ⟨rfl, rfl⟩)))
      go_ret
      exact ⟨ri (by simp [askC, H0.out, hs]), by (repeat' (first | (with_reducible exact Below.refl _ _) | (with_reducible assumption) | (with_reducible refine Below.alloc ?_ ?_ _) | (with_reducible refine Below.drew ?_) | (with_reducible refine Below.drewN' ?_ _) | (with_reducible refine Below.setCell ?_ ?_ _) | (refine Below.via ?_ (by with_reducible assumption) ?_) | (with_reducible refine Below.via ?_ (Wd.h _) ?_) | go_size))⟩
    cases hs2 : inB hr 0 47
    · (go_enter Try.func49, Try.ntmps49; go_wp2_with (first | (go_at_call 41; ((with_reducible refine (spec_l21Code _ _ _ _ _ _ _ _ _ _ N lb ln _ (by exact HN.out.below (by (repeat' (first | (with_reducible exact Below.refl _ _) | (with_reducible assumption) | (with_reducible refine Below.alloc ?_ ?_ _) | (with_reducible refine Below.drew ?_) | (with_reducible refine Below.drewN' ?_ _) | (with_reducible refine Below.setCell ?_ ?_ _) | (refine Below.via ?_ (by with_reducible assumption) ?_) | (with_reducible refine Below.via ?_ (Wd.h _) ?_) | go_size)))) rfl rfl (by exact HB.out.below (by (repeat' (first | (with_reducible exact Below.refl _ _) | (with_reducible assumption) | (with_reducible refine Below.alloc ?_ ?_ _) | (with_reducible refine Below.drew ?_) | (with_reducible refine Below.drewN' ?_ _) | (with_reducible refine Below.setCell ?_ ?_ _) | (refine Below.via ?_ (by with_reducible assumption) ?_) | (with_reducible refine Below.via ?_ (Wd.h _) ?_) | go_size)))) (by omega) (by exact HM.out.below (by (repeat' (first | (with_reducible exact Below.refl _ _) | (with_reducible assumption) | (with_reducible refine Below.alloc ?_ ?_ _) | (with_reducible refine Below.drew ?_) | (with_reducible refine Below.drewN' ?_ _) | (with_reducible refine Below.setCell ?_ ?_ _) | (refine Below.via ?_ (by with_reducible assumption) ?_) | (with_reducible refine Below.via ?_ (Wd.h _) ?_) | go_size)))) (by omega)).mono ?_)); rintro e wn ⟨rfl, hbn⟩; (obtain ⟨hcn, hfn⟩ := bcell hbn; have hzn := hbn.size; (try simp at hzn); have Ncw0_0 := hcn (w.heap.size) (0) (by first | omega | (simp; done) | (simp; omega)); have Nfw0_0 := hfn (w.heap.size) (0) (by first | omega | (simp; done) | (simp; omega)); have Nhy0 : w.heap.size < wn.heap.size := (by omega); have Ncw0_1 := hcn (w.heap.size) (1) (by first | omega | (simp; done) | (simp; omega)); have Nfw0_1 := hfn (w.heap.size) (1) (by first | omega | (simp; done) | (simp; omega)); (first | (simp [go_sem, cw0_0, fw0_0, cw0_1, fw0_1, hy0] at Ncw0_0 Nfw0_0 Ncw0_1 Nfw0_1; clear cw0_0 fw0_0 cw0_1 fw0_1) | (simp [go_sem] at Ncw0_0 Nfw0_0 Ncw0_1 Nfw0_1)); clear hcn hfn; have cw0_0 := Ncw0_0; have fw0_0 := Nfw0_0; have cw0_1 := Ncw0_1; have fw0_1 := Nfw0_1; have hy0 := Nhy0; clear Ncw0_0 Nfw0_0 Ncw0_1 Nfw0_1 Nhy0)) | (go_at_call 70; ((with_reducible refine (l01In_any _ _ _ _).mono ?_)); rintro e wn ⟨rfl, rfl⟩) | (go_at_call 70; ((with_reducible refine (l01In_any _ _ _ _).mono ?_)); rintro e wn ⟨rfl, rfl⟩) | (go_at_call 59; ((with_reducible refine (spec_l20Hour _ _).mono ?_)); rintro e wn ⟨rfl, rfl⟩)))
      go_ret
      exact ⟨ri (by simp [askC, H0.out, hs, hs2]), by (repeat' (first | (with_reducible exact Below.refl _ _) | (with_reducible assumption) | (with_reducible refine Below.alloc ?_ ?_ _) | (with_reducible refine Below.drew ?_) | (with_reducible refine Below.drewN' ?_ _) | (with_reducible refine Below.setCell ?_ ?_ _) | (refine Below.via ?_ (by with_reducible assumption) ?_) | (with_reducible refine Below.via ?_ (Wd.h _) ?_) | go_size))⟩
    · (go_enter Try.func49, Try.ntmps49; go_wp2_with (first | (go_at_call 41; ((with_reducible refine (spec_l21Code _ _ _ _ _ _ _ _ _ _ N lb ln _ (by exact HN.out.below (by (repeat' (first | (with_reducible exact Below.refl _ _) | (with_reducible assumption) | (with_reducible refine Below.alloc ?_ ?_ _) | (with_reducible refine Below.drew ?_) | (with_reducible refine Below.drewN' ?_ _) | (with_reducible refine Below.setCell ?_ ?_ _) | (refine Below.via ?_ (by with_reducible assumption) ?_) | (with_reducible refine Below.via ?_ (Wd.h _) ?_) | go_size)))) rfl rfl (by exact HB.out.below (by (repeat' (first | (with_reducible exact Below.refl _ _) | (with_reducible assumption) | (with_reducible refine Below.alloc ?_ ?_ _) | (with_reducible refine Below.drew ?_) | (with_reducible refine Below.drewN' ?_ _) | (with_reducible refine Below.setCell ?_ ?_ _) | (refine Below.via ?_ (by with_reducible assumption) ?_) | (with_reducible refine Below.via ?_ (Wd.h _) ?_) | go_size)))) (by omega) (by exact HM.out.below (by (repeat' (first | (with_reducible exact Below.refl _ _) | (with_reducible assumption) | (with_reducible refine Below.alloc ?_ ?_ _) | (with_reducible refine Below.drew ?_) | (with_reducible refine Below.drewN' ?_ _) | (with_reducible refine Below.setCell ?_ ?_ _) | (refine Below.via ?_ (by with_reducible assumption) ?_) | (with_reducible refine Below.via ?_ (Wd.h _) ?_) | go_size)))) (by omega)).mono ?_)); rintro e wn ⟨rfl, hbn⟩; (obtain ⟨hcn, hfn⟩ := bcell hbn; have hzn := hbn.size; (try simp at hzn); have Ncw0_0 := hcn (w.heap.size) (0) (by first | omega | (simp; done) | (simp; omega)); have Nfw0_0 := hfn (w.heap.size) (0) (by first | omega | (simp; done) | (simp; omega)); have Nhy0 : w.heap.size < wn.heap.size := (by omega); have Ncw0_1 := hcn (w.heap.size) (1) (by first | omega | (simp; done) | (simp; omega)); have Nfw0_1 := hfn (w.heap.size) (1) (by first | omega | (simp; done) | (simp; omega)); (first | (simp [go_sem, cw0_0, fw0_0, cw0_1, fw0_1, hy0] at Ncw0_0 Nfw0_0 Ncw0_1 Nfw0_1; clear cw0_0 fw0_0 cw0_1 fw0_1) | (simp [go_sem] at Ncw0_0 Nfw0_0 Ncw0_1 Nfw0_1)); clear hcn hfn; have cw0_0 := Ncw0_0; have fw0_0 := Nfw0_0; have cw0_1 := Ncw0_1; have fw0_1 := Nfw0_1; have hy0 := Nhy0; clear Ncw0_0 Nfw0_0 Ncw0_1 Nfw0_1 Nhy0)) | (go_at_call 70; ((with_reducible refine (l01In_any _ _ _ _).mono ?_)); rintro e wn ⟨rfl, rfl⟩) | (go_at_call 70; ((with_reducible refine (l01In_any _ _ _ _).mono ?_)); rintro e wn ⟨rfl, rfl⟩) | (go_at_call 59; ((with_reducible refine (spec_l20Hour _ _).mono ?_)); rintro e wn ⟨rfl, rfl⟩)))
      go_ret
      exact ⟨ri (by simp [askC, H0.out, hs, hs2]), by (repeat' (first | (with_reducible exact Below.refl _ _) | (with_reducible assumption) | (with_reducible refine Below.alloc ?_ ?_ _) | (with_reducible refine Below.drew ?_) | (with_reducible refine Below.drewN' ?_ _) | (with_reducible refine Below.setCell ?_ ?_ _) | (refine Below.via ?_ (by with_reducible assumption) ?_) | (with_reducible refine Below.via ?_ (Wd.h _) ?_) | go_size))⟩
  · have b1 : (nomsC N lb ln == 0) = false := by simp [h0]
    (go_enter Try.func49, Try.ntmps49; go_wp2_with (first | (go_at_call 41; ((with_reducible refine (spec_l21Code _ _ _ _ _ _ _ _ _ _ N lb ln _ (by exact HN.out.below (by (repeat' (first | (with_reducible exact Below.refl _ _) | (with_reducible assumption) | (with_reducible refine Below.alloc ?_ ?_ _) | (with_reducible refine Below.drew ?_) | (with_reducible refine Below.drewN' ?_ _) | (with_reducible refine Below.setCell ?_ ?_ _) | (refine Below.via ?_ (by with_reducible assumption) ?_) | (with_reducible refine Below.via ?_ (Wd.h _) ?_) | go_size)))) rfl rfl (by exact HB.out.below (by (repeat' (first | (with_reducible exact Below.refl _ _) | (with_reducible assumption) | (with_reducible refine Below.alloc ?_ ?_ _) | (with_reducible refine Below.drew ?_) | (with_reducible refine Below.drewN' ?_ _) | (with_reducible refine Below.setCell ?_ ?_ _) | (refine Below.via ?_ (by with_reducible assumption) ?_) | (with_reducible refine Below.via ?_ (Wd.h _) ?_) | go_size)))) (by omega) (by exact HM.out.below (by (repeat' (first | (with_reducible exact Below.refl _ _) | (with_reducible assumption) | (with_reducible refine Below.alloc ?_ ?_ _) | (with_reducible refine Below.drew ?_) | (with_reducible refine Below.drewN' ?_ _) | (with_reducible refine Below.setCell ?_ ?_ _) | (refine Below.via ?_ (by with_reducible assumption) ?_) | (with_reducible refine Below.via ?_ (Wd.h _) ?_) | go_size)))) (by omega)).mono ?_)); rintro e wn ⟨rfl, hbn⟩; (obtain ⟨hcn, hfn⟩ := bcell hbn; have hzn := hbn.size; (try simp at hzn); have Ncw0_0 := hcn (w.heap.size) (0) (by first | omega | (simp; done) | (simp; omega)); have Nfw0_0 := hfn (w.heap.size) (0) (by first | omega | (simp; done) | (simp; omega)); have Nhy0 : w.heap.size < wn.heap.size := (by omega); have Ncw0_1 := hcn (w.heap.size) (1) (by first | omega | (simp; done) | (simp; omega)); have Nfw0_1 := hfn (w.heap.size) (1) (by first | omega | (simp; done) | (simp; omega)); (first | (simp [go_sem, cw0_0, fw0_0, cw0_1, fw0_1, hy0] at Ncw0_0 Nfw0_0 Ncw0_1 Nfw0_1; clear cw0_0 fw0_0 cw0_1 fw0_1) | (simp [go_sem] at Ncw0_0 Nfw0_0 Ncw0_1 Nfw0_1)); clear hcn hfn; have cw0_0 := Ncw0_0; have fw0_0 := Nfw0_0; have cw0_1 := Ncw0_1; have fw0_1 := Nfw0_1; have hy0 := Nhy0; clear Ncw0_0 Nfw0_0 Ncw0_1 Nfw0_1 Nhy0)) | (go_at_call 70; ((with_reducible refine (l01In_any _ _ _ _).mono ?_)); rintro e wn ⟨rfl, rfl⟩) | (go_at_call 70; ((with_reducible refine (l01In_any _ _ _ _).mono ?_)); rintro e wn ⟨rfl, rfl⟩) | (go_at_call 59; ((with_reducible refine (spec_l20Hour _ _).mono ?_)); rintro e wn ⟨rfl, rfl⟩)))
    go_ret
    exact ⟨ri (by simp [askC, h0]), by (repeat' (first | (with_reducible exact Below.refl _ _) | (with_reducible assumption) | (with_reducible refine Below.alloc ?_ ?_ _) | (with_reducible refine Below.drew ?_) | (with_reducible refine Below.drewN' ?_ _) | (with_reducible refine Below.setCell ?_ ?_ _) | (refine Below.via ?_ (by with_reducible assumption) ?_) | (with_reducible refine Below.via ?_ (Wd.h _) ?_) | go_size))⟩
set_option maxRecDepth 100000 in
set_option maxHeartbeats 4000000 in
theorem spec_l21History (D : Option Addr) (f : Nat) (ln : List Nom) (con hr : Int) (w : World) (h' : Rd w D (ln.flatMap Nom.cells)) (hl' : ln.length ≤ 1048576) :
    Calls Try.prog 50 #[.slice D ln.length f, .int .i64 con, .int .i64 hr] w (MadeL w 1 (hisF con hr ln).length ((hisF con hr ln).map iV)) := by
  have HM := Lib.hid h'
  clear h'
  go_enter Try.func50, Try.ntmps50
  go_wp2
  go_loopw [7, 8] (fun u v wr => ∃ (k : Nat) (acc : List Int), k ≤ ln.length ∧ v = .int .i64 k ∧ acc.length ≤ k ∧ acc ++ hisF con hr (ln.drop k) = hisF con hr ln ∧ Own wr w.heap.size 2 1 u acc.length (acc.map iV) ∧ Below w.heap.size w wr) (fun _ v _ => ln.length - (intOf v).toNat)
  case atStart => exact ⟨0, [], by omega, rfl, by simp, by simp, by simpa using Own.lit0 w w.heap.size 2 1 (Nat.le_refl _), by (repeat' (first | (with_reducible exact Below.refl _ _) | (with_reducible assumption) | (with_reducible refine Below.alloc ?_ ?_ _) | (with_reducible refine Below.drew ?_) | (with_reducible refine Below.drewN' ?_ _) | (with_reducible refine Below.setCell ?_ ?_ _) | (refine Below.via ?_ (by with_reducible assumption) ?_) | (with_reducible refine Below.via ?_ (Wd.h _) ?_) | go_size))⟩
  case round =>
    obtain ⟨k, acc, hk, rfl, hal, hF, hO, hbw⟩ := hrel
    have hbH := Lib.hid hbw
    have HF := Lib.hid hF
    have HOW := Lib.hid hO
    clear hF hO
    by_cases hlt : k < ln.length
    · obtain ⟨x, hx⟩ := get_some hlt; obtain ⟨bx, offx, rfl, hbx, hat⟩ := HM.out.opened (k := k) (by rw [flat_len Nom.len]; omega); have hat' := hat.below hbw hbx; have hybx : bx < wr.heap.size := Nat.lt_of_lt_of_le hbx hbw.size; have hzw := hbw.size; have t0 := hat'.elem0 Nom.len hx rfl; have t1 := hat'.elem Nom.len hx 1 rfl; have t2 := hat'.elem Nom.len hx 2 rfl; have t3 := hat'.elem Nom.len hx 3 rfl; have HX := Lib.hid hx; have HD := Lib.hid (drop_cons hx); have gx : (k : Int) < _ := Int.ofNat_lt.2 hlt; clear hx hat hat'
      clear hbw
      cases hc : (x.con == con)
      · have HC := Lib.hid hc
        go_wp2
        go_roundw
        case rel =>
          refine ⟨k + 1, acc, by omega, by go_num, by omega, ?_, HOW.out, hbH.out⟩
          rw [← HF.out, HD.out, hisF, HC.out]; simp
        case measure => simp [intOf]; omega
      cases hh : (x.hr == hr)
      · have HC := Lib.hid hc
        have HH := Lib.hid hh
        go_wp2
        go_roundw
        case rel =>
          refine ⟨k + 1, acc, by omega, by go_num, by omega, ?_, HOW.out, hbH.out⟩
          rw [← HF.out, HD.out, hisF, HC.out, HH.out]; simp
        case measure => simp [intOf]; omega
      · have HC := Lib.hid hc
        have HH := Lib.hid hh
        go_wp2_with ((at_builtin; refine wp_app1 _ rfl (.tmp 32) (.tmp 38) 41 rfl (w.heap.size) info_i64 Try.underlying41 rfl (by omega) (by omega) _ (acc.length) _ rfl (HOW.out.alloc _) wr.heap.size 1 1 [iV (x.am)] rfl rfl (by intro j u hu; match j, hu with | 0, hu => (simp at hu; subst hu; simp) | j + 1, hu => simp at hu) (by simp [Value.oneCell']) (by omega) (by simp; omega) ?_; intro v' wn hO' hbn))
        go_roundw
        case rel =>
          refine ⟨k + 1, acc ++ [x.am], by omega, by go_num, by simp; omega, ?_, by simpa using hO', ?_⟩
          · rw [← HF.out, HD.out, hisF, HC.out, HH.out]; simp
          · have h1 := hbH.out
            (repeat' (first | (with_reducible exact Below.refl _ _) | (with_reducible assumption) | (with_reducible refine Below.alloc ?_ ?_ _) | (with_reducible refine Below.drew ?_) | (with_reducible refine Below.drewN' ?_ _) | (with_reducible refine Below.setCell ?_ ?_ _) | (refine Below.via ?_ (by with_reducible assumption) ?_) | (with_reducible refine Below.via ?_ (Wd.h _) ?_) | go_size))
        case measure => simp [intOf]; omega
    · clear hbw
      have HE := Lib.hid (show acc = hisF con hr ln by rw [← HF.out, drop_endI hlt, hisF]; simp)
      go_wp2
      go_ret
      obtain ⟨B1, cc, rfl, hnc, hw⟩ := HOW.out.lt_
      rw [← HE.out]
      exact ⟨B1, cc, rfl, hnc, hw, hbH.out⟩
set_option maxRecDepth 100000 in
set_option maxHeartbeats 4000000 in
theorem spec_HistoryOf (A B C D : Option Addr) (n c m d e f : Nat) (N : Net) (lb : List Ctr) (ln : List Nom) (con hr : Int) (w : World) (hN : NetAt w A B N) (hn : n = N.nodes.length) (hm : m = N.pipes.length) (h : Rd w C (lb.flatMap Ctr.cells)) (hl : lb.length ≤ 1048576) (h' : Rd w D (ln.flatMap Nom.cells)) (hl' : ln.length ≤ 1048576) :
    Calls Try.prog 16 #[netV A B n c m d, .slice C lb.length e, .slice D ln.length f, .int .i64 con, .int .i64 hr] w (MadeR w 1 (hisR N lb ln con hr).1.length ((hisR N lb ln con hr).1.map iV) (hisR N lb ln con hr).2) := by
  subst hn hm
  have HN := Lib.hid hN
  have HB := Lib.hid h
  have HM := Lib.hid h'
  have hln := hN.ln
  clear hN h h'
  go_enter Try.func16, Try.ntmps16
  go_wp2_with fail
  
  refine (spec_l21Ask _ _ _ _ _ _ _ _ _ _ N lb ln con hr _ (HN.out.below (by (repeat' (first | (with_reducible exact Below.refl _ _) | (with_reducible assumption) | (with_reducible refine Below.alloc ?_ ?_ _) | (with_reducible refine Below.drew ?_) | (with_reducible refine Below.drewN' ?_ _) | (with_reducible refine Below.setCell ?_ ?_ _) | (refine Below.via ?_ (by with_reducible assumption) ?_) | (with_reducible refine Below.via ?_ (Wd.h _) ?_) | go_size)))) rfl rfl (HB.out.below (by (repeat' (first | (with_reducible exact Below.refl _ _) | (with_reducible assumption) | (with_reducible refine Below.alloc ?_ ?_ _) | (with_reducible refine Below.drew ?_) | (with_reducible refine Below.drewN' ?_ _) | (with_reducible refine Below.setCell ?_ ?_ _) | (refine Below.via ?_ (by with_reducible assumption) ?_) | (with_reducible refine Below.via ?_ (Wd.h _) ?_) | go_size)))) hl (HM.out.below (by (repeat' (first | (with_reducible exact Below.refl _ _) | (with_reducible assumption) | (with_reducible refine Below.alloc ?_ ?_ _) | (with_reducible refine Below.drew ?_) | (with_reducible refine Below.drewN' ?_ _) | (with_reducible refine Below.setCell ?_ ?_ _) | (refine Below.via ?_ (by with_reducible assumption) ?_) | (with_reducible refine Below.via ?_ (Wd.h _) ?_) | go_size)))) hl').mono ?_
  rintro e w1 ⟨rfl, hb1⟩
  (obtain ⟨hcn, hfn⟩ := bcell hb1; have hz1 := hb1.size; (try simp at hz1); have Ncw0_0 := hcn (w.heap.size) (0) (by first | omega | (simp; done) | (simp; omega)); have Nfw0_0 := hfn (w.heap.size) (0) (by first | omega | (simp; done) | (simp; omega)); have Nhy0 : w.heap.size < w1.heap.size := (by omega); have Ncw0_1 := hcn (w.heap.size) (1) (by first | omega | (simp; done) | (simp; omega)); have Nfw0_1 := hfn (w.heap.size) (1) (by first | omega | (simp; done) | (simp; omega)); simp [go_sem] at Ncw0_0 Nfw0_0 Ncw0_1 Nfw0_1; clear hcn hfn; have cw0_0 := Ncw0_0; have fw0_0 := Nfw0_0; have cw0_1 := Ncw0_1; have fw0_1 := Nfw0_1; have hy0 := Nhy0; clear Ncw0_0 Nfw0_0 Ncw0_1 Nfw0_1 Nhy0)
  by_cases h0 : askC N lb ln con hr = 0
  · have b0 : (askC N lb ln con hr != 0) = false := by simp [h0]
    have HR := Lib.hid (show hisR N lb ln con hr = (hisF con hr ln, 0) by simp [hisR, h0])
    clear h0
    go_wp2_with fail
    refine (spec_l21History _ _ ln con hr _ (HM.out.below (by (repeat' (first | (with_reducible exact Below.refl _ _) | (with_reducible assumption) | (with_reducible refine Below.alloc ?_ ?_ _) | (with_reducible refine Below.drew ?_) | (with_reducible refine Below.drewN' ?_ _) | (with_reducible refine Below.setCell ?_ ?_ _) | (refine Below.via ?_ (by with_reducible assumption) ?_) | (with_reducible refine Below.via ?_ (Wd.h _) ?_) | go_size)))) hl').mono ?_
    rintro e w2 ⟨G, c2, rfl, hc2, hW2, hb2⟩
    have HW2 := Lib.hid hW2
    clear hW2
    go_wp2
    go_ret2
    exact MadeR.ofWr HR.out rfl hc2 (HW2.out.lower (by omega)) (by (repeat' (first | (with_reducible exact Below.refl _ _) | (with_reducible assumption) | (with_reducible refine Below.alloc ?_ ?_ _) | (with_reducible refine Below.drew ?_) | (with_reducible refine Below.drewN' ?_ _) | (with_reducible refine Below.setCell ?_ ?_ _) | (refine Below.via ?_ (by with_reducible assumption) ?_) | (with_reducible refine Below.via ?_ (Wd.h _) ?_) | go_size)))
  · have b0 : (askC N lb ln con hr != 0) = true := by simp [h0]
    have HR := Lib.hid (show hisR N lb ln con hr = ([], askC N lb ln con hr) by simp [hisR, h0])
    clear h0
    go_wp2
    go_ret2
    exact MadeR.nil HR.out rfl (by (repeat' (first | (with_reducible exact Below.refl _ _) | (with_reducible assumption) | (with_reducible refine Below.alloc ?_ ?_ _) | (with_reducible refine Below.drew ?_) | (with_reducible refine Below.drewN' ?_ _) | (with_reducible refine Below.setCell ?_ ?_ _) | (refine Below.via ?_ (by with_reducible assumption) ?_) | (with_reducible refine Below.via ?_ (Wd.h _) ?_) | go_size)))
set_option maxRecDepth 100000 in
set_option maxHeartbeats 4000000 in
theorem impl_HistoryOf (A B C D : Option Addr) (n c m d e f : Nat) (N : Net) (lb : List Ctr) (ln : List Nom) (con hr : Int) (w : World) (hN : NetAt w A B N) (hn : n = N.nodes.length) (hm : m = N.pipes.length) (hc : n ≤ c) (h : Rd w C (lb.flatMap Ctr.cells)) (hl : lb.length ≤ 1048576) (h' : Rd w D (ln.flatMap Nom.cells)) (hl' : ln.length ≤ 1048576) :
    Calls Try.prog 15 #[netV A B n c m d, .slice C lb.length e, .slice D ln.length f, .int .i64 con, .int .i64 hr] w (MadeR w 1 (hisR N lb ln con hr).1.length ((hisR N lb ln con hr).1.map iV) (hisR N lb ln con hr).2) := by
  subst hn hm
  have HN := Lib.hid hN
  have HB := Lib.hid h
  have HM := Lib.hid h'
  have hln := hN.ln
  clear hN h h'
  by_cases h0 : nomsC N lb ln = 0
  · have b0 : (nomsC N lb ln != 0) = false := by simp [h0]
    have HQ := Lib.hid (noms_of h0)
    have H0 := Lib.hid h0
    have h200 := (noms_of h0).2.1
    clear h0
    cases hs : inB con 0 ((lb.length : Int) - 1)
    · have HR := Lib.hid (show hisR N lb ln con hr = ([], 2) by simp [hisR, askC, H0.out, hs])
      (go_enter Try.func15, Try.ntmps15; go_wp2_with (first | (go_at_call 36; ((with_reducible refine (impl_checkNominations _ _ _ _ _ _ _ _ _ _ N lb ln _ (by exact HN.out.below (by (repeat' (first | (with_reducible exact Below.refl _ _) | (with_reducible assumption) | (with_reducible refine Below.alloc ?_ ?_ _) | (with_reducible refine Below.drew ?_) | (with_reducible refine Below.drewN' ?_ _) | (with_reducible refine Below.setCell ?_ ?_ _) | (refine Below.via ?_ (by with_reducible assumption) ?_) | (with_reducible refine Below.via ?_ (Wd.h _) ?_) | go_size)))) rfl rfl (by omega) (by exact HB.out.below (by (repeat' (first | (with_reducible exact Below.refl _ _) | (with_reducible assumption) | (with_reducible refine Below.alloc ?_ ?_ _) | (with_reducible refine Below.drew ?_) | (with_reducible refine Below.drewN' ?_ _) | (with_reducible refine Below.setCell ?_ ?_ _) | (refine Below.via ?_ (by with_reducible assumption) ?_) | (with_reducible refine Below.via ?_ (Wd.h _) ?_) | go_size)))) (by omega) (by exact HM.out.below (by (repeat' (first | (with_reducible exact Below.refl _ _) | (with_reducible assumption) | (with_reducible refine Below.alloc ?_ ?_ _) | (with_reducible refine Below.drew ?_) | (with_reducible refine Below.drewN' ?_ _) | (with_reducible refine Below.setCell ?_ ?_ _) | (refine Below.via ?_ (by with_reducible assumption) ?_) | (with_reducible refine Below.via ?_ (Wd.h _) ?_) | go_size)))) (by omega)).mono ?_)); rintro e wn ⟨rfl, hbn⟩; (obtain ⟨hcn, hfn⟩ := bcell hbn; have hzn := hbn.size; (try simp at hzn); have Ncw0_0 := hcn (w.heap.size) (0) (by first | omega | (simp; done) | (simp; omega)); have Nfw0_0 := hfn (w.heap.size) (0) (by first | omega | (simp; done) | (simp; omega)); have Nhy0 : w.heap.size < wn.heap.size := (by omega); have Ncw0_1 := hcn (w.heap.size) (1) (by first | omega | (simp; done) | (simp; omega)); have Nfw0_1 := hfn (w.heap.size) (1) (by first | omega | (simp; done) | (simp; omega)); (first | (simp [go_sem, cw0_0, fw0_0, cw0_1, fw0_1, hy0] at Ncw0_0 Nfw0_0 Ncw0_1 Nfw0_1; clear cw0_0 fw0_0 cw0_1 fw0_1) | (simp [go_sem] at Ncw0_0 Nfw0_0 Ncw0_1 Nfw0_1)); clear hcn hfn; have cw0_0 := Ncw0_0; have fw0_0 := Nfw0_0; have cw0_1 := Ncw0_1; have fw0_1 := Nfw0_1; have hy0 := Nhy0; clear Ncw0_0 Nfw0_0 Ncw0_1 Nfw0_1 Nhy0)) | (go_at_call 47; ((with_reducible refine (within_any _ _ _ _).mono ?_)); rintro e wn ⟨rfl, rfl⟩) | (go_at_call 47; ((with_reducible refine (within_any _ _ _ _).mono ?_)); rintro e wn ⟨rfl, rfl⟩) | (go_at_call 48; ((with_reducible refine (impl_isHour _ _).mono ?_)); rintro e wn ⟨rfl, rfl⟩)))
      go_ret2
      exact MadeR.nil HR.out rfl (by (repeat' (first | (with_reducible exact Below.refl _ _) | (with_reducible assumption) | (with_reducible refine Below.alloc ?_ ?_ _) | (with_reducible refine Below.drew ?_) | (with_reducible refine Below.drewN' ?_ _) | (with_reducible refine Below.setCell ?_ ?_ _) | (refine Below.via ?_ (by with_reducible assumption) ?_) | (with_reducible refine Below.via ?_ (Wd.h _) ?_) | go_size)))
    cases hs2 : inB hr 0 47
    · have HR := Lib.hid (show hisR N lb ln con hr = ([], 2) by simp [hisR, askC, H0.out, hs, hs2])
      (go_enter Try.func15, Try.ntmps15; go_wp2_with (first | (go_at_call 36; ((with_reducible refine (impl_checkNominations _ _ _ _ _ _ _ _ _ _ N lb ln _ (by exact HN.out.below (by (repeat' (first | (with_reducible exact Below.refl _ _) | (with_reducible assumption) | (with_reducible refine Below.alloc ?_ ?_ _) | (with_reducible refine Below.drew ?_) | (with_reducible refine Below.drewN' ?_ _) | (with_reducible refine Below.setCell ?_ ?_ _) | (refine Below.via ?_ (by with_reducible assumption) ?_) | (with_reducible refine Below.via ?_ (Wd.h _) ?_) | go_size)))) rfl rfl (by omega) (by exact HB.out.below (by (repeat' (first | (with_reducible exact Below.refl _ _) | (with_reducible assumption) | (with_reducible refine Below.alloc ?_ ?_ _) | (with_reducible refine Below.drew ?_) | (with_reducible refine Below.drewN' ?_ _) | (with_reducible refine Below.setCell ?_ ?_ _) | (refine Below.via ?_ (by with_reducible assumption) ?_) | (with_reducible refine Below.via ?_ (Wd.h _) ?_) | go_size)))) (by omega) (by exact HM.out.below (by (repeat' (first | (with_reducible exact Below.refl _ _) | (with_reducible assumption) | (with_reducible refine Below.alloc ?_ ?_ _) | (with_reducible refine Below.drew ?_) | (with_reducible refine Below.drewN' ?_ _) | (with_reducible refine Below.setCell ?_ ?_ _) | (refine Below.via ?_ (by with_reducible assumption) ?_) | (with_reducible refine Below.via ?_ (Wd.h _) ?_) | go_size)))) (by omega)).mono ?_)); rintro e wn ⟨rfl, hbn⟩; (obtain ⟨hcn, hfn⟩ := bcell hbn; have hzn := hbn.size; (try simp at hzn); have Ncw0_0 := hcn (w.heap.size) (0) (by first | omega | (simp; done) | (simp; omega)); have Nfw0_0 := hfn (w.heap.size) (0) (by first | omega | (simp; done) | (simp; omega)); have Nhy0 : w.heap.size < wn.heap.size := (by omega); have Ncw0_1 := hcn (w.heap.size) (1) (by first | omega | (simp; done) | (simp; omega)); have Nfw0_1 := hfn (w.heap.size) (1) (by first | omega | (simp; done) | (simp; omega)); (first | (simp [go_sem, cw0_0, fw0_0, cw0_1, fw0_1, hy0] at Ncw0_0 Nfw0_0 Ncw0_1 Nfw0_1; clear cw0_0 fw0_0 cw0_1 fw0_1) | (simp [go_sem] at Ncw0_0 Nfw0_0 Ncw0_1 Nfw0_1)); clear hcn hfn; have cw0_0 := Ncw0_0; have fw0_0 := Nfw0_0; have cw0_1 := Ncw0_1; have fw0_1 := Nfw0_1; have hy0 := Nhy0; clear Ncw0_0 Nfw0_0 Ncw0_1 Nfw0_1 Nhy0)) | (go_at_call 47; ((with_reducible refine (within_any _ _ _ _).mono ?_)); rintro e wn ⟨rfl, rfl⟩) | (go_at_call 47; ((with_reducible refine (within_any _ _ _ _).mono ?_)); rintro e wn ⟨rfl, rfl⟩) | (go_at_call 48; ((with_reducible refine (impl_isHour _ _).mono ?_)); rintro e wn ⟨rfl, rfl⟩)))
      go_ret2
      exact MadeR.nil HR.out rfl (by (repeat' (first | (with_reducible exact Below.refl _ _) | (with_reducible assumption) | (with_reducible refine Below.alloc ?_ ?_ _) | (with_reducible refine Below.drew ?_) | (with_reducible refine Below.drewN' ?_ _) | (with_reducible refine Below.setCell ?_ ?_ _) | (refine Below.via ?_ (by with_reducible assumption) ?_) | (with_reducible refine Below.via ?_ (Wd.h _) ?_) | go_size)))
    have HR := Lib.hid (show hisR N lb ln con hr = (hisF con hr ln, 0) by simp [hisR, askC, H0.out, hs, hs2])
    (go_enter Try.func15, Try.ntmps15; go_wp2_with (first | (go_at_call 36; ((with_reducible refine (impl_checkNominations _ _ _ _ _ _ _ _ _ _ N lb ln _ (by exact HN.out.below (by (repeat' (first | (with_reducible exact Below.refl _ _) | (with_reducible assumption) | (with_reducible refine Below.alloc ?_ ?_ _) | (with_reducible refine Below.drew ?_) | (with_reducible refine Below.drewN' ?_ _) | (with_reducible refine Below.setCell ?_ ?_ _) | (refine Below.via ?_ (by with_reducible assumption) ?_) | (with_reducible refine Below.via ?_ (Wd.h _) ?_) | go_size)))) rfl rfl (by omega) (by exact HB.out.below (by (repeat' (first | (with_reducible exact Below.refl _ _) | (with_reducible assumption) | (with_reducible refine Below.alloc ?_ ?_ _) | (with_reducible refine Below.drew ?_) | (with_reducible refine Below.drewN' ?_ _) | (with_reducible refine Below.setCell ?_ ?_ _) | (refine Below.via ?_ (by with_reducible assumption) ?_) | (with_reducible refine Below.via ?_ (Wd.h _) ?_) | go_size)))) (by omega) (by exact HM.out.below (by (repeat' (first | (with_reducible exact Below.refl _ _) | (with_reducible assumption) | (with_reducible refine Below.alloc ?_ ?_ _) | (with_reducible refine Below.drew ?_) | (with_reducible refine Below.drewN' ?_ _) | (with_reducible refine Below.setCell ?_ ?_ _) | (refine Below.via ?_ (by with_reducible assumption) ?_) | (with_reducible refine Below.via ?_ (Wd.h _) ?_) | go_size)))) (by omega)).mono ?_)); rintro e wn ⟨rfl, hbn⟩; (obtain ⟨hcn, hfn⟩ := bcell hbn; have hzn := hbn.size; (try simp at hzn); have Ncw0_0 := hcn (w.heap.size) (0) (by first | omega | (simp; done) | (simp; omega)); have Nfw0_0 := hfn (w.heap.size) (0) (by first | omega | (simp; done) | (simp; omega)); have Nhy0 : w.heap.size < wn.heap.size := (by omega); have Ncw0_1 := hcn (w.heap.size) (1) (by first | omega | (simp; done) | (simp; omega)); have Nfw0_1 := hfn (w.heap.size) (1) (by first | omega | (simp; done) | (simp; omega)); (first | (simp [go_sem, cw0_0, fw0_0, cw0_1, fw0_1, hy0] at Ncw0_0 Nfw0_0 Ncw0_1 Nfw0_1; clear cw0_0 fw0_0 cw0_1 fw0_1) | (simp [go_sem] at Ncw0_0 Nfw0_0 Ncw0_1 Nfw0_1)); clear hcn hfn; have cw0_0 := Ncw0_0; have fw0_0 := Nfw0_0; have cw0_1 := Ncw0_1; have fw0_1 := Nfw0_1; have hy0 := Nhy0; clear Ncw0_0 Nfw0_0 Ncw0_1 Nfw0_1 Nhy0)) | (go_at_call 47; ((with_reducible refine (within_any _ _ _ _).mono ?_)); rintro e wn ⟨rfl, rfl⟩) | (go_at_call 47; ((with_reducible refine (within_any _ _ _ _).mono ?_)); rintro e wn ⟨rfl, rfl⟩) | (go_at_call 48; ((with_reducible refine (impl_isHour _ _).mono ?_)); rintro e wn ⟨rfl, rfl⟩)))
    have hbn1 : Below w.heap.size w wn := by (repeat' (first | (with_reducible exact Below.refl _ _) | (with_reducible assumption) | (with_reducible refine Below.alloc ?_ ?_ _) | (with_reducible refine Below.drew ?_) | (with_reducible refine Below.drewN' ?_ _) | (with_reducible refine Below.setCell ?_ ?_ _) | (refine Below.via ?_ (by with_reducible assumption) ?_) | (with_reducible refine Below.via ?_ (Wd.h _) ?_) | go_size))
    have HBN := Lib.hid hbn1
    have hzz : w.heap.size ≤ wn.heap.size := hbn1.size
    clear hy0 cw0_0 fw0_0 cw0_1 fw0_1
    clear hbn hbn1
    go_loopw [13, 36] (fun u v wr => ∃ (k : Nat) (acc : List Int), k ≤ ln.length ∧ v = .int .i64 k ∧ acc.length ≤ k ∧ acc ++ hisF con hr (ln.drop k) = hisF con hr ln ∧ Own wr w.heap.size 2 1 u acc.length (acc.map iV) ∧ Below w.heap.size w wr) (fun _ v _ => ln.length - (intOf v).toNat)
    case atStart => exact ⟨0, [], by omega, rfl, by simp, by simp, by simpa using Own.nil wn w.heap.size 2 1, HBN.out⟩
    case round =>
      obtain ⟨k, acc, hk, rfl, hal, hF, hO, hbw⟩ := hrel
      have hbH := Lib.hid hbw
      have HF := Lib.hid hF
      have HOW := Lib.hid hO
      clear hF hO
      by_cases hlt : k < ln.length
      · obtain ⟨x, hx⟩ := get_some hlt; obtain ⟨bx, offx, rfl, hbx, hat⟩ := HM.out.opened (k := k) (by rw [flat_len Nom.len]; omega); have hat' := hat.below hbw hbx; have hybx : bx < wr.heap.size := Nat.lt_of_lt_of_le hbx hbw.size; have hzw := hbw.size; have t0 := hat'.elem0 Nom.len hx rfl; have t1 := hat'.elem Nom.len hx 1 rfl; have t2 := hat'.elem Nom.len hx 2 rfl; have t3 := hat'.elem Nom.len hx 3 rfl; have HX := Lib.hid hx; have HD := Lib.hid (drop_cons hx); have gx : (k : Int) < _ := Int.ofNat_lt.2 hlt; clear hx hat hat'
        clear hbw
        cases hc : (x.con == con)
        · have HC := Lib.hid hc
          go_wp2
          go_roundw
          case rel =>
            refine ⟨k + 1, acc, by omega, by go_num, by omega, ?_, HOW.out.alloc _, by have h1 := hbH.out; (repeat' (first | (with_reducible exact Below.refl _ _) | (with_reducible assumption) | (with_reducible refine Below.alloc ?_ ?_ _) | (with_reducible refine Below.drew ?_) | (with_reducible refine Below.drewN' ?_ _) | (with_reducible refine Below.setCell ?_ ?_ _) | (refine Below.via ?_ (by with_reducible assumption) ?_) | (with_reducible refine Below.via ?_ (Wd.h _) ?_) | go_size))⟩
            rw [← HF.out, HD.out, hisF, HC.out]; simp
          case measure => simp [intOf]; omega
        cases hh : (x.hr == hr)
        · have HC := Lib.hid hc
          have HH := Lib.hid hh
          go_wp2
          go_roundw
          case rel =>
            refine ⟨k + 1, acc, by omega, by go_num, by omega, ?_, HOW.out.alloc _, by have h1 := hbH.out; (repeat' (first | (with_reducible exact Below.refl _ _) | (with_reducible assumption) | (with_reducible refine Below.alloc ?_ ?_ _) | (with_reducible refine Below.drew ?_) | (with_reducible refine Below.drewN' ?_ _) | (with_reducible refine Below.setCell ?_ ?_ _) | (refine Below.via ?_ (by with_reducible assumption) ?_) | (with_reducible refine Below.via ?_ (Wd.h _) ?_) | go_size))⟩
            rw [← HF.out, HD.out, hisF, HC.out, HH.out]; simp
          case measure => simp [intOf]; omega
        · have HC := Lib.hid hc
          have HH := Lib.hid hh
          have HOA := Lib.hid (HOW.out.alloc (.cells #[.int .i64 x.con, .int .i64 x.hr, .int .i64 x.sent, .int .i64 x.am] 31))
          go_wp2_with ((at_builtin; refine wp_app1 _ rfl (.tmp 50) (.tmp 53) 41 rfl (w.heap.size) info_i64 Try.underlying41 rfl (by omega) (by omega) _ (acc.length) _ rfl (HOA.out.alloc _) (wr.heap.size + 1) 1 1 [iV (x.am)] rfl rfl (by intro j u hu; match j, hu with | 0, hu => (simp at hu; subst hu; simp) | j + 1, hu => simp at hu) (by simp [Value.oneCell']) (by omega) (by simp; omega) ?_; intro v' wn hO' hbn))
          go_roundw
          case rel =>
            refine ⟨k + 1, acc ++ [x.am], by omega, by go_num, by simp; omega, ?_, by simpa using hO', ?_⟩
            · rw [← HF.out, HD.out, hisF, HC.out, HH.out]; simp
            · have h1 := hbH.out
              (repeat' (first | (with_reducible exact Below.refl _ _) | (with_reducible assumption) | (with_reducible refine Below.alloc ?_ ?_ _) | (with_reducible refine Below.drew ?_) | (with_reducible refine Below.drewN' ?_ _) | (with_reducible refine Below.setCell ?_ ?_ _) | (refine Below.via ?_ (by with_reducible assumption) ?_) | (with_reducible refine Below.via ?_ (Wd.h _) ?_) | go_size))
          case measure => simp [intOf]; omega
      · clear hbw
        go_wp2
        go_ret2
        refine MadeR.own (l := acc) ?_ HOW.out (Nat.le_refl _) hbH.out
        rw [HR.out, ← HF.out, drop_endI hlt, hisF]; simp
  · have b0 : (nomsC N lb ln != 0) = true := by simp [h0]
    have HR := Lib.hid (show hisR N lb ln con hr = ([], nomsC N lb ln) by simp [hisR, askC, h0])
    (go_enter Try.func15, Try.ntmps15; go_wp2_with (first | (go_at_call 36; ((with_reducible refine (impl_checkNominations _ _ _ _ _ _ _ _ _ _ N lb ln _ (by exact HN.out.below (by (repeat' (first | (with_reducible exact Below.refl _ _) | (with_reducible assumption) | (with_reducible refine Below.alloc ?_ ?_ _) | (with_reducible refine Below.drew ?_) | (with_reducible refine Below.drewN' ?_ _) | (with_reducible refine Below.setCell ?_ ?_ _) | (refine Below.via ?_ (by with_reducible assumption) ?_) | (with_reducible refine Below.via ?_ (Wd.h _) ?_) | go_size)))) rfl rfl (by omega) (by exact HB.out.below (by (repeat' (first | (with_reducible exact Below.refl _ _) | (with_reducible assumption) | (with_reducible refine Below.alloc ?_ ?_ _) | (with_reducible refine Below.drew ?_) | (with_reducible refine Below.drewN' ?_ _) | (with_reducible refine Below.setCell ?_ ?_ _) | (refine Below.via ?_ (by with_reducible assumption) ?_) | (with_reducible refine Below.via ?_ (Wd.h _) ?_) | go_size)))) (by omega) (by exact HM.out.below (by (repeat' (first | (with_reducible exact Below.refl _ _) | (with_reducible assumption) | (with_reducible refine Below.alloc ?_ ?_ _) | (with_reducible refine Below.drew ?_) | (with_reducible refine Below.drewN' ?_ _) | (with_reducible refine Below.setCell ?_ ?_ _) | (refine Below.via ?_ (by with_reducible assumption) ?_) | (with_reducible refine Below.via ?_ (Wd.h _) ?_) | go_size)))) (by omega)).mono ?_)); rintro e wn ⟨rfl, hbn⟩; (obtain ⟨hcn, hfn⟩ := bcell hbn; have hzn := hbn.size; (try simp at hzn); have Ncw0_0 := hcn (w.heap.size) (0) (by first | omega | (simp; done) | (simp; omega)); have Nfw0_0 := hfn (w.heap.size) (0) (by first | omega | (simp; done) | (simp; omega)); have Nhy0 : w.heap.size < wn.heap.size := (by omega); have Ncw0_1 := hcn (w.heap.size) (1) (by first | omega | (simp; done) | (simp; omega)); have Nfw0_1 := hfn (w.heap.size) (1) (by first | omega | (simp; done) | (simp; omega)); (first | (simp [go_sem, cw0_0, fw0_0, cw0_1, fw0_1, hy0] at Ncw0_0 Nfw0_0 Ncw0_1 Nfw0_1; clear cw0_0 fw0_0 cw0_1 fw0_1) | (simp [go_sem] at Ncw0_0 Nfw0_0 Ncw0_1 Nfw0_1)); clear hcn hfn; have cw0_0 := Ncw0_0; have fw0_0 := Nfw0_0; have cw0_1 := Ncw0_1; have fw0_1 := Nfw0_1; have hy0 := Nhy0; clear Ncw0_0 Nfw0_0 Ncw0_1 Nfw0_1 Nhy0)) | (go_at_call 47; ((with_reducible refine (within_any _ _ _ _).mono ?_)); rintro e wn ⟨rfl, rfl⟩) | (go_at_call 47; ((with_reducible refine (within_any _ _ _ _).mono ?_)); rintro e wn ⟨rfl, rfl⟩) | (go_at_call 48; ((with_reducible refine (impl_isHour _ _).mono ?_)); rintro e wn ⟨rfl, rfl⟩)))
    go_ret2
    exact MadeR.nil HR.out rfl (by (repeat' (first | (with_reducible exact Below.refl _ _) | (with_reducible assumption) | (with_reducible refine Below.alloc ?_ ?_ _) | (with_reducible refine Below.drew ?_) | (with_reducible refine Below.drewN' ?_ _) | (with_reducible refine Below.setCell ?_ ?_ _) | (refine Below.via ?_ (by with_reducible assumption) ?_) | (with_reducible refine Below.via ?_ (Wd.h _) ?_) | go_size)))
end Go.Proofs.Ytigplpbdkjiekaa

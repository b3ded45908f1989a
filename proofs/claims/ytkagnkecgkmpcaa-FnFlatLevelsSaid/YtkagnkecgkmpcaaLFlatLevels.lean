/- The walk of the law FnFlatLevels: for all bytes it returns true and writes nothing that was there. -/
import Derived.Test.YtkagnkecgkmpcaaDfl
import Derived.Test.YtkagnkecgkmpcaaFlv
import Derived.Test.YtkagnkecgkmpcaaLk
import Derived.Test.YtkagnkecgkmpcaaPb
namespace Go.Proofs.Ytkagnkecgkmpcaa
set_option linter.unusedVariables false
set_option linter.unusedSimpArgs false
open Go.RowKit
theorem laws_bigF (A : Option Addr) (n c : Nat) (w : World) : Calls Try.prog 6 #[.slice A n c] w fun e w' => e = .returned (.bool (decide (4096 < n))) ∧ w = w' := by
  go_enter Try.func6, Try.ntmps6
  go_wp2
  go_ret
  refine ⟨rb ?_, rfl⟩
  simp; omega
theorem bsG_spec {P : Int → Bool} {M : Int} : ∀ (f : Nat) (lo hi : Int), lo ≤ hi → hi - lo ≤ f → P lo = true → (hi = M ∨ P (hi + 1) = false) → lo ≤ bsG P f lo hi ∧ bsG P f lo hi ≤ hi ∧ P (bsG P f lo hi) = true ∧ (bsG P f lo hi = M ∨ P (bsG P f lo hi + 1) = false)
  | f, lo, hi, h1, h2, h3, h4 => by
    by_cases hlt : lo < hi
    · cases f with
      | zero => omega
      | succ f =>
        cases hp : P ((lo + hi + 1) / 2)
        · rw [bsG_dn hlt rfl hp]
          have := bsG_spec (M := M) f lo ((lo + hi + 1) / 2 - 1) (by omega) (by omega) h3 (Or.inr (by rw [Int.sub_add_cancel]; exact hp))
          obtain ⟨a, b, c⟩ := this
          exact ⟨a, by omega, c⟩
        · rw [bsG_up hlt rfl hp]
          have := bsG_spec (M := M) f ((lo + hi + 1) / 2) hi (by omega) (by omega) hp h4
          obtain ⟨a, b, c⟩ := this
          exact ⟨by omega, b, c⟩
    · have e : lo = hi := by omega
      subst e
      rw [bsG_end (by omega)]
      exact ⟨by omega, by omega, h3, h4⟩
theorem line0 {N : Net} (hO : N.Ok) : lineF (flat N 0) N.pipes = 0 := by
  have key : ∀ (l : List Pp), lineF (flat N 0) l = 0 := by
    intro l
    induction l with
    | nil => rfl
    | cons p l ih =>
      have hz : ∀ i, lvR (flat N 0) i = 0 := fun i => by
        unfold lvR
        cases h : (flat N 0)[i.toNat]? with
        | none => rfl
        | some x =>
          have := List.eq_of_mem_replicate (List.mem_of_getElem? h)
          subst this
          simp [rootN]
      rw [lineF, ih, packF, hz, hz]; simp
  exact key _
theorem line_ok {N : Net} {l : List Int} (hb : netB N = true) (hv : LvOk l N.nodes.length) : lineR N l = (lineF l N.pipes, 0) := by
  have a : allB 0 100000000 l = true := allB_iff.2 hv.2
  have : lvC N l = 0 := by simp [lvC, hb, hv.1, a]
  simp [lineR, this]
theorem flat_len' (N : Net) (x : Int) : (flat N x).length = N.nodes.length := by simp [flat]
/-- what the law asks of the flat level -/
theorem fl_plain {N : Net} {pack L : Int} (h : flR N pack = (L, 0)) : netB N = true ∧ 0 ≤ L ∧ L ≤ 100000000 ∧ lineF (flat N L) N.pipes ≤ pack ∧ (L = 100000000 ∨ pack < lineF (flat N (L + 1)) N.pipes) := by
  cases hb : netB N
  · rw [flR_inv hb] at h; injection h with _ e; cases e
  by_cases hp : pack < 0
  · rw [flR_neg hb (by simpa using hp)] at h; injection h with _ e; cases e
  rw [flR_pos hb (by simpa using hp)] at h
  injection h with e _
  have hO := netB_ok hb
  have h0 : flB N pack 0 = true := by simp only [flB, line0 hO, decide_eq_true_eq]; omega
  obtain ⟨a, b, c, d⟩ := bsG_spec (P := flB N pack) (M := 100000000) (100000000 : Int).toNat 0 100000000 (by omega) (by omega) h0 (Or.inl rfl)
  rw [e] at a b c d
  refine ⟨rfl, a, b, by simpa [flB] using c, ?_⟩
  rcases d with d | d
  · exact Or.inl d
  · exact Or.inr (by simpa [flB] using d)
theorem bd_plain {N : Net} (hb : netB N = true) : bndR N = (lineF (N.nodes.map Nd.lo) N.pipes, lineF (N.nodes.map Nd.hi) N.pipes, 0) ∧ lineF (N.nodes.map Nd.lo) N.pipes ≤ lineF (N.nodes.map Nd.hi) N.pipes := by
  have hO := netB_ok hb
  refine ⟨by simp [bndR, hb], lineF_mono (lv_lo hO) (by simp) (fun k y hy => ?_) hO.pipes⟩
  rw [List.getElem?_map] at hy ⊢
  cases hx : N.nodes[k]? with
  | none => rw [hx] at hy; simp at hy
  | some x =>
    rw [hx] at hy; simp at hy; subst hy
    obtain ⟨a, b, c⟩ := node_lh hO (List.mem_of_getElem? hx)
    exact ⟨x.lo, rfl, b, c⟩
/-- the two lists of levels so far -/
structure FlI (G : Nat) (w7 : World) (x y : Int) (u v : Value) (k : Nat) (wr : World) : Prop where
  o1 : Own wr G 2 1 u k ((List.replicate k x).map iV)
  o2 : Own wr G 2 1 v k ((List.replicate k y).map iV)
  ap : Apart u v
  bl : Below G w7 wr
set_option maxRecDepth 100000 in
set_option maxHeartbeats 8000000 in
theorem walk_FnFlatLevels (w : World) (A0 : Option Addr) (c0 : Nat) (l0 : List Int) (h0 : BytesIn w A0 l0) :
    Calls Try.prog 4 #[.slice A0 l0.length c0] w fun e w' => e = .returned (.bool true) ∧ Below w.heap.size w w' := by
  have HI := Lib.hid h0
  clear h0
  by_cases hbig : 4096 < l0.length
  · have b0 : decide (4096 < l0.length) = true := by simpa using hbig
    go_enter Try.func4, Try.ntmps4
    go_wp2_with ((go_at_call 6; refine (laws_bigF _ _ _ _).mono ?_; rintro e w' ⟨rfl, rfl⟩))
    go_ret
    exact ⟨rfl, by (repeat' (first | (with_reducible exact Below.refl _ _) | (with_reducible assumption) | (with_reducible refine Below.alloc ?_ ?_ _) | (with_reducible refine Below.drew ?_) | (with_reducible refine Below.drewN' ?_ _) | (with_reducible refine Below.setCell ?_ ?_ _) | (refine Below.via ?_ (by with_reducible assumption) ?_) | (with_reducible refine Below.via ?_ (Wd.h _) ?_) | go_size))⟩
  have b0 : decide (4096 < l0.length) = false := by simpa using hbig
  go_enter Try.func4, Try.ntmps4
  go_wp2_with ((go_at_call 6; refine (laws_bigF _ _ _ _).mono ?_; rintro e w' ⟨rfl, rfl⟩))
  
  refine (spec_DrawFlatLevel A0 c0 l0 _ (HI.out.below (by (repeat' (first | (with_reducible exact Below.refl _ _) | (with_reducible assumption) | (with_reducible refine Below.alloc ?_ ?_ _) | (with_reducible refine Below.drew ?_) | (with_reducible refine Below.drewN' ?_ _) | (with_reducible refine Below.setCell ?_ ?_ _) | (refine Below.via ?_ (by with_reducible assumption) ?_) | (with_reducible refine Below.via ?_ (Wd.h _) ?_) | go_size)))) (by omega)).mono ?_
  rintro e w1 ⟨A, Bq, c, d, N, pack, rfl, hnc, hN, hb1⟩
  have hz1 := hb1.size
  have HN := Lib.hid hN
  obtain ⟨L, code, hR⟩ : ∃ L code, flR N pack = (L, code) := ⟨_, _, rfl⟩
  have HR := Lib.hid hR
  have hlnn := hN.ln
  clear hN hR
  go_wp2_with fail
  
  refine (impl_FlatLevel _ _ _ _ _ _ N pack _ (HN.out.below (by (repeat' (first | (with_reducible exact Below.refl _ _) | (with_reducible assumption) | (with_reducible refine Below.alloc ?_ ?_ _) | (with_reducible refine Below.drew ?_) | (with_reducible refine Below.drewN' ?_ _) | (with_reducible refine Below.setCell ?_ ?_ _) | (refine Below.via ?_ (by with_reducible assumption) ?_) | (with_reducible refine Below.via ?_ (Wd.h _) ?_) | go_size)))) rfl rfl hnc).mono ?_
  rintro e w2 ⟨rfl, hb2⟩
  rw [HR.out]
  (obtain ⟨hcn, hfn⟩ := bcell hb2; have hz2 := hb2.size; (try simp at hz2); have Na_0 := hcn (w1.heap.size) (0) (by first | omega | (simp; done) | (simp; omega)); have Na_0f := hfn (w1.heap.size) (0) (by first | omega | (simp; done) | (simp; omega)); have Nhy_a : w1.heap.size < w2.heap.size := (by omega); have Na_1 := hcn (w1.heap.size) (1) (by first | omega | (simp; done) | (simp; omega)); have Na_1f := hfn (w1.heap.size) (1) (by first | omega | (simp; done) | (simp; omega)); simp [go_sem] at Na_0 Na_0f Na_1 Na_1f; clear hcn hfn; have a_0 := Na_0; have a_0f := Na_0f; have a_1 := Na_1; have a_1f := Na_1f; have hy_a := Nhy_a; clear Na_0 Na_0f Na_1 Na_1f Nhy_a)
  go_wp2_with fail
  refine (spec_FlatLevel _ _ _ _ _ _ N pack _ (HN.out.below (by (repeat' (first | (with_reducible exact Below.refl _ _) | (with_reducible assumption) | (with_reducible refine Below.alloc ?_ ?_ _) | (with_reducible refine Below.drew ?_) | (with_reducible refine Below.drewN' ?_ _) | (with_reducible refine Below.setCell ?_ ?_ _) | (refine Below.via ?_ (by with_reducible assumption) ?_) | (with_reducible refine Below.via ?_ (Wd.h _) ?_) | go_size)))) rfl rfl).mono ?_
  rintro e w3 ⟨rfl, hb3⟩
  rw [HR.out]
  (obtain ⟨hcn, hfn⟩ := bcell hb3; have hz3 := hb3.size; (try simp at hz3); have Na_0 := hcn (w1.heap.size) (0) (by first | omega | (simp; done) | (simp; omega)); have Na_0f := hfn (w1.heap.size) (0) (by first | omega | (simp; done) | (simp; omega)); have Nhy_a : w1.heap.size < w3.heap.size := (by omega); have Na_1 := hcn (w1.heap.size) (1) (by first | omega | (simp; done) | (simp; omega)); have Na_1f := hfn (w1.heap.size) (1) (by first | omega | (simp; done) | (simp; omega)); simp [go_sem, a_0, a_0f, a_1, a_1f, hy_a] at Na_0 Na_0f Na_1 Na_1f; clear a_0 a_0f a_1 a_1f hy_a; clear hcn hfn; have a_0 := Na_0; have a_0f := Na_0f; have a_1 := Na_1; have a_1f := Na_1f; have hy_a := Nhy_a; clear Na_0 Na_0f Na_1 Na_1f Nhy_a)
  by_cases e0 : code = 0
  · subst e0
    obtain ⟨q1, q2, q3, q4, q5⟩ := fl_plain HR.out
    have HQ5 := Lib.hid q5
    have HNB := Lib.hid q1
    obtain ⟨p1, p2⟩ := bd_plain q1
    have HP1 := Lib.hid p1
    have HLO := Lib.hid (line_ok q1 (lv_flat (N := N) q2 q3))
    have HBX := Lib.hid (show Bx w3 w1.heap.size [.slice A N.nodes.length c, .slice Bq N.pipes.length d] from bx2 hy_a a_0 a_0f a_1 a_1f)
    have HB3 := Lib.hid (show Below w.heap.size w w3 by (repeat' (first | (with_reducible exact Below.refl _ _) | (with_reducible assumption) | (with_reducible refine Below.alloc ?_ ?_ _) | (with_reducible refine Below.drew ?_) | (with_reducible refine Below.drewN' ?_ _) | (with_reducible refine Below.setCell ?_ ?_ _) | (refine Below.via ?_ (by with_reducible assumption) ?_) | (with_reducible refine Below.via ?_ (Wd.h _) ?_) | go_size)))
    have HN3 := Lib.hid (HN.out.below (show Below w1.heap.size w1 w3 by (repeat' (first | (with_reducible exact Below.refl _ _) | (with_reducible assumption) | (with_reducible refine Below.alloc ?_ ?_ _) | (with_reducible refine Below.drew ?_) | (with_reducible refine Below.drewN' ?_ _) | (with_reducible refine Below.setCell ?_ ?_ _) | (refine Below.via ?_ (by with_reducible assumption) ?_) | (with_reducible refine Below.via ?_ (Wd.h _) ?_) | go_size))))
    have hlt1 := HBX.out.lt
    have H0 := Lib.hid (show FlI w3.heap.size w3 L (L + 1) (.slice (some ⟨w3.heap.size, 0, none⟩) 0 0) (.slice (some ⟨w3.heap.size + 1, 0, none⟩) 0 0) 0 ((w3.alloc (.cells #[] 2)).alloc (.cells #[] 2)) from
      ⟨(Own.lit0 w3 w3.heap.size 2 1 (Nat.le_refl _)).alloc _, by simpa using Own.lit0 (w3.alloc (.cells #[] 2)) w3.heap.size 2 1 (by simp), fun g hg hv => by simp [Value.ownBlock] at hg hv; omega, by (repeat' (first | (with_reducible exact Below.refl _ _) | (with_reducible assumption) | (with_reducible refine Below.alloc ?_ ?_ _) | (with_reducible refine Below.drew ?_) | (with_reducible refine Below.drewN' ?_ _) | (with_reducible refine Below.setCell ?_ ?_ _) | (refine Below.via ?_ (by with_reducible assumption) ?_) | (with_reducible refine Below.via ?_ (Wd.h _) ?_) | go_size))⟩)
    clear q1 q5 p1 hy_a a_0 a_0f a_1 a_1f hb1 hb2 hb3
    
    go_wp2_with fail
    go_loopw [9, 10, 11] (fun u v t wr => ∃ k : Nat, k ≤ N.nodes.length ∧ t = .int .i64 k ∧ FlI w3.heap.size w3 L (L + 1) u v k wr) (fun _ _ t _ => N.nodes.length - (intOf t).toNat)
    case atStart => exact ⟨0, by omega, rfl, H0.out⟩
    case round =>
      clear H0
      obtain ⟨k, hk, rfl, hI⟩ := hrel
      have HK := Lib.hid hI
      have hzr := hI.bl.size
      have HB := HBX.out.below hI.bl hlt1
      have hy7 := HB.lt; have cw7_0 := HB.cell 0 rfl; have fw7_0 := HB.frozen 0 rfl; have cw7_1 := HB.cell 1 rfl; have fw7_1 := HB.frozen 1 rfl
      clear hI HB
      by_cases hlt : k < N.nodes.length
      · have g1 : (k : Int) < N.nodes.length := by omega
        go_wp2_with ((first
          | (at_builtin; refine wp_app1x _ rfl (.tmp 57) (.tmp 59) 28 rfl w3.heap.size info_i64 Try.underlying28 rfl (by omega) (by omega) _ _ _ rfl (HK.out.o1.alloc _) _ 1 1 [iV L] rfl rfl (by intro j u hu; match j, hu with | 0, hu => (simp at hu; subst hu; simp) | j + 1, hu => simp at hu) (by simp [Value.oneCell']) (by omega) (by omega) (by simp; omega) ?_; intro v4 w4 hO4 hb4 hF4; have HO2 := Lib.hid (hF4.own (HK.out.o2.alloc _) HK.out.ap); have HAP := Lib.hid (hF4.apart (HK.out.o2.alloc _) HK.out.ap); have hz4 := hb4.size; simp at hz4)
          | (at_builtin; refine wp_app1x _ rfl (.tmp 61) (.tmp 64) 28 rfl w3.heap.size info_i64 Try.underlying28 rfl (by omega) (by omega) _ _ _ rfl (HO2.out.alloc _) _ 1 1 [iV (L + 1)] rfl rfl (by intro j u hu; match j, hu with | 0, hu => (simp at hu; subst hu; simp) | j + 1, hu => simp at hu) (by simp [Value.oneCell']) (by omega) (by omega) (by simp; omega) ?_; intro v5 w5 hO5 hb5 hF5; have HO1 := Lib.hid (hF5.own (Own.alloc hO4 _) HAP.out.symm); have HAP2 := Lib.hid (hF5.apart (Own.alloc hO4 _) HAP.out.symm))))
        go_roundw
        case rel => exact ⟨k + 1, by omega, by go_num, by rw [rep_snoc]; exact HO1.out, by rw [rep_snoc]; exact hO5, HAP2.out.symm, (HK.out.bl.trans (Below.trans (Below.alloc (Below.refl _ _) (by omega) _) hb4)).trans (Below.trans (Below.alloc (Below.refl _ _) (by omega) _) hb5)⟩
        case measure => simp [intOf]; omega
      · obtain rfl : k = N.nodes.length := by omega
        have g1 : ¬ (N.nodes.length : Int) < N.nodes.length := by omega
        obtain ⟨A1, c1, rfl, hc1, hRd1, _⟩ := HK.out.o1.val
        obtain ⟨A2, c2, rfl, hc2, hRd2, _⟩ := HK.out.o2.val
        have HF1 := Lib.hid hRd1
        have HF2 := Lib.hid hRd2
        clear hRd1 hRd2
        go_wp2_with fail
        have HC := impl_LinepackOf A Bq A1 _ c _ d c1 N (flat N L) wr (HN3.out.below HK.out.bl) rfl rfl hnc HF1.out (by rw [flat_len']; omega)
        rw [flat_len'] at HC
        refine HC.mono ?_
        rintro e w6 ⟨rfl, hb6⟩
        rw [HLO.out]
        have HB6 := Lib.hid (HK.out.bl.trans (hb6.mono hzr))
        have HF6 := Lib.hid (HF2.out.below hb6)
        clear HC hb6 cw7_0 cw7_1 fw7_0 fw7_1 hy7
        have HB := HBX.out.below HB6.out hlt1
        have hy7 := HB.lt; have cw7_0 := HB.cell 0 rfl; have fw7_0 := HB.frozen 0 rfl; have cw7_1 := HB.cell 1 rfl; have fw7_1 := HB.frozen 1 rfl
        clear HB
        go_wp2_with fail
        refine (impl_PackBounds A Bq _ c _ d N w6 (HN3.out.below HB6.out) rfl rfl hnc).mono ?_
        rintro e w7 ⟨rfl, hb7⟩
        rw [HP1.out]
        have hz6 := HB6.out.size
        have HB7 := Lib.hid (HB6.out.trans (hb7.mono hz6))
        have HF7 := Lib.hid (HF6.out.below hb7)
        clear hb7 cw7_0 cw7_1 fw7_0 fw7_1 hy7
        have HB := HBX.out.below HB7.out hlt1
        have hy7 := HB.lt; have cw7_0 := HB.cell 0 rfl; have fw7_0 := HB.frozen 0 rfl; have cw7_1 := HB.cell 1 rfl; have fw7_1 := HB.frozen 1 rfl
        clear HB
        generalize lineF (N.nodes.map Nd.lo) N.pipes = lo at *
        generalize lineF (N.nodes.map Nd.hi) N.pipes = hi at *
        generalize lineF (flat N L) N.pipes = X at *
        go_wp2_with fail
        have HC := impl_LinepackOf A Bq A2 _ c _ d c2 N (flat N (L + 1)) w7 (HN3.out.below HB7.out) rfl rfl hnc HF7.out (by rw [flat_len']; omega)
        rw [flat_len'] at HC
        refine HC.mono ?_
        rintro e w8 ⟨rfl, hb8⟩
        have HB8 := Lib.hid (HB7.out.trans (hb8.mono (by have := HB7.out.size; omega)))
        clear HC hb8
        by_cases hM : L = 100000000
        · obtain ⟨X2, cc, hX2⟩ : ∃ X2 cc, lineR N (flat N (L + 1)) = (X2, cc) := ⟨_, _, rfl⟩
          rw [hX2]
          clear hX2
          subst hM
          by_cases hcc : cc = 0
          · subst hcc
            by_cases hx2 : pack < X2
            · go_wp2
              go_ret
              exact ⟨rfl, by have h1 := HB8.out; have h2 := HB3.out; (repeat' (first | (with_reducible exact Below.refl _ _) | (with_reducible assumption) | (with_reducible refine Below.alloc ?_ ?_ _) | (with_reducible refine Below.drew ?_) | (with_reducible refine Below.drewN' ?_ _) | (with_reducible refine Below.setCell ?_ ?_ _) | (refine Below.via ?_ (by with_reducible assumption) ?_) | (with_reducible refine Below.via ?_ (Wd.h _) ?_) | go_size))⟩
            · go_wp2
              go_ret
              exact ⟨rfl, by have h1 := HB8.out; have h2 := HB3.out; (repeat' (first | (with_reducible exact Below.refl _ _) | (with_reducible assumption) | (with_reducible refine Below.alloc ?_ ?_ _) | (with_reducible refine Below.drew ?_) | (with_reducible refine Below.drewN' ?_ _) | (with_reducible refine Below.setCell ?_ ?_ _) | (refine Below.via ?_ (by with_reducible assumption) ?_) | (with_reducible refine Below.via ?_ (Wd.h _) ?_) | go_size))⟩
          · go_wp2
            go_ret
            exact ⟨rfl, by have h1 := HB8.out; have h2 := HB3.out; (repeat' (first | (with_reducible exact Below.refl _ _) | (with_reducible assumption) | (with_reducible refine Below.alloc ?_ ?_ _) | (with_reducible refine Below.drew ?_) | (with_reducible refine Below.drewN' ?_ _) | (with_reducible refine Below.setCell ?_ ?_ _) | (refine Below.via ?_ (by with_reducible assumption) ?_) | (with_reducible refine Below.via ?_ (Wd.h _) ?_) | go_size))⟩
        · have hY : pack < lineF (flat N (L + 1)) N.pipes := by
            rcases HQ5.out with h | h
            · exact absurd h hM
            · exact h
          rw [line_ok HNB.out (lv_flat (N := N) (by omega) (by omega))]
          have bM : (L == 100000000) = false := by simpa using hM
          generalize lineF (flat N (L + 1)) N.pipes = Y at *
          go_wp2
          go_ret
          exact ⟨rfl, by have h1 := HB8.out; have h2 := HB3.out; (repeat' (first | (with_reducible exact Below.refl _ _) | (with_reducible assumption) | (with_reducible refine Below.alloc ?_ ?_ _) | (with_reducible refine Below.drew ?_) | (with_reducible refine Below.drewN' ?_ _) | (with_reducible refine Below.setCell ?_ ?_ _) | (refine Below.via ?_ (by with_reducible assumption) ?_) | (with_reducible refine Below.via ?_ (Wd.h _) ?_) | go_size))⟩
  · have b1 : (code != 0) = true := by simp [e0]
    go_wp2
    go_ret
    exact ⟨rfl, by (repeat' (first | (with_reducible exact Below.refl _ _) | (with_reducible assumption) | (with_reducible refine Below.alloc ?_ ?_ _) | (with_reducible refine Below.drew ?_) | (with_reducible refine Below.drewN' ?_ _) | (with_reducible refine Below.setCell ?_ ?_ _) | (refine Below.via ?_ (by with_reducible assumption) ?_) | (with_reducible refine Below.via ?_ (Wd.h _) ?_) | go_size))⟩
end Go.Proofs.Ytkagnkecgkmpcaa

/- Lists of nominations. -/
import Derived.Test.YtlbidcblpmdgaaaNm
namespace Go.Proofs.Ytlbidcblpmdgaaa
set_option linter.unusedVariables false
set_option linter.unusedSimpArgs false
open Go.RowKit
def Srt (l : List Nom) : Prop := ∀ (i : Nat) (x y : Nom), l[i]? = some x → l[i + 1]? = some y → x.sent ≤ y.sent
def NomsOk (lb : List Ctr) (l : List Nom) : Prop := l.length ≤ 200 ∧ (∀ (i : Nat) (x : Nom), l[i]? = some x → nomB lb x = true) ∧ Srt l
open Classical in
noncomputable def nomsB (lb : List Ctr) (l : List Nom) : Bool := decide (NomsOk lb l)
theorem nomsB_t {lb : List Ctr} {l : List Nom} (h : NomsOk lb l) : nomsB lb l = true := by simp [nomsB, h]
theorem nomsB_f {lb : List Ctr} {l : List Nom} (h : ¬ NomsOk lb l) : nomsB lb l = false := by simp [nomsB, h]
theorem nomsB_long {lb : List Ctr} {l : List Nom} (h : 200 < l.length) : nomsB lb l = false := nomsB_f fun q => by have := q.1; omega
theorem nomsB_bad {lb : List Ctr} {l : List Nom} {k : Nat} {x : Nom} (h : l[k]? = some x) (hx : nomB lb x = false) : nomsB lb l = false :=
  nomsB_f fun q => by have := q.2.1 k x h; rw [hx] at this; cases this
theorem nomsB_uns {lb : List Ctr} {l : List Nom} {k : Nat} {x y : Nom} (h : l[k]? = some y) (h' : l[k + 1]? = some x) (hx : x.sent < y.sent) : nomsB lb l = false :=
  nomsB_f fun q => by have := q.2.2 k y x h h'; omega
/-- what is known behind the first k nominations -/
def NomsUp (lb : List Ctr) (l : List Nom) (k : Nat) : Prop := (∀ (i : Nat) (x : Nom), i < k → l[i]? = some x → nomB lb x = true) ∧ ∀ (i : Nat) (x y : Nom), i + 1 < k → l[i]? = some x → l[i + 1]? = some y → x.sent ≤ y.sent
theorem NomsUp.zero (lb : List Ctr) (l : List Nom) : NomsUp lb l 0 := ⟨fun i x h => by omega, fun i x y h => by omega⟩
theorem NomsUp.one {lb : List Ctr} {l : List Nom} {k : Nat} (hk : k = 0) {x : Nom} (hx : l[k]? = some x) (hb : nomB lb x = true) : NomsUp lb l (k + 1) := by
  subst hk
  refine ⟨fun i y h h1 => ?_, fun i x y h => by omega⟩
  obtain rfl : i = 0 := by omega
  obtain rfl : x = y := by have := hx.symm.trans h1; injection this
  exact hb
theorem NomsUp.more {lb : List Ctr} {l : List Nom} {j : Nat} (h : NomsUp lb l (j + 1)) {x y : Nom} (hx : l[j + 1]? = some x) (hy : l[j]? = some y) (hb : nomB lb x = true) (hs : y.sent ≤ x.sent) : NomsUp lb l (j + 1 + 1) := by
  refine ⟨fun i z hi h1 => ?_, fun i z u hi h1 h2 => ?_⟩
  · by_cases e : i = j + 1
    · subst e
      obtain rfl : x = z := by have := hx.symm.trans h1; injection this
      exact hb
    · exact h.1 i z (by omega) h1
  · by_cases e : i = j
    · subst e
      obtain rfl : y = z := by have := hy.symm.trans h1; injection this
      obtain rfl : x = u := by have := hx.symm.trans h2; injection this
      exact hs
    · exact h.2 i z u (by omega) h1 h2
theorem NomsUp.fin {lb : List Ctr} {l : List Nom} {k : Nat} (h : NomsUp lb l k) (hk : ¬ k < l.length) (h2 : l.length ≤ 200) : nomsB lb l = true :=
  nomsB_t ⟨h2, fun i x e => h.1 i x (by have := (List.getElem?_eq_some_iff.1 e).1; omega) e, fun i x y e1 e2 => h.2 i x y (by have := (List.getElem?_eq_some_iff.1 e2).1; omega) e1 e2⟩
theorem l21Is_b {C : Option Addr} {e : Nat} {lb : List Ctr} {x : Nom} {b : Bool} (hb : nomB lb x = b) {w : World} (h : Rd w C (lb.flatMap Ctr.cells)) (hl : lb.length ≤ 1048576) (hk : CtrsOk lb) :
    Calls Try.prog 55 #[.slice C lb.length e, x.val] w fun e w' => e = .returned (.bool b) ∧ Below w.heap.size w w' := hb ▸ spec_l21Is C e lb x w h hl hk
set_option maxRecDepth 100000 in
set_option maxHeartbeats 4000000 in
theorem spec_l21List (C D : Option Addr) (e f : Nat) (lb : List Ctr) (l : List Nom) (w : World) (h : Rd w C (lb.flatMap Ctr.cells)) (hl : lb.length ≤ 1048576) (hk : CtrsOk lb) (h' : Rd w D (l.flatMap Nom.cells)) (hl' : l.length ≤ 1048576) :
    Calls Try.prog 38 #[.slice C lb.length e, .slice D l.length f] w fun e w' => e = .returned (.bool (nomsB lb l)) ∧ Below w.heap.size w w' := by
  have HB := Lib.hid h
  have HKK := Lib.hid hk
  have HM := Lib.hid h'
  clear h hk h'
  by_cases h200 : 200 < l.length
  · have g0 : decide ((200 : Int) < l.length) = true := by simp; omega
    go_enter Try.func38, Try.ntmps38
    go_wp2
    go_ret
    exact ⟨rbf (nomsB_long h200), by (repeat' (first | (with_reducible exact Below.refl _ _) | (with_reducible assumption) | (with_reducible refine Below.alloc ?_ ?_ _) | (with_reducible refine Below.drew ?_) | (with_reducible refine Below.drewN' ?_ _) | (with_reducible refine Below.setCell ?_ ?_ _) | (refine Below.via ?_ (by with_reducible assumption) ?_) | (with_reducible refine Below.via ?_ (Wd.h _) ?_) | go_size))⟩
  have g0 : decide ((200 : Int) < l.length) = false := by simp; omega
  go_enter Try.func38, Try.ntmps38
  go_wp2
  go_loopw [5] (fun v wr => ∃ k : Nat, k ≤ l.length ∧ v = .int .i64 k ∧ NomsUp lb l k ∧ Below w.heap.size w wr) (fun v _ => l.length - (intOf v).toNat)
  case atStart => exact ⟨0, by omega, rfl, NomsUp.zero _ _, by (repeat' (first | (with_reducible exact Below.refl _ _) | (with_reducible assumption) | (with_reducible refine Below.alloc ?_ ?_ _) | (with_reducible refine Below.drew ?_) | (with_reducible refine Below.drewN' ?_ _) | (with_reducible refine Below.setCell ?_ ?_ _) | (refine Below.via ?_ (by with_reducible assumption) ?_) | (with_reducible refine Below.via ?_ (Wd.h _) ?_) | go_size))⟩
  case round =>
    obtain ⟨k, hk, rfl, hF, hbw⟩ := hrel
    have hbH := Lib.hid hbw
    have HF := Lib.hid hF
    clear hF
    by_cases hlt : k < l.length
    · obtain ⟨x, hx⟩ := get_some hlt; obtain ⟨bx, offx, rfl, hbx, hat⟩ := HM.out.opened (k := k) (by rw [flat_len Nom.len]; omega); have hat' := hat.below hbw hbx; have hybx : bx < wr.heap.size := Nat.lt_of_lt_of_le hbx hbw.size; have hzw := hbw.size; have q0 := Wd.cell hybx (hat'.elem0 Nom.len hx rfl); have q1 := Wd.cell hybx (hat'.elem Nom.len hx 1 rfl); have q2 := Wd.cell hybx (hat'.elem Nom.len hx 2 rfl); have q3 := Wd.cell hybx (hat'.elem Nom.len hx 3 rfl); have HX := Lib.hid hx; have HD := Lib.hid (drop_cons hx); have gx : (k : Int) < _ := Int.ofNat_lt.2 hlt; clear hx hat hat'
      have HRW : Hid (∀ y : Wd wr, Rd y.w C (lb.flatMap Ctr.cells)) := Lib.hid fun y => HB.out.below (Below.via hbH.out y.h hzw)
      cases hin : nomB lb x
      · have HA := Lib.hid (nomsB_bad HX.out hin)
        clear hbw
        go_wp2_with fail
        ((refine wp_region_wd (by kernel_rfl) (by kernel_rfl) ?_); (repeat (go_big_quiet_step ((first | fail | (go_at_call 55; exact wd_below (l21Is_b hin (HRW.out _) (by omega) HKK.out)) | (go_at_call 55; apply wd_below; with_reducible exact (spec_l21Is _ _ lb _ _ (by exact HB.out.below (by (repeat' (first | (with_reducible exact Below.refl _ _) | (with_reducible assumption) | (with_reducible refine Below.alloc ?_ ?_ _) | (with_reducible refine Below.drew ?_) | (with_reducible refine Below.drewN' ?_ _) | (with_reducible refine Below.setCell ?_ ?_ _) | (refine Below.via ?_ (by with_reducible assumption) ?_) | (with_reducible refine Below.via ?_ (Wd.h _) ?_) | go_size)))) (by omega) HKK.out)) | (go_at_call 55; exact wd_below (spec_l21Is _ _ lb _ _ (by exact HB.out.below (by (repeat' (first | (with_reducible exact Below.refl _ _) | (with_reducible assumption) | (with_reducible refine Below.alloc ?_ ?_ _) | (with_reducible refine Below.drew ?_) | (with_reducible refine Below.drewN' ?_ _) | (with_reducible refine Below.setCell ?_ ?_ _) | (refine Below.via ?_ (by with_reducible assumption) ?_) | (with_reducible refine Below.via ?_ (Wd.h _) ?_) | go_size)))) (by omega) HKK.out)))))); (refine wpQuiet_nil ?_); rintro wn ⟨⟨w'', hbn⟩, hw''⟩; obtain rfl : wn = w'' := hw''; (obtain ⟨hcn, hfn⟩ := bcell hbn; have hzn := hbn.size; (try simp at hzn); clear hcn hfn))
        clear q0 q1 q2 q3
        go_wp2
        go_ret
        exact ⟨rbf HA.out, by have h1 := hbH.out; (repeat' (first | (with_reducible exact Below.refl _ _) | (with_reducible assumption) | (with_reducible refine Below.alloc ?_ ?_ _) | (with_reducible refine Below.drew ?_) | (with_reducible refine Below.drewN' ?_ _) | (with_reducible refine Below.setCell ?_ ?_ _) | (refine Below.via ?_ (by with_reducible assumption) ?_) | (with_reducible refine Below.via ?_ (Wd.h _) ?_) | go_size))⟩
      · by_cases hk0 : k = 0
        · have HU := Lib.hid (NomsUp.one hk0 HX.out hin)
          subst hk0
          simp only [Nat.zero_mul, Nat.add_zero] at q0 q1 q2 q3
          clear hbw
          go_wp2_with fail
          ((refine wp_region_wd (by kernel_rfl) (by kernel_rfl) ?_); (repeat (go_big_quiet_step ((first | fail | (go_at_call 55; exact wd_below (l21Is_b hin (HRW.out _) (by omega) HKK.out)) | (go_at_call 55; apply wd_below; with_reducible exact (spec_l21Is _ _ lb _ _ (by exact HB.out.below (by (repeat' (first | (with_reducible exact Below.refl _ _) | (with_reducible assumption) | (with_reducible refine Below.alloc ?_ ?_ _) | (with_reducible refine Below.drew ?_) | (with_reducible refine Below.drewN' ?_ _) | (with_reducible refine Below.setCell ?_ ?_ _) | (refine Below.via ?_ (by with_reducible assumption) ?_) | (with_reducible refine Below.via ?_ (Wd.h _) ?_) | go_size)))) (by omega) HKK.out)) | (go_at_call 55; exact wd_below (spec_l21Is _ _ lb _ _ (by exact HB.out.below (by (repeat' (first | (with_reducible exact Below.refl _ _) | (with_reducible assumption) | (with_reducible refine Below.alloc ?_ ?_ _) | (with_reducible refine Below.drew ?_) | (with_reducible refine Below.drewN' ?_ _) | (with_reducible refine Below.setCell ?_ ?_ _) | (refine Below.via ?_ (by with_reducible assumption) ?_) | (with_reducible refine Below.via ?_ (Wd.h _) ?_) | go_size)))) (by omega) HKK.out)))))); (refine wpQuiet_nil ?_); rintro wn ⟨⟨w'', hbn⟩, hw''⟩; obtain rfl : wn = w'' := hw''; (obtain ⟨hcn, hfn⟩ := bcell hbn; have hzn := hbn.size; (try simp at hzn); clear hcn hfn))
          clear q0 q1 q2 q3
          go_wp2
          go_roundw
          case rel =>
            exact ⟨1, by omega, by go_num, HU.out, by have h1 := hbH.out; (repeat' (first | (with_reducible exact Below.refl _ _) | (with_reducible assumption) | (with_reducible refine Below.alloc ?_ ?_ _) | (with_reducible refine Below.drew ?_) | (with_reducible refine Below.drewN' ?_ _) | (with_reducible refine Below.setCell ?_ ?_ _) | (refine Below.via ?_ (by with_reducible assumption) ?_) | (with_reducible refine Below.via ?_ (Wd.h _) ?_) | go_size))⟩
          case measure => simp [intOf]; omega
        · obtain ⟨j, rfl⟩ : ∃ j, k = j + 1 := ⟨k - 1, by omega⟩
          obtain ⟨y, hy⟩ := get_some (show j < l.length by omega)
          obtain ⟨b', o', e', hb', hat⟩ := HM.out.opened (k := j) (by rw [flat_len Nom.len]; omega)
          cases e'
          have q6 := Wd.cell hybx ((hat.below hbw hb').elem Nom.len hy 2 rfl)
          clear hat
          have HY := Lib.hid hy
          have g2 : ((j + 1 : Nat) : Int) - 1 = j := by omega
          have g3 : decide (0 < ((j + 1 : Nat) : Int)) = true := by simp
          clear hy hbw hk0
          cases hle : decide (x.sent < y.sent)
          · have HU := Lib.hid (HF.out.more HX.out HY.out hin (by simpa using hle))
            go_wp2_with fail
            ((refine wp_region_wd (by kernel_rfl) (by kernel_rfl) ?_); (repeat (go_big_quiet_step ((first | fail | (go_at_call 55; exact wd_below (l21Is_b hin (HRW.out _) (by omega) HKK.out)) | (go_at_call 55; apply wd_below; with_reducible exact (spec_l21Is _ _ lb _ _ (by exact HB.out.below (by (repeat' (first | (with_reducible exact Below.refl _ _) | (with_reducible assumption) | (with_reducible refine Below.alloc ?_ ?_ _) | (with_reducible refine Below.drew ?_) | (with_reducible refine Below.drewN' ?_ _) | (with_reducible refine Below.setCell ?_ ?_ _) | (refine Below.via ?_ (by with_reducible assumption) ?_) | (with_reducible refine Below.via ?_ (Wd.h _) ?_) | go_size)))) (by omega) HKK.out)) | (go_at_call 55; exact wd_below (spec_l21Is _ _ lb _ _ (by exact HB.out.below (by (repeat' (first | (with_reducible exact Below.refl _ _) | (with_reducible assumption) | (with_reducible refine Below.alloc ?_ ?_ _) | (with_reducible refine Below.drew ?_) | (with_reducible refine Below.drewN' ?_ _) | (with_reducible refine Below.setCell ?_ ?_ _) | (refine Below.via ?_ (by with_reducible assumption) ?_) | (with_reducible refine Below.via ?_ (Wd.h _) ?_) | go_size)))) (by omega) HKK.out)))))); (refine wpQuiet_nil ?_); rintro wn ⟨⟨w'', hbn⟩, hw''⟩; obtain rfl : wn = w'' := hw''; (obtain ⟨hcn, hfn⟩ := bcell hbn; have hzn := hbn.size; (try simp at hzn); clear hcn hfn))
            clear q0 q1 q2 q3 q6
            go_wp2
            go_roundw
            case rel =>
              exact ⟨j + 1 + 1, by omega, by go_num, HU.out, by have h1 := hbH.out; (repeat' (first | (with_reducible exact Below.refl _ _) | (with_reducible assumption) | (with_reducible refine Below.alloc ?_ ?_ _) | (with_reducible refine Below.drew ?_) | (with_reducible refine Below.drewN' ?_ _) | (with_reducible refine Below.setCell ?_ ?_ _) | (refine Below.via ?_ (by with_reducible assumption) ?_) | (with_reducible refine Below.via ?_ (Wd.h _) ?_) | go_size))⟩
            case measure => simp [intOf]; omega
          · have HA := Lib.hid (nomsB_uns (lb := lb) HY.out HX.out (by simpa using hle))
            go_wp2_with fail
            ((refine wp_region_wd (by kernel_rfl) (by kernel_rfl) ?_); (repeat (go_big_quiet_step ((first | fail | (go_at_call 55; exact wd_below (l21Is_b hin (HRW.out _) (by omega) HKK.out)) | (go_at_call 55; apply wd_below; with_reducible exact (spec_l21Is _ _ lb _ _ (by exact HB.out.below (by (repeat' (first | (with_reducible exact Below.refl _ _) | (with_reducible assumption) | (with_reducible refine Below.alloc ?_ ?_ _) | (with_reducible refine Below.drew ?_) | (with_reducible refine Below.drewN' ?_ _) | (with_reducible refine Below.setCell ?_ ?_ _) | (refine Below.via ?_ (by with_reducible assumption) ?_) | (with_reducible refine Below.via ?_ (Wd.h _) ?_) | go_size)))) (by omega) HKK.out)) | (go_at_call 55; exact wd_below (spec_l21Is _ _ lb _ _ (by exact HB.out.below (by (repeat' (first | (with_reducible exact Below.refl _ _) | (with_reducible assumption) | (with_reducible refine Below.alloc ?_ ?_ _) | (with_reducible refine Below.drew ?_) | (with_reducible refine Below.drewN' ?_ _) | (with_reducible refine Below.setCell ?_ ?_ _) | (refine Below.via ?_ (by with_reducible assumption) ?_) | (with_reducible refine Below.via ?_ (Wd.h _) ?_) | go_size)))) (by omega) HKK.out)))))); (refine wpQuiet_nil ?_); rintro wn ⟨⟨w'', hbn⟩, hw''⟩; obtain rfl : wn = w'' := hw''; (obtain ⟨hcn, hfn⟩ := bcell hbn; have hzn := hbn.size; (try simp at hzn); clear hcn hfn))
            clear q0 q1 q2 q3 q6
            go_wp2
            go_ret
            exact ⟨rbf HA.out, by have h1 := hbH.out; (repeat' (first | (with_reducible exact Below.refl _ _) | (with_reducible assumption) | (with_reducible refine Below.alloc ?_ ?_ _) | (with_reducible refine Below.drew ?_) | (with_reducible refine Below.drewN' ?_ _) | (with_reducible refine Below.setCell ?_ ?_ _) | (refine Below.via ?_ (by with_reducible assumption) ?_) | (with_reducible refine Below.via ?_ (Wd.h _) ?_) | go_size))⟩
    · have HA := Lib.hid (HF.out.fin hlt (by omega))
      clear hbw
      go_wp2
      go_ret
      exact ⟨rbt HA.out, hbH.out⟩
noncomputable def nomsC (N : Net) (lb : List Ctr) (l : List Nom) : Int := if bookC N lb ≠ 0 then bookC N lb else if nomsB lb l = false then 5 else 0
theorem isNomination_b {C : Option Addr} {e : Nat} {lb : List Ctr} {x : Nom} {b : Bool} (hb : nomB lb x = b) {w : World} (h : Rd w C (lb.flatMap Ctr.cells)) (hl : lb.length ≤ 1048576) (hk : CtrsOk lb) :
    Calls Try.prog 36 #[.slice C lb.length e, x.val] w fun e w' => e = .returned (.bool b) ∧ Below w.heap.size w w' := hb ▸ impl_isNomination C e lb x w h hl hk
set_option maxRecDepth 100000 in
set_option maxHeartbeats 4000000 in
theorem impl_checkNominations (A B C D : Option Addr) (n c m d e f : Nat) (N : Net) (lb : List Ctr) (l : List Nom) (w : World) (hN : NetAt w A B N) (hn : n = N.nodes.length) (hm : m = N.pipes.length) (hc : n ≤ c) (h : Rd w C (lb.flatMap Ctr.cells)) (hl : lb.length ≤ 1048576) (h' : Rd w D (l.flatMap Nom.cells)) (hl' : l.length ≤ 1048576) :
    Calls Try.prog 19 #[netV A B n c m d, .slice C lb.length e, .slice D l.length f] w fun e w' => e = .returned (.int .i64 (nomsC N lb l)) ∧ Below w.heap.size w w' := by
  subst hn hm
  have HN := Lib.hid hN
  have HB := Lib.hid h
  have HM := Lib.hid h'
  have hln := hN.ln
  clear hN h h'
  by_cases h0 : bookC N lb = 0
  · have b0 : (bookC N lb != 0) = false := by simp [h0]
    have HKK := Lib.hid (ctrsOk_of h0)
    have HR := Lib.hid (show nomsC N lb l = if nomsB lb l = false then 5 else 0 by simp [nomsC, h0])
    clear h0
    by_cases h200 : 200 < l.length
    · have g0 : decide ((200 : Int) < l.length) = true := by simp; omega
      (go_enter Try.func19, Try.ntmps19; go_wp2_with (first | (go_at_call 35; ((with_reducible refine (impl_checkBook _ _ _ _ _ _ _ _ N lb _ (by exact HN.out.below (by (repeat' (first | (with_reducible exact Below.refl _ _) | (with_reducible assumption) | (with_reducible refine Below.alloc ?_ ?_ _) | (with_reducible refine Below.drew ?_) | (with_reducible refine Below.drewN' ?_ _) | (with_reducible refine Below.setCell ?_ ?_ _) | (refine Below.via ?_ (by with_reducible assumption) ?_) | (with_reducible refine Below.via ?_ (Wd.h _) ?_) | go_size)))) rfl rfl (by omega) (by exact HB.out.below (by (repeat' (first | (with_reducible exact Below.refl _ _) | (with_reducible assumption) | (with_reducible refine Below.alloc ?_ ?_ _) | (with_reducible refine Below.drew ?_) | (with_reducible refine Below.drewN' ?_ _) | (with_reducible refine Below.setCell ?_ ?_ _) | (refine Below.via ?_ (by with_reducible assumption) ?_) | (with_reducible refine Below.via ?_ (Wd.h _) ?_) | go_size)))) (by omega)).mono ?_)); rintro e wn ⟨rfl, hbn⟩; (obtain ⟨hcn, hfn⟩ := bcell hbn; have hzn := hbn.size; (try simp at hzn); have Ncw0_0 := hcn (w.heap.size) (0) (by first | omega | (simp; done) | (simp; omega)); have Nfw0_0 := hfn (w.heap.size) (0) (by first | omega | (simp; done) | (simp; omega)); have Nhy0 : w.heap.size < wn.heap.size := (by omega); have Ncw0_1 := hcn (w.heap.size) (1) (by first | omega | (simp; done) | (simp; omega)); have Nfw0_1 := hfn (w.heap.size) (1) (by first | omega | (simp; done) | (simp; omega)); (first | (simp [go_sem, cw0_0, fw0_0, cw0_1, fw0_1, hy0] at Ncw0_0 Nfw0_0 Ncw0_1 Nfw0_1; clear cw0_0 fw0_0 cw0_1 fw0_1) | (simp [go_sem] at Ncw0_0 Nfw0_0 Ncw0_1 Nfw0_1)); clear hcn hfn; have cw0_0 := Ncw0_0; have fw0_0 := Nfw0_0; have cw0_1 := Ncw0_1; have fw0_1 := Nfw0_1; have hy0 := Nhy0; clear Ncw0_0 Nfw0_0 Ncw0_1 Nfw0_1 Nhy0)) | (go_at_call 36; ((with_reducible refine (impl_isNomination _ _ lb _ _ (by exact HB.out.below (by (repeat' (first | (with_reducible exact Below.refl _ _) | (with_reducible assumption) | (with_reducible refine Below.alloc ?_ ?_ _) | (with_reducible refine Below.drew ?_) | (with_reducible refine Below.drewN' ?_ _) | (with_reducible refine Below.setCell ?_ ?_ _) | (refine Below.via ?_ (by with_reducible assumption) ?_) | (with_reducible refine Below.via ?_ (Wd.h _) ?_) | go_size)))) (by omega) HKK.out).mono ?_)); rintro e wn ⟨rfl, hbn⟩; (obtain ⟨hcn, hfn⟩ := bcell hbn; have hzn := hbn.size; (try simp at hzn); have Ncw0_0 := hcn (w.heap.size) (0) (by first | omega | (simp; done) | (simp; omega)); have Nfw0_0 := hfn (w.heap.size) (0) (by first | omega | (simp; done) | (simp; omega)); have Nhy0 : w.heap.size < wn.heap.size := (by omega); have Ncw0_1 := hcn (w.heap.size) (1) (by first | omega | (simp; done) | (simp; omega)); have Nfw0_1 := hfn (w.heap.size) (1) (by first | omega | (simp; done) | (simp; omega)); (first | (simp [go_sem, cw0_0, fw0_0, cw0_1, fw0_1, hy0] at Ncw0_0 Nfw0_0 Ncw0_1 Nfw0_1; clear cw0_0 fw0_0 cw0_1 fw0_1) | (simp [go_sem] at Ncw0_0 Nfw0_0 Ncw0_1 Nfw0_1)); clear hcn hfn; have cw0_0 := Ncw0_0; have fw0_0 := Nfw0_0; have cw0_1 := Ncw0_1; have fw0_1 := Nfw0_1; have hy0 := Nhy0; clear Ncw0_0 Nfw0_0 Ncw0_1 Nfw0_1 Nhy0))))
      go_ret
      exact ⟨ri (by rw [HR.out, if_pos (nomsB_long h200)]), by (repeat' (first | (with_reducible exact Below.refl _ _) | (with_reducible assumption) | (with_reducible refine Below.alloc ?_ ?_ _) | (with_reducible refine Below.drew ?_) | (with_reducible refine Below.drewN' ?_ _) | (with_reducible refine Below.setCell ?_ ?_ _) | (refine Below.via ?_ (by with_reducible assumption) ?_) | (with_reducible refine Below.via ?_ (Wd.h _) ?_) | go_size))⟩
    have g0 : decide ((200 : Int) < l.length) = false := by simp; omega
    (go_enter Try.func19, Try.ntmps19; go_wp2_with (first | (go_at_call 35; ((with_reducible refine (impl_checkBook _ _ _ _ _ _ _ _ N lb _ (by exact HN.out.below (by (repeat' (first | (with_reducible exact Below.refl _ _) | (with_reducible assumption) | (with_reducible refine Below.alloc ?_ ?_ _) | (with_reducible refine Below.drew ?_) | (with_reducible refine Below.drewN' ?_ _) | (with_reducible refine Below.setCell ?_ ?_ _) | (refine Below.via ?_ (by with_reducible assumption) ?_) | (with_reducible refine Below.via ?_ (Wd.h _) ?_) | go_size)))) rfl rfl (by omega) (by exact HB.out.below (by (repeat' (first | (with_reducible exact Below.refl _ _) | (with_reducible assumption) | (with_reducible refine Below.alloc ?_ ?_ _) | (with_reducible refine Below.drew ?_) | (with_reducible refine Below.drewN' ?_ _) | (with_reducible refine Below.setCell ?_ ?_ _) | (refine Below.via ?_ (by with_reducible assumption) ?_) | (with_reducible refine Below.via ?_ (Wd.h _) ?_) | go_size)))) (by omega)).mono ?_)); rintro e wn ⟨rfl, hbn⟩; (obtain ⟨hcn, hfn⟩ := bcell hbn; have hzn := hbn.size; (try simp at hzn); have Ncw0_0 := hcn (w.heap.size) (0) (by first | omega | (simp; done) | (simp; omega)); have Nfw0_0 := hfn (w.heap.size) (0) (by first | omega | (simp; done) | (simp; omega)); have Nhy0 : w.heap.size < wn.heap.size := (by omega); have Ncw0_1 := hcn (w.heap.size) (1) (by first | omega | (simp; done) | (simp; omega)); have Nfw0_1 := hfn (w.heap.size) (1) (by first | omega | (simp; done) | (simp; omega)); (first | (simp [go_sem, cw0_0, fw0_0, cw0_1, fw0_1, hy0] at Ncw0_0 Nfw0_0 Ncw0_1 Nfw0_1; clear cw0_0 fw0_0 cw0_1 fw0_1) | (simp [go_sem] at Ncw0_0 Nfw0_0 Ncw0_1 Nfw0_1)); clear hcn hfn; have cw0_0 := Ncw0_0; have fw0_0 := Nfw0_0; have cw0_1 := Ncw0_1; have fw0_1 := Nfw0_1; have hy0 := Nhy0; clear Ncw0_0 Nfw0_0 Ncw0_1 Nfw0_1 Nhy0)) | (go_at_call 36; ((with_reducible refine (impl_isNomination _ _ lb _ _ (by exact HB.out.below (by (repeat' (first | (with_reducible exact Below.refl _ _) | (with_reducible assumption) | (with_reducible refine Below.alloc ?_ ?_ _) | (with_reducible refine Below.drew ?_) | (with_reducible refine Below.drewN' ?_ _) | (with_reducible refine Below.setCell ?_ ?_ _) | (refine Below.via ?_ (by with_reducible assumption) ?_) | (with_reducible refine Below.via ?_ (Wd.h _) ?_) | go_size)))) (by omega) HKK.out).mono ?_)); rintro e wn ⟨rfl, hbn⟩; (obtain ⟨hcn, hfn⟩ := bcell hbn; have hzn := hbn.size; (try simp at hzn); have Ncw0_0 := hcn (w.heap.size) (0) (by first | omega | (simp; done) | (simp; omega)); have Nfw0_0 := hfn (w.heap.size) (0) (by first | omega | (simp; done) | (simp; omega)); have Nhy0 : w.heap.size < wn.heap.size := (by omega); have Ncw0_1 := hcn (w.heap.size) (1) (by first | omega | (simp; done) | (simp; omega)); have Nfw0_1 := hfn (w.heap.size) (1) (by first | omega | (simp; done) | (simp; omega)); (first | (simp [go_sem, cw0_0, fw0_0, cw0_1, fw0_1, hy0] at Ncw0_0 Nfw0_0 Ncw0_1 Nfw0_1; clear cw0_0 fw0_0 cw0_1 fw0_1) | (simp [go_sem] at Ncw0_0 Nfw0_0 Ncw0_1 Nfw0_1)); clear hcn hfn; have cw0_0 := Ncw0_0; have fw0_0 := Nfw0_0; have cw0_1 := Ncw0_1; have fw0_1 := Nfw0_1; have hy0 := Nhy0; clear Ncw0_0 Nfw0_0 Ncw0_1 Nfw0_1 Nhy0))))
    have hbn1 : Below w.heap.size w wn := by (repeat' (first | (with_reducible exact Below.refl _ _) | (with_reducible assumption) | (with_reducible refine Below.alloc ?_ ?_ _) | (with_reducible refine Below.drew ?_) | (with_reducible refine Below.drewN' ?_ _) | (with_reducible refine Below.setCell ?_ ?_ _) | (refine Below.via ?_ (by with_reducible assumption) ?_) | (with_reducible refine Below.via ?_ (Wd.h _) ?_) | go_size))
    have HBN := Lib.hid hbn1
    clear hy0 cw0_0 fw0_0 cw0_1 fw0_1
    clear hbn hbn1
    go_loopw [21] (fun v wr => ∃ k : Nat, k ≤ l.length ∧ v = .int .i64 k ∧ NomsUp lb l k ∧ Below w.heap.size w wr) (fun v _ => l.length - (intOf v).toNat)
    case atStart => exact ⟨0, by omega, rfl, NomsUp.zero _ _, HBN.out⟩
    case round =>
      obtain ⟨k, hk, rfl, hF, hbw⟩ := hrel
      have hbH := Lib.hid hbw
      have HF := Lib.hid hF
      clear hF
      by_cases hlt : k < l.length
      · obtain ⟨x, hx⟩ := get_some hlt; obtain ⟨bx, offx, rfl, hbx, hat⟩ := HM.out.opened (k := k) (by rw [flat_len Nom.len]; omega); have hat' := hat.below hbw hbx; have hybx : bx < wr.heap.size := Nat.lt_of_lt_of_le hbx hbw.size; have hzw := hbw.size; have t0 := hat'.elem0 Nom.len hx rfl; have t1 := hat'.elem Nom.len hx 1 rfl; have t2 := hat'.elem Nom.len hx 2 rfl; have t3 := hat'.elem Nom.len hx 3 rfl; have HX := Lib.hid hx; have HD := Lib.hid (drop_cons hx); have gx : (k : Int) < _ := Int.ofNat_lt.2 hlt; clear hx hat hat'
        obtain ⟨b', o', e', hb', hat⟩ := HM.out.opened (k := k) (by rw [flat_len Nom.len]; omega)
        cases e'
        have HAT := Lib.hid (hat.below hbw hb')
        clear hat hbw hb'
        go_wp2_with fail
        generalize hW : World.alloc wr _ = wn
        have hbn0 : Below wr.heap.size wr wn := by rw [← hW]; (repeat' (first | (with_reducible exact Below.refl _ _) | (with_reducible assumption) | (with_reducible refine Below.alloc ?_ ?_ _) | (with_reducible refine Below.drew ?_) | (with_reducible refine Below.drewN' ?_ _) | (with_reducible refine Below.setCell ?_ ?_ _) | (refine Below.via ?_ (by with_reducible assumption) ?_) | (with_reducible refine Below.via ?_ (Wd.h _) ?_) | go_size))
        have hzn := hbn0.size
        have hy_cx : wr.heap.size < wn.heap.size := by have := congrArg (fun W => W.heap.size) hW; simp at this; omega
        have q0 := Wd.cell (w0 := wn) (b := wr.heap.size) (o := 0) (v := .int .i64 x.con) hy_cx (by rw [← hW]; simp)
        have q1 := Wd.cell (w0 := wn) (b := wr.heap.size) (o := 1) (v := .int .i64 x.hr) hy_cx (by rw [← hW]; simp)
        have q2 := Wd.cell (w0 := wn) (b := wr.heap.size) (o := 2) (v := .int .i64 x.sent) hy_cx (by rw [← hW]; simp)
        have q3 := Wd.cell (w0 := wn) (b := wr.heap.size) (o := 3) (v := .int .i64 x.am) hy_cx (by rw [← hW]; simp)
        have hbH2 := Lib.hid (Below.via hbH.out hbn0 (by have := hbH.out.size; omega))
        have HRW : Hid (∀ y : Wd wn, Rd y.w C (lb.flatMap Ctr.cells)) := Lib.hid fun y => HB.out.below (Below.via hbH2.out y.h (by omega))
        have HAT2 := Lib.hid (HAT.out.below hbn0 hybx)
        have hybn : bx < wn.heap.size := by omega
        clear hW t0 t1 t2 t3
        cases hin : nomB lb x
        · have HA := Lib.hid (nomsB_bad HX.out hin)
          refine wp_region_wd (by kernel_rfl) (by kernel_rfl) ?_
          repeat (go_big_quiet_step ((go_at_call 36; exact wd_below (isNomination_b hin (HRW.out _) (by omega) HKK.out))))
          refine wpQuiet_nil ?_
          rintro w2 ⟨⟨w'', hbn⟩, hw''⟩
          obtain rfl : w2 = w'' := hw''
          clear q0 q1 q2 q3
          go_wp2
          go_ret
          exact ⟨ri (by rw [HR.out, if_pos HA.out]), by have h1 := hbH2.out; (repeat' (first | (with_reducible exact Below.refl _ _) | (with_reducible assumption) | (with_reducible refine Below.alloc ?_ ?_ _) | (with_reducible refine Below.drew ?_) | (with_reducible refine Below.drewN' ?_ _) | (with_reducible refine Below.setCell ?_ ?_ _) | (refine Below.via ?_ (by with_reducible assumption) ?_) | (with_reducible refine Below.via ?_ (Wd.h _) ?_) | go_size))⟩
        · by_cases hk0 : k = 0
          · have HU := Lib.hid (NomsUp.one hk0 HX.out hin)
            subst hk0
            refine wp_region_wd (by kernel_rfl) (by kernel_rfl) ?_
            repeat (go_big_quiet_step ((go_at_call 36; exact wd_below (isNomination_b hin (HRW.out _) (by omega) HKK.out))))
            refine wpQuiet_nil ?_
            rintro w2 ⟨⟨w'', hbn⟩, hw''⟩
            obtain rfl : w2 = w'' := hw''
            clear q0 q1 q2 q3
            go_wp2
            go_roundw
            case rel =>
              exact ⟨1, by omega, by go_num, HU.out, by have h1 := hbH2.out; (repeat' (first | (with_reducible exact Below.refl _ _) | (with_reducible assumption) | (with_reducible refine Below.alloc ?_ ?_ _) | (with_reducible refine Below.drew ?_) | (with_reducible refine Below.drewN' ?_ _) | (with_reducible refine Below.setCell ?_ ?_ _) | (refine Below.via ?_ (by with_reducible assumption) ?_) | (with_reducible refine Below.via ?_ (Wd.h _) ?_) | go_size))⟩
            case measure => simp [intOf]; omega
          · obtain ⟨j, rfl⟩ : ∃ j, k = j + 1 := ⟨k - 1, by omega⟩
            obtain ⟨y, hy⟩ := get_some (show j < l.length by omega)
            have q6 := Wd.cell hybn (HAT2.out.elem Nom.len hy 2 rfl)
            have HY := Lib.hid hy
            have g2 : ((j + 1 : Nat) : Int) - 1 = j := by omega
            have g3 : decide (0 < ((j + 1 : Nat) : Int)) = true := by simp
            clear hy hk0
            cases hle : decide (x.sent < y.sent)
            · have HU := Lib.hid (HF.out.more HX.out HY.out hin (by simpa using hle))
              refine wp_region_wd (by kernel_rfl) (by kernel_rfl) ?_
              repeat (go_big_quiet_step ((go_at_call 36; exact wd_below (isNomination_b hin (HRW.out _) (by omega) HKK.out))))
              refine wpQuiet_nil ?_
              rintro w2 ⟨⟨w'', hbn⟩, hw''⟩
              obtain rfl : w2 = w'' := hw''
              clear q0 q1 q2 q3 q6
              go_wp2
              go_roundw
              case rel =>
                exact ⟨j + 1 + 1, by omega, by go_num, HU.out, by have h1 := hbH2.out; (repeat' (first | (with_reducible exact Below.refl _ _) | (with_reducible assumption) | (with_reducible refine Below.alloc ?_ ?_ _) | (with_reducible refine Below.drew ?_) | (with_reducible refine Below.drewN' ?_ _) | (with_reducible refine Below.setCell ?_ ?_ _) | (refine Below.via ?_ (by with_reducible assumption) ?_) | (with_reducible refine Below.via ?_ (Wd.h _) ?_) | go_size))⟩
              case measure => simp [intOf]; omega
            · have HA := Lib.hid (nomsB_uns (lb := lb) HY.out HX.out (by simpa using hle))
              refine wp_region_wd (by kernel_rfl) (by kernel_rfl) ?_
              repeat (go_big_quiet_step ((go_at_call 36; exact wd_below (isNomination_b hin (HRW.out _) (by omega) HKK.out))))
              refine wpQuiet_nil ?_
              rintro w2 ⟨⟨w'', hbn⟩, hw''⟩
              obtain rfl : w2 = w'' := hw''
              clear q0 q1 q2 q3 q6
              go_wp2
              go_ret
              exact ⟨ri (by rw [HR.out, if_pos HA.out]), by have h1 := hbH2.out; (repeat' (first | (with_reducible exact Below.refl _ _) | (with_reducible assumption) | (with_reducible refine Below.alloc ?_ ?_ _) | (with_reducible refine Below.drew ?_) | (with_reducible refine Below.drewN' ?_ _) | (with_reducible refine Below.setCell ?_ ?_ _) | (refine Below.via ?_ (by with_reducible assumption) ?_) | (with_reducible refine Below.via ?_ (Wd.h _) ?_) | go_size))⟩
      · have HA := Lib.hid (HF.out.fin hlt (by omega))
        clear hbw
        go_wp2
        go_ret
        exact ⟨ri (by rw [HR.out, HA.out]; rfl), hbH.out⟩
  · have b0 : (bookC N lb != 0) = true := by simp [h0]
    (go_enter Try.func19, Try.ntmps19; go_wp2_with (first | (go_at_call 35; ((with_reducible refine (impl_checkBook _ _ _ _ _ _ _ _ N lb _ (by exact HN.out.below (by (repeat' (first | (with_reducible exact Below.refl _ _) | (with_reducible assumption) | (with_reducible refine Below.alloc ?_ ?_ _) | (with_reducible refine Below.drew ?_) | (with_reducible refine Below.drewN' ?_ _) | (with_reducible refine Below.setCell ?_ ?_ _) | (refine Below.via ?_ (by with_reducible assumption) ?_) | (with_reducible refine Below.via ?_ (Wd.h _) ?_) | go_size)))) rfl rfl (by omega) (by exact HB.out.below (by (repeat' (first | (with_reducible exact Below.refl _ _) | (with_reducible assumption) | (with_reducible refine Below.alloc ?_ ?_ _) | (with_reducible refine Below.drew ?_) | (with_reducible refine Below.drewN' ?_ _) | (with_reducible refine Below.setCell ?_ ?_ _) | (refine Below.via ?_ (by with_reducible assumption) ?_) | (with_reducible refine Below.via ?_ (Wd.h _) ?_) | go_size)))) (by omega)).mono ?_)); rintro e wn ⟨rfl, hbn⟩; (obtain ⟨hcn, hfn⟩ := bcell hbn; have hzn := hbn.size; (try simp at hzn); have Ncw0_0 := hcn (w.heap.size) (0) (by first | omega | (simp; done) | (simp; omega)); have Nfw0_0 := hfn (w.heap.size) (0) (by first | omega | (simp; done) | (simp; omega)); have Nhy0 : w.heap.size < wn.heap.size := (by omega); have Ncw0_1 := hcn (w.heap.size) (1) (by first | omega | (simp; done) | (simp; omega)); have Nfw0_1 := hfn (w.heap.size) (1) (by first | omega | (simp; done) | (simp; omega)); (first | (simp [go_sem, cw0_0, fw0_0, cw0_1, fw0_1, hy0] at Ncw0_0 Nfw0_0 Ncw0_1 Nfw0_1; clear cw0_0 fw0_0 cw0_1 fw0_1) | (simp [go_sem] at Ncw0_0 Nfw0_0 Ncw0_1 Nfw0_1)); clear hcn hfn; have cw0_0 := Ncw0_0; have fw0_0 := Nfw0_0; have cw0_1 := Ncw0_1; have fw0_1 := Nfw0_1; have hy0 := Nhy0; clear Ncw0_0 Nfw0_0 Ncw0_1 Nfw0_1 Nhy0)) | (go_at_call 36; ((with_reducible refine (impl_isNomination _ _ lb _ _ (by exact HB.out.below (by (repeat' (first | (with_reducible exact Below.refl _ _) | (with_reducible assumption) | (with_reducible refine Below.alloc ?_ ?_ _) | (with_reducible refine Below.drew ?_) | (with_reducible refine Below.drewN' ?_ _) | (with_reducible refine Below.setCell ?_ ?_ _) | (refine Below.via ?_ (by with_reducible assumption) ?_) | (with_reducible refine Below.via ?_ (Wd.h _) ?_) | go_size)))) (by omega) HKK.out).mono ?_)); rintro e wn ⟨rfl, hbn⟩; (obtain ⟨hcn, hfn⟩ := bcell hbn; have hzn := hbn.size; (try simp at hzn); have Ncw0_0 := hcn (w.heap.size) (0) (by first | omega | (simp; done) | (simp; omega)); have Nfw0_0 := hfn (w.heap.size) (0) (by first | omega | (simp; done) | (simp; omega)); have Nhy0 : w.heap.size < wn.heap.size := (by omega); have Ncw0_1 := hcn (w.heap.size) (1) (by first | omega | (simp; done) | (simp; omega)); have Nfw0_1 := hfn (w.heap.size) (1) (by first | omega | (simp; done) | (simp; omega)); (first | (simp [go_sem, cw0_0, fw0_0, cw0_1, fw0_1, hy0] at Ncw0_0 Nfw0_0 Ncw0_1 Nfw0_1; clear cw0_0 fw0_0 cw0_1 fw0_1) | (simp [go_sem] at Ncw0_0 Nfw0_0 Ncw0_1 Nfw0_1)); clear hcn hfn; have cw0_0 := Ncw0_0; have fw0_0 := Nfw0_0; have cw0_1 := Ncw0_1; have fw0_1 := Nfw0_1; have hy0 := Nhy0; clear Ncw0_0 Nfw0_0 Ncw0_1 Nfw0_1 Nhy0))))
    go_ret
    exact ⟨ri (by simp [nomsC, h0]), by (repeat' (first | (with_reducible exact Below.refl _ _) | (with_reducible assumption) | (with_reducible refine Below.alloc ?_ ?_ _) | (with_reducible refine Below.drew ?_) | (with_reducible refine Below.drewN' ?_ _) | (with_reducible refine Below.setCell ?_ ?_ _) | (refine Below.via ?_ (by with_reducible assumption) ?_) | (with_reducible refine Below.via ?_ (Wd.h _) ?_) | go_size))⟩
end Go.Proofs.Ytlbidcblpmdgaaa

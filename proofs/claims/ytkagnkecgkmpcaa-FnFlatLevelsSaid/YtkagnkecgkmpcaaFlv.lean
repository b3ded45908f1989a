/- FlatLevel. -/
import Derived.Test.YtkagnkecgkmpcaaPb
import Derived.Test.YtkagnkecgkmpcaaRep
import Derived.Deep.RegionHeld3
namespace Go.Proofs.Ytkagnkecgkmpcaa
set_option linter.unusedVariables false
set_option linter.unusedSimpArgs false
open Go.RowKit
/-- binary search for the greatest number for which P holds -/
def bsG (P : Int → Bool) : Nat → Int → Int → Int
  | 0, lo, _ => lo
  | f + 1, lo, hi => if lo < hi then (if P ((lo + hi + 1) / 2) = true then bsG P f ((lo + hi + 1) / 2) hi else bsG P f lo ((lo + hi + 1) / 2 - 1)) else lo
theorem bsG_end {P : Int → Bool} {f : Nat} {lo hi : Int} (h : ¬ lo < hi) : bsG P f lo hi = lo := by
  cases f with
  | zero => rfl
  | succ f => rw [bsG, if_neg h]
theorem bsG_up {P : Int → Bool} {f : Nat} {lo hi m : Int} (h : lo < hi) (hm : m = (lo + hi + 1) / 2) (hp : P m = true) : bsG P (f + 1) lo hi = bsG P f m hi := by rw [bsG, if_pos h, ← hm, if_pos hp]
theorem bsG_dn {P : Int → Bool} {f : Nat} {lo hi m : Int} (h : lo < hi) (hm : m = (lo + hi + 1) / 2) (hp : P m = false) : bsG P (f + 1) lo hi = bsG P f lo (m - 1) := by rw [bsG, if_pos h, ← hm, if_neg (by simp [hp])]
def flat (N : Net) (x : Int) : List Int := List.replicate N.nodes.length x
def flB (N : Net) (pack x : Int) : Bool := decide (lineF (flat N x) N.pipes ≤ pack)
noncomputable def flR (N : Net) (pack : Int) : Int × Int := if netB N = false then (0, 1) else if pack < 0 then (0, 7) else (bsG (flB N pack) (100000000 : Int).toNat 0 100000000, 0)
theorem flR_inv {N : Net} {pack : Int} (h : netB N = false) : flR N pack = (0, 1) := by simp [flR, h]
theorem flR_neg {N : Net} {pack : Int} (h : netB N = true) (hp : decide (pack < 0) = true) : flR N pack = (0, 7) := by
  have h1 : pack < 0 := by simpa using hp
  simp [flR, h, h1]
theorem flR_pos {N : Net} {pack : Int} (h : netB N = true) (hp : decide (pack < 0) = false) : flR N pack = (bsG (flB N pack) (100000000 : Int).toNat 0 100000000, 0) := by
  have h1 : ¬ pack < 0 := by simpa using hp
  simp only [flR, h, if_neg h1]; rfl
theorem lv_flat {N : Net} {x : Int} (h0 : 0 ≤ x) (h1 : x ≤ 100000000) : LvOk (flat N x) N.nodes.length := ⟨by simp [flat], fun y hy => by
  have := List.eq_of_mem_replicate hy
  omega⟩
theorem rd_one (w : World) (m : Int) (e : TypeId) : Rd (w.alloc (.cells #[iV m] e)) (some ⟨w.heap.size, 0, none⟩) [iV m] := Rd.mk (fun j v hj => by
  have : j = 0 := by
    have := (List.getElem?_eq_some_iff.1 hj).1
    simp at this; exact this
  subst this
  simp at hj; subst hj; simp) (by simp)
theorem rd_oneD (w : World) (m : Int) (e : TypeId) : Rd (w.alloc (.cells #[iV m] e)).drew (some ⟨w.heap.size, 0, none⟩) [iV m] := rd_one w m e
theorem rep_snoc (k : Nat) (m : Int) : (List.replicate (k + 1) m).map iV = (List.replicate k m).map iV ++ [iV m] := by rw [List.replicate_succ', List.map_append]; rfl
set_option maxRecDepth 100000 in
set_option maxHeartbeats 2000000 in
theorem spec_l18Flat (A B : Option Addr) (n c m d : Nat) (x : Int) (w : World) (hn : n ≤ 1048576) :
    Calls Try.prog 36 #[netV A B n c m d, .int .i64 x] w (MadeL w 1 n ((List.replicate n x).map iV)) := by
  go_enter Try.func36, Try.ntmps36
  go_wp2
  go_loopw [5, 6] (fun u v wr => ∃ k : Nat, k ≤ n ∧ v = .int .i64 k ∧ Own wr (w.heap.size + 1) 2 1 u k ((List.replicate k x).map iV) ∧ Bx wr w.heap.size [.slice A n c, .slice B m d] ∧ Below w.heap.size w wr) (fun _ v _ => n - (intOf v).toNat)
  case atStart =>
    refine ⟨0, by omega, rfl, ?_, bx2 (by simp; omega) (by simp) (by simp) (by simp) (by simp), by (repeat' (first | (with_reducible exact Below.refl _ _) | (with_reducible assumption) | (with_reducible refine Below.alloc ?_ ?_ _) | (with_reducible refine Below.drew ?_) | (with_reducible refine Below.drewN' ?_ _) | (with_reducible refine Below.setCell ?_ ?_ _) | (refine Below.via ?_ (by with_reducible assumption) ?_) | (with_reducible refine Below.via ?_ (Wd.h _) ?_) | go_size))⟩
    simpa using Own.lit0 (w.alloc (.cells #[.slice A n c, .slice B m d] 27)) (w.heap.size + 1) 2 1 (by simp)
  case round =>
    obtain ⟨k, hk, rfl, hO, hB, hbw⟩ := hrel
    have hbH := Lib.hid hbw
    have HOW := Lib.hid hO
    have hy0 := hB.lt; have cw0_0 := hB.cell 0 rfl; have fw0_0 := hB.frozen 0 rfl; have cw0_1 := hB.cell 1 rfl; have fw0_1 := hB.frozen 1 rfl
    have HBX := Lib.hid hB
    have hzr := hbw.size
    clear hO hB hbw
    by_cases hlt : k < n
    · have g1 : (k : Int) < n := by omega
      go_wp2_with ((at_builtin; refine wp_app1 _ rfl (.tmp 15) (.tmp 17) 28 rfl (w.heap.size + 1) info_i64 Try.underlying28 rfl (by omega) (by omega) _ (k) _ rfl (HOW.out.alloc _) wr.heap.size 1 1 [iV (x)] rfl rfl (by intro j u hu; match j, hu with | 0, hu => (simp at hu; subst hu; simp) | j + 1, hu => simp at hu) (by simp [Value.oneCell']) (by omega) (by simp; omega) ?_; intro v' wn hO' hbn))
      go_roundw
      case rel =>
        refine ⟨k + 1, by omega, by go_num, by rw [rep_snoc]; exact hO', (HBX.out.below ((Below.refl _ _).alloc (Nat.le_refl _) _) (by omega)).below hbn (by omega), ?_⟩
        exact Below.via (hbH.out.alloc hbH.out.size _) hbn (by omega)
      case measure => simp [intOf]; omega
    · obtain rfl : k = n := by omega
      obtain ⟨C1, e1, rfl, hn1, hw⟩ := HOW.out.lt_
      have HW := Lib.hid hw
      clear hw
      go_wp2
      go_ret
      exact ⟨C1, e1, rfl, hn1, by simpa using HW.out.lower (by omega), hbH.out⟩
set_option maxRecDepth 100000 in
set_option maxHeartbeats 4000000 in
theorem impl_FlatLevel (A B : Option Addr) (n c m d : Nat) (N : Net) (pack : Int) (w : World) (hN : NetAt w A B N) (hn : n = N.nodes.length) (hm : m = N.pipes.length) (hc : n ≤ c) :
    Calls Try.prog 15 #[netV A B n c m d, .int .i64 pack] w fun e w' => e = .returned (.tuple #[.int .i64 (flR N pack).1, .int .i64 (flR N pack).2]) ∧ Below w.heap.size w w' := by
  subst hn hm
  have HN := Lib.hid hN
  have hln := hN.ln
  have hlp := hN.lp
  clear hN
  cases hb : netB N
  · have HR := Lib.hid (flR_inv (pack := pack) hb)
    (go_enter Try.func15, Try.ntmps15; go_wp2_with (first | (go_at_call 31; ((with_reducible refine (impl_IsNetwork _ _ _ _ _ _ N _ (by exact HN.out.below (by (repeat' (first | (with_reducible exact Below.refl _ _) | (with_reducible assumption) | (with_reducible refine Below.alloc ?_ ?_ _) | (with_reducible refine Below.drew ?_) | (with_reducible refine Below.drewN' ?_ _) | (with_reducible refine Below.setCell ?_ ?_ _) | (refine Below.via ?_ (by with_reducible assumption) ?_) | (with_reducible refine Below.via ?_ (Wd.h _) ?_) | go_size)))) rfl rfl (by omega)).mono ?_)); rintro e wn ⟨rfl, hbn⟩; (obtain ⟨hcn, hfn⟩ := bcell hbn; have hzn := hbn.size; (try simp at hzn); have Ncw0_0 := hcn (w.heap.size) (0) (by first | omega | (simp; done) | (simp; omega)); have Nfw0_0 := hfn (w.heap.size) (0) (by first | omega | (simp; done) | (simp; omega)); have Nhy0 : w.heap.size < wn.heap.size := (by omega); have Ncw0_1 := hcn (w.heap.size) (1) (by first | omega | (simp; done) | (simp; omega)); have Nfw0_1 := hfn (w.heap.size) (1) (by first | omega | (simp; done) | (simp; omega)); (first | (simp [go_sem, cw0_0, fw0_0, cw0_1, fw0_1, hy0] at Ncw0_0 Nfw0_0 Ncw0_1 Nfw0_1; clear cw0_0 fw0_0 cw0_1 fw0_1) | (simp [go_sem] at Ncw0_0 Nfw0_0 Ncw0_1 Nfw0_1)); clear hcn hfn; have cw0_0 := Ncw0_0; have fw0_0 := Nfw0_0; have cw0_1 := Ncw0_1; have fw0_1 := Nfw0_1; have hy0 := Nhy0; clear Ncw0_0 Nfw0_0 Ncw0_1 Nfw0_1 Nhy0))))
    go_ret2
    exact ⟨ri2 (by rw [HR.out]) (by rw [HR.out]), by (repeat' (first | (with_reducible exact Below.refl _ _) | (with_reducible assumption) | (with_reducible refine Below.alloc ?_ ?_ _) | (with_reducible refine Below.drew ?_) | (with_reducible refine Below.drewN' ?_ _) | (with_reducible refine Below.setCell ?_ ?_ _) | (refine Below.via ?_ (by with_reducible assumption) ?_) | (with_reducible refine Below.via ?_ (Wd.h _) ?_) | go_size))⟩
  cases hp : decide (pack < 0)
  case true =>
    have HR := Lib.hid (flR_neg hb hp)
    (go_enter Try.func15, Try.ntmps15; go_wp2_with (first | (go_at_call 31; ((with_reducible refine (impl_IsNetwork _ _ _ _ _ _ N _ (by exact HN.out.below (by (repeat' (first | (with_reducible exact Below.refl _ _) | (with_reducible assumption) | (with_reducible refine Below.alloc ?_ ?_ _) | (with_reducible refine Below.drew ?_) | (with_reducible refine Below.drewN' ?_ _) | (with_reducible refine Below.setCell ?_ ?_ _) | (refine Below.via ?_ (by with_reducible assumption) ?_) | (with_reducible refine Below.via ?_ (Wd.h _) ?_) | go_size)))) rfl rfl (by omega)).mono ?_)); rintro e wn ⟨rfl, hbn⟩; (obtain ⟨hcn, hfn⟩ := bcell hbn; have hzn := hbn.size; (try simp at hzn); have Ncw0_0 := hcn (w.heap.size) (0) (by first | omega | (simp; done) | (simp; omega)); have Nfw0_0 := hfn (w.heap.size) (0) (by first | omega | (simp; done) | (simp; omega)); have Nhy0 : w.heap.size < wn.heap.size := (by omega); have Ncw0_1 := hcn (w.heap.size) (1) (by first | omega | (simp; done) | (simp; omega)); have Nfw0_1 := hfn (w.heap.size) (1) (by first | omega | (simp; done) | (simp; omega)); (first | (simp [go_sem, cw0_0, fw0_0, cw0_1, fw0_1, hy0] at Ncw0_0 Nfw0_0 Ncw0_1 Nfw0_1; clear cw0_0 fw0_0 cw0_1 fw0_1) | (simp [go_sem] at Ncw0_0 Nfw0_0 Ncw0_1 Nfw0_1)); clear hcn hfn; have cw0_0 := Ncw0_0; have fw0_0 := Nfw0_0; have cw0_1 := Ncw0_1; have fw0_1 := Nfw0_1; have hy0 := Nhy0; clear Ncw0_0 Nfw0_0 Ncw0_1 Nfw0_1 Nhy0))))
    go_ret2
    exact ⟨ri2 (by rw [HR.out]) (by rw [HR.out]), by (repeat' (first | (with_reducible exact Below.refl _ _) | (with_reducible assumption) | (with_reducible refine Below.alloc ?_ ?_ _) | (with_reducible refine Below.drew ?_) | (with_reducible refine Below.drewN' ?_ _) | (with_reducible refine Below.setCell ?_ ?_ _) | (refine Below.via ?_ (by with_reducible assumption) ?_) | (with_reducible refine Below.via ?_ (Wd.h _) ?_) | go_size))⟩
  have HR := Lib.hid (flR_pos hb hp)
  obtain ⟨F0, hF0⟩ : ∃ F0 : Nat, F0 = (100000000 : Int).toNat := ⟨_, rfl⟩
  rw [← hF0] at HR
  have hF1 : (100000000 : Int) ≤ F0 := by rw [hF0]; omega
  have HFF := Lib.hid hF1
  clear hF0 hF1
  have HO := Lib.hid (netB_ok hb)
  have h24 := HO.out.n2
  (go_enter Try.func15, Try.ntmps15; go_wp2_with (first | (go_at_call 31; ((with_reducible refine (impl_IsNetwork _ _ _ _ _ _ N _ (by exact HN.out.below (by (repeat' (first | (with_reducible exact Below.refl _ _) | (with_reducible assumption) | (with_reducible refine Below.alloc ?_ ?_ _) | (with_reducible refine Below.drew ?_) | (with_reducible refine Below.drewN' ?_ _) | (with_reducible refine Below.setCell ?_ ?_ _) | (refine Below.via ?_ (by with_reducible assumption) ?_) | (with_reducible refine Below.via ?_ (Wd.h _) ?_) | go_size)))) rfl rfl (by omega)).mono ?_)); rintro e wn ⟨rfl, hbn⟩; (obtain ⟨hcn, hfn⟩ := bcell hbn; have hzn := hbn.size; (try simp at hzn); have Ncw0_0 := hcn (w.heap.size) (0) (by first | omega | (simp; done) | (simp; omega)); have Nfw0_0 := hfn (w.heap.size) (0) (by first | omega | (simp; done) | (simp; omega)); have Nhy0 : w.heap.size < wn.heap.size := (by omega); have Ncw0_1 := hcn (w.heap.size) (1) (by first | omega | (simp; done) | (simp; omega)); have Nfw0_1 := hfn (w.heap.size) (1) (by first | omega | (simp; done) | (simp; omega)); (first | (simp [go_sem, cw0_0, fw0_0, cw0_1, fw0_1, hy0] at Ncw0_0 Nfw0_0 Ncw0_1 Nfw0_1; clear cw0_0 fw0_0 cw0_1 fw0_1) | (simp [go_sem] at Ncw0_0 Nfw0_0 Ncw0_1 Nfw0_1)); clear hcn hfn; have cw0_0 := Ncw0_0; have fw0_0 := Nfw0_0; have cw0_1 := Ncw0_1; have fw0_1 := Nfw0_1; have hy0 := Nhy0; clear Ncw0_0 Nfw0_0 Ncw0_1 Nfw0_1 Nhy0))))
  have HBX := Lib.hid (show Bx wn w.heap.size [.slice A N.nodes.length c, .slice B N.pipes.length d] from (bx2 (by first | exact hy0 | go_size) (by first | (with_reducible exact cw0_0) | go_cell_look | (simp [go_sem, hy0, cw0_0, fw0_0, cw0_1, fw0_1]; done) | (simp [go_sem]; done)) (by first | (with_reducible exact fw0_0) | (simp only [World.frozen?_setCell, fw0_0]; done) | (simp [go_sem, hy0, cw0_0, fw0_0, cw0_1, fw0_1]; done) | (simp [go_sem]; done)) (by first | (with_reducible exact cw0_1) | go_cell_look | (simp [go_sem, hy0, cw0_0, fw0_0, cw0_1, fw0_1]; done) | (simp [go_sem]; done)) (by first | (with_reducible exact fw0_1) | (simp only [World.frozen?_setCell, fw0_1]; done) | (simp [go_sem, hy0, cw0_0, fw0_0, cw0_1, fw0_1]; done) | (simp [go_sem]; done))))
  have hbn1 : Below w.heap.size w wn := by (repeat' (first | (with_reducible exact Below.refl _ _) | (with_reducible assumption) | (with_reducible refine Below.alloc ?_ ?_ _) | (with_reducible refine Below.drew ?_) | (with_reducible refine Below.drewN' ?_ _) | (with_reducible refine Below.setCell ?_ ?_ _) | (refine Below.via ?_ (by with_reducible assumption) ?_) | (with_reducible refine Below.via ?_ (Wd.h _) ?_) | go_size))
  have HBN := Lib.hid hbn1
  clear hy0 cw0_0 fw0_0 cw0_1 fw0_1
  clear hbn hbn1
  go_loopw [6, 7] (fun u v wr => ∃ (lo hi : Int) (f : Nat), u = .int .i64 lo ∧ v = .int .i64 hi ∧ 0 ≤ lo ∧ lo ≤ hi ∧ hi ≤ 100000000 ∧ Hid (hi - lo ≤ f) ∧ Hid (bsG (flB N pack) f lo hi = bsG (flB N pack) F0 0 100000000) ∧ Bx wr w.heap.size [.slice A N.nodes.length c, .slice B N.pipes.length d] ∧ Below w.heap.size w wr) (fun u v _ => (intOf v - intOf u).toNat)
  case atStart => exact ⟨0, 100000000, F0, rfl, rfl, by omega, by omega, by omega, Lib.hid (by have := HFF.out; omega), Lib.hid rfl, HBX.out, HBN.out⟩
  case round =>
    obtain ⟨lo, hi, f, rfl, rfl, l0, l1, l2, HF, HG, hB, hbw⟩ := hrel
    have hbH := Lib.hid hbw
    have hy0 := hB.lt; have cw0_0 := hB.cell 0 rfl; have fw0_0 := hB.frozen 0 rfl; have cw0_1 := hB.cell 1 rfl; have fw0_1 := hB.frozen 1 rfl
    have HBX2 := Lib.hid hB
    have hzr := hbw.size
    clear hB
    by_cases hlt : lo < hi
    · obtain ⟨q, hq⟩ : ∃ q : Int, q = (lo + hi + 1) / 2 := ⟨_, rfl⟩
      have m1 : lo < q := by omega
      have m2 : q ≤ hi := by omega
      have e1 : (lo + hi + 1).tdiv 2 = q := by rw [hq, Int.tdiv_eq_ediv_of_nonneg (by omega)]
      have e2 : (lo + hi + 1) / 2 = q := hq.symm
      have HQ := Lib.hid hq
      have HLV := Lib.hid (lv_flat (N := N) (x := q) (by omega) (by omega))
      have HNr := Lib.hid (HN.out.below hbw)
      clear hq hbw
      obtain ⟨f, rfl⟩ : ∃ f', f = f' + 1 := ⟨f - 1, by have := HF.out; omega⟩
      cases hc2 : decide (lineF (flat N q) N.pipes ≤ pack)
      · have HS := Lib.hid (bsG_dn (P := flB N pack) (f := f) hlt HQ.out hc2)
        go_wp2_with fail
        
        (go_region_held3 (fun w' => w'.cell? ⟨w.heap.size, 0, none⟩ = some (.slice A N.nodes.length c) ∧ w'.cell? ⟨w.heap.size, 1, none⟩ = some (.slice B N.pipes.length d)) (first | exact ⟨cw0_0, cw0_1⟩ | (simp [go_sem, cw0_0, cw0_1]; done) | go_keep) (first
          | (go_at_call 34; refine (slices_RepeatI _ _ q N.nodes.length _ (rd_oneD _ q _) hln).mono ?_; rintro e w5 ⟨G5, c5, rfl, hc5, hW5, hb5⟩; have HG5 := Lib.hid hW5.rd; have HB5 := Lib.hid hb5; clear hW5; (obtain ⟨hcn, hfn⟩ := bcell hb5; have hz5 := hb5.size; (try simp at hz5); have Ncw0_0 := hcn (w.heap.size) (0) (by first | omega | (simp; done) | (simp; omega)); have Nfw0_0 := hfn (w.heap.size) (0) (by first | omega | (simp; done) | (simp; omega)); have Nhy0 : w.heap.size < w5.heap.size := (by omega); have Ncw0_1 := hcn (w.heap.size) (1) (by first | omega | (simp; done) | (simp; omega)); have Nfw0_1 := hfn (w.heap.size) (1) (by first | omega | (simp; done) | (simp; omega)); simp [go_sem, cw0_0, fw0_0, cw0_1, fw0_1, hy0] at Ncw0_0 Nfw0_0 Ncw0_1 Nfw0_1; clear cw0_0 fw0_0 cw0_1 fw0_1 hy0; clear hcn hfn; have cw0_0 := Ncw0_0; have fw0_0 := Nfw0_0; have cw0_1 := Ncw0_1; have fw0_1 := Nfw0_1; have hy0 := Nhy0; clear Ncw0_0 Nfw0_0 Ncw0_1 Nfw0_1 Nhy0))
          | (go_at_call 26; refine (impl_linepackOf' _ _ _ _ _ _ _ _ N.nodes.length N (flat N q) _ (HNr.out.below (by have h5 := HB5.out; (repeat' (first | (with_reducible exact Below.refl _ _) | (with_reducible assumption) | (with_reducible refine Below.alloc ?_ ?_ _) | (with_reducible refine Below.drew ?_) | (with_reducible refine Below.drewN' ?_ _) | (with_reducible refine Below.setCell ?_ ?_ _) | (refine Below.via ?_ (by with_reducible assumption) ?_) | (with_reducible refine Below.via ?_ (Wd.h _) ?_) | go_size)))) rfl rfl HO.out HLV.out HG5.out rfl).mono ?_; rintro e w6 ⟨rfl, hb6⟩; have HB6 := Lib.hid hb6; (obtain ⟨hcn, hfn⟩ := bcell hb6; have hz6 := hb6.size; (try simp at hz6); have Ncw0_0 := hcn (w.heap.size) (0) (by first | omega | (simp; done) | (simp; omega)); have Nfw0_0 := hfn (w.heap.size) (0) (by first | omega | (simp; done) | (simp; omega)); have Nhy0 : w.heap.size < w6.heap.size := (by omega); have Ncw0_1 := hcn (w.heap.size) (1) (by first | omega | (simp; done) | (simp; omega)); have Nfw0_1 := hfn (w.heap.size) (1) (by first | omega | (simp; done) | (simp; omega)); simp [go_sem, cw0_0, fw0_0, cw0_1, fw0_1, hy0] at Ncw0_0 Nfw0_0 Ncw0_1 Nfw0_1; clear cw0_0 fw0_0 cw0_1 fw0_1 hy0; clear hcn hfn; have cw0_0 := Ncw0_0; have fw0_0 := Nfw0_0; have cw0_1 := Ncw0_1; have fw0_1 := Nfw0_1; have hy0 := Nhy0; clear Ncw0_0 Nfw0_0 Ncw0_1 Nfw0_1 Nhy0))))
        all_goals
          have hbx : Below wr.heap.size wr w6 := (by have h5 := HB5.out; have h6 := HB6.out; (repeat' (first | (with_reducible exact Below.refl _ _) | (with_reducible assumption) | (with_reducible refine Below.alloc ?_ ?_ _) | (with_reducible refine Below.drew ?_) | (with_reducible refine Below.drewN' ?_ _) | (with_reducible refine Below.setCell ?_ ?_ _) | (refine Below.via ?_ (by with_reducible assumption) ?_) | (with_reducible refine Below.via ?_ (Wd.h _) ?_) | go_size)))
          go_wp2
          go_roundw
          case rel => exact ⟨lo, q - 1, f, rfl, by go_num, by omega, by omega, by omega, Lib.hid (by have := HF.out; have := HQ.out; omega), Lib.hid (by rw [← HG.out, HS.out]), HBX2.out.below hbx HBX2.out.lt, hbH.out.trans (hbx.mono hbH.out.size)⟩
          case measure => simp [intOf]; omega
      · have HS := Lib.hid (bsG_up (P := flB N pack) (f := f) hlt HQ.out hc2)
        go_wp2_with fail
        
        (go_region_held3 (fun w' => w'.cell? ⟨w.heap.size, 0, none⟩ = some (.slice A N.nodes.length c) ∧ w'.cell? ⟨w.heap.size, 1, none⟩ = some (.slice B N.pipes.length d)) (first | exact ⟨cw0_0, cw0_1⟩ | (simp [go_sem, cw0_0, cw0_1]; done) | go_keep) (first
          | (go_at_call 34; refine (slices_RepeatI _ _ q N.nodes.length _ (rd_oneD _ q _) hln).mono ?_; rintro e w5 ⟨G5, c5, rfl, hc5, hW5, hb5⟩; have HG5 := Lib.hid hW5.rd; have HB5 := Lib.hid hb5; clear hW5; (obtain ⟨hcn, hfn⟩ := bcell hb5; have hz5 := hb5.size; (try simp at hz5); have Ncw0_0 := hcn (w.heap.size) (0) (by first | omega | (simp; done) | (simp; omega)); have Nfw0_0 := hfn (w.heap.size) (0) (by first | omega | (simp; done) | (simp; omega)); have Nhy0 : w.heap.size < w5.heap.size := (by omega); have Ncw0_1 := hcn (w.heap.size) (1) (by first | omega | (simp; done) | (simp; omega)); have Nfw0_1 := hfn (w.heap.size) (1) (by first | omega | (simp; done) | (simp; omega)); simp [go_sem, cw0_0, fw0_0, cw0_1, fw0_1, hy0] at Ncw0_0 Nfw0_0 Ncw0_1 Nfw0_1; clear cw0_0 fw0_0 cw0_1 fw0_1 hy0; clear hcn hfn; have cw0_0 := Ncw0_0; have fw0_0 := Nfw0_0; have cw0_1 := Ncw0_1; have fw0_1 := Nfw0_1; have hy0 := Nhy0; clear Ncw0_0 Nfw0_0 Ncw0_1 Nfw0_1 Nhy0))
          | (go_at_call 26; refine (impl_linepackOf' _ _ _ _ _ _ _ _ N.nodes.length N (flat N q) _ (HNr.out.below (by have h5 := HB5.out; (repeat' (first | (with_reducible exact Below.refl _ _) | (with_reducible assumption) | (with_reducible refine Below.alloc ?_ ?_ _) | (with_reducible refine Below.drew ?_) | (with_reducible refine Below.drewN' ?_ _) | (with_reducible refine Below.setCell ?_ ?_ _) | (refine Below.via ?_ (by with_reducible assumption) ?_) | (with_reducible refine Below.via ?_ (Wd.h _) ?_) | go_size)))) rfl rfl HO.out HLV.out HG5.out rfl).mono ?_; rintro e w6 ⟨rfl, hb6⟩; have HB6 := Lib.hid hb6; (obtain ⟨hcn, hfn⟩ := bcell hb6; have hz6 := hb6.size; (try simp at hz6); have Ncw0_0 := hcn (w.heap.size) (0) (by first | omega | (simp; done) | (simp; omega)); have Nfw0_0 := hfn (w.heap.size) (0) (by first | omega | (simp; done) | (simp; omega)); have Nhy0 : w.heap.size < w6.heap.size := (by omega); have Ncw0_1 := hcn (w.heap.size) (1) (by first | omega | (simp; done) | (simp; omega)); have Nfw0_1 := hfn (w.heap.size) (1) (by first | omega | (simp; done) | (simp; omega)); simp [go_sem, cw0_0, fw0_0, cw0_1, fw0_1, hy0] at Ncw0_0 Nfw0_0 Ncw0_1 Nfw0_1; clear cw0_0 fw0_0 cw0_1 fw0_1 hy0; clear hcn hfn; have cw0_0 := Ncw0_0; have fw0_0 := Nfw0_0; have cw0_1 := Ncw0_1; have fw0_1 := Nfw0_1; have hy0 := Nhy0; clear Ncw0_0 Nfw0_0 Ncw0_1 Nfw0_1 Nhy0))))
        all_goals
          have hbx : Below wr.heap.size wr w6 := (by have h5 := HB5.out; have h6 := HB6.out; (repeat' (first | (with_reducible exact Below.refl _ _) | (with_reducible assumption) | (with_reducible refine Below.alloc ?_ ?_ _) | (with_reducible refine Below.drew ?_) | (with_reducible refine Below.drewN' ?_ _) | (with_reducible refine Below.setCell ?_ ?_ _) | (refine Below.via ?_ (by with_reducible assumption) ?_) | (with_reducible refine Below.via ?_ (Wd.h _) ?_) | go_size)))
          go_wp2
          go_roundw
          case rel => exact ⟨q, hi, f, rfl, rfl, by omega, by omega, by omega, Lib.hid (by have := HF.out; have := HQ.out; omega), Lib.hid (by rw [← HG.out, HS.out]), HBX2.out.below hbx HBX2.out.lt, hbH.out.trans (hbx.mono hbH.out.size)⟩
          case measure => simp [intOf]; omega
    · have HE := Lib.hid (bsG_end (P := flB N pack) (f := f) hlt)
      clear hbw
      go_wp2
      go_ret2
      exact ⟨ri2 (by rw [HR.out, ← HG.out, HE.out]) (by rw [HR.out]), hbH.out⟩
set_option maxRecDepth 100000 in
set_option maxHeartbeats 4000000 in
theorem spec_FlatLevel (A B : Option Addr) (n c m d : Nat) (N : Net) (pack : Int) (w : World) (hN : NetAt w A B N) (hn : n = N.nodes.length) (hm : m = N.pipes.length) :
    Calls Try.prog 16 #[netV A B n c m d, .int .i64 pack] w fun e w' => e = .returned (.tuple #[.int .i64 (flR N pack).1, .int .i64 (flR N pack).2]) ∧ Below w.heap.size w w' := by
  subst hn hm
  have HN := Lib.hid hN
  have hln := hN.ln
  have hlp := hN.lp
  clear hN
  cases hb : netB N
  · have HR := Lib.hid (flR_inv (pack := pack) hb)
    (go_enter Try.func16, Try.ntmps16; go_wp2_with (first | (go_at_call 35; ((with_reducible refine (spec_IsNetwork _ _ _ _ _ _ N _ (by exact HN.out.below (by (repeat' (first | (with_reducible exact Below.refl _ _) | (with_reducible assumption) | (with_reducible refine Below.alloc ?_ ?_ _) | (with_reducible refine Below.drew ?_) | (with_reducible refine Below.drewN' ?_ _) | (with_reducible refine Below.setCell ?_ ?_ _) | (refine Below.via ?_ (by with_reducible assumption) ?_) | (with_reducible refine Below.via ?_ (Wd.h _) ?_) | go_size)))) rfl rfl).mono ?_)); rintro e wn ⟨rfl, hbn⟩; (obtain ⟨hcn, hfn⟩ := bcell hbn; have hzn := hbn.size; (try simp at hzn); have Ncw0_0 := hcn (w.heap.size) (0) (by first | omega | (simp; done) | (simp; omega)); have Nfw0_0 := hfn (w.heap.size) (0) (by first | omega | (simp; done) | (simp; omega)); have Nhy0 : w.heap.size < wn.heap.size := (by omega); have Ncw0_1 := hcn (w.heap.size) (1) (by first | omega | (simp; done) | (simp; omega)); have Nfw0_1 := hfn (w.heap.size) (1) (by first | omega | (simp; done) | (simp; omega)); (first | (simp [go_sem, cw0_0, fw0_0, cw0_1, fw0_1, hy0] at Ncw0_0 Nfw0_0 Ncw0_1 Nfw0_1; clear cw0_0 fw0_0 cw0_1 fw0_1) | (simp [go_sem] at Ncw0_0 Nfw0_0 Ncw0_1 Nfw0_1)); clear hcn hfn; have cw0_0 := Ncw0_0; have fw0_0 := Nfw0_0; have cw0_1 := Ncw0_1; have fw0_1 := Nfw0_1; have hy0 := Nhy0; clear Ncw0_0 Nfw0_0 Ncw0_1 Nfw0_1 Nhy0))))
    go_ret2
    exact ⟨ri2 (by rw [HR.out]) (by rw [HR.out]), by (repeat' (first | (with_reducible exact Below.refl _ _) | (with_reducible assumption) | (with_reducible refine Below.alloc ?_ ?_ _) | (with_reducible refine Below.drew ?_) | (with_reducible refine Below.drewN' ?_ _) | (with_reducible refine Below.setCell ?_ ?_ _) | (refine Below.via ?_ (by with_reducible assumption) ?_) | (with_reducible refine Below.via ?_ (Wd.h _) ?_) | go_size))⟩
  cases hp : decide (pack < 0)
  case true =>
    have HR := Lib.hid (flR_neg hb hp)
    (go_enter Try.func16, Try.ntmps16; go_wp2_with (first | (go_at_call 35; ((with_reducible refine (spec_IsNetwork _ _ _ _ _ _ N _ (by exact HN.out.below (by (repeat' (first | (with_reducible exact Below.refl _ _) | (with_reducible assumption) | (with_reducible refine Below.alloc ?_ ?_ _) | (with_reducible refine Below.drew ?_) | (with_reducible refine Below.drewN' ?_ _) | (with_reducible refine Below.setCell ?_ ?_ _) | (refine Below.via ?_ (by with_reducible assumption) ?_) | (with_reducible refine Below.via ?_ (Wd.h _) ?_) | go_size)))) rfl rfl).mono ?_)); rintro e wn ⟨rfl, hbn⟩; (obtain ⟨hcn, hfn⟩ := bcell hbn; have hzn := hbn.size; (try simp at hzn); have Ncw0_0 := hcn (w.heap.size) (0) (by first | omega | (simp; done) | (simp; omega)); have Nfw0_0 := hfn (w.heap.size) (0) (by first | omega | (simp; done) | (simp; omega)); have Nhy0 : w.heap.size < wn.heap.size := (by omega); have Ncw0_1 := hcn (w.heap.size) (1) (by first | omega | (simp; done) | (simp; omega)); have Nfw0_1 := hfn (w.heap.size) (1) (by first | omega | (simp; done) | (simp; omega)); (first | (simp [go_sem, cw0_0, fw0_0, cw0_1, fw0_1, hy0] at Ncw0_0 Nfw0_0 Ncw0_1 Nfw0_1; clear cw0_0 fw0_0 cw0_1 fw0_1) | (simp [go_sem] at Ncw0_0 Nfw0_0 Ncw0_1 Nfw0_1)); clear hcn hfn; have cw0_0 := Ncw0_0; have fw0_0 := Nfw0_0; have cw0_1 := Ncw0_1; have fw0_1 := Nfw0_1; have hy0 := Nhy0; clear Ncw0_0 Nfw0_0 Ncw0_1 Nfw0_1 Nhy0))))
    go_ret2
    exact ⟨ri2 (by rw [HR.out]) (by rw [HR.out]), by (repeat' (first | (with_reducible exact Below.refl _ _) | (with_reducible assumption) | (with_reducible refine Below.alloc ?_ ?_ _) | (with_reducible refine Below.drew ?_) | (with_reducible refine Below.drewN' ?_ _) | (with_reducible refine Below.setCell ?_ ?_ _) | (refine Below.via ?_ (by with_reducible assumption) ?_) | (with_reducible refine Below.via ?_ (Wd.h _) ?_) | go_size))⟩
  have HR := Lib.hid (flR_pos hb hp)
  obtain ⟨F0, hF0⟩ : ∃ F0 : Nat, F0 = (100000000 : Int).toNat := ⟨_, rfl⟩
  rw [← hF0] at HR
  have hF1 : (100000000 : Int) ≤ F0 := by rw [hF0]; omega
  have HFF := Lib.hid hF1
  clear hF0 hF1
  have HO := Lib.hid (netB_ok hb)
  have h24 := HO.out.n2
  (go_enter Try.func16, Try.ntmps16; go_wp2_with (first | (go_at_call 35; ((with_reducible refine (spec_IsNetwork _ _ _ _ _ _ N _ (by exact HN.out.below (by (repeat' (first | (with_reducible exact Below.refl _ _) | (with_reducible assumption) | (with_reducible refine Below.alloc ?_ ?_ _) | (with_reducible refine Below.drew ?_) | (with_reducible refine Below.drewN' ?_ _) | (with_reducible refine Below.setCell ?_ ?_ _) | (refine Below.via ?_ (by with_reducible assumption) ?_) | (with_reducible refine Below.via ?_ (Wd.h _) ?_) | go_size)))) rfl rfl).mono ?_)); rintro e wn ⟨rfl, hbn⟩; (obtain ⟨hcn, hfn⟩ := bcell hbn; have hzn := hbn.size; (try simp at hzn); have Ncw0_0 := hcn (w.heap.size) (0) (by first | omega | (simp; done) | (simp; omega)); have Nfw0_0 := hfn (w.heap.size) (0) (by first | omega | (simp; done) | (simp; omega)); have Nhy0 : w.heap.size < wn.heap.size := (by omega); have Ncw0_1 := hcn (w.heap.size) (1) (by first | omega | (simp; done) | (simp; omega)); have Nfw0_1 := hfn (w.heap.size) (1) (by first | omega | (simp; done) | (simp; omega)); (first | (simp [go_sem, cw0_0, fw0_0, cw0_1, fw0_1, hy0] at Ncw0_0 Nfw0_0 Ncw0_1 Nfw0_1; clear cw0_0 fw0_0 cw0_1 fw0_1) | (simp [go_sem] at Ncw0_0 Nfw0_0 Ncw0_1 Nfw0_1)); clear hcn hfn; have cw0_0 := Ncw0_0; have fw0_0 := Nfw0_0; have cw0_1 := Ncw0_1; have fw0_1 := Nfw0_1; have hy0 := Nhy0; clear Ncw0_0 Nfw0_0 Ncw0_1 Nfw0_1 Nhy0))))
  have HBX := Lib.hid (show Bx wn w.heap.size [.slice A N.nodes.length c, .slice B N.pipes.length d] from (bx2 (by first | exact hy0 | go_size) (by first | (with_reducible exact cw0_0) | go_cell_look | (simp [go_sem, hy0, cw0_0, fw0_0, cw0_1, fw0_1]; done) | (simp [go_sem]; done)) (by first | (with_reducible exact fw0_0) | (simp only [World.frozen?_setCell, fw0_0]; done) | (simp [go_sem, hy0, cw0_0, fw0_0, cw0_1, fw0_1]; done) | (simp [go_sem]; done)) (by first | (with_reducible exact cw0_1) | go_cell_look | (simp [go_sem, hy0, cw0_0, fw0_0, cw0_1, fw0_1]; done) | (simp [go_sem]; done)) (by first | (with_reducible exact fw0_1) | (simp only [World.frozen?_setCell, fw0_1]; done) | (simp [go_sem, hy0, cw0_0, fw0_0, cw0_1, fw0_1]; done) | (simp [go_sem]; done))))
  have hbn1 : Below w.heap.size w wn := by (repeat' (first | (with_reducible exact Below.refl _ _) | (with_reducible assumption) | (with_reducible refine Below.alloc ?_ ?_ _) | (with_reducible refine Below.drew ?_) | (with_reducible refine Below.drewN' ?_ _) | (with_reducible refine Below.setCell ?_ ?_ _) | (refine Below.via ?_ (by with_reducible assumption) ?_) | (with_reducible refine Below.via ?_ (Wd.h _) ?_) | go_size))
  have HBN := Lib.hid hbn1
  clear hy0 cw0_0 fw0_0 cw0_1 fw0_1
  clear hbn hbn1
  go_loopw [6, 7] (fun u v wr => ∃ (lo hi : Int) (f : Nat), u = .int .i64 lo ∧ v = .int .i64 hi ∧ 0 ≤ lo ∧ lo ≤ hi ∧ hi ≤ 100000000 ∧ Hid (hi - lo ≤ f) ∧ Hid (bsG (flB N pack) f lo hi = bsG (flB N pack) F0 0 100000000) ∧ Bx wr w.heap.size [.slice A N.nodes.length c, .slice B N.pipes.length d] ∧ Below w.heap.size w wr) (fun u v _ => (intOf v - intOf u).toNat)
  case atStart => exact ⟨0, 100000000, F0, rfl, rfl, by omega, by omega, by omega, Lib.hid (by have := HFF.out; omega), Lib.hid rfl, HBX.out, HBN.out⟩
  case round =>
    obtain ⟨lo, hi, f, rfl, rfl, l0, l1, l2, HF, HG, hB, hbw⟩ := hrel
    have hbH := Lib.hid hbw
    have hy0 := hB.lt; have cw0_0 := hB.cell 0 rfl; have fw0_0 := hB.frozen 0 rfl; have cw0_1 := hB.cell 1 rfl; have fw0_1 := hB.frozen 1 rfl
    have HBX2 := Lib.hid hB
    have hzr := hbw.size
    clear hB
    by_cases hlt : lo < hi
    · obtain ⟨q, hq⟩ : ∃ q : Int, q = (lo + hi + 1) / 2 := ⟨_, rfl⟩
      have m1 : lo < q := by omega
      have m2 : q ≤ hi := by omega
      have e1 : (lo + hi + 1).tdiv 2 = q := by rw [hq, Int.tdiv_eq_ediv_of_nonneg (by omega)]
      have e2 : (lo + hi + 1) / 2 = q := hq.symm
      have HQ := Lib.hid hq
      have HLV := Lib.hid (lv_flat (N := N) (x := q) (by omega) (by omega))
      have HNr := Lib.hid (HN.out.below hbw)
      clear hq hbw
      obtain ⟨f, rfl⟩ : ∃ f', f = f' + 1 := ⟨f - 1, by have := HF.out; omega⟩
      cases hc2 : decide (lineF (flat N q) N.pipes ≤ pack)
      · have HS := Lib.hid (bsG_dn (P := flB N pack) (f := f) hlt HQ.out hc2)
        go_wp2_with fail
        
        (go_region_held3 (fun w' => w'.cell? ⟨w.heap.size, 0, none⟩ = some (.slice A N.nodes.length c) ∧ w'.cell? ⟨w.heap.size, 1, none⟩ = some (.slice B N.pipes.length d)) (first | exact ⟨cw0_0, cw0_1⟩ | (simp [go_sem, cw0_0, cw0_1]; done) | go_keep) (first
          | (go_at_call 36; refine (spec_l18Flat _ _ _ _ _ _ q _ hln).mono ?_; rintro e w5 ⟨G5, c5, rfl, hc5, hW5, hb5⟩; have HG5 := Lib.hid hW5.rd; have HB5 := Lib.hid hb5; clear hW5; (obtain ⟨hcn, hfn⟩ := bcell hb5; have hz5 := hb5.size; (try simp at hz5); have Ncw0_0 := hcn (w.heap.size) (0) (by first | omega | (simp; done) | (simp; omega)); have Nfw0_0 := hfn (w.heap.size) (0) (by first | omega | (simp; done) | (simp; omega)); have Nhy0 : w.heap.size < w5.heap.size := (by omega); have Ncw0_1 := hcn (w.heap.size) (1) (by first | omega | (simp; done) | (simp; omega)); have Nfw0_1 := hfn (w.heap.size) (1) (by first | omega | (simp; done) | (simp; omega)); simp [go_sem, cw0_0, fw0_0, cw0_1, fw0_1, hy0] at Ncw0_0 Nfw0_0 Ncw0_1 Nfw0_1; clear cw0_0 fw0_0 cw0_1 fw0_1 hy0; clear hcn hfn; have cw0_0 := Ncw0_0; have fw0_0 := Nfw0_0; have cw0_1 := Ncw0_1; have fw0_1 := Nfw0_1; have hy0 := Nhy0; clear Ncw0_0 Nfw0_0 Ncw0_1 Nfw0_1 Nhy0))
          | (go_at_call 28; refine (spec_l18Total' _ _ _ _ _ _ _ _ N.nodes.length N (flat N q) _ (HNr.out.below (by have h5 := HB5.out; (repeat' (first | (with_reducible exact Below.refl _ _) | (with_reducible assumption) | (with_reducible refine Below.alloc ?_ ?_ _) | (with_reducible refine Below.drew ?_) | (with_reducible refine Below.drewN' ?_ _) | (with_reducible refine Below.setCell ?_ ?_ _) | (refine Below.via ?_ (by with_reducible assumption) ?_) | (with_reducible refine Below.via ?_ (Wd.h _) ?_) | go_size)))) rfl rfl HO.out HLV.out HG5.out rfl).mono ?_; rintro e w6 ⟨rfl, hb6⟩; have HB6 := Lib.hid hb6; (obtain ⟨hcn, hfn⟩ := bcell hb6; have hz6 := hb6.size; (try simp at hz6); have Ncw0_0 := hcn (w.heap.size) (0) (by first | omega | (simp; done) | (simp; omega)); have Nfw0_0 := hfn (w.heap.size) (0) (by first | omega | (simp; done) | (simp; omega)); have Nhy0 : w.heap.size < w6.heap.size := (by omega); have Ncw0_1 := hcn (w.heap.size) (1) (by first | omega | (simp; done) | (simp; omega)); have Nfw0_1 := hfn (w.heap.size) (1) (by first | omega | (simp; done) | (simp; omega)); simp [go_sem, cw0_0, fw0_0, cw0_1, fw0_1, hy0] at Ncw0_0 Nfw0_0 Ncw0_1 Nfw0_1; clear cw0_0 fw0_0 cw0_1 fw0_1 hy0; clear hcn hfn; have cw0_0 := Ncw0_0; have fw0_0 := Nfw0_0; have cw0_1 := Ncw0_1; have fw0_1 := Nfw0_1; have hy0 := Nhy0; clear Ncw0_0 Nfw0_0 Ncw0_1 Nfw0_1 Nhy0))))
        all_goals
          have hbx : Below wr.heap.size wr w6 := (by have h5 := HB5.out; have h6 := HB6.out; (repeat' (first | (with_reducible exact Below.refl _ _) | (with_reducible assumption) | (with_reducible refine Below.alloc ?_ ?_ _) | (with_reducible refine Below.drew ?_) | (with_reducible refine Below.drewN' ?_ _) | (with_reducible refine Below.setCell ?_ ?_ _) | (refine Below.via ?_ (by with_reducible assumption) ?_) | (with_reducible refine Below.via ?_ (Wd.h _) ?_) | go_size)))
          go_wp2
          go_roundw
          case rel => exact ⟨lo, q - 1, f, rfl, by go_num, by omega, by omega, by omega, Lib.hid (by have := HF.out; have := HQ.out; omega), Lib.hid (by rw [← HG.out, HS.out]), HBX2.out.below hbx HBX2.out.lt, hbH.out.trans (hbx.mono hbH.out.size)⟩
          case measure => simp [intOf]; omega
      · have HS := Lib.hid (bsG_up (P := flB N pack) (f := f) hlt HQ.out hc2)
        go_wp2_with fail
        
        (go_region_held3 (fun w' => w'.cell? ⟨w.heap.size, 0, none⟩ = some (.slice A N.nodes.length c) ∧ w'.cell? ⟨w.heap.size, 1, none⟩ = some (.slice B N.pipes.length d)) (first | exact ⟨cw0_0, cw0_1⟩ | (simp [go_sem, cw0_0, cw0_1]; done) | go_keep) (first
          | (go_at_call 36; refine (spec_l18Flat _ _ _ _ _ _ q _ hln).mono ?_; rintro e w5 ⟨G5, c5, rfl, hc5, hW5, hb5⟩; have HG5 := Lib.hid hW5.rd; have HB5 := Lib.hid hb5; clear hW5; (obtain ⟨hcn, hfn⟩ := bcell hb5; have hz5 := hb5.size; (try simp at hz5); have Ncw0_0 := hcn (w.heap.size) (0) (by first | omega | (simp; done) | (simp; omega)); have Nfw0_0 := hfn (w.heap.size) (0) (by first | omega | (simp; done) | (simp; omega)); have Nhy0 : w.heap.size < w5.heap.size := (by omega); have Ncw0_1 := hcn (w.heap.size) (1) (by first | omega | (simp; done) | (simp; omega)); have Nfw0_1 := hfn (w.heap.size) (1) (by first | omega | (simp; done) | (simp; omega)); simp [go_sem, cw0_0, fw0_0, cw0_1, fw0_1, hy0] at Ncw0_0 Nfw0_0 Ncw0_1 Nfw0_1; clear cw0_0 fw0_0 cw0_1 fw0_1 hy0; clear hcn hfn; have cw0_0 := Ncw0_0; have fw0_0 := Nfw0_0; have cw0_1 := Ncw0_1; have fw0_1 := Nfw0_1; have hy0 := Nhy0; clear Ncw0_0 Nfw0_0 Ncw0_1 Nfw0_1 Nhy0))
          | (go_at_call 28; refine (spec_l18Total' _ _ _ _ _ _ _ _ N.nodes.length N (flat N q) _ (HNr.out.below (by have h5 := HB5.out; (repeat' (first | (with_reducible exact Below.refl _ _) | (with_reducible assumption) | (with_reducible refine Below.alloc ?_ ?_ _) | (with_reducible refine Below.drew ?_) | (with_reducible refine Below.drewN' ?_ _) | (with_reducible refine Below.setCell ?_ ?_ _) | (refine Below.via ?_ (by with_reducible assumption) ?_) | (with_reducible refine Below.via ?_ (Wd.h _) ?_) | go_size)))) rfl rfl HO.out HLV.out HG5.out rfl).mono ?_; rintro e w6 ⟨rfl, hb6⟩; have HB6 := Lib.hid hb6; (obtain ⟨hcn, hfn⟩ := bcell hb6; have hz6 := hb6.size; (try simp at hz6); have Ncw0_0 := hcn (w.heap.size) (0) (by first | omega | (simp; done) | (simp; omega)); have Nfw0_0 := hfn (w.heap.size) (0) (by first | omega | (simp; done) | (simp; omega)); have Nhy0 : w.heap.size < w6.heap.size := (by omega); have Ncw0_1 := hcn (w.heap.size) (1) (by first | omega | (simp; done) | (simp; omega)); have Nfw0_1 := hfn (w.heap.size) (1) (by first | omega | (simp; done) | (simp; omega)); simp [go_sem, cw0_0, fw0_0, cw0_1, fw0_1, hy0] at Ncw0_0 Nfw0_0 Ncw0_1 Nfw0_1; clear cw0_0 fw0_0 cw0_1 fw0_1 hy0; clear hcn hfn; have cw0_0 := Ncw0_0; have fw0_0 := Nfw0_0; have cw0_1 := Ncw0_1; have fw0_1 := Nfw0_1; have hy0 := Nhy0; clear Ncw0_0 Nfw0_0 Ncw0_1 Nfw0_1 Nhy0))))
        all_goals
          have hbx : Below wr.heap.size wr w6 := (by have h5 := HB5.out; have h6 := HB6.out; (repeat' (first | (with_reducible exact Below.refl _ _) | (with_reducible assumption) | (with_reducible refine Below.alloc ?_ ?_ _) | (with_reducible refine Below.drew ?_) | (with_reducible refine Below.drewN' ?_ _) | (with_reducible refine Below.setCell ?_ ?_ _) | (refine Below.via ?_ (by with_reducible assumption) ?_) | (with_reducible refine Below.via ?_ (Wd.h _) ?_) | go_size)))
          go_wp2
          go_roundw
          case rel => exact ⟨q, hi, f, rfl, rfl, by omega, by omega, by omega, Lib.hid (by have := HF.out; have := HQ.out; omega), Lib.hid (by rw [← HG.out, HS.out]), HBX2.out.below hbx HBX2.out.lt, hbH.out.trans (hbx.mono hbH.out.size)⟩
          case measure => simp [intOf]; omega
    · have HE := Lib.hid (bsG_end (P := flB N pack) (f := f) hlt)
      clear hbw
      go_wp2
      go_ret2
      exact ⟨ri2 (by rw [HR.out, ← HG.out, HE.out]) (by rw [HR.out]), hbH.out⟩
end Go.Proofs.Ytkagnkecgkmpcaa

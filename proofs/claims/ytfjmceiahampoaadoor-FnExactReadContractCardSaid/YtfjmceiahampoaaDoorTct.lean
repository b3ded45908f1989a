/- ContractText. -/
import Derived.Test.YtfjmceiahampoaaDoorTst
import Derived.Test.YtfjmceiahampoaaDoorDat
import Derived.Test.YtfjmceiahampoaaDoorSu
namespace Go.Proofs.YtfjmceiahampoaaDoor
set_option linter.unusedVariables false
set_option linter.unusedSimpArgs false
open Go.RowKit
def spc : ByteArray := ⟨#[32]⟩
/-- the numbers of a contract -/
def ctN (c : Ctr) : List Int := [c.sh, c.en, c.ex, c.am, c.cl, c.fr, c.to, c.pr]
theorem ctN_i64 {c : Ctr} (h : c.ok) : I64 (ctN c) := by
  obtain ⟨h0, h1, h2, h3, h4, h5, h6, h7⟩ := h
  intro x hx
  simp only [ctN, List.mem_cons, List.not_mem_nil, or_false] at hx
  rcases hx with rfl | rfl | rfl | rfl | rfl | rfl | rfl | rfl <;> assumption
noncomputable def ctT (c : Ctr) : ByteArray := if (ctN c).any (fun x => decide (x < 0)) = true then ⟨#[]⟩ else joinN (ctN c) spc
theorem ct_neg {c : Ctr} (h : (ctN c).any (fun x => decide (x < 0)) = true) : ctT c = ⟨#[]⟩ := by unfold ctT; rw [if_pos h]
theorem ct_pos {c : Ctr} (h : (ctN c).any (fun x => decide (x < 0)) = false) : ctT c = joinN (ctN c) spc := by unfold ctT; rw [h]; rfl
/-- a list's least number -/
theorem any_snoc {l : List Int} {k : Nat} {x : Int} (h : l[k]? = some x) : (l.take (k + 1)).any (fun x => decide (x < 0)) = ((l.take k).any (fun x => decide (x < 0)) || decide (x < 0)) := by
  rw [List.take_add_one, h, List.any_append]; simp
set_option maxRecDepth 100000 in
set_option maxHeartbeats 1000000 in
theorem slices_MinI (A : Option Addr) (c : Nat) (l : List Int) (w : World) (h : Rd w A (l.map iV)) (h0 : 1 ≤ l.length) (hl : l.length ≤ 4503599627370496) :
    Calls Tryd.prog 31 #[.slice A l.length c] w fun e w' => ∃ m : Int, e = .returned (.int .i64 m) ∧ l.any (fun x => decide (x < 0)) = decide (m < 0) ∧ w' = w := by
  have H := Lib.hid h
  obtain ⟨y, hy⟩ := get_some (l := l) (k := 0) (by omega)
  obtain ⟨b, off, rfl, hb, hat⟩ := H.out.opened (k := 0) (by rw [List.length_map]; omega)
  have t0 := ints_at hat hy
  have AT := Lib.hid hat
  rw [Nat.add_zero] at t0
  have s0 : (l.take 1).any (fun x => decide (x < 0)) = decide (y < 0) := by
    have := any_snoc hy
    simpa using this
  have HS := Lib.hid s0
  clear h hat hy s0
  have g0 : ¬ (l.length : Int) < 1 := by omega
  go_enter Tryd.func31, Tryd.ntmps31
  go_wp2
  go_loop [3, 4] (fun u v => ∃ (k : Nat) (m : Int), 1 ≤ k ∧ k ≤ l.length ∧ v = .int .i64 k ∧ u = .int .i64 m ∧ (l.take k).any (fun x => decide (x < 0)) = decide (m < 0)) (fun _ v => l.length - (intOf v).toNat)
  case atStart => exact ⟨1, y, by omega, h0, rfl, rfl, HS.out⟩
  case round =>
    obtain ⟨k, m, hk1, hk, rfl, rfl, hF⟩ := hrel
    have HF := Lib.hid hF
    clear hF
    by_cases hlt : k < l.length
    · obtain ⟨x, hx⟩ := get_some hlt
      have t1 := ints_at AT.out hx
      have HX := Lib.hid hx
      have g1 : (k : Int) < l.length := by omega
      clear hx t0
      go_wp2
      go_round
      case rel =>
        refine ⟨k + 1, _, by omega, by omega, by go_num, rfl, ?_⟩
        rw [any_snoc HX.out, HF.out]
        simp only [Int.min_def]
        split <;> simp <;> omega
      case measure => simp [intOf]; omega
    · go_wp2
      go_ret
      refine ⟨m, rfl, ?_, rfl⟩
      have := HF.out
      rw [List.take_of_length_le (by omega)] at this
      exact this
set_option maxRecDepth 100000 in
set_option maxHeartbeats 4000000 in
theorem impl_ContractText (c : Ctr) (w : World) (hc : c.ok) (ht : Pow w) :
    Calls Tryd.prog 16 #[c.val] w fun e w' => e = .returned (.string (ctT c)) ∧ Below w.heap.size w w' := by
  have HT := Lib.hid ht
  have HC := Lib.hid (ctN_i64 hc)
  clear ht hc
  go_enter Tryd.func16, Tryd.ntmps16
  go_wp2_with fail
  refine (slices_MinI _ 8 (ctN c) _ ?hH (by simp [ctN]) (by simp [ctN])).mono ?_
  case hH => exact Rd.mk (fun j v e => by rw [Nat.zero_add]; simp; simpa [ctN] using e) (by simp)
  rintro e w1 ⟨m, rfl, hm, rfl⟩
  cases hn : (ctN c).any (fun x => decide (x < 0))
  · have HR := Lib.hid (ct_pos hn)
    have g1 : ¬ m < 0 := by rw [hn] at hm; exact of_decide_eq_false hm.symm
    clear hm hn
    go_wp2_with fail
    refine (impl_joinNumbers _ 8 (ctN c) spc _ ?hH (by simp [ctN]) HC.out (by decide) (HT.out.below (by (repeat' (first | (with_reducible exact Below.refl _ _) | (with_reducible assumption) | (with_reducible refine Below.alloc ?_ ?_ _) | (with_reducible refine Below.drew ?_) | (with_reducible refine Below.drewN' ?_ _) | (with_reducible refine Below.setCell ?_ ?_ _) | (refine Below.via ?_ (by with_reducible assumption) ?_) | (with_reducible refine Below.via ?_ (Wd.h _) ?_) | go_size))))).mono ?_
    case hH => exact Rd.mk (fun j v e => by rw [Nat.zero_add]; simp; simpa [ctN] using e) (by simp)
    rintro e w2 ⟨rfl, hb2⟩
    go_wp2
    go_ret
    rw [HR.out]
    exact ⟨rfl, by (repeat' (first | (with_reducible exact Below.refl _ _) | (with_reducible assumption) | (with_reducible refine Below.alloc ?_ ?_ _) | (with_reducible refine Below.drew ?_) | (with_reducible refine Below.drewN' ?_ _) | (with_reducible refine Below.setCell ?_ ?_ _) | (refine Below.via ?_ (by with_reducible assumption) ?_) | (with_reducible refine Below.via ?_ (Wd.h _) ?_) | go_size))⟩
  · have HR := Lib.hid (ct_neg hn)
    have g1 : m < 0 := by rw [hn] at hm; exact of_decide_eq_true hm.symm
    clear hm hn
    go_wp2
    go_ret
    rw [HR.out]
    exact ⟨rfl, by (repeat' (first | (with_reducible exact Below.refl _ _) | (with_reducible assumption) | (with_reducible refine Below.alloc ?_ ?_ _) | (with_reducible refine Below.drew ?_) | (with_reducible refine Below.drewN' ?_ _) | (with_reducible refine Below.setCell ?_ ?_ _) | (refine Below.via ?_ (by with_reducible assumption) ?_) | (with_reducible refine Below.via ?_ (Wd.h _) ?_) | go_size))⟩
/-- numbers, each with a blank in front -/
def tlN (l : List Int) : ByteArray := ⟨(Lib.joinTail [32] (l.map Lib.itoa)).toArray⟩
theorem tlN_snoc {l : List Int} {k : Nat} {x : Int} (h : l[k]? = some x) : tlN (l.take k) ++ spc ++ itS x = tlN (l.take (k + 1)) := by
  have e : (l.map Lib.itoa)[k]? = some (Lib.itoa x) := by rw [List.getElem?_map, h]; rfl
  have := Lib.joinTail_take_succ [32] (l.map Lib.itoa) k (Lib.itoa x) e
  simp only [tlN, List.map_take, this]
  simp [itS, spc, ByteArray.append_eq, ByteArray.ext_iff]
theorem tlN_size {l : List Int} (h : I64 l) : (tlN l).size ≤ l.length * 22 := by
  have h1 : (tlN l).size = (Lib.joinTail [32] (l.map Lib.itoa)).length := by simp [tlN, ByteArray.size]
  have h2 := lens_le (l := l.map Lib.itoa) (b := 21) (fun x hx => by
    obtain ⟨y, hy, rfl⟩ := List.mem_map.1 hx
    exact itoa_le (h y hy))
  rw [h1, Lib.joinTail_length]
  simp only [List.length_map, List.length_cons, List.length_nil] at h2 ⊢
  omega
theorem ext_tail (b : UInt8) (a : List UInt8) : (⟨(b :: a).toArray⟩ : ByteArray).extract 1 (⟨(b :: a).toArray⟩ : ByteArray).size = ⟨a.toArray⟩ := by
  apply ByteArray.ext
  apply Array.ext'
  simp [ByteArray.size]
theorem tlN_tail {x : Int} {l : List Int} : (tlN (x :: l)).extract 1 (tlN (x :: l)).size = joinN (x :: l) spc := by
  have e : tlN (x :: l) = ⟨(32 :: (Lib.itoa x ++ Lib.joinTail [32] (l.map Lib.itoa))).toArray⟩ := by
    simp only [tlN, List.map_cons, Lib.joinTail, List.flatten_cons]; simp
  rw [e, ext_tail, joinN, List.map_cons, Lib.join_cons]; rfl
set_option maxRecDepth 100000 in
set_option maxHeartbeats 2000000 in
theorem spec_l03Words (A : Option Addr) (c : Nat) (l : List Int) (w : World) (h : Rd w A (l.map iV)) (hl : l.length ≤ 1000) (h0 : ∀ x ∈ l, 0 ≤ x ∧ x ≤ 9223372036854775807) :
    Calls Tryd.prog 38 #[.slice A l.length c] w fun e w' => e = .returned (.string (tlN l)) ∧ Below w.heap.size w w' := by
  have H := Lib.hid h
  have H0 := Lib.hid h0
  have hi : I64 l := fun x hx => by have := h0 x hx; omega
  have HI := Lib.hid hi
  clear h h0 hi
  go_enter Tryd.func38, Tryd.ntmps38
  go_wp2
  go_loopw [3, 4] (fun u v wr => ∃ k : Nat, k ≤ l.length ∧ v = .int .i64 k ∧ u = .string (tlN (l.take k)) ∧ Below w.heap.size w wr) (fun _ v _ => l.length - (intOf v).toNat)
  case atStart => exact ⟨0, by omega, rfl, rfl, Below.refl _ _⟩
  case round =>
    obtain ⟨k, hk, rfl, rfl, hbw⟩ := hrel
    by_cases hlt : k < l.length
    · obtain ⟨x, hx⟩ := get_some hlt
      obtain ⟨b, off, rfl, hb, hat⟩ := H.out.opened (k := k) (by simpa using hlt)
      have t0 := ints_at (hat.below hbw hb) hx
      have hin := H0.out x (List.mem_of_getElem? hx)
      obtain ⟨x', rfl⟩ : ∃ k : Nat, x = k := ⟨x.toNat, by omega⟩
      have HS := Lib.hid (tlN_snoc hx)
      have z1 := tlN_size (l := l.take k) (fun y hy => HI.out y (List.mem_of_mem_take hy))
      rw [List.length_take] at z1
      have z2 := itS_le (n := (x' : Int)) (by omega)
      have HB := Lib.hid hbw
      have z3 : (tlN (l.take k) ++ spc).size = (tlN (l.take k)).size + 1 := by rw [ByteArray.size_append]; rfl
      clear hx hat hbw
      go_wp2_with fail
      refine (spec_l01Dec x' (by omega) _).mono ?_
      rintro e wn ⟨rfl, hbn⟩
      have HB2 := Lib.hid (Below.via HB.out hbn HB.out.size)
      clear hbn
      go_wp2
      go_roundw
      case rel => exact ⟨k + 1, by omega, by go_num, by rw [← HS.out]; rfl, HB2.out⟩
      case measure => simp [intOf]; omega
    · go_wp2
      go_ret
      refine ⟨?_, hbw⟩
      rw [List.take_of_length_le (by omega)]; rfl
set_option maxRecDepth 100000 in
set_option maxHeartbeats 1000000 in
theorem spec_l20List (c : Ctr) (w : World) :
    Calls Tryd.prog 37 #[c.val] w fun e w' => ∃ A d, e = .returned (.slice A 8 d) ∧ Rd w' A ((ctN c).map iV) ∧ Below w.heap.size w w' := by
  go_enter Tryd.func37, Tryd.ntmps37
  go_wp2
  go_ret
  refine ⟨_, _, rfl, Rd.mk (fun j v e => by rw [Nat.zero_add]; simp; simpa [ctN] using e) (by simp), by (repeat' (first | (with_reducible exact Below.refl _ _) | (with_reducible assumption) | (with_reducible refine Below.alloc ?_ ?_ _) | (with_reducible refine Below.drew ?_) | (with_reducible refine Below.drewN' ?_ _) | (with_reducible refine Below.setCell ?_ ?_ _) | (refine Below.via ?_ (by with_reducible assumption) ?_) | (with_reducible refine Below.via ?_ (Wd.h _) ?_) | go_size))⟩
set_option maxRecDepth 100000 in
set_option maxHeartbeats 2000000 in
theorem spec_ContractText (c : Ctr) (w : World) (hc : c.ok) :
    Calls Tryd.prog 14 #[c.val] w fun e w' => e = .returned (.string (ctT c)) ∧ Below w.heap.size w w' := by
  have HC := Lib.hid (ctN_i64 hc)
  clear hc
  have hl : (ctN c).length = 8 := rfl
  go_enter Tryd.func14, Tryd.ntmps14
  go_wp2_with fail
  refine (spec_l20List c _).mono ?_
  rintro e w1 ⟨A, d, rfl, hR, hb1⟩
  have H := Lib.hid hR
  have hbw : Below w.heap.size w w1 := by (repeat' (first | (with_reducible exact Below.refl _ _) | (with_reducible assumption) | (with_reducible refine Below.alloc ?_ ?_ _) | (with_reducible refine Below.drew ?_) | (with_reducible refine Below.drewN' ?_ _) | (with_reducible refine Below.setCell ?_ ?_ _) | (refine Below.via ?_ (by with_reducible assumption) ?_) | (with_reducible refine Below.via ?_ (Wd.h _) ?_) | go_size))
  have HB1 := Lib.hid hbw
  clear hR hb1 hbw
  go_wp2
  go_loop [4] (fun v => ∃ k : Nat, k ≤ 8 ∧ v = .int .i64 k ∧ ((ctN c).take k).any (fun x => decide (x < 0)) = false) (fun v => 8 - (intOf v).toNat)
  case atStart => exact ⟨0, by omega, rfl, rfl⟩
  case round =>
    obtain ⟨k, hk, rfl, hF⟩ := hrel
    have HF := Lib.hid hF
    clear hF
    by_cases hlt : k < 8
    · obtain ⟨x, hx⟩ := get_some (l := ctN c) (k := k) (by omega)
      obtain ⟨b, off, rfl, hb, hat⟩ := H.out.opened (k := k) (by rw [List.length_map]; omega)
      have t0 := ints_at hat hx
      have HX := Lib.hid hx
      clear hx hat
      by_cases hneg : x < 0
      · have HR := Lib.hid (ct_neg (c := c) (List.any_eq_true.2 ⟨x, List.mem_of_getElem? HX.out, by simpa using hneg⟩))
        go_wp2
        go_ret
        rw [HR.out]
        exact ⟨rfl, HB1.out⟩
      · go_wp2
        go_round
        case rel =>
          refine ⟨k + 1, by omega, by go_num, ?_⟩
          rw [any_snoc HX.out, HF.out]; simpa using hneg
        case measure => simp [intOf]; omega
    · have hF := HF.out
      rw [List.take_of_length_le (by omega)] at hF
      have HR := Lib.hid (ct_pos hF)
      have hw := spec_l03Words A d (ctN c) w1 H.out (by omega) (fun x hx => by
        have h1 := HC.out x hx
        have h2 : ¬ x < 0 := fun hn => by
          have : (ctN c).any (fun x => decide (x < 0)) = true := List.any_eq_true.2 ⟨x, hx, by simpa using hn⟩
          rw [hF] at this; cases this
        omega)
      rw [hl] at hw
      have HW := Lib.hid hw
      have et : (tlN (ctN c)).extract 1 (tlN (ctN c)).size = joinN (ctN c) spc := tlN_tail
      have HE := Lib.hid et
      have z1 := tlN_size HC.out
      have z2 : 1 ≤ (tlN (ctN c)).size := by simp [tlN, ctN, ByteArray.size, Lib.joinTail]
      rw [hl] at z1
      clear hF hw et
      go_wp2_with fail
      refine HW.out.mono ?_
      rintro e w2 ⟨rfl, hb2⟩
      go_wp2
      go_ret
      rw [HR.out, ← HE.out]
      exact ⟨rfl, HB1.out.trans (hb2.mono HB1.out.size)⟩
end Go.Proofs.YtfjmceiahampoaaDoor

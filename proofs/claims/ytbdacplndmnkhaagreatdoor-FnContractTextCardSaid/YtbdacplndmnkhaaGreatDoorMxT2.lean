/- ReadStore. -/
import Derived.Test.YtbdacplndmnkhaaGreatDoorMxT1
import Derived.Test.YtbdacplndmnkhaaGreatDoorDat
import Derived.Test.YtbdacplndmnkhaaGreatDoorSu
import Derived.Test.YtbdacplndmnkhaaGreatDoorRows
import Derived.Test.YtbdacplndmnkhaaGreatDoorOpenN
import Derived.WalkKit
import Derived.ProofKit
import Derived.OpenShut
import Derived.ShutString
import Derived.Lib.SmallJoins
import Derived.Deep.Slices
import Derived.Deep.Fields
import Derived.ChangeSame
import Derived.Test.YtbdacplndmnkhaaGreatDoorTb
import Derived.Test.YtbdacplndmnkhaaGreatDoorRgo
namespace Go.Proofs.YtbdacplndmnkhaaGreatDoor
set_option linter.unusedVariables false
set_option linter.unusedSimpArgs false
open Go.RowKit
def spc : ByteArray := ⟨#[32]⟩
/-- the numbers of a contract -/
def ctN (c : Ctr) : List Int := [c.sh, c.en, c.ex, c.am, c.cl, c.fr, c.to, c.pr]
theorem ctN_i64 {c : Ctr} (h : c.ok) : I64 (ctN c) := by
  obtain ⟨h0, h1, h2, h3, h4, h5, h6, h7⟩ := h
  intro x hx
  simp only [ctN, List.mem_cons, List.not_mem_nil, or_false] at hx
  rcases hx with rfl | rfl | rfl | rfl | rfl | rfl | rfl | rfl <;> assumption
noncomputable def ctT (c : Ctr) : ByteArray := if (ctN c).any (fun x => decide (x < 0)) = true then ⟨#[]⟩ else joinN (ctN c) spc
theorem ct_neg {c : Ctr} (h : (ctN c).any (fun x => decide (x < 0)) = true) : ctT c = ⟨#[]⟩ := by unfold ctT; rw [if_pos h]
theorem ct_pos {c : Ctr} (h : (ctN c).any (fun x => decide (x < 0)) = false) : ctT c = joinN (ctN c) spc := by unfold ctT; rw [h]; rfl
/-- a list's least number -/
theorem any_snoc {l : List Int} {k : Nat} {x : Int} (h : l[k]? = some x) : (l.take (k + 1)).any (fun x => decide (x < 0)) = ((l.take k).any (fun x => decide (x < 0)) || decide (x < 0)) := by
  rw [List.take_add_one, h, List.any_append]; simp
set_option maxRecDepth 100000 in
set_option maxHeartbeats 1000000 in
theorem slices_MinI (A : Option Addr) (c : Nat) (l : List Int) (w : World) (h : Rd w A (l.map iV)) (h0 : 1 ≤ l.length) (hl : l.length ≤ 4503599627370496) :
    Calls Tryz.prog 16 #[.slice A l.length c] w fun e w' => ∃ m : Int, e = .returned (.int .i64 m) ∧ l.any (fun x => decide (x < 0)) = decide (m < 0) ∧ w' = w := by
  have H := Lib.hid h
  obtain ⟨y, hy⟩ := get_some (l := l) (k := 0) (by omega)
  obtain ⟨b, off, rfl, hb, hat⟩ := H.out.opened (k := 0) (by rw [List.length_map]; omega)
  have t0 := ints_at hat hy
  have AT := Lib.hid hat
  rw [Nat.add_zero] at t0
  have s0 : (l.take 1).any (fun x => decide (x < 0)) = decide (y < 0) := by
    have := any_snoc hy
    simpa using this
  have HS := Lib.hid s0
  clear h hat hy s0
  have g0 : ¬ (l.length : Int) < 1 := by omega
  go_enter Tryz.func16, Tryz.ntmps16
  go_wp2
  go_loop [3, 4] (fun u v => ∃ (k : Nat) (m : Int), 1 ≤ k ∧ k ≤ l.length ∧ v = .int .i64 k ∧ u = .int .i64 m ∧ (l.take k).any (fun x => decide (x < 0)) = decide (m < 0)) (fun _ v => l.length - (intOf v).toNat)
  case atStart => exact ⟨1, y, by omega, h0, rfl, rfl, HS.out⟩
  case round =>
    obtain ⟨k, m, hk1, hk, rfl, rfl, hF⟩ := hrel
    have HF := Lib.hid hF
    clear hF
    by_cases hlt : k < l.length
    · obtain ⟨x, hx⟩ := get_some hlt
      have t1 := ints_at AT.out hx
      have HX := Lib.hid hx
      have g1 : (k : Int) < l.length := by omega
      clear hx t0
      go_wp2
      go_round
      case rel =>
        refine ⟨k + 1, _, by omega, by omega, by go_num, rfl, ?_⟩
        rw [any_snoc HX.out, HF.out]
        simp only [Int.min_def]
        split <;> simp <;> omega
      case measure => simp [intOf]; omega
    · go_wp2
      go_ret
      refine ⟨m, rfl, ?_, rfl⟩
      have := HF.out
      rw [List.take_of_length_le (by omega)] at this
      exact this
set_option maxRecDepth 100000 in
set_option maxHeartbeats 4000000 in
theorem impl_ContractText (c : Ctr) (w : World) (hc : c.ok) (ht : Pow w) :
    Calls Tryz.prog 6 #[c.val] w fun e w' => e = .returned (.string (ctT c)) ∧ Below w.heap.size w w' := by
  have HT := Lib.hid ht
  have HC := Lib.hid (ctN_i64 hc)
  clear ht hc
  go_enter Tryz.func6, Tryz.ntmps6
  go_wp2_with fail
  refine (slices_MinI _ 8 (ctN c) _ ?hH (by simp [ctN]) (by simp [ctN])).mono ?_
  case hH => exact Rd.mk (fun j v e => by rw [Nat.zero_add]; simp; simpa [ctN] using e) (by simp)
  rintro e w1 ⟨m, rfl, hm, rfl⟩
  cases hn : (ctN c).any (fun x => decide (x < 0))
  · have HR := Lib.hid (ct_pos hn)
    have g1 : ¬ m < 0 := by rw [hn] at hm; exact of_decide_eq_false hm.symm
    clear hm hn
    go_wp2_with fail
    refine (impl_joinNumbers _ 8 (ctN c) spc _ ?hH (by simp [ctN]) HC.out (by decide) (HT.out.below (by (repeat' (first | (with_reducible exact Below.refl _ _) | (with_reducible assumption) | (with_reducible refine Below.alloc ?_ ?_ _) | (with_reducible refine Below.drew ?_) | (with_reducible refine Below.drewN' ?_ _) | (with_reducible refine Below.setCell ?_ ?_ _) | (refine Below.via ?_ (by with_reducible assumption) ?_) | (with_reducible refine Below.via ?_ (Wd.h _) ?_) | go_size))))).mono ?_
    case hH => exact Rd.mk (fun j v e => by rw [Nat.zero_add]; simp; simpa [ctN] using e) (by simp)
    rintro e w2 ⟨rfl, hb2⟩
    go_wp2
    go_ret
    rw [HR.out]
    exact ⟨rfl, by (repeat' (first | (with_reducible exact Below.refl _ _) | (with_reducible assumption) | (with_reducible refine Below.alloc ?_ ?_ _) | (with_reducible refine Below.drew ?_) | (with_reducible refine Below.drewN' ?_ _) | (with_reducible refine Below.setCell ?_ ?_ _) | (refine Below.via ?_ (by with_reducible assumption) ?_) | (with_reducible refine Below.via ?_ (Wd.h _) ?_) | go_size))⟩
  · have HR := Lib.hid (ct_neg hn)
    have g1 : m < 0 := by rw [hn] at hm; exact of_decide_eq_true hm.symm
    clear hm hn
    go_wp2
    go_ret
    rw [HR.out]
    exact ⟨rfl, by (repeat' (first | (with_reducible exact Below.refl _ _) | (with_reducible assumption) | (with_reducible refine Below.alloc ?_ ?_ _) | (with_reducible refine Below.drew ?_) | (with_reducible refine Below.drewN' ?_ _) | (with_reducible refine Below.setCell ?_ ?_ _) | (refine Below.via ?_ (by with_reducible assumption) ?_) | (with_reducible refine Below.via ?_ (Wd.h _) ?_) | go_size))⟩
/-- numbers, each with a blank in front -/
def tlN (l : List Int) : ByteArray := ⟨(Lib.joinTail [32] (l.map Lib.itoa)).toArray⟩
theorem tlN_snoc {l : List Int} {k : Nat} {x : Int} (h : l[k]? = some x) : tlN (l.take k) ++ spc ++ itS x = tlN (l.take (k + 1)) := by
  have e : (l.map Lib.itoa)[k]? = some (Lib.itoa x) := by rw [List.getElem?_map, h]; rfl
  have := Lib.joinTail_take_succ [32] (l.map Lib.itoa) k (Lib.itoa x) e
  simp only [tlN, List.map_take, this]
  simp [itS, spc, ByteArray.append_eq, ByteArray.ext_iff]
theorem tlN_size {l : List Int} (h : I64 l) : (tlN l).size ≤ l.length * 22 := by
  have h1 : (tlN l).size = (Lib.joinTail [32] (l.map Lib.itoa)).length := by simp [tlN, ByteArray.size]
  have h2 := lens_le (l := l.map Lib.itoa) (b := 21) (fun x hx => by
    obtain ⟨y, hy, rfl⟩ := List.mem_map.1 hx
    exact itoa_le (h y hy))
  rw [h1, Lib.joinTail_length]
  simp only [List.length_map, List.length_cons, List.length_nil] at h2 ⊢
  omega
theorem ext_tail (b : UInt8) (a : List UInt8) : (⟨(b :: a).toArray⟩ : ByteArray).extract 1 (⟨(b :: a).toArray⟩ : ByteArray).size = ⟨a.toArray⟩ := by
  apply ByteArray.ext
  apply Array.ext'
  simp [ByteArray.size]
theorem tlN_tail {x : Int} {l : List Int} : (tlN (x :: l)).extract 1 (tlN (x :: l)).size = joinN (x :: l) spc := by
  have e : tlN (x :: l) = ⟨(32 :: (Lib.itoa x ++ Lib.joinTail [32] (l.map Lib.itoa))).toArray⟩ := by
    simp only [tlN, List.map_cons, Lib.joinTail, List.flatten_cons]; simp
  rw [e, ext_tail, joinN, List.map_cons, Lib.join_cons]; rfl
set_option maxRecDepth 100000 in
set_option maxHeartbeats 2000000 in
theorem spec_l03Words (A : Option Addr) (c : Nat) (l : List Int) (w : World) (h : Rd w A (l.map iV)) (hl : l.length ≤ 1000) (h0 : ∀ x ∈ l, 0 ≤ x ∧ x ≤ 9223372036854775807) :
    Calls Tryz.prog 38 #[.slice A l.length c] w fun e w' => e = .returned (.string (tlN l)) ∧ Below w.heap.size w w' := by
  have H := Lib.hid h
  have H0 := Lib.hid h0
  have hi : I64 l := fun x hx => by have := h0 x hx; omega
  have HI := Lib.hid hi
  clear h h0 hi
  go_enter Tryz.func38, Tryz.ntmps38
  go_wp2
  go_loopw [3, 4] (fun u v wr => ∃ k : Nat, k ≤ l.length ∧ v = .int .i64 k ∧ u = .string (tlN (l.take k)) ∧ Below w.heap.size w wr) (fun _ v _ => l.length - (intOf v).toNat)
  case atStart => exact ⟨0, by omega, rfl, rfl, Below.refl _ _⟩
  case round =>
    obtain ⟨k, hk, rfl, rfl, hbw⟩ := hrel
    by_cases hlt : k < l.length
    · obtain ⟨x, hx⟩ := get_some hlt
      obtain ⟨b, off, rfl, hb, hat⟩ := H.out.opened (k := k) (by simpa using hlt)
      have t0 := ints_at (hat.below hbw hb) hx
      have hin := H0.out x (List.mem_of_getElem? hx)
      obtain ⟨x', rfl⟩ : ∃ k : Nat, x = k := ⟨x.toNat, by omega⟩
      have HS := Lib.hid (tlN_snoc hx)
      have z1 := tlN_size (l := l.take k) (fun y hy => HI.out y (List.mem_of_mem_take hy))
      rw [List.length_take] at z1
      have z2 := itS_le (n := (x' : Int)) (by omega)
      have HB := Lib.hid hbw
      have z3 : (tlN (l.take k) ++ spc).size = (tlN (l.take k)).size + 1 := by rw [ByteArray.size_append]; rfl
      clear hx hat hbw
      go_wp2_with fail
      refine (spec_l01Dec x' (by omega) _).mono ?_
      rintro e wn ⟨rfl, hbn⟩
      have HB2 := Lib.hid (Below.via HB.out hbn HB.out.size)
      clear hbn
      go_wp2
      go_roundw
      case rel => exact ⟨k + 1, by omega, by go_num, by rw [← HS.out]; rfl, HB2.out⟩
      case measure => simp [intOf]; omega
    · go_wp2
      go_ret
      refine ⟨?_, hbw⟩
      rw [List.take_of_length_le (by omega)]; rfl
set_option maxRecDepth 100000 in
set_option maxHeartbeats 1000000 in
theorem spec_l20List (c : Ctr) (w : World) :
    Calls Tryz.prog 37 #[c.val] w fun e w' => ∃ A d, e = .returned (.slice A 8 d) ∧ Rd w' A ((ctN c).map iV) ∧ Below w.heap.size w w' := by
  go_enter Tryz.func37, Tryz.ntmps37
  go_wp2
  go_ret
  refine ⟨_, _, rfl, Rd.mk (fun j v e => by rw [Nat.zero_add]; simp; simpa [ctN] using e) (by simp), by (repeat' (first | (with_reducible exact Below.refl _ _) | (with_reducible assumption) | (with_reducible refine Below.alloc ?_ ?_ _) | (with_reducible refine Below.drew ?_) | (with_reducible refine Below.drewN' ?_ _) | (with_reducible refine Below.setCell ?_ ?_ _) | (refine Below.via ?_ (by with_reducible assumption) ?_) | (with_reducible refine Below.via ?_ (Wd.h _) ?_) | go_size))⟩
set_option maxRecDepth 100000 in
set_option maxHeartbeats 2000000 in
theorem spec_ContractText (c : Ctr) (w : World) (hc : c.ok) :
    Calls Tryz.prog 13 #[c.val] w fun e w' => e = .returned (.string (ctT c)) ∧ Below w.heap.size w w' := by
  have HC := Lib.hid (ctN_i64 hc)
  clear hc
  have hl : (ctN c).length = 8 := rfl
  go_enter Tryz.func13, Tryz.ntmps13
  go_wp2_with fail
  refine (spec_l20List c _).mono ?_
  rintro e w1 ⟨A, d, rfl, hR, hb1⟩
  have H := Lib.hid hR
  have hbw : Below w.heap.size w w1 := by (repeat' (first | (with_reducible exact Below.refl _ _) | (with_reducible assumption) | (with_reducible refine Below.alloc ?_ ?_ _) | (with_reducible refine Below.drew ?_) | (with_reducible refine Below.drewN' ?_ _) | (with_reducible refine Below.setCell ?_ ?_ _) | (refine Below.via ?_ (by with_reducible assumption) ?_) | (with_reducible refine Below.via ?_ (Wd.h _) ?_) | go_size))
  have HB1 := Lib.hid hbw
  clear hR hb1 hbw
  go_wp2
  go_loop [4] (fun v => ∃ k : Nat, k ≤ 8 ∧ v = .int .i64 k ∧ ((ctN c).take k).any (fun x => decide (x < 0)) = false) (fun v => 8 - (intOf v).toNat)
  case atStart => exact ⟨0, by omega, rfl, rfl⟩
  case round =>
    obtain ⟨k, hk, rfl, hF⟩ := hrel
    have HF := Lib.hid hF
    clear hF
    by_cases hlt : k < 8
    · obtain ⟨x, hx⟩ := get_some (l := ctN c) (k := k) (by omega)
      obtain ⟨b, off, rfl, hb, hat⟩ := H.out.opened (k := k) (by rw [List.length_map]; omega)
      have t0 := ints_at hat hx
      have HX := Lib.hid hx
      clear hx hat
      by_cases hneg : x < 0
      · have HR := Lib.hid (ct_neg (c := c) (List.any_eq_true.2 ⟨x, List.mem_of_getElem? HX.out, by simpa using hneg⟩))
        go_wp2
        go_ret
        rw [HR.out]
        exact ⟨rfl, HB1.out⟩
      · go_wp2
        go_round
        case rel =>
          refine ⟨k + 1, by omega, by go_num, ?_⟩
          rw [any_snoc HX.out, HF.out]; simpa using hneg
        case measure => simp [intOf]; omega
    · have hF := HF.out
      rw [List.take_of_length_le (by omega)] at hF
      have HR := Lib.hid (ct_pos hF)
      have hw := spec_l03Words A d (ctN c) w1 H.out (by omega) (fun x hx => by
        have h1 := HC.out x hx
        have h2 : ¬ x < 0 := fun hn => by
          have : (ctN c).any (fun x => decide (x < 0)) = true := List.any_eq_true.2 ⟨x, hx, by simpa using hn⟩
          rw [hF] at this; cases this
        omega)
      rw [hl] at hw
      have HW := Lib.hid hw
      have et : (tlN (ctN c)).extract 1 (tlN (ctN c)).size = joinN (ctN c) spc := tlN_tail
      have HE := Lib.hid et
      have z1 := tlN_size HC.out
      have z2 : 1 ≤ (tlN (ctN c)).size := by simp [tlN, ctN, ByteArray.size, Lib.joinTail]
      rw [hl] at z1
      clear hF hw et
      go_wp2_with fail
      refine HW.out.mono ?_
      rintro e w2 ⟨rfl, hb2⟩
      go_wp2
      go_ret
      rw [HR.out, ← HE.out]
      exact ⟨rfl, HB1.out.trans (hb2.mono HB1.out.size)⟩
end Go.Proofs.YtbdacplndmnkhaaGreatDoor
namespace Go.Proofs.YtbdacplndmnkhaaGreatDoor
set_option linter.unusedVariables false
set_option linter.unusedSimpArgs false
open Go.Joins Go.ChangeShapes Go.WideShapes Go.ChangeAt Go.RowKit Go.Deep
open Go.ChangeMaps (open_string shut_string)

set_option maxRecDepth 100000
section
variable {H : Type} {enc : TypeId × Value → H} {P : Program} {w : World} {base : Nat} {spare : Nat → Bool} {held : Bool}
theorem open_agg5 {r : Reach} {b0 : Nat} {t : TypeId} {f0 f1 f2 f3 f4 : Field} {v : Value} {d : DataW H} {p : List MemPlace} (hs : P.underlying t = some (.struct #[f0, f1, f2, f3, f4])) (hone : oneCellFields P #[f0, f1, f2, f3, f4] = true) (hC : P.cellsOf t = 5)
    (hv : Value.okWide P w r b0 t v) (h : DataW.Trod enc P w base spare held t v d p) :
    ∃ (v0 v1 v2 v3 v4 : Value) (y0 y1 y2 y3 y4 : DataW H × List MemPlace) (n : Nat), v = .agg #[v0, v1, v2, v3, v4] ∧ 
      DataW.trod enc P w base spare held n f0.type [v0] = some y0 ∧ DataW.trod enc P w base spare held n f1.type [v1] = some y1 ∧ DataW.trod enc P w base spare held n f2.type [v2] = some y2 ∧ DataW.trod enc P w base spare held n f3.type [v3] = some y3 ∧ DataW.trod enc P w base spare held n f4.type [v4] = some y4 := by
  obtain ⟨cs, rfl, hsz⟩ := okWide_struct hs hv
  obtain ⟨l⟩ := cs
  match l, hsz.trans hC with
  | [c0, c1, c2, c3, c4], _ =>
    obtain ⟨fuel, hf⟩ := h
    obtain ⟨xs, n, _, hx, _, hlen, hg⟩ := DataW.trod_struct hs hf
    obtain ⟨o0, k0⟩ := hone_of hone 0 f0 rfl
    obtain ⟨o1, k1⟩ := hone_of hone 1 f1 rfl
    obtain ⟨o2, k2⟩ := hone_of hone 2 f2 rfl
    obtain ⟨o3, k3⟩ := hone_of hone 3 f3 rfl
    obtain ⟨o4, k4⟩ := hone_of hone 4 f4 rfl
    match xs, hlen with
    | [y0, y1, y2, y3, y4], _ =>
      exact ⟨c0, c1, c2, c3, c4, y0, y1, y2, y3, y4, n, rfl, by simpa [Value.cells, o0, k0] using hg 0 f0 rfl, by simpa [Value.cells, o1, k1] using hg 1 f1 rfl, by simpa [Value.cells, o2, k2] using hg 2 f2 rfl, by simpa [Value.cells, o3, k3] using hg 3 f3 rfl, by simpa [Value.cells, o4, k4] using hg 4 f4 rfl⟩
end

structure Sto where
  lo : Int
  hi : Int
  now : Int
  i : Int
  o : Int
abbrev Sto.v (s : Sto) : Value := .agg #[.int .i64 s.lo, .int .i64 s.hi, .int .i64 s.now, .int .i64 s.i, .int .i64 s.o]
def Sto.ok (s : Sto) : Prop := i64B s.lo ∧ i64B s.hi ∧ i64B s.now ∧ i64B s.i ∧ i64B s.o

section
variable {H : Type} {enc : TypeId × Value → H} {w : World}
theorem cells1 : Tryz.prog.cellsOf 2 = 1 := by kernel_rfl
end
end Go.Proofs.YtbdacplndmnkhaaGreatDoor
namespace Go.Proofs.YtbdacplndmnkhaaGreatDoor
set_option linter.unusedVariables false
set_option linter.unusedSimpArgs false
open Go.RowKit
theorem decLen : ∀ (k u : Nat), u < 10 ^ (k + 1) → (Lib.decDigits u).length ≤ k + 1
  | 0, u, h => by
    rw [Lib.decDigits, dif_pos (by simpa using h)]; simp
  | k + 1, u, h => by
    by_cases hu : u < 10
    · rw [Lib.decDigits, dif_pos hu]; simp
    · have := decLen k (u / 10) (by rw [Nat.div_lt_iff_lt_mul (by omega), ← Nat.pow_succ]; exact h)
      rw [Lib.decDigits, dif_neg hu, List.length_append, List.length_singleton]; omega
theorem itoa18 {x : Int} (h0 : 0 ≤ x) (h1 : x ≤ 1000000000) : (Lib.itoa x).length ≤ 18 := by
  obtain ⟨n, rfl⟩ : ∃ n : Nat, x = n := ⟨x.toNat, by omega⟩
  rw [Lib.itoa_nonneg]
  exact decLen 17 n (by have : (10 : Nat) ^ (17 + 1) = 1000000000000000000 := by decide
                        omega)
theorem NV_none {ws : List (List UInt8)} (h : mapO rdN ws = none) : mapO rdV ws = none := by
  cases e : mapO rdV ws with
  | none => rfl
  | some l => rw [((mapO_NV ws l).1 e).1] at h; cases h
theorem NV_neg {ws : List (List UInt8)} {l : List Int} (h : mapO rdN ws = some l) (hn : l.any (fun x => decide (x < 0)) = true) : mapO rdV ws = none := by
  cases e : mapO rdV ws with
  | none => rfl
  | some l' =>
    obtain ⟨a, b, c⟩ := (mapO_NV ws l').1 e
    rw [h] at a; injection a with a; subst a
    obtain ⟨x, hx, hx2⟩ := List.any_eq_true.1 hn
    have := b x hx
    simp at hx2; omega
theorem NV_long {ws : List (List UInt8)} {w : List UInt8} (hw : w ∈ ws) (h : 18 < w.length) : mapO rdV ws = none := by
  cases e : mapO rdV ws with
  | none => rfl
  | some l' => have := ((mapO_NV ws l').1 e).2.2 w hw; omega
theorem NV_some {ws : List (List UInt8)} {l : List Int} (h : mapO rdN ws = some l) (hn : l.any (fun x => decide (x < 0)) = false) (hl : ∀ w ∈ ws, w.length ≤ 18) : mapO rdV ws = some l :=
  (mapO_NV ws l).2 ⟨h, fun x hx => by
    have : ¬ x < 0 := fun q => by
      have h2 : l.any (fun x => decide (x < 0)) = true := List.any_eq_true.2 ⟨x, hx, by simpa using q⟩
      rw [hn] at h2; cases h2
    omega, hl⟩
/-- the store that numbers make -/
noncomputable def rsL (o : Option (List Int)) : Option Sto := match o with
  | some [a, b, c, d, e] => if storeB a b c d e = true then some ⟨a, b, c, d, e⟩ else none
  | _ => none
def rsV (o : Option Sto) : Value := match o with
  | some x => .tuple #[x.v, .bool true]
  | none => .tuple #[stV 0 0 0 0 0, .bool false]
theorem rsL_len {l : List Int} (h : l.length ≠ 5) : rsL (some l) = none := by
  unfold rsL; split
  · rename_i a b c d e hq; injection hq with hq; subst hq; exact absurd rfl h
  · rfl
theorem rsL_yes {a b c d e : Int} (h : storeB a b c d e = true) : rsL (some [a, b, c, d, e]) = some ⟨a, b, c, d, e⟩ := by unfold rsL; simp [h]
theorem rsL_no {a b c d e : Int} (h : storeB a b c d e = false) : rsL (some [a, b, c, d, e]) = none := by unfold rsL; simp [h]
theorem list5 {l : List Int} (h : l.length = 5) : ∃ a b c d e, l = [a, b, c, d, e] := by
  match l, h with
  | [a, b, c, d, e], _ => exact ⟨a, b, c, d, e, rfl⟩
theorem list8 {l : List Int} (h : l.length = 8) : ∃ a b c d e f g i, l = [a, b, c, d, e, f, g, i] := by
  match l, h with
  | [a, b, c, d, e, f, g, i], _ => exact ⟨a, b, c, d, e, f, g, i, rfl⟩
theorem rsL_NV (ws : List (List UInt8)) : rsL (mapO rdV ws) = rsL (mapO rdN ws) := by
  cases hN : mapO rdN ws with
  | none => rw [NV_none hN]
  | some l =>
    cases hV : mapO rdV ws with
    | some l' =>
      have := ((mapO_NV ws l').1 hV).1
      rw [hN] at this; rw [this]
    | none =>
      by_cases h5 : l.length = 5
      · obtain ⟨a, b, c, d, e, rfl⟩ := list5 h5
        cases hs : storeB a b c d e
        · rw [rsL_no hs]; rfl
        · exfalso
          have hb := store_of hs
          obtain ⟨hw, -⟩ := mapO_spell hN
          have : mapO rdV ws = some [a, b, c, d, e] := (mapO_NV ws _).2 ⟨hN, fun x hx => by
              simp only [List.mem_cons, List.not_mem_nil, or_false] at hx
              rcases hx with rfl | rfl | rfl | rfl | rfl <;> omega, fun w hwm => by
              rw [hw] at hwm
              obtain ⟨x, hx, rfl⟩ := List.mem_map.1 hwm
              simp only [List.mem_cons, List.not_mem_nil, or_false] at hx
              rcases hx with rfl | rfl | rfl | rfl | rfl <;> exact itoa18 (by omega) (by omega)⟩
          rw [hV] at this; cases this
      · rw [rsL_len h5]; rfl
/-- the contract that numbers make -/
def rcL (o : Option (List Int)) : Option Ctr := match o with
  | some [a, b, c, d, e, f, g, i] => some ⟨a, b, c, d, e, f, g, i⟩
  | _ => none
def rcV (o : Option Ctr) : Value := match o with
  | some x => .tuple #[x.val, .bool true]
  | none => .tuple #[Ctr.val ⟨0, 0, 0, 0, 0, 0, 0, 0⟩, .bool false]
theorem rcL_len {l : List Int} (h : l.length ≠ 8) : rcL (some l) = none := by
  unfold rcL; split
  · rename_i a b c d e f g i hq; injection hq with hq; subst hq; exact absurd rfl h
  · rfl
theorem rcL_lenV {ws : List (List UInt8)} {l : List Int} (hN : mapO rdN ws = some l) (h : l.length ≠ 8) : rcL (mapO rdV ws) = none := by
  cases hV : mapO rdV ws with
  | none => rfl
  | some l' =>
    have := ((mapO_NV ws l').1 hV).1
    rw [hN] at this; injection this with this; subst this
    exact rcL_len h
set_option maxRecDepth 100000 in
theorem impl_ReadContract1 (s : ByteArray) (w : World) (hs : Mod s) :
    Calls Tryz.prog 21 #[.string s] w fun e w' => e = .returned (.bool (decide (18 < s.size))) ∧ w = w' := by
  unfold Mod at hs
  go_enter Tryz.func21, Tryz.ntmps21
  go_wp2
  go_ret
  exact ⟨by simp; omega, rfl⟩
set_option maxRecDepth 100000 in
set_option maxHeartbeats 1000000 in
theorem slices_IndexFuncW (A : Option Addr) (c : Nat) (ws : List ByteArray) (w : World) (h : Rd w A (ws.map sV)) (hl : ws.length ≤ 1048601) (hm : ∀ s ∈ ws, Mod s) :
    Calls Tryz.prog 45 #[.slice A ws.length c, .func (.func 21) #[] #[]] w fun e w' => ∃ i : Int, e = .returned (.int .i64 i) ∧ decide (0 ≤ i) = ws.any (fun s => decide (18 < s.size)) ∧ w = w' := by
  have H := Lib.hid h
  have HM := Lib.hid hm
  clear h hm
  go_enter Tryz.func45, Tryz.ntmps45
  go_wp2
  go_loop [8] (fun v => ∃ k : Nat, k ≤ ws.length ∧ v = .int .i64 k ∧ (ws.take k).any (fun s => decide (18 < s.size)) = false) (fun v => ws.length - (intOf v).toNat)
  case atStart => exact ⟨0, by omega, rfl, rfl⟩
  case round =>
    obtain ⟨k, hk, rfl, hF⟩ := hrel
    have HF := Lib.hid hF
    clear hF
    by_cases hlt : k < ws.length
    · obtain ⟨s, hs⟩ := get_some hlt
      obtain ⟨b, off, rfl, hb, hat⟩ := H.out.opened (k := k) (by simpa using hlt)
      have t0 := words_at hat hs
      have HS := Lib.hid hs
      have HMS := HM.out s (List.mem_of_getElem? hs)
      have g1 : (k : Int) < ws.length := by omega
      clear hs hat
      by_cases h18 : 18 < s.size
      · have b1 : decide (18 < s.size) = true := by simp [h18]
        have HR := Lib.hid (show ws.any (fun s => decide (18 < s.size)) = true from List.any_eq_true.2 ⟨s, List.mem_of_getElem? HS.out, b1⟩)
        go_wp2_with fail
        refine (impl_ReadContract1 s _ HMS).mono ?_
        rintro e w1 ⟨rfl, rfl⟩
        rw [b1]
        go_wp2
        go_ret
        exact ⟨_, rfl, by rw [HR.out]; simp, rfl⟩
      · have b1 : decide (18 < s.size) = false := by simp [h18]
        go_wp2_with fail
        refine (impl_ReadContract1 s _ HMS).mono ?_
        rintro e w1 ⟨rfl, rfl⟩
        rw [b1]
        go_wp2
        go_round
        case rel =>
          refine ⟨k + 1, by omega, by go_num, ?_⟩
          rw [List.take_add_one, HS.out, List.any_append, HF.out]; simp [b1]
        case measure => simp [intOf]; omega
    · have hF := HF.out
      rw [List.take_of_length_le (by omega)] at hF
      have HR := Lib.hid hF
      clear hF
      go_wp2
      go_ret
      exact ⟨-1, rfl, by rw [HR.out]; rfl, rfl⟩
set_option maxRecDepth 100000 in
theorem slices_ContainsFuncW (A : Option Addr) (c : Nat) (ws : List ByteArray) (w : World) (h : Rd w A (ws.map sV)) (hl : ws.length ≤ 1048601) (hm : ∀ s ∈ ws, Mod s) :
    Calls Tryz.prog 20 #[.slice A ws.length c, .func (.func 21) #[] #[]] w fun e w' => e = .returned (.bool (ws.any (fun s => decide (18 < s.size)))) ∧ w = w' := by
  have HI := Lib.hid (slices_IndexFuncW A c ws w h hl hm)
  clear h hm
  go_enter Tryz.func20, Tryz.ntmps20
  go_wp2_with fail
  refine HI.out.mono ?_
  rintro e w1 ⟨i, rfl, hi, rfl⟩
  have HD := Lib.hid hi
  clear hi
  go_wp2
  go_ret
  exact ⟨by rw [← HD.out]; simp, rfl⟩
/-- a region that reads a list and writes one record into a block that lay there -/
structure WO (w0 : World) (b ks : Nat) (zs cs : List Value) (L : Nat → Bool) (_ρ : Nat) (w : World) : Prop where
  z0 : L ks = false → Below w0.heap.size w0 w ∧ Bx w b zs
  z1 : L ks = true → Keep (· = b) w0 w ∧ Bx w b cs
theorem WO.start {w0 w : World} {b ks : Nat} {zs cs : List Value} (h : Below w0.heap.size w0 w) (hx : Bx w b zs) : WO w0 b ks zs cs (fun _ => false) 0 w := ⟨fun _ => ⟨h, hx⟩, fun h => by cases h⟩
theorem WO.pure {w0 w : World} {b ks i ρ : Nat} {zs cs : List Value} {L : Nat → Bool} (h : WO w0 b ks zs cs L ρ w) (hi : ks ≠ i) : WO w0 b ks zs cs (upd L i) ρ w := ⟨by rw [upd_ne hi]; exact h.z0, by rw [upd_ne hi]; exact h.z1⟩
theorem WO.store {w0 w w' : World} {b ks ρ : Nat} {zs cs : List Value} {L : Nat → Bool} (h : WO w0 b ks zs cs L ρ w) (hl : L ks = false) (hk : Keep (· = b) w w') (hx : Bx w' b cs) : WO w0 b ks zs cs (upd L ks) ρ w' := ⟨(by rw [upd_self]; intro h; cases h), fun _ => ⟨(Keep.of_below _ (h.z0 hl).1).trans hk, hx⟩⟩
/-- the same with a block that the region makes -/
structure WX (w0 : World) (kb ks : Nat) (z cs : List Value) (L : Nat → Bool) (b : Nat) (w : World) : Prop where
  bl : Below w0.heap.size w0 w
  b0 : L kb = true → w0.heap.size ≤ b
  b1 : L kb = true → L ks = false → Bx w b z
  b2 : L ks = true → Bx w b cs
theorem WX.start {w0 w : World} {kb ks b : Nat} {z cs : List Value} (h : Below w0.heap.size w0 w) : WX w0 kb ks z cs (fun _ => false) b w := ⟨h, (fun h => by cases h), (fun h => by cases h), (fun h => by cases h)⟩
theorem WX.pure {w0 w : World} {kb ks b i : Nat} {z cs : List Value} {L : Nat → Bool} (h : WX w0 kb ks z cs L b w) (h1 : kb ≠ i) (h2 : ks ≠ i) : WX w0 kb ks z cs (upd L i) b w :=
  ⟨h.bl, by rw [upd_ne h1]; exact h.b0, by rw [upd_ne h1, upd_ne h2]; exact h.b1, by rw [upd_ne h2]; exact h.b2⟩
theorem WX.boxed {w0 w w' : World} {kb ks b : Nat} {z cs : List Value} {L : Nat → Bool} (h : WX w0 kb ks z cs L b w) (h2 : ks ≠ kb) (hks : L ks = false) (hb : Below w.heap.size w w') (hx : Bx w' w.heap.size z) : WX w0 kb ks z cs (upd L kb) w.heap.size w' :=
  ⟨h.bl.trans (hb.mono h.bl.size), fun _ => h.bl.size, fun _ _ => hx, (by rw [upd_ne h2, hks]; intro q; cases q)⟩
theorem WX.store {w0 w w' : World} {kb ks b : Nat} {z cs : List Value} {L : Nat → Bool} (h : WX w0 kb ks z cs L b w) (h2 : kb ≠ ks) (hL : L kb = true) (hk : Keep (· = b) w w') (hx : Bx w' b cs) : WX w0 kb ks z cs (upd L ks) b w' := by
  have hb := h.b0 hL
  refine ⟨?_, fun _ => hb, fun _ => (by rw [upd_self]; intro q; cases q), fun _ => hx⟩
  exact hk.below h.bl h.bl.size (fun k q => by rw [q]; exact hb)
end Go.Proofs.YtbdacplndmnkhaaGreatDoor
namespace Go.Proofs.YtbdacplndmnkhaaGreatDoor
set_option linter.unusedVariables false
set_option linter.unusedSimpArgs false
open Go.RowKit
theorem itoa_sls {n : Int} {c : UInt8} (hc : c.toNat < 45) : ∀ b ∈ Lib.itoa n, b ≠ c := by
  intro b hb e
  subst e
  rcases itoa_bytes hb with h | h
  · omega
  · unfold isD at h; omega
theorem itoa_47 {n : Int} : ∀ b ∈ Lib.itoa n, b ≠ 47 := by
  intro b hb e
  subst e
  rcases itoa_bytes hb with h | h
  · exact absurd h (by decide)
  · exact absurd h (by decide)
/-- what was written is read again -/
theorem joinN_split {x : Int} {l : List Int} {sep : ByteArray} {c : UInt8} (hs : sep.data.toList = [c]) (h : ∀ (n : Int), ∀ b ∈ Lib.itoa n, b ≠ c) : spl c (bl (joinN (x :: l) sep)) = (x :: l).map Lib.itoa := by
  have e : bl (joinN (x :: l) sep) = Lib.join ((x :: l).map Lib.itoa) [c] := by
    show (Lib.join ((x :: l).map Lib.itoa) sep.data.toList).toArray.toList = _
    rw [hs]
  rw [e, List.map_cons]
  exact spl_join c _ _ (fun w hw b hb => by
    rcases List.mem_cons.1 hw with rfl | hw
    · exact h _ b hb
    · obtain ⟨y, _, rfl⟩ := List.mem_map.1 hw
      exact h _ b hb)
theorem mapO_itoa {l : List Int} (h : I64 l) : mapO rdN (l.map Lib.itoa) = some l := mapO_map (fun y => -9223372036854775808 ≤ y ∧ y ≤ 9223372036854775807) (fun y hy => rdN_itoa hy) l h
theorem joinN_ne {x : Int} {l : List Int} {sep : ByteArray} : joinN (x :: l) sep ≠ ⟨#[]⟩ := by
  intro h
  have h2 := congrArg bl h
  have e : bl (joinN (x :: l) sep) = Lib.itoa x ++ Lib.joinTail sep.data.toList (l.map Lib.itoa) := by
    show (Lib.join ((x :: l).map Lib.itoa) sep.data.toList).toArray.toList = _
    rw [List.map_cons, Lib.join_cons]
  rw [e] at h2
  have h3 : Lib.itoa x = [] := (List.append_eq_nil_iff.1 (h2.trans rfl)).1
  unfold Lib.itoa at h3
  split at h3
  · cases h3
  · exact dec_ne _ h3
theorem joinN_mod {l : List Int} {sep : ByteArray} (h : I64 l) (hl : l.length ≤ 1000) (hs : sep.size ≤ 1) : Mod (joinN l sep) := by
  have h2 := join_le (l := l.map Lib.itoa) (sep := sep.data.toList) (b := 21) (fun x hx => by
    obtain ⟨y, hy, rfl⟩ := List.mem_map.1 hx
    exact itoa_le (h y hy)) (by rw [Array.length_toList]; exact hs)
  rw [List.length_map] at h2
  unfold Mod
  have e : (joinN l sep).size = (Lib.join (l.map Lib.itoa) sep.data.toList).length := by simp [joinN, ByteArray.size]
  rw [e]; omega
end Go.Proofs.YtbdacplndmnkhaaGreatDoor
namespace Go.Proofs.YtbdacplndmnkhaaGreatDoor
set_option linter.unusedVariables false
set_option linter.unusedSimpArgs false
open Go.RowKit
theorem Bx.set_ {w : World} {b : Nat} {cs : List Value} (h : Bx w b cs) (i : Nat) (v : Value) (hi : i < cs.length) : Bx (w.setCell ⟨b, i, none⟩ v) b (cs.set i v) := by
  have hy := h.lt
  refine ⟨by simpa [World.setCell] using hy, fun k u e => ?_⟩
  by_cases hk : i = k
  · subst hk
    have c := h.cell i (List.getElem?_eq_getElem hi)
    have f := h.frozen i (List.getElem?_eq_getElem hi)
    rw [List.getElem?_set_self hi] at e
    injection e with e; subst e
    constructor <;> simp [go_sem, c, f, hy]
  · rw [List.getElem?_set_ne hk] at e
    have c := h.cell k e
    have f := h.frozen k e
    have hk2 : ¬ k = i := fun q => hk q.symm
    constructor <;> simp [go_sem, c, f, hy, hk, hk2]
theorem bx_fill5 {w : World} {b : Nat} {z0 z1 z2 z3 z4 : Value} (h : Bx w b [z0, z1, z2, z3, z4]) (v0 v1 v2 v3 v4 : Value) : Bx (((((w.setCell ⟨b, 0, none⟩ v0).setCell ⟨b, 1, none⟩ v1).setCell ⟨b, 2, none⟩ v2).setCell ⟨b, 3, none⟩ v3).setCell ⟨b, 4, none⟩ v4) b [v0, v1, v2, v3, v4] :=
  ((((h.set_ 0 v0 (by simp)).set_ 1 v1 (by simp)).set_ 2 v2 (by simp)).set_ 3 v3 (by simp)).set_ 4 v4 (by simp)
theorem keep5 {w : World} {b : Nat} (v0 v1 v2 v3 v4 : Value) : Keep (· = b) w (((((w.setCell ⟨b, 0, none⟩ v0).setCell ⟨b, 1, none⟩ v1).setCell ⟨b, 2, none⟩ v2).setCell ⟨b, 3, none⟩ v3).setCell ⟨b, 4, none⟩ v4) :=
  (((((Keep.refl (· = b) w).setCell rfl v0).setCell rfl v1).setCell rfl v2).setCell rfl v3).setCell rfl v4
theorem fill5 {w wr : World} {b B : Nat} {z0 z1 z2 z3 z4 : Value} (hB : Below B w wr) (hb : B ≤ b) (h : Bx wr b [z0, z1, z2, z3, z4]) (v0 v1 v2 v3 v4 : Value) : Bx (((((wr.setCell ⟨b, 0, none⟩ v0).setCell ⟨b, 1, none⟩ v1).setCell ⟨b, 2, none⟩ v2).setCell ⟨b, 3, none⟩ v3).setCell ⟨b, 4, none⟩ v4) b [v0, v1, v2, v3, v4] ∧
    Below B w (((((wr.setCell ⟨b, 0, none⟩ v0).setCell ⟨b, 1, none⟩ v1).setCell ⟨b, 2, none⟩ v2).setCell ⟨b, 3, none⟩ v3).setCell ⟨b, 4, none⟩ v4) :=
  ⟨bx_fill5 h v0 v1 v2 v3 v4, ((((hB.setCell hb v0).setCell hb v1).setCell hb v2).setCell hb v3).setCell hb v4⟩
theorem ints0 {w : World} {b off : Nat} {l : List Int} (h : RdAt w b off (l.map iV)) (k : Nat) {n : Int} (hk : l[k]? = some n) : w.cell? ⟨b, off + k, none⟩ = some (.int .i64 n) := ints_at h hk
end Go.Proofs.YtbdacplndmnkhaaGreatDoor

/- The walk of the law FnBooks: for all bytes it returns true and writes nothing that was there. -/
import Derived.Test.YtmkecbnnanddkaaDac
import Derived.Test.YtmkecbnnanddkaaBa
import Derived.Test.YtmkecbnnanddkaaCl
import Derived.Test.YtmkecbnnanddkaaBs
import Derived.Test.YtmkecbnnanddkaaLlk
namespace Go.Proofs.Ytmkecbnnanddkaa
set_option linter.unusedVariables false
set_option linter.unusedSimpArgs false
open Go.RowKit
theorem laws_bigB (A : Option Addr) (n c : Nat) (w : World) : Calls Try.prog 6 #[.slice A n c] w fun e w' => e = .returned (.bool (decide (4096 < n))) ∧ w = w' := by
  go_enter Try.func6, Try.ntmps6
  go_wp2
  go_ret
  refine ⟨rb ?_, rfl⟩
  simp; omega
/-- the amounts of the contracts that hold in an hour -/
def actA (hr : Int) : List Ctr → Int
  | [] => 0
  | x :: l => (if inB hr x.fr x.to = true then x.am else 0) + actA hr l
def inS (hr : Int) (l : List Ctr) : Nat → Int
  | 0 => 0
  | k + 1 => inS hr l k + bkI k hr l
def outS (hr : Int) (l : List Ctr) : Nat → Int
  | 0 => 0
  | k + 1 => outS hr l k + bkO k hr l
theorem inS_cons (hr : Int) (x : Ctr) (l : List Ctr) (h : 0 ≤ x.en) : ∀ k : Nat, inS hr (x :: l) k = (if inB hr x.fr x.to = true ∧ x.en < k then x.am else 0) + inS hr l k
  | 0 => by
    have : ¬ (inB hr x.fr x.to = true ∧ x.en < ((0 : Nat) : Int)) := fun q => by have := q.2; omega
    simp only [inS]; rw [if_neg this]; rfl
  | k + 1 => by
    have ih := inS_cons hr x l h k
    simp only [inS, bkI, ih]
    by_cases hb : inB hr x.fr x.to = true
    · by_cases h1 : x.en = (k : Int)
      · rw [if_neg (fun q => by have := q.2; omega), if_pos (by simp [hb, h1]), if_pos ⟨hb, by omega⟩]; omega
      · have n1 : ¬ ((inB hr x.fr x.to && (x.en == (k : Int))) = true) := by simp [hb, h1]
        rw [if_neg n1]
        by_cases h2 : x.en < (k : Int)
        · rw [if_pos ⟨hb, h2⟩, if_pos ⟨hb, by omega⟩]; omega
        · rw [if_neg (fun q => h2 q.2), if_neg (fun q => by have := q.2; omega)]; omega
    · have n1 : ¬ ((inB hr x.fr x.to && (x.en == (k : Int))) = true) := by simp [hb]
      rw [if_neg (fun q => hb q.1), if_neg n1, if_neg (fun q => hb q.1)]; omega
theorem outS_cons (hr : Int) (x : Ctr) (l : List Ctr) (h : 0 ≤ x.ex) : ∀ k : Nat, outS hr (x :: l) k = (if inB hr x.fr x.to = true ∧ x.ex < k then x.am else 0) + outS hr l k
  | 0 => by
    have : ¬ (inB hr x.fr x.to = true ∧ x.ex < ((0 : Nat) : Int)) := fun q => by have := q.2; omega
    simp only [outS]; rw [if_neg this]; rfl
  | k + 1 => by
    have ih := outS_cons hr x l h k
    simp only [outS, bkO, ih]
    by_cases hb : inB hr x.fr x.to = true
    · by_cases h1 : x.ex = (k : Int)
      · rw [if_neg (fun q => by have := q.2; omega), if_pos (by simp [hb, h1]), if_pos ⟨hb, by omega⟩]; omega
      · have n1 : ¬ ((inB hr x.fr x.to && (x.ex == (k : Int))) = true) := by simp [hb, h1]
        rw [if_neg n1]
        by_cases h2 : x.ex < (k : Int)
        · rw [if_pos ⟨hb, h2⟩, if_pos ⟨hb, by omega⟩]; omega
        · rw [if_neg (fun q => h2 q.2), if_neg (fun q => by have := q.2; omega)]; omega
    · have n1 : ¬ ((inB hr x.fr x.to && (x.ex == (k : Int))) = true) := by simp [hb]
      rw [if_neg (fun q => hb q.1), if_neg n1, if_neg (fun q => hb q.1)]; omega
theorem inS_nil (hr : Int) : ∀ k : Nat, inS hr [] k = 0
  | 0 => rfl
  | k + 1 => by simp [inS, bkI, inS_nil hr k]
theorem outS_nil (hr : Int) : ∀ k : Nat, outS hr [] k = 0
  | 0 => rfl
  | k + 1 => by simp [outS, bkO, outS_nil hr k]
theorem inS_all (hr : Int) (n : Nat) : ∀ {l : List Ctr}, (∀ x ∈ l, 0 ≤ x.en ∧ x.en < n) → inS hr l n = actA hr l
  | [], _ => inS_nil hr n
  | x :: l, h => by
    have ih := inS_all hr n (l := l) (fun y hy => h y (by simp [hy]))
    have hx := h x (by simp)
    rw [inS_cons hr x l hx.1, ih, actA]
    by_cases hb : inB hr x.fr x.to = true
    · rw [if_pos ⟨hb, hx.2⟩, if_pos hb]
    · rw [if_neg (fun q => hb q.1), if_neg hb]
theorem outS_all (hr : Int) (n : Nat) : ∀ {l : List Ctr}, (∀ x ∈ l, 0 ≤ x.ex ∧ x.ex < n) → outS hr l n = actA hr l
  | [], _ => outS_nil hr n
  | x :: l, h => by
    have ih := outS_all hr n (l := l) (fun y hy => h y (by simp [hy]))
    have hx := h x (by simp)
    rw [outS_cons hr x l hx.1, ih, actA]
    by_cases hb : inB hr x.fr x.to = true
    · rw [if_pos ⟨hb, hx.2⟩, if_pos hb]
    · rw [if_neg (fun q => hb q.1), if_neg hb]
theorem sumF_addAt : ∀ (l : List Int) (k : Nat) (x : Int), k < l.length → sumF (addAt l k x) = sumF l + x
  | [], k, x, h => by simp at h
  | y :: l, 0, x, h => by simp [addAt, sumF]; omega
  | y :: l, k + 1, x, h => by
    have ih := sumF_addAt l k x (by simpa using h)
    have hk : k < l.length := by simpa using h
    have e : addAt (y :: l) (k + 1) x = y :: addAt l k x := by
      simp only [addAt, List.getElem?_cons_succ]
      rw [List.getElem?_eq_getElem hk]; rfl
    rw [e]; simp only [sumF, ih]; omega
theorem sumF_cls (hr : Int) : ∀ (l : List Ctr) (acc : List Int), (∀ x ∈ l, 0 ≤ x.cl ∧ x.cl < acc.length) → sumF (clsF hr acc l) = sumF acc + actA hr l
  | [], acc, _ => by simp [clsF, actA]
  | x :: l, acc, h => by
    have hx := h x (by simp)
    have ih := sumF_cls hr l (if inB hr x.fr x.to = true then addAt acc x.cl.toNat x.am else acc) (fun y hy => by
      have := h y (by simp [hy])
      split
      · rw [addAt_len]; exact this
      · exact this)
    rw [clsF, ih, actA]
    split
    · rw [sumF_addAt _ _ _ (by omega)]; omega
    · omega
theorem cls_bd (hr : Int) : ∀ (l : List Ctr) (acc : List Int) (M : Int), (∀ x ∈ l, 1 ≤ x.am ∧ x.am ≤ 30000) → (∀ y ∈ acc, 0 ≤ y ∧ y ≤ M) → ∀ y ∈ clsF hr acc l, 0 ≤ y ∧ y ≤ M + l.length * 30000
  | [], acc, M, _, h2 => fun y hy => by have := h2 y hy; simp; omega
  | x :: l, acc, M, h1, h2 => fun y hy => by
    have hx := h1 x (by simp)
    rw [clsF] at hy
    have := cls_bd hr l _ (M + 30000) (fun z hz => h1 z (by simp [hz])) (fun z hz => by
      split at hz
      · have := addAt_bd (a := 0) (b := 30000) h2 (by omega) (by omega) (by omega) (by omega) z hz; omega
      · have := h2 z hz; omega) y hy
    simp only [List.length_cons]; omega
theorem sumF_snoc : ∀ (l : List Int) (x : Int), sumF (l ++ [x]) = sumF l + x
  | [], x => by simp [sumF]
  | y :: l, x => by simp only [List.cons_append, sumF, sumF_snoc l x]; omega
theorem sumF_bsL (l : List Ctr) (hr : Int) : ∀ n : Nat, sumF (bsL n l hr) = inS hr l n - outS hr l n
  | 0 => by simp [bsL, inS, outS, sumF]
  | n + 1 => by rw [bsL_succ, sumF_snoc, sumF_bsL l hr n]; simp only [inS, outS]; omega
def BkOk (l : List Ctr) : Prop := ∀ x ∈ l, 1 ≤ x.am ∧ x.am ≤ 30000
theorem inS_bd {l : List Ctr} (h : BkOk l) (hl : l.length ≤ 32) (hr : Int) : ∀ k : Nat, 0 ≤ inS hr l k ∧ inS hr l k ≤ k * 960000
  | 0 => by simp [inS]
  | k + 1 => by
    have ih := inS_bd h hl hr k
    have a := bkI_bd k hr l h
    simp only [inS]; omega
theorem outS_bd {l : List Ctr} (h : BkOk l) (hl : l.length ≤ 32) (hr : Int) : ∀ k : Nat, 0 ≤ outS hr l k ∧ outS hr l k ≤ k * 960000
  | 0 => by simp [outS]
  | k + 1 => by
    have ih := outS_bd h hl hr k
    have a := bkO_bd k hr l h
    simp only [outS]; omega
theorem books_plain {N : Net} {l : List Ctr} {hr : Int} {R : List Int} (h : clsR N l hr = (R, 0)) : bookC N l = 0 ∧ inB hr 0 47 = true ∧ l.length ≤ 32 ∧ BkOk l ∧ Sml R ∧ sumF R = actA hr l ∧ inS hr l N.nodes.length = actA hr l ∧ outS hr l N.nodes.length = actA hr l := by
  unfold clsR at h
  by_cases h0 : bookC N l = 0
  · rw [if_neg (by simp [h0])] at h
    by_cases h1 : inB hr 0 47 = false
    · rw [if_pos h1] at h; exact absurd (congrArg (fun p => p.2) h) (by simp)
    · rw [if_neg h1] at h
      obtain rfl : clsF hr (List.replicate 4 0) l = R := congrArg (fun p => p.1) h
      obtain ⟨_, hl, hb⟩ := book_of h0
      have hok : BkOk l := fun x hx => by have := ctr_of (hb x hx); omega
      refine ⟨h0, by simpa using h1, hl, hok, fun y hy => ?_, ?_, inS_all hr _ fun x hx => ?_, outS_all hr _ fun x hx => ?_⟩
      · have := cls_bd hr l _ 0 hok (fun z hz => by have := List.eq_of_mem_replicate hz; omega) y hy; omega
      · rw [sumF_cls hr l _ fun x hx => by have := ctr_of (hb x hx); simp; omega]; simp [sumF]
      · have := ctr_of (hb x hx); omega
      · have := ctr_of (hb x hx); omega
  · rw [if_pos h0] at h; exact absurd (congrArg (fun p => p.2) h) h0
theorem sup_plain {N : Net} {l : List Ctr} {hr code : Int} {R : List Int} (h0 : bookC N l = 0) (h1 : inB hr 0 47 = true) (hl : l.length ≤ 32) (hok : BkOk l) (hi : inS hr l N.nodes.length = actA hr l) (ho : outS hr l N.nodes.length = actA hr l) (h : bsR N l hr = (R, code)) : Sml R ∧ sumF R = 0 := by
  unfold bsR at h
  rw [if_neg (by simp [h0]), if_neg (by simp [h1])] at h
  split at h
  · obtain rfl : [] = R := congrArg (fun p => p.1) h
    exact ⟨(fun x hx => by cases hx), rfl⟩
  · obtain rfl : bsL N.nodes.length l hr = R := congrArg (fun p => p.1) h
    refine ⟨fun x hx => ?_, by rw [sumF_bsL, hi, ho]; omega⟩
    simp only [bsL, List.mem_map] at hx
    obtain ⟨i, _, rfl⟩ := hx
    have a := bkI_bd i hr l hok
    have b := bkO_bd i hr l hok
    omega
set_option maxRecDepth 100000 in
set_option maxHeartbeats 8000000 in
theorem walk_FnBooks (w : World) (A0 : Option Addr) (c0 : Nat) (l0 : List Int) (h0 : BytesIn w A0 l0) :
    Calls Try.prog 5 #[.slice A0 l0.length c0] w fun e w' => e = .returned (.bool true) ∧ Below w.heap.size w w' := by
  have HI := Lib.hid h0
  clear h0
  by_cases hbig : 4096 < l0.length
  · have b0 : decide (4096 < l0.length) = true := by simpa using hbig
    go_enter Try.func5, Try.ntmps5
    go_wp2_with ((go_at_call 6; refine (laws_bigB _ _ _ _).mono ?_; rintro e w' ⟨rfl, rfl⟩))
    go_ret
    exact ⟨rfl, by (repeat' (first | (with_reducible exact Below.refl _ _) | (with_reducible assumption) | (with_reducible refine Below.alloc ?_ ?_ _) | (with_reducible refine Below.drew ?_) | (with_reducible refine Below.drewN' ?_ _) | (with_reducible refine Below.setCell ?_ ?_ _) | (refine Below.via ?_ (by with_reducible assumption) ?_) | (with_reducible refine Below.via ?_ (Wd.h _) ?_) | go_size))⟩
  have b0 : decide (4096 < l0.length) = false := by simpa using hbig
  go_enter Try.func5, Try.ntmps5
  go_wp2_with ((go_at_call 6; refine (laws_bigB _ _ _ _).mono ?_; rintro e w' ⟨rfl, rfl⟩))
  
  refine (spec_DrawClassTotals A0 c0 l0 _ (HI.out.below (by (repeat' (first | (with_reducible exact Below.refl _ _) | (with_reducible assumption) | (with_reducible refine Below.alloc ?_ ?_ _) | (with_reducible refine Below.drew ?_) | (with_reducible refine Below.drewN' ?_ _) | (with_reducible refine Below.setCell ?_ ?_ _) | (refine Below.via ?_ (by with_reducible assumption) ?_) | (with_reducible refine Below.via ?_ (Wd.h _) ?_) | go_size)))) (by omega)).mono ?_
  rintro e w1 ⟨A, Bq, Al, c, d, cl, N, l, hr, rfl, hnc, hN, hL, hl8, hok, hb1, -, -, -⟩
  have hz1 := hb1.size
  have hln := hN.ln
  have HN := Lib.hid hN
  have HL := Lib.hid hL
  obtain ⟨R, code, hR⟩ : ∃ R code, clsR N l hr = (R, code) := ⟨_, _, rfl⟩
  have HR := Lib.hid hR
  have hRl : R.length ≤ 1048576 := by have := clsR_len (N := N) (lb := l) (hr := hr); rw [hR] at this; exact this
  clear hN hL hR hok
  go_wp2_with fail
  
  refine ((impl_ClassTotals _ _ _ _ _ _ _ _ N l hr _ (HN.out.below (by (repeat' (first | (with_reducible exact Below.refl _ _) | (with_reducible assumption) | (with_reducible refine Below.alloc ?_ ?_ _) | (with_reducible refine Below.drew ?_) | (with_reducible refine Below.drewN' ?_ _) | (with_reducible refine Below.setCell ?_ ?_ _) | (refine Below.via ?_ (by with_reducible assumption) ?_) | (with_reducible refine Below.via ?_ (Wd.h _) ?_) | go_size)))) rfl rfl hnc (HL.out.below (by (repeat' (first | (with_reducible exact Below.refl _ _) | (with_reducible assumption) | (with_reducible refine Below.alloc ?_ ?_ _) | (with_reducible refine Below.drew ?_) | (with_reducible refine Below.drewN' ?_ _) | (with_reducible refine Below.setCell ?_ ?_ _) | (refine Below.via ?_ (by with_reducible assumption) ?_) | (with_reducible refine Below.via ?_ (Wd.h _) ?_) | go_size)))) (by omega)).made HR.out).mono ?_
  rintro e w2 ⟨A2, c2, rfl, hc2, hW2, hb2⟩
  have HR2 := Lib.hid hW2.rd
  clear hW2
  (obtain ⟨hcn, hfn⟩ := bcell hb2; have hz2 := hb2.size; (try simp at hz2); have Na_0 := hcn (w1.heap.size) (0) (by first | omega | (simp; done) | (simp; omega)); have Na_0f := hfn (w1.heap.size) (0) (by first | omega | (simp; done) | (simp; omega)); have Nhy_a : w1.heap.size < w2.heap.size := (by omega); have Na_1 := hcn (w1.heap.size) (1) (by first | omega | (simp; done) | (simp; omega)); have Na_1f := hfn (w1.heap.size) (1) (by first | omega | (simp; done) | (simp; omega)); simp [go_sem] at Na_0 Na_0f Na_1 Na_1f; clear hcn hfn; have a_0 := Na_0; have a_0f := Na_0f; have a_1 := Na_1; have a_1f := Na_1f; have hy_a := Nhy_a; clear Na_0 Na_0f Na_1 Na_1f Nhy_a)
  go_wp2_with fail
  refine ((spec_ClassTotals _ _ _ _ _ _ _ _ N l hr _ (HN.out.below (by (repeat' (first | (with_reducible exact Below.refl _ _) | (with_reducible assumption) | (with_reducible refine Below.alloc ?_ ?_ _) | (with_reducible refine Below.drew ?_) | (with_reducible refine Below.drewN' ?_ _) | (with_reducible refine Below.setCell ?_ ?_ _) | (refine Below.via ?_ (by with_reducible assumption) ?_) | (with_reducible refine Below.via ?_ (Wd.h _) ?_) | go_size)))) rfl rfl (HL.out.below (by (repeat' (first | (with_reducible exact Below.refl _ _) | (with_reducible assumption) | (with_reducible refine Below.alloc ?_ ?_ _) | (with_reducible refine Below.drew ?_) | (with_reducible refine Below.drewN' ?_ _) | (with_reducible refine Below.setCell ?_ ?_ _) | (refine Below.via ?_ (by with_reducible assumption) ?_) | (with_reducible refine Below.via ?_ (Wd.h _) ?_) | go_size)))) (by omega)).made HR.out).mono ?_
  rintro e w3 ⟨A3, c3, rfl, hc3, hW3, hb3⟩
  have HR3 := Lib.hid hW3.rd
  clear hW3
  (obtain ⟨hcn, hfn⟩ := bcell hb3; have hz3 := hb3.size; (try simp at hz3); have Na_0 := hcn (w1.heap.size) (0) (by first | omega | (simp; done) | (simp; omega)); have Na_0f := hfn (w1.heap.size) (0) (by first | omega | (simp; done) | (simp; omega)); have Nhy_a : w1.heap.size < w3.heap.size := (by omega); have Na_1 := hcn (w1.heap.size) (1) (by first | omega | (simp; done) | (simp; omega)); have Na_1f := hfn (w1.heap.size) (1) (by first | omega | (simp; done) | (simp; omega)); simp [go_sem, a_0, a_0f, a_1, a_1f, hy_a] at Na_0 Na_0f Na_1 Na_1f; clear a_0 a_0f a_1 a_1f hy_a; clear hcn hfn; have a_0 := Na_0; have a_0f := Na_0f; have a_1 := Na_1; have a_1f := Na_1f; have hy_a := Nhy_a; clear Na_0 Na_0f Na_1 Na_1f Nhy_a)
  obtain ⟨bb, hbb⟩ : ∃ bb, (netB N && bookB l N.nodes.length) = bb := ⟨_, rfl⟩
  have HBB := Lib.hid hbb
  clear hbb
  have HR23 := Lib.hid (HR2.out.below hb3)
  have HN3 := Lib.hid (HN.out.below (show Below w1.heap.size w1 w3 by (repeat' (first | (with_reducible exact Below.refl _ _) | (with_reducible assumption) | (with_reducible refine Below.alloc ?_ ?_ _) | (with_reducible refine Below.drew ?_) | (with_reducible refine Below.drewN' ?_ _) | (with_reducible refine Below.setCell ?_ ?_ _) | (refine Below.via ?_ (by with_reducible assumption) ?_) | (with_reducible refine Below.via ?_ (Wd.h _) ?_) | go_size))))
  have HL3 := Lib.hid (HL.out.below (show Below w1.heap.size w1 w3 by (repeat' (first | (with_reducible exact Below.refl _ _) | (with_reducible assumption) | (with_reducible refine Below.alloc ?_ ?_ _) | (with_reducible refine Below.drew ?_) | (with_reducible refine Below.drewN' ?_ _) | (with_reducible refine Below.setCell ?_ ?_ _) | (refine Below.via ?_ (by with_reducible assumption) ?_) | (with_reducible refine Below.via ?_ (Wd.h _) ?_) | go_size))))
  go_wp2_with fail
  (have qk0 := Wd.cell (by first | assumption | omega | (simp; omega)) a_0; have qk1 := Wd.cell (by first | assumption | omega | (simp; omega)) a_1; (refine wp_region_wd (by kernel_rfl) (by kernel_rfl) ?_); (repeat (go_big_quiet_step ((first | fail | (go_at_call 18; exact wd_below (laws_likeInts A2 A3 c2 c3 _ _ R _ (HR23.out.below (Wd.h _)) (HR3.out.below (Wd.h _)) rfl rfl hRl)) | (go_at_call 19; exact wd_below (v := .bool bb) (by rw [← HBB.out]; exact impl_IsBook A Bq Al _ c _ d cl N l _ (HN3.out.below (Wd.h _)) rfl rfl hnc (HL3.out.below (Wd.h _)) (by omega))) | (go_at_call 20; exact wd_below (v := .bool bb) (by rw [← HBB.out]; exact spec_IsBook A Bq Al _ c _ d cl N l _ (HN3.out.below (Wd.h _)) rfl rfl (HL3.out.below (Wd.h _)) (by omega))))))); (refine wpQuiet_nil ?_); rintro w6 ⟨⟨w'', hbw6⟩, hw''⟩; obtain rfl : w6 = w'' := hw''; clear qk0 qk1; have hzw6 := hbw6.size; (try simp at hzw6))
  have hb6 := hbw6
  (obtain ⟨hcn, hfn⟩ := bcell hb6; have hz6 := hb6.size; (try simp at hz6); have Na_0 := hcn (w1.heap.size) (0) (by first | omega | (simp; done) | (simp; omega)); have Na_0f := hfn (w1.heap.size) (0) (by first | omega | (simp; done) | (simp; omega)); have Nhy_a : w1.heap.size < w6.heap.size := (by omega); have Na_1 := hcn (w1.heap.size) (1) (by first | omega | (simp; done) | (simp; omega)); have Na_1f := hfn (w1.heap.size) (1) (by first | omega | (simp; done) | (simp; omega)); simp [go_sem, a_0, a_0f, a_1, a_1f, hy_a] at Na_0 Na_0f Na_1 Na_1f; clear a_0 a_0f a_1 a_1f hy_a; clear hcn hfn; have a_0 := Na_0; have a_0f := Na_0f; have a_1 := Na_1; have a_1f := Na_1f; have hy_a := Nhy_a; clear Na_0 Na_0f Na_1 Na_1f Nhy_a)
  by_cases e0 : code = 0
  · subst e0
    obtain ⟨h0, h1, hl32, hbk, hsm, hs, hi, ho⟩ := books_plain HR.out
    obtain ⟨R2, code2, hR2⟩ : ∃ R2 code2, bsR N l hr = (R2, code2) := ⟨_, _, rfl⟩
    obtain ⟨hsm2, hs2⟩ := sup_plain h0 h1 hl32 hbk hi ho hR2
    have hRl2 : R2.length ≤ 1048576 := by have := bsR_len (N := N) (lb := l) (hr := hr); rw [hR2] at this; exact this
    have H0 := Lib.hid h0
    have H1 := Lib.hid h1
    have HBK := Lib.hid hbk
    have HSM := Lib.hid hsm
    have HS := Lib.hid hs
    have HII := Lib.hid hi
    have HOO := Lib.hid ho
    have HRR := Lib.hid hR2
    have HSM2 := Lib.hid hsm2
    have HS2 := Lib.hid hs2
    have HB6 := Lib.hid (show Below w.heap.size w w6 by (repeat' (first | (with_reducible exact Below.refl _ _) | (with_reducible assumption) | (with_reducible refine Below.alloc ?_ ?_ _) | (with_reducible refine Below.drew ?_) | (with_reducible refine Below.drewN' ?_ _) | (with_reducible refine Below.setCell ?_ ?_ _) | (refine Below.via ?_ (by with_reducible assumption) ?_) | (with_reducible refine Below.via ?_ (Wd.h _) ?_) | go_size)))
    have HN6 := Lib.hid (HN.out.below (show Below w1.heap.size w1 w6 by (repeat' (first | (with_reducible exact Below.refl _ _) | (with_reducible assumption) | (with_reducible refine Below.alloc ?_ ?_ _) | (with_reducible refine Below.drew ?_) | (with_reducible refine Below.drewN' ?_ _) | (with_reducible refine Below.setCell ?_ ?_ _) | (refine Below.via ?_ (by with_reducible assumption) ?_) | (with_reducible refine Below.via ?_ (Wd.h _) ?_) | go_size))))
    have HL6 := Lib.hid (HL.out.below (show Below w1.heap.size w1 w6 by (repeat' (first | (with_reducible exact Below.refl _ _) | (with_reducible assumption) | (with_reducible refine Below.alloc ?_ ?_ _) | (with_reducible refine Below.drew ?_) | (with_reducible refine Below.drewN' ?_ _) | (with_reducible refine Below.setCell ?_ ?_ _) | (refine Below.via ?_ (by with_reducible assumption) ?_) | (with_reducible refine Below.via ?_ (Wd.h _) ?_) | go_size))))
    have HRX := Lib.hid (HR2.out.below (show Below w2.heap.size w2 w6 by (repeat' (first | (with_reducible exact Below.refl _ _) | (with_reducible assumption) | (with_reducible refine Below.alloc ?_ ?_ _) | (with_reducible refine Below.drew ?_) | (with_reducible refine Below.drewN' ?_ _) | (with_reducible refine Below.setCell ?_ ?_ _) | (refine Below.via ?_ (by with_reducible assumption) ?_) | (with_reducible refine Below.via ?_ (Wd.h _) ?_) | go_size))))
    have HBX := Lib.hid (show Bx w6 w1.heap.size [.slice A N.nodes.length c, .slice Bq N.pipes.length d] from bx2 hy_a a_0 a_0f a_1 a_1f)
    have hlt1 := HBX.out.lt
    clear h0 h1 hbk hsm hs hi ho hR2 hsm2 hs2 hb1 hb2 hb3 hb6 hbw6 hy_a a_0 a_0f a_1 a_1f
    
    go_wp2_with fail
    go_loopw [10, 11, 12, 13, 14, 15] (fun s t q _ _ _ wr => ∃ k : Nat, k ≤ N.nodes.length ∧ q = .int .i64 k ∧ s = .int .i64 (inS hr l k) ∧ t = .int .i64 (outS hr l k) ∧ Below w6.heap.size w6 wr) (fun _ _ q _ _ _ _ => N.nodes.length - (intOf q).toNat)
    case atStart => exact ⟨0, by omega, rfl, rfl, rfl, Below.refl _ _⟩
    case round =>
      obtain ⟨k, hk, rfl, rfl, rfl, hbw⟩ := hrel
      have hbH := Lib.hid hbw
      have hzw := hbw.size
      have HB := HBX.out.below hbw hlt1
      have hy7 := HB.lt; have cw7_0 := HB.cell 0 rfl; have fw7_0 := HB.frozen 0 rfl; have cw7_1 := HB.cell 1 rfl; have fw7_1 := HB.frozen 1 rfl
      clear hbw HB
      by_cases hlt : k < N.nodes.length
      · have g1 : (k : Int) < N.nodes.length := by omega
        have b1 := inS_bd HBK.out hl32 hr k
        have b2 := outS_bd HBK.out hl32 hr k
        have b3 := bkI_bd k hr l HBK.out
        have b4 := bkO_bd k hr l HBK.out
        have hin : inB (k : Int) 0 ((N.nodes.length : Int) - 1) = true := by simp [inB]; omega
        have HIN := Lib.hid hin
        clear hin
        go_wp2_with fail
        refine (impl_BookedAt A Bq Al _ c _ d cl N l k hr _ (HN6.out.below hbH.out) rfl rfl hnc (HL6.out.below hbH.out) (by omega)).mono ?_
        rintro e w5 ⟨rfl, hb5⟩
        rw [bk_fin H0.out HIN.out H1.out]
        have HB5 := Lib.hid (hbH.out.trans (hb5.mono hzw))
        have HSi := Lib.hid (show inS hr l (k + 1) = inS hr l k + bkI k hr l from rfl)
        have HSo := Lib.hid (show outS hr l (k + 1) = outS hr l k + bkO k hr l from rfl)
        generalize bkI (k : Int) hr l = X at *
        generalize bkO (k : Int) hr l = Y at *
        generalize inS hr l k = Z at *
        generalize outS hr l k = Z2 at *
        clear hb5
        go_wp2
        go_roundw
        case rel => exact ⟨k + 1, by omega, by go_num, by rw [HSi.out], by rw [HSo.out], HB5.out⟩
        case measure => simp [intOf]; omega
      · have g1 : ¬ (k : Int) < N.nodes.length := by omega
        have hkn : k = N.nodes.length := by omega
        rw [show inS hr l k = actA hr l by rw [hkn]; exact HII.out, show outS hr l k = actA hr l by rw [hkn]; exact HOO.out]
        generalize actA hr l = T at *
        clear hkn
        go_wp2_with fail
        refine ((impl_BookedSupplies A Bq Al _ c _ d cl N l hr _ (HN6.out.below hbH.out) rfl rfl hnc (HL6.out.below hbH.out) (by omega)).made HRR.out).mono ?_
        rintro e w7 ⟨A4, c4, rfl, hc4, hW4, hb7⟩
        have HR4 := Lib.hid hW4.rd
        clear hW4
        have HB7 := Lib.hid (hbH.out.trans (hb7.mono hzw))
        have HB := HBX.out.below HB7.out hlt1
        clear cw7_0 cw7_1 fw7_0 fw7_1 hy7
        have hy7 := HB.lt; have cw7_0 := HB.cell 0 rfl; have fw7_0 := HB.frozen 0 rfl; have cw7_1 := HB.cell 1 rfl; have fw7_1 := HB.frozen 1 rfl
        clear HB
        have hz7 := HB7.out.size
        go_wp2_with fail
        refine ((spec_BookedSupplies A Bq Al _ c _ d cl N l hr _ (HN6.out.below HB7.out) rfl rfl (HL6.out.below HB7.out) (by omega)).made HRR.out).mono ?_
        rintro e w8 ⟨A5, c5, rfl, hc5, hW5, hb8⟩
        have HR5 := Lib.hid hW5.rd
        clear hW5 cw7_0 cw7_1 fw7_0 fw7_1 hy7
        have HB8 := Lib.hid (HB7.out.trans (hb8.mono hz7))
        have hz8 := hb8.size
        have HR4b := Lib.hid (HR4.out.below hb8)
        have HR0b := Lib.hid (HRX.out.below HB8.out)
        clear hb8 hb7
        go_wp2_with (first | (go_at_call 24; (with_reducible refine (laws_sum A2 c2 _ R _ HR0b.out rfl hRl HSM.out).mono ?_); rintro e w9 ⟨rfl, rfl⟩; rw [HS.out]) | (go_at_call 18; refine (laws_likeInts A4 A5 c4 c5 _ _ R2 _ HR4b.out HR5.out rfl rfl hRl2).mono ?_; rintro e w9 ⟨rfl, hb9⟩) | (go_at_call 24; refine (laws_sum A4 c4 _ R2 _ (HR4b.out.below hb9) rfl hRl2 HSM2.out).mono ?_; rintro e w10 ⟨rfl, rfl⟩; rw [HS2.out]))
        go_ret
        exact ⟨rfl, by have h1 := HB8.out; have h2 := HB6.out; (repeat' (first | (with_reducible exact Below.refl _ _) | (with_reducible assumption) | (with_reducible refine Below.alloc ?_ ?_ _) | (with_reducible refine Below.drew ?_) | (with_reducible refine Below.drewN' ?_ _) | (with_reducible refine Below.setCell ?_ ?_ _) | (refine Below.via ?_ (by with_reducible assumption) ?_) | (with_reducible refine Below.via ?_ (Wd.h _) ?_) | go_size))⟩
  · have b1 : (code != 0) = true := by simp [e0]
    go_wp2
    go_ret
    exact ⟨rfl, by (repeat' (first | (with_reducible exact Below.refl _ _) | (with_reducible assumption) | (with_reducible refine Below.alloc ?_ ?_ _) | (with_reducible refine Below.drew ?_) | (with_reducible refine Below.drewN' ?_ _) | (with_reducible refine Below.setCell ?_ ?_ _) | (refine Below.via ?_ (by with_reducible assumption) ?_) | (with_reducible refine Below.via ?_ (Wd.h _) ?_) | go_size))⟩
end Go.Proofs.Ytmkecbnnanddkaa

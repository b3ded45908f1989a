/- The walk of the law FnRents: for all bytes it returns true and writes nothing that was there. -/
import Derived.Test.YtmkecbnnanddkaaDac
import Derived.Test.YtmkecbnnanddkaaRt
import Derived.Test.YtmkecbnnanddkaaAc
import Derived.Test.YtmkecbnnanddkaaZw
namespace Go.Proofs.Ytmkecbnnanddkaa
set_option linter.unusedVariables false
set_option linter.unusedSimpArgs false
open Go.RowKit
theorem laws_bigR (A : Option Addr) (n c : Nat) (w : World) : Calls Try.prog 6 #[.slice A n c] w fun e w' => e = .returned (.bool (decide (4096 < n))) ∧ w = w' := by
  go_enter Try.func6, Try.ntmps6
  go_wp2
  go_ret
  refine ⟨rb ?_, rfl⟩
  simp; omega
set_option maxRecDepth 100000 in
theorem laws_hasInt (A : Option Addr) (c : Nat) (l : List Int) (x : Int) (w : World) (h : Rd w A (l.map iV)) (hl : l.length ≤ 1048576) (hx : x ∈ l) :
    Calls Try.prog 14 #[.slice A l.length c, .int .i64 x] w fun e w' => e = .returned (.bool true) ∧ w = w' := by
  have HR := Lib.hid h
  obtain ⟨q, hq⟩ := List.getElem?_of_mem hx
  have HQ := Lib.hid hq
  have hql : q < l.length := (List.getElem?_eq_some_iff.1 hq).1
  clear h hx hq
  go_enter Try.func14, Try.ntmps14
  go_wp2
  go_loop [5] (fun t => ∃ k : Nat, k ≤ q ∧ t = .int .i64 k) (fun t => l.length - (intOf t).toNat)
  case atStart => exact ⟨0, by omega, rfl⟩
  case round =>
    obtain ⟨k, hk, rfl⟩ := hrel
    have hlt : k < l.length := by omega
    have g1 : (k : Int) < l.length := by omega
    obtain ⟨y, hy⟩ := get_some hlt
    obtain ⟨b, off, rfl, hb, hat⟩ := HR.out.opened (k := k) (by simpa using hlt)
    have t0 := ints_at hat hy
    by_cases hyx : y = x
    · have HX := Lib.hid hyx
      have e1 : (y == x) = true := by simpa using hyx
      clear hyx hat hy
      go_wp2
      go_ret
      exact ⟨rfl, rfl⟩
    · have hkq : k < q := by
        rcases Nat.lt_or_ge k q with h1 | h1
        · exact h1
        · have : k = q := by omega
          subst this
          rw [HQ.out] at hy
          exact absurd (by simpa using hy.symm) hyx
      have e1 : (y == x) = false := by simpa using hyx
      clear hyx hat hy
      go_wp2
      go_round
      case rel => exact ⟨k + 1, by omega, by go_num⟩
      case measure => simp [intOf]; omega
/-- the rents of the first shippers -/
def whR (l : List Ctr) : Nat → Int
  | 0 => 0
  | k + 1 => whR l k + rentF k l
def prF : List Ctr → Int
  | [] => 0
  | x :: l => rent1 x + prF l
theorem whR_cons (x : Ctr) (l : List Ctr) (h : 0 ≤ x.sh) : ∀ k : Nat, whR (x :: l) k = (if x.sh < k then rent1 x else 0) + whR l k
  | 0 => by simp [whR]; omega
  | k + 1 => by
    have ih := whR_cons x l h k
    simp only [whR, rentF, ih]
    by_cases h1 : x.sh < k
    · have h2 : ¬ x.sh = (k : Int) := by omega
      have h3 : x.sh < ((k + 1 : Nat) : Int) := by omega
      rw [if_neg h2, if_pos h1, if_pos h3]; omega
    · by_cases h2 : x.sh = (k : Int)
      · have h3 : x.sh < ((k + 1 : Nat) : Int) := by omega
        rw [if_neg h1, if_pos h2, if_pos h3]; omega
      · have h3 : ¬ x.sh < ((k + 1 : Nat) : Int) := by omega
        rw [if_neg h1, if_neg h2, if_neg h3]; omega
theorem whR_nil : ∀ k : Nat, whR [] k = 0
  | 0 => rfl
  | k + 1 => by simp [whR, rentF, whR_nil k]
theorem whR_all : ∀ {l : List Ctr}, (∀ x ∈ l, 0 ≤ x.sh ∧ x.sh ≤ 15) → whR l 16 = prF l
  | [], _ => whR_nil 16
  | x :: l, h => by
    have ih := whR_all (l := l) (fun y hy => h y (by simp [hy]))
    have hx := h x (by simp)
    rw [whR_cons x l hx.1, ih, prF, if_pos (by omega)]
def RentOk (l : List Ctr) : Prop := ∀ x ∈ l, (0 ≤ x.am * x.pr ∧ x.am * x.pr ≤ 30000000000) ∧ (0 ≤ rent1 x ∧ rent1 x ≤ 1440000000000)
theorem rentF_bd (sh : Int) : ∀ {l : List Ctr}, RentOk l → 0 ≤ rentF sh l ∧ rentF sh l ≤ l.length * 1440000000000
  | [], _ => by simp [rentF]
  | x :: l, h => by
    have ih := rentF_bd sh (l := l) (fun y hy => h y (by simp [hy]))
    have hx := h x (by simp)
    simp only [rentF, List.length_cons]; split <;> omega
theorem whR_bd {l : List Ctr} (h : RentOk l) (hl : l.length ≤ 32) : ∀ k : Nat, 0 ≤ whR l k ∧ whR l k ≤ k * 46080000000000
  | 0 => by simp [whR]
  | k + 1 => by
    have ih := whR_bd h hl k
    have a := rentF_bd k h
    simp only [whR]; omega
theorem prF_snoc : ∀ {l : List Ctr} {k : Nat} {x : Ctr}, l[k]? = some x → prF (l.take (k + 1)) = prF (l.take k) + rent1 x
  | [], k, x, h => by simp at h
  | y :: l, 0, x, h => by simp at h; subst h; simp [prF]
  | y :: l, k + 1, x, h => by
    rw [List.take_succ_cons, List.take_succ_cons, prF, prF, prF_snoc (l := l) (k := k) (x := x) (by simpa using h)]; omega
theorem prF_bd : ∀ {l : List Ctr}, RentOk l → 0 ≤ prF l ∧ prF l ≤ l.length * 1440000000000
  | [], _ => by simp [prF]
  | x :: l, h => by
    have ih := prF_bd (l := l) (fun y hy => h y (by simp [hy]))
    have hx := h x (by simp)
    simp only [prF, List.length_cons]; omega
theorem rent_of {N : Net} {l : List Ctr} {sh a : Int} (h : rentR N l sh = (a, 0)) : bookC N l = 0 := by
  unfold rentR at h
  by_cases h0 : bookC N l = 0
  · exact h0
  · rw [if_pos h0] at h; exact absurd (congrArg (fun p => p.2) h) h0
theorem rent_at {N : Net} {l : List Ctr} (h : bookC N l = 0) {k : Nat} (hk : k < 16) : rentR N l k = (rentF k l, 0) := by
  have : inB (k : Int) 0 15 = true := by first | (simp [inB]; done) | (simp [inB]; omega)
  simp [rentR, h, this]
theorem act_mem {sh hr : Int} {x : Ctr} (hs : x.sh = sh) (hh : inB hr x.fr x.to = true) : ∀ {l : List Ctr} {j k : Nat}, l[k]? = some x → ((j + k : Nat) : Int) ∈ actF sh hr j l
  | [], j, k, h => by simp at h
  | y :: l, j, 0, h => by
    simp at h; subst h
    have : ((y.sh == sh) && inB hr y.fr y.to) = true := by simp [hs, hh]
    rw [actF, if_pos this]; simp
  | y :: l, j, k + 1, h => by
    have ih := act_mem hs hh (l := l) (j := j + 1) (k := k) (by simpa using h)
    have e : j + 1 + k = j + (k + 1) := by omega
    rw [e] at ih
    unfold actF; split
    · exact List.mem_cons_of_mem _ ih
    · exact ih
theorem act_at {N : Net} {l : List Ctr} (h : bookC N l = 0) {k : Nat} {x : Ctr} (hx : l[k]? = some x) : ∃ L, actR N l x.sh x.to = (L, 0) ∧ (k : Int) ∈ L ∧ L.length ≤ 1048576 := by
  have hb := (book_of h).2.2 x (List.mem_of_getElem? hx)
  have c := ctr_of hb
  have e1 : inB x.sh 0 15 = true := by simp [inB]; omega
  have e2 : inB x.to 0 47 = true := by simp [inB]; omega
  have e3 : inB x.to x.fr x.to = true := by simp [inB]; omega
  have hlen := actF_len x.sh x.to l 0
  have := (book_of h).2.1
  refine ⟨actF x.sh x.to 0 l, by simp [actR, h, e1, e2], by simpa using act_mem (j := 0) rfl e3 hx, by omega⟩
/-- a drawn region with one call (operation k), which hands back what P says and only makes memory -/
structure WM (w0 : World) (k : Nat) (P : Value → World → Prop) (L : Nat → Bool) (ρ : Zr) (w : World) : Prop where
  bl : Below w0.heap.size w0 w
  md : L k = true → P ρ.v w
theorem WM.start {w0 w : World} {k : Nat} {P : Value → World → Prop} {ρ : Zr} (h : Below w0.heap.size w0 w) : WM w0 k P (fun _ => false) ρ w := ⟨h, fun h => by cases h⟩
theorem WM.pure {w0 w : World} {k i : Nat} {P : Value → World → Prop} {L : Nat → Bool} {ρ : Zr} (h : WM w0 k P L ρ w) (hi : k ≠ i) : WM w0 k P (upd L i) ρ w :=
  ⟨h.bl, by rw [upd_ne hi]; exact h.md⟩
theorem WM.call {w0 w w' : World} {k : Nat} {P : Value → World → Prop} {L : Nat → Bool} {ρ : Zr} (h : WM w0 k P L ρ w) (hb : Below w.heap.size w w') {v : Value} (hp : P v w') : WM w0 k P (upd L k) ⟨ρ.b, ρ.r, ρ.c, v⟩ w' :=
  ⟨h.bl.trans (hb.mono h.bl.size), fun _ => hp⟩
/-- a slice with these numbers -/
def PM (L : List Int) (v : Value) (w : World) : Prop := ∃ A c, v = .slice A L.length c ∧ Rd w A (L.map iV)
set_option maxRecDepth 100000 in
set_option maxHeartbeats 8000000 in
theorem walk_FnRents (w : World) (A0 : Option Addr) (c0 : Nat) (l0 : List Int) (h0 : BytesIn w A0 l0) :
    Calls Try.prog 4 #[.slice A0 l0.length c0] w fun e w' => e = .returned (.bool true) ∧ Below w.heap.size w w' := by
  have HI := Lib.hid h0
  clear h0
  by_cases hbig : 4096 < l0.length
  · have b0 : decide (4096 < l0.length) = true := by simpa using hbig
    go_enter Try.func4, Try.ntmps4
    go_wp2_with ((go_at_call 6; refine (laws_bigR _ _ _ _).mono ?_; rintro e w' ⟨rfl, rfl⟩))
    go_ret
    exact ⟨rfl, by (repeat' (first | (with_reducible exact Below.refl _ _) | (with_reducible assumption) | (with_reducible refine Below.alloc ?_ ?_ _) | (with_reducible refine Below.drew ?_) | (with_reducible refine Below.drewN' ?_ _) | (with_reducible refine Below.setCell ?_ ?_ _) | (refine Below.via ?_ (by with_reducible assumption) ?_) | (with_reducible refine Below.via ?_ (Wd.h _) ?_) | go_size))⟩
  have b0 : decide (4096 < l0.length) = false := by simpa using hbig
  go_enter Try.func4, Try.ntmps4
  go_wp2_with ((go_at_call 6; refine (laws_bigR _ _ _ _).mono ?_; rintro e w' ⟨rfl, rfl⟩))
  
  refine (spec_DrawRentOf A0 c0 l0 _ (HI.out.below (by (repeat' (first | (with_reducible exact Below.refl _ _) | (with_reducible assumption) | (with_reducible refine Below.alloc ?_ ?_ _) | (with_reducible refine Below.drew ?_) | (with_reducible refine Below.drewN' ?_ _) | (with_reducible refine Below.setCell ?_ ?_ _) | (refine Below.via ?_ (by with_reducible assumption) ?_) | (with_reducible refine Below.via ?_ (Wd.h _) ?_) | go_size)))) (by omega)).mono ?_
  rintro e w1 ⟨A, Bq, Al, c, d, cl, N, l, sh, rfl, hnc, hN, hL, hl8, hok, hb1, -, -, -⟩
  have hz1 := hb1.size
  have HN := Lib.hid hN
  have HL := Lib.hid hL
  obtain ⟨a, code, hR⟩ : ∃ a code, rentR N l sh = (a, code) := ⟨_, _, rfl⟩
  have HR := Lib.hid hR
  clear hN hL hR hok
  go_wp2_with fail
  
  refine (impl_RentOf _ _ _ _ _ _ _ _ N l sh _ (HN.out.below (by (repeat' (first | (with_reducible exact Below.refl _ _) | (with_reducible assumption) | (with_reducible refine Below.alloc ?_ ?_ _) | (with_reducible refine Below.drew ?_) | (with_reducible refine Below.drewN' ?_ _) | (with_reducible refine Below.setCell ?_ ?_ _) | (refine Below.via ?_ (by with_reducible assumption) ?_) | (with_reducible refine Below.via ?_ (Wd.h _) ?_) | go_size)))) rfl rfl hnc (HL.out.below (by (repeat' (first | (with_reducible exact Below.refl _ _) | (with_reducible assumption) | (with_reducible refine Below.alloc ?_ ?_ _) | (with_reducible refine Below.drew ?_) | (with_reducible refine Below.drewN' ?_ _) | (with_reducible refine Below.setCell ?_ ?_ _) | (refine Below.via ?_ (by with_reducible assumption) ?_) | (with_reducible refine Below.via ?_ (Wd.h _) ?_) | go_size)))) (by omega)).mono ?_
  rintro e w2 ⟨rfl, hb2⟩
  rw [HR.out]
  (obtain ⟨hcn, hfn⟩ := bcell hb2; have hz2 := hb2.size; (try simp at hz2); have Na_0 := hcn (w1.heap.size) (0) (by first | omega | (simp; done) | (simp; omega)); have Na_0f := hfn (w1.heap.size) (0) (by first | omega | (simp; done) | (simp; omega)); have Nhy_a : w1.heap.size < w2.heap.size := (by omega); have Na_1 := hcn (w1.heap.size) (1) (by first | omega | (simp; done) | (simp; omega)); have Na_1f := hfn (w1.heap.size) (1) (by first | omega | (simp; done) | (simp; omega)); simp [go_sem] at Na_0 Na_0f Na_1 Na_1f; clear hcn hfn; have a_0 := Na_0; have a_0f := Na_0f; have a_1 := Na_1; have a_1f := Na_1f; have hy_a := Nhy_a; clear Na_0 Na_0f Na_1 Na_1f Nhy_a)
  go_wp2_with fail
  refine (spec_RentOf _ _ _ _ _ _ _ _ N l sh _ (HN.out.below (by (repeat' (first | (with_reducible exact Below.refl _ _) | (with_reducible assumption) | (with_reducible refine Below.alloc ?_ ?_ _) | (with_reducible refine Below.drew ?_) | (with_reducible refine Below.drewN' ?_ _) | (with_reducible refine Below.setCell ?_ ?_ _) | (refine Below.via ?_ (by with_reducible assumption) ?_) | (with_reducible refine Below.via ?_ (Wd.h _) ?_) | go_size)))) rfl rfl (HL.out.below (by (repeat' (first | (with_reducible exact Below.refl _ _) | (with_reducible assumption) | (with_reducible refine Below.alloc ?_ ?_ _) | (with_reducible refine Below.drew ?_) | (with_reducible refine Below.drewN' ?_ _) | (with_reducible refine Below.setCell ?_ ?_ _) | (refine Below.via ?_ (by with_reducible assumption) ?_) | (with_reducible refine Below.via ?_ (Wd.h _) ?_) | go_size)))) (by omega)).mono ?_
  rintro e w3 ⟨rfl, hb3⟩
  rw [HR.out]
  (obtain ⟨hcn, hfn⟩ := bcell hb3; have hz3 := hb3.size; (try simp at hz3); have Na_0 := hcn (w1.heap.size) (0) (by first | omega | (simp; done) | (simp; omega)); have Na_0f := hfn (w1.heap.size) (0) (by first | omega | (simp; done) | (simp; omega)); have Nhy_a : w1.heap.size < w3.heap.size := (by omega); have Na_1 := hcn (w1.heap.size) (1) (by first | omega | (simp; done) | (simp; omega)); have Na_1f := hfn (w1.heap.size) (1) (by first | omega | (simp; done) | (simp; omega)); simp [go_sem, a_0, a_0f, a_1, a_1f, hy_a] at Na_0 Na_0f Na_1 Na_1f; clear a_0 a_0f a_1 a_1f hy_a; clear hcn hfn; have a_0 := Na_0; have a_0f := Na_0f; have a_1 := Na_1; have a_1f := Na_1f; have hy_a := Nhy_a; clear Na_0 Na_0f Na_1 Na_1f Nhy_a)
  by_cases e0 : code = 0
  · subst e0
    have h0 := rent_of HR.out
    obtain ⟨hO, hl40, hob⟩ := book_of h0
    have hA : RentOk l := fun x hx => rent1_bd (hob x hx)
    have hW := whR_all (l := l) (fun x hx => (ctr_of (hob x hx)).1)
    have hcf : ∀ x ∈ l, 0 ≤ x.fr ∧ x.fr ≤ x.to ∧ x.to < 48 := fun x hx => (ctr_of (hob x hx)).2.2.2.2.2.2.1
    have HCF := Lib.hid hcf
    have HC := Lib.hid h0
    have HA := Lib.hid hA
    have HWH := Lib.hid hW
    have HB3 := Lib.hid (show Below w.heap.size w w3 by (repeat' (first | (with_reducible exact Below.refl _ _) | (with_reducible assumption) | (with_reducible refine Below.alloc ?_ ?_ _) | (with_reducible refine Below.drew ?_) | (with_reducible refine Below.drewN' ?_ _) | (with_reducible refine Below.setCell ?_ ?_ _) | (refine Below.via ?_ (by with_reducible assumption) ?_) | (with_reducible refine Below.via ?_ (Wd.h _) ?_) | go_size)))
    have HN3 := Lib.hid (HN.out.below (show Below w1.heap.size w1 w3 by (repeat' (first | (with_reducible exact Below.refl _ _) | (with_reducible assumption) | (with_reducible refine Below.alloc ?_ ?_ _) | (with_reducible refine Below.drew ?_) | (with_reducible refine Below.drewN' ?_ _) | (with_reducible refine Below.setCell ?_ ?_ _) | (refine Below.via ?_ (by with_reducible assumption) ?_) | (with_reducible refine Below.via ?_ (Wd.h _) ?_) | go_size))))
    have HL3 := Lib.hid (HL.out.below (show Below w1.heap.size w1 w3 by (repeat' (first | (with_reducible exact Below.refl _ _) | (with_reducible assumption) | (with_reducible refine Below.alloc ?_ ?_ _) | (with_reducible refine Below.drew ?_) | (with_reducible refine Below.drewN' ?_ _) | (with_reducible refine Below.setCell ?_ ?_ _) | (refine Below.via ?_ (by with_reducible assumption) ?_) | (with_reducible refine Below.via ?_ (Wd.h _) ?_) | go_size))))
    have HBX := Lib.hid (show Bx w3 w1.heap.size [.slice A N.nodes.length c, .slice Bq N.pipes.length d] from bx2 hy_a a_0 a_0f a_1 a_1f)
    have hlt1 := HBX.out.lt
    clear h0 hA hO hob hW hb1 hb2 hb3 hy_a a_0 a_0f a_1 a_1f hcf
    
    go_wp2_with fail
    go_loopw [10, 12, 13, 14] (fun s t _ _ wr => ∃ k : Nat, k ≤ 16 ∧ t = .int .i64 k ∧ s = .int .i64 (whR l k) ∧ Below w3.heap.size w3 wr) (fun _ t _ _ _ => 16 - (intOf t).toNat)
    case atStart => exact ⟨0, by omega, rfl, rfl, Below.refl _ _⟩
    case round =>
      obtain ⟨k, hk, rfl, rfl, hbw⟩ := hrel
      have hbH := Lib.hid hbw
      have hzw := hbw.size
      have HB := HBX.out.below hbw hlt1
      have hy7 := HB.lt; have cw7_0 := HB.cell 0 rfl; have fw7_0 := HB.frozen 0 rfl; have cw7_1 := HB.cell 1 rfl; have fw7_1 := HB.frozen 1 rfl
      clear hbw HB
      by_cases hlt : k < 16
      · have g1 : (k : Int) < 16 := by omega
        have b1 := whR_bd HA.out hl40 k
        have b2 := rentF_bd (k : Int) HA.out
        go_wp2_with fail
        refine (impl_RentOf A Bq Al _ c _ d cl N l k _ (HN3.out.below hbH.out) rfl rfl hnc (HL3.out.below hbH.out) (by omega)).mono ?_
        rintro e w5 ⟨rfl, hb5⟩
        rw [rent_at HC.out hlt]
        have HB5 := Lib.hid (hbH.out.trans (hb5.mono hzw))
        have HS := Lib.hid (show whR l (k + 1) = whR l k + rentF k l from rfl)
        generalize rentF k l = X at *
        generalize whR l k = Z at *
        clear hb5
        go_wp2
        go_roundw
        case rel => exact ⟨k + 1, by omega, by go_num, by rw [HS.out], HB5.out⟩
        case measure => simp [intOf]; omega
      · have hk16 : k = 16 := by omega
        have g1 : ¬ (k : Int) < 16 := by omega
        rw [show whR l k = prF l by rw [hk16]; exact HWH.out]
        clear hk16 hlt hk
        have b1 := prF_bd HA.out
        go_wp2_with fail
        go_loopw [11, 15, 16, 17] (fun s t _ _ wv => ∃ k : Nat, k ≤ l.length ∧ t = .int .i64 k ∧ s = .int .i64 (prF (l.take k)) ∧ Below w3.heap.size w3 wv) (fun _ t _ _ _ => l.length - (intOf t).toNat)
        case atStart => exact ⟨0, by omega, rfl, by simp [prF], hbH.out⟩
        case round =>
          clear hbH cw7_0 cw7_1 fw7_0 fw7_1 hy7
          rename Nat => k9
          obtain ⟨k, hk, rfl, rfl, hbw⟩ := hrel
          have hbH := Lib.hid hbw
          by_cases hlk : k < l.length
          · have hlt := hlk
            have HB := HBX.out.below hbw hlt1
            have hy7 := HB.lt; have cw7_0 := HB.cell 0 rfl; have fw7_0 := HB.frozen 0 rfl; have cw7_1 := HB.cell 1 rfl; have fw7_1 := HB.frozen 1 rfl
            clear HB
            obtain ⟨x, hx⟩ := get_some hlt; obtain ⟨bx, offx, rfl, hbx, hat⟩ := HL3.out.opened (k := k) (by rw [flat_len Ctr.len]; omega); have hat' := hat.below hbw hbx; have hybx : bx < wr.heap.size := Nat.lt_of_lt_of_le hbx hbw.size; have hzw := hbw.size; have t0 := hat'.elem0 Ctr.len hx rfl; have t1 := hat'.elem Ctr.len hx 1 rfl; have t2 := hat'.elem Ctr.len hx 2 rfl; have t3 := hat'.elem Ctr.len hx 3 rfl; have t4 := hat'.elem Ctr.len hx 4 rfl; have t5 := hat'.elem Ctr.len hx 5 rfl; have t6 := hat'.elem Ctr.len hx 6 rfl; have t7 := hat'.elem Ctr.len hx 7 rfl; have HX := Lib.hid hx; have HD := Lib.hid (drop_cons hx); have gx : (k : Int) < _ := Int.ofNat_lt.2 hlt; clear hx hat hat'
            have hax := HA.out x (List.mem_of_getElem? HX.out)
            obtain ⟨⟨p1, p2⟩, p3, p4⟩ := hax
            have hcx := HCF.out x (List.mem_of_getElem? HX.out)
            obtain ⟨p5, p6, p7⟩ := hcx
            have b2 := prF_bd (l := l.take k) (fun y hy => HA.out y (List.mem_of_mem_take hy))
            have hlen : (l.take k).length ≤ 32 := by simp; omega
            have HS := Lib.hid (prF_snoc HX.out)
            obtain ⟨LL, hLL, hmem, hlen2⟩ := act_at HC.out HX.out
            have HLL := Lib.hid hLL
            have HME := Lib.hid hmem
            clear hLL hmem
            unfold rent1 at p3 p4
            have HS2 := Lib.hid (show prF (l.take (k + 1)) = prF (l.take k) + x.am * x.pr * (x.to - x.fr + 1) from HS.out)
            clear HS
            generalize prF (l.take k) = Z at *
            clear hbw
            go_wp2
            go_quiet (fail)
            go_wp2_with fail
            refine wp_region_tb (R := Zr) [some 99, some 100, some 101, some 102, some 103, some 104, some 105, some 106, some 107, some 108, some 109, some 110, some 111, some 98, some 112, some 113, some 16, some 17] _ (by intro u; simp only [frs, Act.put, List.setIfInBounds_toArray, List.set_cons_zero, List.set_cons_succ, Nat.reduceAdd]; exact rfl) (fun ρ j => ([.agg #[.slice A N.nodes.length c, .slice Bq N.pipes.length d], .slice (some ⟨bx, offx, none⟩) l.length cl, .slice (some ⟨bx, offx, none⟩) l.length cl, .int .i64 (k : Int), .pointer (some ⟨bx, offx + k * 8, none⟩), .pointer (some ⟨bx, offx + k * 8, none⟩), .int .i64 x.sh, .slice (some ⟨bx, offx, none⟩) l.length cl, .int .i64 (k : Int), .pointer (some ⟨bx, offx + k * 8, none⟩), .pointer (some ⟨bx, offx + k * 8 + 6, none⟩), .int .i64 x.to, .tuple #[ρ.v, .int .i64 0], .tuple #[ρ.v, .int .i64 0], ρ.v, .int .i64 0, ρ.v, .int .i64 0] : List Value).getD j undef) (WM wr 12 (PM LL)) (by kernel_rfl) (by kernel_rfl) Zr.zero (WM.start (Below.drew (Below.drewN' (Below.refl _ _) _))) ?_ ?_
            · intro ii hii L ρ u wx hl hp hc hu hn hW
              have hii : ii < 18 := hii
              have HNo := Lib.hid hn
              clear hn
              have hii : ii = 0 ∨ ii = 1 ∨ ii = 2 ∨ ii = 3 ∨ ii = 4 ∨ ii = 5 ∨ ii = 6 ∨ ii = 7 ∨ ii = 8 ∨ ii = 9 ∨ ii = 10 ∨ ii = 11 ∨ ii = 12 ∨ ii = 13 ∨ ii = 14 ∨ ii = 15 ∨ ii = 16 ∨ ii = 17 := by omega
              rcases hii with rfl | rfl | rfl | rfl | rfl | rfl | rfl | rfl | rfl | rfl | rfl | rfl | rfl | rfl | rfl | rfl | rfl | rfl
              · have y0 := ((bcell hW.bl).1 w1.heap.size 0 hy7).trans cw7_0
                have y1 := ((bcell hW.bl).1 w1.heap.size 1 hy7).trans cw7_1
                refine wpOp_go (E := True) rfl rfl (fun K' hK => ?_)
                go_simp
                refine hK.out _ _ ⟨ρ, (by simp only [put]; rfl), fun _ _ => rfl, hW.pure (by omega)⟩
              · refine wpOp_go (E := True) rfl rfl (fun K' hK => ?_)
                go_simp
                refine hK.out _ _ ⟨ρ, (by simp only [put]; rfl), fun _ _ => rfl, hW.pure (by omega)⟩
              · refine wpOp_go (E := True) rfl rfl (fun K' hK => ?_)
                go_simp
                refine hK.out _ _ ⟨ρ, (by simp only [put]; rfl), fun _ _ => rfl, hW.pure (by omega)⟩
              · refine wpOp_go (E := True) rfl rfl (fun K' hK => ?_)
                go_simp
                refine hK.out _ _ ⟨ρ, (by simp only [put]; rfl), fun _ _ => rfl, hW.pure (by omega)⟩
              · have e2 : u 2 = .slice (some ⟨bx, offx, none⟩) l.length cl := hu 2 (all_of hp (by kernel_rfl))
                have e3 : u 3 = .int .i64 (k : Int) := hu 3 (all_of hp (by kernel_rfl))
                refine wpOp_go (E := True) rfl rfl (fun K' hK => ?_)
                go_simp
                refine hK.out _ _ ⟨ρ, (by simp only [put, e2, e3]; rfl), fun _ _ => rfl, hW.pure (by omega)⟩
              · have e4 : u 4 = .pointer (some ⟨bx, offx + k * 8, none⟩) := hu 4 (all_of hp (by kernel_rfl))
                refine wpOp_go (E := True) rfl rfl (fun K' hK => ?_)
                go_simp
                refine hK.out _ _ ⟨ρ, (by simp only [put, e4]; rfl), fun _ _ => rfl, hW.pure (by omega)⟩
              · have e5 : u 5 = .pointer (some ⟨bx, offx + k * 8, none⟩) := hu 5 (all_of hp (by kernel_rfl))
                have y0 := ((bcell hW.bl).1 bx (offx + k * 8) hybx).trans t0
                refine wpOp_go (E := True) rfl rfl (fun K' hK => ?_)
                go_simp
                refine hK.out _ _ ⟨ρ, (by simp only [put, e5]; rfl), fun _ _ => rfl, hW.pure (by omega)⟩
              · refine wpOp_go (E := True) rfl rfl (fun K' hK => ?_)
                go_simp
                refine hK.out _ _ ⟨ρ, (by simp only [put]; rfl), fun _ _ => rfl, hW.pure (by omega)⟩
              · refine wpOp_go (E := True) rfl rfl (fun K' hK => ?_)
                go_simp
                refine hK.out _ _ ⟨ρ, (by simp only [put]; rfl), fun _ _ => rfl, hW.pure (by omega)⟩
              · have e7 : u 7 = .slice (some ⟨bx, offx, none⟩) l.length cl := hu 7 (all_of hp (by kernel_rfl))
                have e8 : u 8 = .int .i64 (k : Int) := hu 8 (all_of hp (by kernel_rfl))
                refine wpOp_go (E := True) rfl rfl (fun K' hK => ?_)
                go_simp
                refine hK.out _ _ ⟨ρ, (by simp only [put, e7, e8]; rfl), fun _ _ => rfl, hW.pure (by omega)⟩
              · have e9 : u 9 = .pointer (some ⟨bx, offx + k * 8, none⟩) := hu 9 (all_of hp (by kernel_rfl))
                refine wpOp_go (E := True) rfl rfl (fun K' hK => ?_)
                go_simp
                refine hK.out _ _ ⟨ρ, (by simp only [put, e9]; rfl), fun _ _ => rfl, hW.pure (by omega)⟩
              · have e10 : u 10 = .pointer (some ⟨bx, offx + k * 8 + 6, none⟩) := hu 10 (all_of hp (by kernel_rfl))
                have y6 := ((bcell hW.bl).1 bx (offx + k * 8 + 6) hybx).trans t6
                refine wpOp_go (E := True) rfl rfl (fun K' hK => ?_)
                go_simp
                refine hK.out _ _ ⟨ρ, (by simp only [put, e10]; rfl), fun _ _ => rfl, hW.pure (by omega)⟩
              · have e0 : u 0 = .agg #[.slice A N.nodes.length c, .slice Bq N.pipes.length d] := hu 0 (all_of hp (by kernel_rfl))
                have e1 : u 1 = .slice (some ⟨bx, offx, none⟩) l.length cl := hu 1 (all_of hp (by kernel_rfl))
                have e6 : u 6 = .int .i64 x.sh := hu 6 (all_of hp (by kernel_rfl))
                have e11 : u 11 = .int .i64 x.to := hu 11 (all_of hp (by kernel_rfl))
                refine wpOp_go (E := True) rfl rfl (fun K' hK => ?_)
                go_simp
                go_at_call 13
                refine ((impl_ActiveContracts A Bq (some ⟨bx, offx, none⟩) _ c _ d cl N l x.sh x.to _ (HN3.out.below (hbH.out.trans (hW.bl.mono hzw))) rfl rfl hnc (HL3.out.below (hbH.out.trans (hW.bl.mono hzw))) (by omega)).made HLL.out).mono ?_
                rintro e' w5 ⟨A', c', rfl, hc', hw', hb5⟩
                refine hK.out _ _ ⟨⟨ρ.b, ρ.r, ρ.c, .slice A' LL.length c'⟩, (by simp only [put, e0, e1, e6, e11]; rfl), fun j hj => by
                    have n13 : L 13 = false := no_later hc hl (by kernel_rfl)
                    have n14 : L 14 = false := no_later hc n13 (by kernel_rfl)
                    have n15 : L 15 = false := no_later hc n13 (by kernel_rfl)
                    have n16 : L 16 = false := no_later hc n14 (by kernel_rfl)
                    have n17 : L 17 = false := no_later hc n15 (by kernel_rfl)
                    match j, hj with
                    | 0, _ => rfl
                    | 1, _ => rfl
                    | 2, _ => rfl
                    | 3, _ => rfl
                    | 4, _ => rfl
                    | 5, _ => rfl
                    | 6, _ => rfl
                    | 7, _ => rfl
                    | 8, _ => rfl
                    | 9, _ => rfl
                    | 10, _ => rfl
                    | 11, _ => rfl
                    | 12, hj => rw [hl] at hj; cases hj
                    | 13, hj => rw [n13] at hj; cases hj
                    | 14, hj => rw [n14] at hj; cases hj
                    | 15, hj => rw [n15] at hj; cases hj
                    | 16, hj => rw [n16] at hj; cases hj
                    | 17, hj => rw [n17] at hj; cases hj
                    | _ + 18, _ => rfl, hW.call hb5 ⟨A', c', rfl, hw'.rd⟩⟩
              · have e12 : u 12 = .tuple #[ρ.v, .int .i64 0] := hu 12 (all_of hp (by kernel_rfl))
                refine wpOp_go (E := True) rfl rfl (fun K' hK => ?_)
                go_simp
                refine hK.out _ _ ⟨ρ, (by simp only [put, e12]; rfl), fun _ _ => rfl, hW.pure (by omega)⟩
              · have e13 : u 13 = .tuple #[ρ.v, .int .i64 0] := hu 13 (all_of hp (by kernel_rfl))
                refine wpOp_go (E := True) rfl rfl (fun K' hK => ?_)
                go_simp
                refine hK.out _ _ ⟨ρ, (by simp only [put, e13]; rfl), fun _ _ => rfl, hW.pure (by omega)⟩
              · have e13 : u 13 = .tuple #[ρ.v, .int .i64 0] := hu 13 (all_of hp (by kernel_rfl))
                refine wpOp_go (E := True) rfl rfl (fun K' hK => ?_)
                go_simp
                refine hK.out _ _ ⟨ρ, (by simp only [put, e13]; rfl), fun _ _ => rfl, hW.pure (by omega)⟩
              · have e14 : u 14 = ρ.v := hu 14 (all_of hp (by kernel_rfl))
                refine wpOp_go (E := True) rfl rfl (fun K' hK => ?_)
                go_simp
                refine hK.out _ _ ⟨ρ, (by simp only [put, e14]; rfl), fun _ _ => rfl, hW.pure (by omega)⟩
              · have e15 : u 15 = .int .i64 0 := hu 15 (all_of hp (by kernel_rfl))
                refine wpOp_go (E := True) rfl rfl (fun K' hK => ?_)
                go_simp
                refine hK.out _ _ ⟨ρ, (by simp only [put, e15]; rfl), fun _ _ => rfl, hW.pure (by omega)⟩
            · intro L ρ u wx hall hu hW
              obtain ⟨A', c', hv, hrd⟩ := hW.md (hall 12 (by show 12 < 18; omega))
              have e16 : u 16 = ρ.v := hu 16 (by show 16 < 18; omega)
              have e17 : u 17 = .int .i64 0 := hu 17 (by show 17 < 18; omega)
              rw [hv] at e16
              rw [e16, e17]
              have HBX2 := Lib.hid (hbH.out.trans (hW.bl.mono hzw))
              clear hu hall hW hv e16 e17
              go_wp2_with ((go_at_call 14; refine (laws_hasInt A' c' LL k _ hrd hlen2 HME.out).mono ?_; rintro e w9 ⟨rfl, rfl⟩))
              go_roundw
              case rel => exact ⟨k + 1, by omega, by go_num, by rw [HS2.out], HBX2.out⟩
              case measure => simp [intOf]; omega
          · obtain rfl : k = l.length := by omega
            rw [List.take_length]
            have g1 : ¬ (l.length : Int) < l.length := by omega
            clear hbw
            go_wp2
            go_ret
            exact ⟨rfl, by have h1 := hbH.out; have h2 := HB3.out; (repeat' (first | (with_reducible exact Below.refl _ _) | (with_reducible assumption) | (with_reducible refine Below.alloc ?_ ?_ _) | (with_reducible refine Below.drew ?_) | (with_reducible refine Below.drewN' ?_ _) | (with_reducible refine Below.setCell ?_ ?_ _) | (refine Below.via ?_ (by with_reducible assumption) ?_) | (with_reducible refine Below.via ?_ (Wd.h _) ?_) | go_size))⟩
  · have b1 : (code != 0) = true := by simp [e0]
    go_wp2
    go_ret
    exact ⟨rfl, by (repeat' (first | (with_reducible exact Below.refl _ _) | (with_reducible assumption) | (with_reducible refine Below.alloc ?_ ?_ _) | (with_reducible refine Below.drew ?_) | (with_reducible refine Below.drewN' ?_ _) | (with_reducible refine Below.setCell ?_ ?_ _) | (refine Below.via ?_ (by with_reducible assumption) ?_) | (with_reducible refine Below.via ?_ (Wd.h _) ?_) | go_size))⟩
end Go.Proofs.Ytmkecbnnanddkaa

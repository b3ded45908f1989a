/- The walk of the law FnTotals: for all bytes it returns true and writes nothing that was there. -/
import Derived.Test.YtmkecbnnanddkaaDto
import Derived.Test.YtmkecbnnanddkaaTot
namespace Go.Proofs.Ytmkecbnnanddkaa
set_option linter.unusedVariables false
set_option linter.unusedSimpArgs false
open Go.RowKit
theorem laws_bigT (A : Option Addr) (n c : Nat) (w : World) : Calls Try.prog 6 #[.slice A n c] w fun e w' => e = .returned (.bool (decide (4096 < n))) ∧ w = w' := by
  go_enter Try.func6, Try.ntmps6
  go_wp2
  go_ret
  refine ⟨rb ?_, rfl⟩
  simp; omega
/-- the totals of the first shippers -/
def whF (l : List Ord) : Nat → Int
  | 0 => 0
  | k + 1 => whF l k + totF k 1 l - totF k (-1) l
def amF : List Ord → Int
  | [] => 0
  | x :: l => x.am + amF l
theorem part_am (k : Nat) (x : Ord) : part1 k 1 x - part1 k (-1) x = if x.sh = (k : Int) then x.am else 0 := by
  unfold part1
  by_cases h : x.sh = (k : Int)
  · simp only [h, if_true]; split <;> split <;> omega
  · simp [h]
theorem whF_cons (x : Ord) (l : List Ord) (h : 0 ≤ x.sh) : ∀ k : Nat, whF (x :: l) k = (if x.sh < k then x.am else 0) + whF l k
  | 0 => by simp [whF]; omega
  | k + 1 => by
    have ih := whF_cons x l h k
    have hp := part_am k x
    simp only [whF, totF, ih]
    by_cases h1 : x.sh < k
    · have h2 : ¬ x.sh = (k : Int) := by omega
      have h3 : x.sh < ((k + 1 : Nat) : Int) := by omega
      rw [if_neg h2] at hp
      rw [if_pos h1, if_pos h3]; omega
    · by_cases h2 : x.sh = (k : Int)
      · have h3 : x.sh < ((k + 1 : Nat) : Int) := by omega
        rw [if_pos h2] at hp
        rw [if_neg h1, if_pos h3]; omega
      · have h3 : ¬ x.sh < ((k + 1 : Nat) : Int) := by omega
        rw [if_neg h2] at hp
        rw [if_neg h1, if_neg h3]; omega
theorem whF_nil : ∀ k : Nat, whF [] k = 0
  | 0 => rfl
  | k + 1 => by simp [whF, totF, whF_nil k]
theorem whF_all : ∀ {l : List Ord}, (∀ x ∈ l, 0 ≤ x.sh ∧ x.sh ≤ 15) → whF l 16 = amF l
  | [], _ => whF_nil 16
  | x :: l, h => by
    have ih := whF_all (l := l) (fun y hy => h y (by simp [hy]))
    have hx := h x (by simp)
    rw [whF_cons x l hx.1, ih, amF, if_pos (by omega)]
theorem whF_bd {l : List Ord} (h : AmOk l) (hl : l.length ≤ 40) : ∀ k : Nat, -(k * 1200000 : Int) ≤ whF l k ∧ whF l k ≤ k * 1200000
  | 0 => by simp [whF]
  | k + 1 => by
    have ih := whF_bd h hl k
    have a := tot_bd (sh := k) (sg := 1) (Or.inl rfl) h
    have b := tot_bd (sh := k) (sg := -1) (Or.inr rfl) h
    simp only [whF]; omega
theorem amF_snoc : ∀ {l : List Ord} {k : Nat} {x : Ord}, l[k]? = some x → amF (l.take (k + 1)) = amF (l.take k) + x.am
  | [], k, x, h => by simp at h
  | y :: l, 0, x, h => by simp at h; subst h; simp [amF]
  | y :: l, k + 1, x, h => by
    rw [List.take_succ_cons, List.take_succ_cons, amF, amF, amF_snoc (l := l) (k := k) (x := x) (by simpa using h)]; omega
theorem amF_bd : ∀ {l : List Ord}, AmOk l → -(l.length * 30000 : Int) ≤ amF l ∧ amF l ≤ l.length * 30000
  | [], _ => by simp [amF]
  | x :: l, h => by
    have ih := amF_bd (l := l) (fun y hy => h y (by simp [hy]))
    have hx := h x (by simp)
    simp only [amF, List.length_cons]; omega
theorem tot_of {N : Net} {l : List Ord} {sh a b : Int} (h : totR N l sh = (a, b, 0)) : ordC N l = 0 := by
  unfold totR at h
  by_cases h0 : ordC N l = 0
  · exact h0
  · rw [if_pos h0] at h; exact absurd (congrArg (fun p => p.2.2) h) h0
theorem tot_at {N : Net} {l : List Ord} (h : ordC N l = 0) {k : Nat} (hk : k < 16) : totR N l k = (totF k 1 l, totF k (-1) l, 0) := by
  have : inB (k : Int) 0 15 = true := by first | (simp [inB]; done) | (simp [inB]; omega)
  simp [totR, h, this]
set_option maxRecDepth 100000 in
set_option maxHeartbeats 8000000 in
theorem walk_FnTotals (w : World) (A0 : Option Addr) (c0 : Nat) (l0 : List Int) (h0 : BytesIn w A0 l0) :
    Calls Try.prog 3 #[.slice A0 l0.length c0] w fun e w' => e = .returned (.bool true) ∧ Below w.heap.size w w' := by
  have HI := Lib.hid h0
  clear h0
  by_cases hbig : 4096 < l0.length
  · have b0 : decide (4096 < l0.length) = true := by simpa using hbig
    go_enter Try.func3, Try.ntmps3
    go_wp2_with ((go_at_call 6; refine (laws_bigT _ _ _ _).mono ?_; rintro e w' ⟨rfl, rfl⟩))
    go_ret
    exact ⟨rfl, by (repeat' (first | (with_reducible exact Below.refl _ _) | (with_reducible assumption) | (with_reducible refine Below.alloc ?_ ?_ _) | (with_reducible refine Below.drew ?_) | (with_reducible refine Below.drewN' ?_ _) | (with_reducible refine Below.setCell ?_ ?_ _) | (refine Below.via ?_ (by with_reducible assumption) ?_) | (with_reducible refine Below.via ?_ (Wd.h _) ?_) | go_size))⟩
  have b0 : decide (4096 < l0.length) = false := by simpa using hbig
  go_enter Try.func3, Try.ntmps3
  go_wp2_with ((go_at_call 6; refine (laws_bigT _ _ _ _).mono ?_; rintro e w' ⟨rfl, rfl⟩))
  
  refine (spec_DrawTotalsOf A0 c0 l0 _ (HI.out.below (by (repeat' (first | (with_reducible exact Below.refl _ _) | (with_reducible assumption) | (with_reducible refine Below.alloc ?_ ?_ _) | (with_reducible refine Below.drew ?_) | (with_reducible refine Below.drewN' ?_ _) | (with_reducible refine Below.setCell ?_ ?_ _) | (refine Below.via ?_ (by with_reducible assumption) ?_) | (with_reducible refine Below.via ?_ (Wd.h _) ?_) | go_size)))) (by omega)).mono ?_
  rintro e w1 ⟨A, Bq, Al, c, d, cl, N, l, sh, rfl, hnc, hN, hL, hl8, hb1⟩
  have hz1 := hb1.size
  have HN := Lib.hid hN
  have HL := Lib.hid hL
  obtain ⟨a, b, code, hR⟩ : ∃ a b code, totR N l sh = (a, b, code) := ⟨_, _, _, rfl⟩
  have HR := Lib.hid hR
  clear hN hL hR
  go_wp2_with fail
  
  refine (impl_TotalsOf _ _ _ _ _ _ _ _ N l sh _ (HN.out.below (by (repeat' (first | (with_reducible exact Below.refl _ _) | (with_reducible assumption) | (with_reducible refine Below.alloc ?_ ?_ _) | (with_reducible refine Below.drew ?_) | (with_reducible refine Below.drewN' ?_ _) | (with_reducible refine Below.setCell ?_ ?_ _) | (refine Below.via ?_ (by with_reducible assumption) ?_) | (with_reducible refine Below.via ?_ (Wd.h _) ?_) | go_size)))) rfl rfl hnc (HL.out.below (by (repeat' (first | (with_reducible exact Below.refl _ _) | (with_reducible assumption) | (with_reducible refine Below.alloc ?_ ?_ _) | (with_reducible refine Below.drew ?_) | (with_reducible refine Below.drewN' ?_ _) | (with_reducible refine Below.setCell ?_ ?_ _) | (refine Below.via ?_ (by with_reducible assumption) ?_) | (with_reducible refine Below.via ?_ (Wd.h _) ?_) | go_size)))) (by omega)).mono ?_
  rintro e w2 ⟨rfl, hb2⟩
  rw [HR.out]
  (obtain ⟨hcn, hfn⟩ := bcell hb2; have hz2 := hb2.size; (try simp at hz2); have Na_0 := hcn (w1.heap.size) (0) (by first | omega | (simp; done) | (simp; omega)); have Na_0f := hfn (w1.heap.size) (0) (by first | omega | (simp; done) | (simp; omega)); have Nhy_a : w1.heap.size < w2.heap.size := (by omega); have Na_1 := hcn (w1.heap.size) (1) (by first | omega | (simp; done) | (simp; omega)); have Na_1f := hfn (w1.heap.size) (1) (by first | omega | (simp; done) | (simp; omega)); simp [go_sem] at Na_0 Na_0f Na_1 Na_1f; clear hcn hfn; have a_0 := Na_0; have a_0f := Na_0f; have a_1 := Na_1; have a_1f := Na_1f; have hy_a := Nhy_a; clear Na_0 Na_0f Na_1 Na_1f Nhy_a)
  go_wp2_with fail
  refine (spec_TotalsOf _ _ _ _ _ _ _ _ N l sh _ (HN.out.below (by (repeat' (first | (with_reducible exact Below.refl _ _) | (with_reducible assumption) | (with_reducible refine Below.alloc ?_ ?_ _) | (with_reducible refine Below.drew ?_) | (with_reducible refine Below.drewN' ?_ _) | (with_reducible refine Below.setCell ?_ ?_ _) | (refine Below.via ?_ (by with_reducible assumption) ?_) | (with_reducible refine Below.via ?_ (Wd.h _) ?_) | go_size)))) rfl rfl (HL.out.below (by (repeat' (first | (with_reducible exact Below.refl _ _) | (with_reducible assumption) | (with_reducible refine Below.alloc ?_ ?_ _) | (with_reducible refine Below.drew ?_) | (with_reducible refine Below.drewN' ?_ _) | (with_reducible refine Below.setCell ?_ ?_ _) | (refine Below.via ?_ (by with_reducible assumption) ?_) | (with_reducible refine Below.via ?_ (Wd.h _) ?_) | go_size)))) (by omega)).mono ?_
  rintro e w3 ⟨rfl, hb3⟩
  rw [HR.out]
  (obtain ⟨hcn, hfn⟩ := bcell hb3; have hz3 := hb3.size; (try simp at hz3); have Na_0 := hcn (w1.heap.size) (0) (by first | omega | (simp; done) | (simp; omega)); have Na_0f := hfn (w1.heap.size) (0) (by first | omega | (simp; done) | (simp; omega)); have Nhy_a : w1.heap.size < w3.heap.size := (by omega); have Na_1 := hcn (w1.heap.size) (1) (by first | omega | (simp; done) | (simp; omega)); have Na_1f := hfn (w1.heap.size) (1) (by first | omega | (simp; done) | (simp; omega)); simp [go_sem, a_0, a_0f, a_1, a_1f, hy_a] at Na_0 Na_0f Na_1 Na_1f; clear a_0 a_0f a_1 a_1f hy_a; clear hcn hfn; have a_0 := Na_0; have a_0f := Na_0f; have a_1 := Na_1; have a_1f := Na_1f; have hy_a := Nhy_a; clear Na_0 Na_0f Na_1 Na_1f Nhy_a)
  by_cases e0 : code = 0
  · subst e0
    have h0 := tot_of HR.out
    have hA := amOk_of h0
    obtain ⟨hO, hl40, hob⟩ := ord_of h0
    have hW := whF_all (l := l) (fun x hx => (ordB_of (hob x hx)).1)
    have HC := Lib.hid h0
    have HA := Lib.hid hA
    have HWH := Lib.hid hW
    have HB3 := Lib.hid (show Below w.heap.size w w3 by (repeat' (first | (with_reducible exact Below.refl _ _) | (with_reducible assumption) | (with_reducible refine Below.alloc ?_ ?_ _) | (with_reducible refine Below.drew ?_) | (with_reducible refine Below.drewN' ?_ _) | (with_reducible refine Below.setCell ?_ ?_ _) | (refine Below.via ?_ (by with_reducible assumption) ?_) | (with_reducible refine Below.via ?_ (Wd.h _) ?_) | go_size)))
    have HN3 := Lib.hid (HN.out.below (show Below w1.heap.size w1 w3 by (repeat' (first | (with_reducible exact Below.refl _ _) | (with_reducible assumption) | (with_reducible refine Below.alloc ?_ ?_ _) | (with_reducible refine Below.drew ?_) | (with_reducible refine Below.drewN' ?_ _) | (with_reducible refine Below.setCell ?_ ?_ _) | (refine Below.via ?_ (by with_reducible assumption) ?_) | (with_reducible refine Below.via ?_ (Wd.h _) ?_) | go_size))))
    have HL3 := Lib.hid (HL.out.below (show Below w1.heap.size w1 w3 by (repeat' (first | (with_reducible exact Below.refl _ _) | (with_reducible assumption) | (with_reducible refine Below.alloc ?_ ?_ _) | (with_reducible refine Below.drew ?_) | (with_reducible refine Below.drewN' ?_ _) | (with_reducible refine Below.setCell ?_ ?_ _) | (refine Below.via ?_ (by with_reducible assumption) ?_) | (with_reducible refine Below.via ?_ (Wd.h _) ?_) | go_size))))
    have HBX := Lib.hid (show Bx w3 w1.heap.size [.slice A N.nodes.length c, .slice Bq N.pipes.length d] from bx2 hy_a a_0 a_0f a_1 a_1f)
    have hlt1 := HBX.out.lt
    clear h0 hA hO hob hW hb1 hb2 hb3 hy_a a_0 a_0f a_1 a_1f
    
    go_wp2_with fail
    go_loopw [12, 14, 15, 16, 17] (fun s t _ _ _ wr => ∃ k : Nat, k ≤ 16 ∧ t = .int .i64 k ∧ s = .int .i64 (whF l k) ∧ Below w3.heap.size w3 wr) (fun _ t _ _ _ _ => 16 - (intOf t).toNat)
    case atStart => exact ⟨0, by omega, rfl, rfl, Below.refl _ _⟩
    case round =>
      obtain ⟨k, hk, rfl, rfl, hbw⟩ := hrel
      have hbH := Lib.hid hbw
      have hzw := hbw.size
      have HB := HBX.out.below hbw hlt1
      have hy7 := HB.lt; have cw7_0 := HB.cell 0 rfl; have fw7_0 := HB.frozen 0 rfl; have cw7_1 := HB.cell 1 rfl; have fw7_1 := HB.frozen 1 rfl
      clear hbw HB
      by_cases hlt : k < 16
      · have g1 : (k : Int) < 16 := by omega
        have b1 := whF_bd HA.out hl40 k
        have b2 := tot_bd (sh := k) (sg := 1) (Or.inl rfl) HA.out
        have b3 := tot_bd (sh := k) (sg := -1) (Or.inr rfl) HA.out
        go_wp2_with fail
        refine (impl_TotalsOf A Bq Al _ c _ d cl N l k _ (HN3.out.below hbH.out) rfl rfl hnc (HL3.out.below hbH.out) (by omega)).mono ?_
        rintro e w5 ⟨rfl, hb5⟩
        rw [tot_at HC.out hlt]
        have HB5 := Lib.hid (hbH.out.trans (hb5.mono hzw))
        have HS := Lib.hid (show whF l (k + 1) = whF l k + totF k 1 l - totF k (-1) l from rfl)
        generalize totF k 1 l = X at *
        generalize totF k (-1) l = Y at *
        generalize whF l k = Z at *
        clear hb5
        go_wp2
        go_roundw
        case rel => exact ⟨k + 1, by omega, by go_num, by rw [HS.out], HB5.out⟩
        case measure => simp [intOf]; omega
      · obtain rfl : k = 16 := by omega
        rw [HWH.out]
        have b1 := amF_bd HA.out
        go_wp2_with fail
        go_loopw [13, 18] (fun s t wv => ∃ k : Nat, k ≤ l.length ∧ t = .int .i64 k ∧ s = .int .i64 (amF (l.take k)) ∧ Below w3.heap.size w3 wv) (fun _ t _ => l.length - (intOf t).toNat)
        case atStart => exact ⟨0, by omega, rfl, by simp [amF], hbH.out⟩
        case round =>
          clear hbH cw7_0 cw7_1 fw7_0 fw7_1 hy7
          obtain ⟨k, hk, rfl, rfl, hbw⟩ := hrel
          have hbH := Lib.hid hbw
          by_cases hlk : k < l.length
          · have hlt := hlk
            obtain ⟨x, hx⟩ := get_some hlt; obtain ⟨bx, offx, rfl, hbx, hat⟩ := HL3.out.opened (k := k) (by rw [flat_len Ord.len]; omega); have hat' := hat.below hbw hbx; have hybx : bx < wr.heap.size := Nat.lt_of_lt_of_le hbx hbw.size; have hzw := hbw.size; have t0 := hat'.elem0 Ord.len hx rfl; have t1 := hat'.elem Ord.len hx 1 rfl; have t2 := hat'.elem Ord.len hx 2 rfl; have t3 := hat'.elem Ord.len hx 3 rfl; have HX := Lib.hid hx; have HD := Lib.hid (drop_cons hx); have gx : (k : Int) < _ := Int.ofNat_lt.2 hlt; clear hx hat hat'
            have hax := HA.out x (List.mem_of_getElem? HX.out)
            have b2 := amF_bd (l := l.take k) (fun y hy => HA.out y (List.mem_of_mem_take hy))
            have hlen : (l.take k).length ≤ 40 := by simp; omega
            have HS := Lib.hid (amF_snoc HX.out)
            generalize amF (l.take k) = Z at *
            clear hbw
            go_wp2
            go_roundw
            case rel => exact ⟨k + 1, by omega, by go_num, by rw [HS.out], hbH.out⟩
            case measure => simp [intOf]; omega
          · obtain rfl : k = l.length := by omega
            rw [List.take_length]
            have g1 : ¬ (l.length : Int) < l.length := by omega
            clear hbw
            go_wp2
            go_ret
            exact ⟨rfl, by have h1 := hbH.out; have h2 := HB3.out; (repeat' (first | (with_reducible exact Below.refl _ _) | (with_reducible assumption) | (with_reducible refine Below.alloc ?_ ?_ _) | (with_reducible refine Below.drew ?_) | (with_reducible refine Below.drewN' ?_ _) | (with_reducible refine Below.setCell ?_ ?_ _) | (refine Below.via ?_ (by with_reducible assumption) ?_) | (with_reducible refine Below.via ?_ (Wd.h _) ?_) | go_size))⟩
  · have b1 : (code != 0) = true := by simp [e0]
    go_wp2
    go_ret
    exact ⟨rfl, by (repeat' (first | (with_reducible exact Below.refl _ _) | (with_reducible assumption) | (with_reducible refine Below.alloc ?_ ?_ _) | (with_reducible refine Below.drew ?_) | (with_reducible refine Below.drewN' ?_ _) | (with_reducible refine Below.setCell ?_ ?_ _) | (refine Below.via ?_ (by with_reducible assumption) ?_) | (with_reducible refine Below.via ?_ (Wd.h _) ?_) | go_size))⟩
end Go.Proofs.Ytmkecbnnanddkaa

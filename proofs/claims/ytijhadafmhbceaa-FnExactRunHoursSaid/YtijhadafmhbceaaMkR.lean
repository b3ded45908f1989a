/- Writing marks into lists of structs that the law owns, and reading them again. -/
import Derived.Test.YtijhadafmhbceaaMk
import Derived.Test.YtijhadafmhbceaaNt3
import Derived.Laws.BytesArg
namespace Go.Proofs.Ytijhadafmhbceaa
set_option linter.unusedVariables false
set_option linter.unusedSimpArgs false
open Go.RowKit
theorem some_blk {g g' o o' : Nat} (e : (some ⟨g, o, none⟩ : Option Addr) = some ⟨g', o', none⟩) : g = g' := by injection e with e; injection e
theorem Arr.push' {w : World} {g N : Nat} {xs : List Value} {i : Nat} {v v' : Value} (h : Arr w g N xs) (hi : i = xs.length) (hN : i < N) (e : v = v') : Arr (w.setCell ⟨g, i, none⟩ v) g N (xs ++ [v']) := e ▸ h.push i hi hN v
theorem Arr.any {w : World} {g N : Nat} {xs : List Value} (h : Arr w g N xs) {i : Nat} (hN : i < N) (v : Value) : Arr (w.setCell ⟨g, i, none⟩ v) g N [] := by
  obtain ⟨u, hu⟩ := h.some_ hN
  refine ⟨by rw [show (w.setCell ⟨g, i, none⟩ v).heap.size = w.heap.size by simp [World.setCell]]; exact h.1, fun j hj => ⟨?_, by simp [h.free hj]⟩, fun j x e => by simp at e⟩
  by_cases hji : j = i
  · subst hji; exact ⟨v, World.cell?_setCell_same _ _ _ hu⟩
  · obtain ⟨y, hy⟩ := h.some_ hj
    exact ⟨y, (World.cell?_setCell_other _ _ _ _ (by intro e; injection e; omega)).trans hy⟩
theorem markL_add (k0 : Int) (a n : Nat) : (markL k0 (a + n)).map iV = (markL k0 a).map iV ++ (markL (k0 + a) n).map iV := by
  induction n with
  | zero => simp [markL]
  | succ n ih => rw [← Nat.add_assoc, markL_succ, ih, markL_succ, List.append_assoc]; congr 3; simp; omega

set_option maxRecDepth 100000 in
set_option maxHeartbeats 4000000 in
theorem laws_markPipeS (base : Nat) (A : Option Addr) (c n : Nat) (k0 : Int) (xs : List Value) (w : World) (h : Wr base w A (n * 5) xs) (hn : n ≤ 1048576) (h0 : 0 ≤ k0) (h1 : k0 ≤ 1000000000000) :
    Calls Try.prog 46 #[.slice A n c, .int .i64 k0] w (MarkPost w base A (n * 5) k0) := by
  have HW := Lib.hid h
  clear h
  go_enter Try.func46, Try.ntmps46
  go_wp2
  go_loopw [1, 5] (fun u v wr => ∃ k : Nat, k ≤ n ∧ v = .int .i64 k ∧ u = .int .i64 (k0 + (k : Int) * 5) ∧ (∀ g, A = some ⟨g, 0, none⟩ → Arr w g (n * 5) xs → Arr wr g (n * 5) ((markL k0 (k * 5)).map iV)) ∧ Keep (onA A) w wr) (fun _ v _ => n - (intOf v).toNat)
  case atStart => exact ⟨0, by omega, rfl, by simp, fun g _ ha => by simpa [markL] using ha.none_, Keep.refl _ _⟩
  case round =>
    obtain ⟨k, hk, rfl, rfl, hA, hK⟩ := hrel
    have HA := Lib.hid hA
    have HK := Lib.hid hK
    clear hA hK
    by_cases hlt : k < n
    · obtain ⟨g, rfl, hg, ha⟩ := HW.out.2.1 (by omega)
      have HB := Lib.hid (HA.out g rfl ha)
      obtain ⟨u0, t0⟩ := HB.out.some_ (j := k * 5) (by omega)
      have f0 := HB.out.free (j := k * 5) (by omega)
      obtain ⟨u1, t1⟩ := HB.out.some_ (j := k * 5 + 1) (by omega)
      have f1 := HB.out.free (j := k * 5 + 1) (by omega)
      obtain ⟨u2, t2⟩ := HB.out.some_ (j := k * 5 + 2) (by omega)
      have f2 := HB.out.free (j := k * 5 + 2) (by omega)
      obtain ⟨u3, t3⟩ := HB.out.some_ (j := k * 5 + 3) (by omega)
      have f3 := HB.out.free (j := k * 5 + 3) (by omega)
      obtain ⟨u4, t4⟩ := HB.out.some_ (j := k * 5 + 4) (by omega)
      have f4 := HB.out.free (j := k * 5 + 4) (by omega)
      have g1 : (k : Int) < n := by omega
      clear ha
      go_wp2
      go_roundw
      case rel =>
        refine ⟨k + 1, by omega, by go_num, by go_num, fun g' e _ => ?_, ?_⟩
        · obtain rfl := some_blk e
          rw [show (k + 1) * 5 = k * 5 + 1 + 1 + 1 + 1 + 1 by omega]
          simp only [markL_succ]
          repeat' (first | (with_reducible exact HB.out) | (with_reducible refine Arr.push' ?_ ?_ ?_ ?_))
          all_goals first | (simp [markL_len]; done) | omega | (simp; done) | (simp; omega)
        · repeat' (first | (with_reducible exact HK.out) | (with_reducible refine Keep.setCell ?_ ?_ _))
          all_goals exact ⟨0, rfl⟩
      case measure => simp [intOf]; omega
    · have hkn : k = n := by omega
      go_wp2
      go_ret
      subst hkn
      refine ⟨by simp, ⟨?_, fun hN => ?_, fun b off e => ⟨(HW.out.2.2 b off e).1, Nat.lt_of_lt_of_le (HW.out.2.2 b off e).2 HK.out.size⟩⟩, HK.out⟩
      · intro hne
        have hp : 0 < k * 5 := Nat.pos_of_ne_zero (fun e => by rw [e] at hne; simp [markL] at hne)
        obtain ⟨g, rfl, hg, ha⟩ := HW.out.2.1 hp
        exact (HA.out g rfl ha).rd hne
      · obtain ⟨g, rfl, hg, ha⟩ := HW.out.2.1 hN
        exact ⟨g, rfl, hg, HA.out g rfl ha⟩
/-- string([]byte{n}) -/
theorem byte1_rule (n : Int) (w : World) : (convert 22 9 (.slice (some ⟨w.heap.size, 0, none⟩) 1 1)).run Try.prog (w.alloc (.cells #[.int .u8 n] 5)) = .ok (.string (strOfNums [n])) (w.alloc (.cells #[.int .u8 n] 5)) :=
  run_convert_bytes_arg _ 22 5 Try.underlying22 Try.underlying5 w.heap.size 0 1 1 [n] rfl (fun i hi => by
    have : i = 0 := by omega
    subst this; simp) 9 Try.underlying9
theorem str1_size (n : Int) : (strOfNums [n]).size = 1 := rfl
set_option maxRecDepth 100000 in
set_option maxHeartbeats 4000000 in
theorem laws_markText (k0 : Int) (w : World) (h0 : 0 ≤ k0) (h1 : k0 ≤ 2000000000000) :
    Calls Try.prog 69 #[.int .i64 k0] w fun e w' => ∃ s, e = .returned (.string s) ∧ Below w.heap.size w w' := by
  by_cases hz : k0 ≤ 0
  · go_enter Try.func69, Try.ntmps69
    go_wp2
    go_ret
    exact ⟨_, rfl, Below.refl _ _⟩
  go_enter Try.func69, Try.ntmps69
  go_wp2
  go_loopw [0, 3] (fun u v wr => ∃ (k j : Nat) (s : ByteArray), u = .int .i64 k ∧ v = .string s ∧ s.size = j ∧ j ≤ 13 ∧ k * 10 ^ j ≤ 2000000000000 ∧ k ≤ 2000000000000 ∧ Below w.heap.size w wr) (fun u _ _ => (intOf u).toNat)
  case atStart => exact ⟨k0.toNat, 0, _, by simp; omega, rfl, rfl, by omega, by simp; omega, by omega, Below.refl _ _⟩
  case round =>
    obtain ⟨k, j, s, rfl, rfl, hs, hjj, hj, hk, hb⟩ := hrel
    have hss : s.size ≤ 13 := by omega
    by_cases hp : 0 < k
    · have hj1 : 10 ^ j ≤ 2000000000000 := Nat.le_trans (Nat.le_mul_of_pos_left _ hp) hj
      have hj2 : j < 13 := by
        refine Nat.lt_of_not_le fun h => ?_
        have := Nat.pow_le_pow_right (show 0 < 10 by omega) h
        omega
      have HS := Lib.hid hs
      have HJ := Lib.hid hj
      have HB := Lib.hid hb
      have hss2 : s.size ≤ 12 := by omega
      have g1 : (0 : Int) < k := by omega
      clear hs hj hb hj1
      have hcv := byte1_rule (48 + (k : Int) % 10) wr
      have hs1 := str1_size (48 + (k : Int) % 10)
      generalize strOfNums [48 + (k : Int) % 10] = d at hcv hs1
      have HD := Lib.hid hs1
      have hd1 : d.size ≤ 1 := by omega
      clear hs1
      go_wp2
      go_roundw
      case rel =>
        refine ⟨k / 10, j + 1, _, by go_num, rfl, ?_, by omega, ?_, by omega, ?_⟩
        · have := HS.out; have := HD.out; simp; omega
        · have h1 : k / 10 * 10 ≤ k := by omega
          have h2 := Nat.mul_le_mul_right (10 ^ j) h1
          rw [Nat.pow_succ, Nat.mul_comm (10 ^ j) 10, ← Nat.mul_assoc]
          exact Nat.le_trans h2 HJ.out
        · exact HB.out.alloc (HB.out.size) _
      case measure => simp [intOf]; omega
    · have g1 : ¬ (0 : Int) < k := by omega
      have HB := Lib.hid hb
      clear hb hs hj
      go_wp2
      go_ret
      first | exact ⟨⟨_, rfl⟩, HB.out⟩ | exact ⟨_, rfl, HB.out⟩ | exact HB.out
set_option maxRecDepth 100000 in
set_option maxHeartbeats 4000000 in
theorem laws_markNodeS (base : Nat) (A : Option Addr) (c n : Nat) (k0 : Int) (xs : List Value) (w : World) (h : Wr base w A (n * 3) xs) (hn : n ≤ 1048576) (h0 : 0 ≤ k0) (h1 : k0 ≤ 1000000000000) :
    Calls Try.prog 45 #[.slice A n c, .int .i64 k0] w (MarkIn w (onA A) k0 (n * 3)) := by
  have HW := Lib.hid h
  clear h
  go_enter Try.func45, Try.ntmps45
  go_wp2
  go_loopw [1, 5] (fun u v wr => ∃ k : Nat, k ≤ n ∧ v = .int .i64 k ∧ u = .int .i64 (k0 + (k : Int) * 3) ∧ (∀ g, A = some ⟨g, 0, none⟩ → Arr w g (n * 3) xs → Arr wr g (n * 3) []) ∧ Keep (onA A) w wr) (fun _ v _ => n - (intOf v).toNat)
  case atStart => exact ⟨0, by omega, rfl, by simp, fun g _ ha => ha.none_, Keep.refl _ _⟩
  case round =>
    obtain ⟨k, hk, rfl, rfl, hA, hK⟩ := hrel
    have HA := Lib.hid hA
    have HK := Lib.hid hK
    clear hA hK
    by_cases hlt : k < n
    · obtain ⟨g, rfl, hg, ha⟩ := HW.out.2.1 (by omega)
      have HB := Lib.hid (HA.out g rfl ha)
      have g1 : (k : Int) < n := by omega
      clear ha
      go_wp2_with fail
      refine (laws_markText _ _ (by omega) (by omega)).mono ?_
      rintro e wn ⟨s, rfl, hbn⟩
      have HC := Lib.hid (HB.out.below hbn HB.out.lt)
      have HN := Lib.hid (HK.out.trans (Keep.of_below (onA _) hbn))
      obtain ⟨u0, t0⟩ := HC.out.some_ (j := k * 3) (by omega)
      have f0 := HC.out.free (j := k * 3) (by omega)
      obtain ⟨u1, t1⟩ := HC.out.some_ (j := k * 3 + 1) (by omega)
      have f1 := HC.out.free (j := k * 3 + 1) (by omega)
      obtain ⟨u2, t2⟩ := HC.out.some_ (j := k * 3 + 2) (by omega)
      have f2 := HC.out.free (j := k * 3 + 2) (by omega)
      clear hbn
      go_wp2
      go_roundw
      case rel =>
        refine ⟨k + 1, by omega, by go_num, by go_num, fun g' e _ => ?_, ?_⟩
        · obtain rfl := some_blk e
          exact ((HC.out.any (by omega) _).any (by omega) _).any (by omega) _
        · repeat' (first | (with_reducible exact HN.out) | (with_reducible refine Keep.setCell ?_ ?_ _))
          all_goals exact ⟨0, rfl⟩
      case measure => simp [intOf]; omega
    · have hkn : k = n := by omega
      go_wp2
      go_ret
      subst hkn
      exact ⟨_, rfl, by omega, by simp, HK.out⟩
set_option maxRecDepth 100000 in
set_option maxHeartbeats 4000000 in
theorem laws_markNetwork (base : Nat) (A B : Option Addr) (n c m d : Nat) (k0 : Int) (xs ys : List Value) (w : World) (hA : Wr base w A (n * 3) xs) (hB : Wr base w B (m * 5) ys) (hne : ∀ k, onA B k → ¬ onA A k) (hn : n ≤ 1048576) (hm : m ≤ 1048576) (h0 : 0 ≤ k0) (h1 : k0 ≤ 100000000000) :
    Calls Try.prog 20 #[netV A B n c m d, .int .i64 k0] w (MarkIn w (fun k => onA A k ∨ onA B k) k0 (n * 3 + m * 5)) := by
  have HA := Lib.hid hA
  have HB := Lib.hid hB
  have HE := Lib.hid hne
  clear hA hB hne
  go_enter Try.func20, Try.ntmps20
  go_wp2_with fail
  refine (laws_markNodeS base _ _ _ _ xs _ (HA.out.below (by (repeat' (first | (with_reducible exact Below.refl _ _) | (with_reducible assumption) | (with_reducible refine Below.alloc ?_ ?_ _) | (with_reducible refine Below.drew ?_) | (with_reducible refine Below.drewN' ?_ _) | (with_reducible refine Below.setCell ?_ ?_ _) | (refine Below.via ?_ (by with_reducible assumption) ?_) | (with_reducible refine Below.via ?_ (Wd.h _) ?_) | go_size)))) (by omega) (by omega) (by omega)).mono ?_
  rintro e w1 ⟨k1, rfl, hk1a, hk1b, hk1⟩
  have HB1 := Lib.hid ((HB.out.below (w' := World.alloc w _) (by (repeat' (first | (with_reducible exact Below.refl _ _) | (with_reducible assumption) | (with_reducible refine Below.alloc ?_ ?_ _) | (with_reducible refine Below.drew ?_) | (with_reducible refine Below.drewN' ?_ _) | (with_reducible refine Below.setCell ?_ ?_ _) | (refine Below.via ?_ (by with_reducible assumption) ?_) | (with_reducible refine Below.via ?_ (Wd.h _) ?_) | go_size)))).keep hk1 HE.out)
  have HK1 := Lib.hid hk1
  (have hz1 := hk1.size; (try simp at hz1); have Ncw0_0 := hk1.cell (w.heap.size) (0) (by first | omega | (simp; done) | (simp; omega)) (by intro hq; have := HA.out.hi _ hq; omega); have Nfw0_0 := hk1.frozen (w.heap.size) (0) (by first | omega | (simp; done) | (simp; omega)) (by intro hq; have := HA.out.hi _ hq; omega); have Nhy0 : w.heap.size < w1.heap.size := (by omega); have Ncw0_1 := hk1.cell (w.heap.size) (1) (by first | omega | (simp; done) | (simp; omega)) (by intro hq; have := HA.out.hi _ hq; omega); have Nfw0_1 := hk1.frozen (w.heap.size) (1) (by first | omega | (simp; done) | (simp; omega)) (by intro hq; have := HA.out.hi _ hq; omega); simp [go_sem] at Ncw0_0 Nfw0_0 Ncw0_1 Nfw0_1; have cw0_0 := Ncw0_0; have fw0_0 := Nfw0_0; have cw0_1 := Ncw0_1; have fw0_1 := Nfw0_1; have hy0 := Nhy0; clear Ncw0_0 Nfw0_0 Ncw0_1 Nfw0_1 Nhy0)
  clear hk1
  go_wp2_with fail
  refine (laws_markPipeS base _ _ _ _ ys _ HB1.out (by omega) (by omega) (by omega)).mono ?_
  rintro e w2 ⟨rfl, _, hk2⟩
  go_wp2
  go_ret
  exact ⟨_, rfl, by omega, by omega, ((Keep.of_below _ ((Below.refl _ _).alloc (Nat.le_refl _) _)).trans (HK1.out.mono fun _ h => .inl h)).trans (hk2.mono fun _ h => .inr h)⟩
end Go.Proofs.Ytijhadafmhbceaa

/- A drawn region that makes lists of numbers (each by one operation, or several by one call) and one box, which is written last: what holds while its operations come up. -/
import Derived.Test.YtijhadafmhbceaaHr
import Derived.Test.YtijhadafmhbceaaAp2
import Derived.Deep.RegionHeld3
import Derived.IntWalk
import Derived.Test.YtijhadafmhbceaaMk
import Derived.Test.YtijhadafmhbceaaNt3
import Derived.Laws.BytesArg
import Derived.Test.YtijhadafmhbceaaBf
import Derived.Test.YtijhadafmhbceaaHo
import Derived.Test.YtijhadafmhbceaaCp
import Derived.Deep.RegionLawGrows
import Derived.Deep.DeepCutAuto
import Derived.Test.YtijhadafmhbceaaRgo
import Derived.Test.YtijhadafmhbceaaTb
import Derived.Test.YtijhadafmhbceaaDr
namespace Go.Proofs.Ytijhadafmhbceaa
set_option linter.unusedVariables false
set_option linter.unusedSimpArgs false
open Go.RowKit
def outF : List Int → List Pp → List Int → List Int
  | acc, p :: ps, x :: xs => outF (addAt (addAt acc p.f.toNat x) p.t.toNat (-x)) ps xs
  | acc, _, _ => acc
theorem outF_len : ∀ (ps : List Pp) (xs acc : List Int), (outF acc ps xs).length = acc.length
  | [], _, acc => by simp [outF]
  | p :: ps, [], acc => by simp [outF]
  | p :: ps, x :: xs, acc => by rw [outF, outF_len ps xs, addAt_len, addAt_len]
def outL (N : Net) (fl : List Int) : List Int := outF (List.replicate N.nodes.length 0) N.pipes fl
theorem outL_len (N : Net) (fl : List Int) : (outL N fl).length = N.nodes.length := by rw [outL, outF_len]; simp
theorem outF_bd : ∀ (ps : List Pp) (xs acc : List Int) (b : Int), 0 ≤ b → (∀ y ∈ acc, -b ≤ y ∧ y ≤ b) → (∀ x ∈ xs, -30000 ≤ x ∧ x ≤ 30000) → ∀ y ∈ outF acc ps xs, -(b + ps.length * 60000) ≤ y ∧ y ≤ b + ps.length * 60000
  | [], _, acc, b, _, h, _ => by simpa [outF] using h
  | p :: ps, [], acc, b, hb, h, _ => by
    intro y hy
    have := h y (by simpa [outF] using hy)
    simp only [List.length_cons]; omega
  | p :: ps, x :: xs, acc, b, hb, h, hx => by
    intro y hy
    rw [outF] at hy
    have h1 := hx x (by simp)
    have h2 := addAt_bd (l := acc) (k := p.f.toNat) (x := x) (a := -30000) (b := 30000) h (by omega) (by omega) (by omega) (by omega)
    have h3 := addAt_bd (l := addAt acc p.f.toNat x) (k := p.t.toNat) (x := -x) (a := -30000) (b := 30000) h2 (by omega) (by omega) (by omega) (by omega)
    have := outF_bd ps xs _ (b + 60000) (by omega) (fun z hz => by have := h3 z hz; omega) (fun z hz => hx z (by simp [hz])) y hy
    simp only [List.length_cons]; omega
theorem outL_bd {N : Net} {fl : List Int} (hO : N.Ok) (h : ∀ x ∈ fl, -30000 ≤ x ∧ x ≤ 30000) : ∀ y ∈ outL N fl, -2400000 ≤ y ∧ y ≤ 2400000 := by
  intro y hy
  have := outF_bd N.pipes fl (List.replicate N.nodes.length 0) 0 (by omega) (fun z hz => by have := (List.mem_replicate.1 hz).2; omega) h y hy
  have := hO.p1
  omega
theorem outF_step {acc : List Int} {ps : List Pp} {xs : List Int} {k : Nat} {p : Pp} {x : Int} (hp : ps[k]? = some p) (hx : xs[k]? = some x) : outF acc (ps.drop k) (xs.drop k) = outF (addAt (addAt acc p.f.toNat x) p.t.toNat (-x)) (ps.drop (k + 1)) (xs.drop (k + 1)) := by
  rw [drop_consI hp, drop_consI hx, outF]
theorem outF_end {acc : List Int} {ps : List Pp} {xs : List Int} {k : Nat} (h : ¬ k < ps.length) : outF acc (ps.drop k) (xs.drop k) = acc := by
  rw [drop_endI h]; simp [outF]
def addS (s : Int) (a b : List Int) : List Int := List.zipWith (fun x y => x + s * y) a b
theorem addS_len {s : Int} {a b : List Int} (h : a.length ≤ b.length) : (addS s a b).length = a.length := by simp [addS]; omega
theorem addS_get {s : Int} {a b : List Int} {i : Nat} {x y : Int} (hx : a[i]? = some x) (hy : b[i]? = some y) : (addS s a b)[i]? = some (x + s * y) := by simp only [addS, List.getElem?_zipWith, hx, hy]
theorem addS_bd {s la ha lb hb : Int} {a b : List Int} (hs : s = 1 ∨ s = -1) (h1 : ∀ x ∈ a, la ≤ x ∧ x ≤ ha) (h2 : ∀ x ∈ b, -lb ≤ x ∧ x ≤ lb) (e : hb = lb) : ∀ y ∈ addS s a b, la - lb ≤ y ∧ y ≤ ha + lb := by
  intro y hy
  obtain ⟨i, hi⟩ := List.getElem?_of_mem hy
  simp only [addS, List.getElem?_zipWith] at hi
  cases ha' : a[i]? with
  | none => simp [ha'] at hi
  | some x =>
    cases hb' : b[i]? with
    | none => simp [ha', hb'] at hi
    | some z =>
      simp [ha', hb'] at hi
      have g1 := h1 x (List.mem_of_getElem? ha')
      have g2 := h2 z (List.mem_of_getElem? hb')
      rcases hs with rfl | rfl <;> omega
/-- what the nodes hold after an hour -/
def nextL (N : Net) (now su fl : List Int) : List Int := addS (-1) (addS 1 now su) (outL N fl)
theorem nextL_len {N : Net} {now su fl : List Int} (h1 : now.length = N.nodes.length) (h2 : su.length = N.nodes.length) : (nextL N now su fl).length = N.nodes.length := by
  rw [nextL, addS_len (by rw [addS_len (by omega), outL_len]; omega), addS_len (by omega)]; exact h1
theorem nextL_get {N : Net} {now su fl : List Int} {i : Nat} {a b c : Int} (h1 : now[i]? = some a) (h2 : su[i]? = some b) (h3 : (outL N fl)[i]? = some c) : (nextL N now su fl)[i]? = some (a + (b - c)) := by
  rw [nextL, addS_get (addS_get h1 h2) h3]; congr 1; omega
theorem pipe_ft {N : Net} (hO : N.Ok) {p : Pp} (hp : p ∈ N.pipes) : 0 ≤ p.f ∧ p.f ≤ (N.nodes.length : Int) - 1 ∧ 0 ≤ p.t ∧ p.t ≤ (N.nodes.length : Int) - 1 := by
  have := hO.pipes p hp
  simp only [pipeB, Bool.and_eq_true, inB_iff] at this
  omega
set_option maxRecDepth 100000 in
set_option maxHeartbeats 4000000 in
theorem impl_outflows (A B C : Option Addr) (n c m d e : Nat) (N : Net) (fl : List Int) (w : World) (hN : NetAt w A B N) (hn : n = N.nodes.length) (hm : m = N.pipes.length) (hO : N.Ok) (h : Rd w C (fl.map iV)) (hl : fl.length = N.pipes.length) (hb : ∀ x ∈ fl, -30000 ≤ x ∧ x ≤ 30000) :
    Calls Try.prog 79 #[netV A B n c m d, .slice C fl.length e] w (MadeL w 1 N.nodes.length ((outL N fl).map iV)) := by
  subst hn hm
  have HN := Lib.hid hN
  have HL := Lib.hid h
  have HO := Lib.hid hO
  have HB := Lib.hid hb
  have hla : fl.length ≤ N.pipes.length := by omega
  have hlb : N.pipes.length ≤ fl.length := by omega
  have hln := hO.n2
  have hlp := hO.p1
  clear hN h hO hb hl
  have hmk := make_i64 N.nodes.length (by omega)
  go_enter Try.func79, Try.ntmps79
  go_wp2
  have HA0 := Lib.hid (Arr.madeI (w.alloc (.cells #[.slice A N.nodes.length c, .slice B N.pipes.length d] 27)) N.nodes.length 2)
  clear hmk
  go_loopw [15] (fun v wr => ∃ (k : Nat) (acc : List Int), k ≤ N.pipes.length ∧ v = .int .i64 k ∧ acc.length = N.nodes.length ∧ (∀ y ∈ acc, -(k * 60000 : Int) ≤ y ∧ y ≤ (k * 60000 : Int)) ∧ outF acc (N.pipes.drop k) (fl.drop k) = outL N fl ∧ Arr wr (w.heap.size + 1) N.nodes.length (acc.map iV) ∧ Below w.heap.size w wr) (fun v _ => N.pipes.length - (intOf v).toNat)
  case atStart => exact ⟨0, List.replicate N.nodes.length 0, by omega, rfl, by simp, fun y hy => by have := (List.mem_replicate.1 hy).2; omega, by simp [outL], by simpa using HA0.out, by (repeat' (first | (with_reducible exact Below.refl _ _) | (with_reducible assumption) | (with_reducible refine Below.alloc ?_ ?_ _) | (with_reducible refine Below.drew ?_) | (with_reducible refine Below.drewN' ?_ _) | (with_reducible refine Below.setCell ?_ ?_ _) | (refine Below.via ?_ (by with_reducible assumption) ?_) | (with_reducible refine Below.via ?_ (Wd.h _) ?_) | go_size))⟩
  case round =>
    obtain ⟨k, acc, hk, rfl, hal, hbd, hF, hA, hbw⟩ := hrel
    have hbH := Lib.hid hbw
    have HF := Lib.hid hF
    have HA := Lib.hid hA
    have HBD := Lib.hid hbd
    have HAL := Lib.hid hal
    have hyA := hA.lt
    clear hF hA hbd hal
    by_cases hlt : k < N.pipes.length
    · obtain ⟨fv, hfv⟩ := get_some (show k < fl.length by omega)
      obtain ⟨b2, off2, rfl, hb2, hat2⟩ := HL.out.opened (k := k) (by simp; omega)
      have HP := Lib.hid HN.out.pipes
      obtain ⟨x, hx⟩ := get_some hlt; obtain ⟨bx, offx, rfl, hbx, hat⟩ := HP.out.opened (k := k) (by rw [flat_len Pp.len]; omega); have hat' := hat.below hbw hbx; have hybx : bx < wr.heap.size := Nat.lt_of_lt_of_le hbx hbw.size; have hzw := hbw.size; have t0 := hat'.elem0 Pp.len hx rfl; have t1 := hat'.elem Pp.len hx 1 rfl; have t2 := hat'.elem Pp.len hx 2 rfl; have t3 := hat'.elem Pp.len hx 3 rfl; have t4 := hat'.elem Pp.len hx 4 rfl; have HX := Lib.hid hx; have HD := Lib.hid (drop_cons hx); have gx : (k : Int) < _ := Int.ofNat_lt.2 hlt; clear hx hat hat'
      have t9 := ints_at (hat2.below hbw hb2) hfv
      have hyb2 : b2 < wr.heap.size := Nat.lt_of_lt_of_le hb2 hbw.size
      obtain ⟨f1, f2⟩ := HB.out fv (List.mem_of_getElem? hfv)
      obtain ⟨p1, p2, p3, p4⟩ := pipe_ft HO.out (List.mem_of_getElem? HX.out)
      have HST := Lib.hid (outF_step (acc := acc) HX.out hfv)
      clear hbw hfv hat2
      obtain ⟨xf, xt, xk, xv, xl⟩ := x
      dsimp only at t0 t1 t2 t3 t4 p1 p2 p3 p4
      obtain ⟨q, rfl⟩ : ∃ q : Nat, xf = q := ⟨xf.toNat, by omega⟩
      obtain ⟨r, rfl⟩ : ∃ r : Nat, xt = r := ⟨xt.toNat, by omega⟩
      obtain ⟨y, hy⟩ := get_some (l := acc) (k := q) (by rw [HAL.out]; omega)
      obtain ⟨y1, y2⟩ := HBD.out y (List.mem_of_getElem? hy)
      have HBD1 := Lib.hid (addAt_bd (l := acc) (k := q) (x := fv) (a := -30000) (b := 30000) HBD.out (by omega) (by omega) (by omega) (by omega))
      have HBD2 := Lib.hid (addAt_bd (l := addAt acc q fv) (k := r) (x := -fv) (a := -30000) (b := 30000) HBD1.out (by omega) (by omega) (by omega) (by omega))
      obtain ⟨z, hz⟩ := get_some (l := addAt acc q fv) (k := r) (by rw [addAt_len, HAL.out]; omega)
      obtain ⟨z1, z2⟩ := HBD1.out z (List.mem_of_getElem? hz)
      have HY := Lib.hid hy
      have HZ := Lib.hid hz
      have g4 : (q : Int) < N.nodes.length := by omega
      have g5 : (r : Int) < N.nodes.length := by omega
      have g6 : (k : Int) < fl.length := by omega
      clear hy hz
      go_wp2_with fail
      generalize hW : World.alloc wr _ = wq
      have hbq : Below wr.heap.size wr wq := by rw [← hW]; (repeat' (first | (with_reducible exact Below.refl _ _) | (with_reducible assumption) | (with_reducible refine Below.alloc ?_ ?_ _) | (with_reducible refine Below.drew ?_) | (with_reducible refine Below.drewN' ?_ _) | (with_reducible refine Below.setCell ?_ ?_ _) | (refine Below.via ?_ (by with_reducible assumption) ?_) | (with_reducible refine Below.via ?_ (Wd.h _) ?_) | go_size))
      have hzq : wr.heap.size < wq.heap.size := by rw [← hW]; simp
      have r0 : wq.cell? ⟨wr.heap.size, 0, none⟩ = some (.int .i64 q) := by rw [← hW]; simp
      have r1 : wq.cell? ⟨wr.heap.size, 1, none⟩ = some (.int .i64 r) := by rw [← hW]; simp
      have r9 := bc hbq hyb2 t9
      have HAq := Lib.hid (HA.out.below hbq (by omega))
      have s0' := ints_cell HAq.out HY.out
      clear hW t0 t1 t2 t3 t4 t9
      (have qk0 := Wd.cell (by first | assumption | omega | (simp; omega)) r0; have qk1 := Wd.cell (by first | assumption | omega | (simp; omega)) r1; have qk2 := Wd.cell (by first | assumption | omega | (simp; omega)) r9; have qk3 := Wd.cell (by first | assumption | omega | (simp; omega)) s0'; (refine wp_region_wd_tail 11 (by kernel_rfl) (by kernel_rfl) ?_; simp only [List.take_succ_cons, List.take_zero, List.drop_succ_cons, List.drop_zero]); (repeat (go_big_quiet_step ((first | fail)))); (refine wpQuiet_nil ?_); rintro wz ⟨⟨w'', hbwz⟩, hw''⟩; obtain rfl : wz = w'' := hw''; clear qk0 qk1 qk2 qk3; have hzwz := hbwz.size; (try simp at hzwz))
      have HAz := Lib.hid (HAq.out.below hbwz (by omega))
      have s0 := ints_cell HAz.out HY.out
      have s1 := HAz.out.free (j := q) (by omega)
      have v1 := bc hbwz (by omega) r1
      have v9 := bc hbwz (by omega) r9
      clear s0' r0 r1 r9
      go_wp2_with fail
      generalize hW : World.setCell wz _ _ = wy
      have HAy := Lib.hid (show Arr wy (w.heap.size + 1) N.nodes.length ((addAt acc q fv).map iV) from hW ▸ HAz.out.addAt HY.out (by omega))
      have hby : Below (w.heap.size + 1) wz wy := by rw [← hW]; exact (Below.refl (w.heap.size + 1) wz).setCell (show w.heap.size + 1 ≤ w.heap.size + 1 from Nat.le_refl _) _
      have hzy : wz.heap.size ≤ wy.heap.size := hby.size
      have u1 : wy.cell? ⟨wr.heap.size, 1, none⟩ = some (.int .i64 r) := by rw [← hW, World.cell?_setCell_other _ _ _ _ (by intro e; injection e; omega)]; exact v1
      have u9 : wy.cell? ⟨b2, off2 + k, none⟩ = some (.int .i64 fv) := by rw [← hW, World.cell?_setCell_other _ _ _ _ (by intro e; injection e; omega)]; exact v9
      have s2' := ints_cell HAy.out HZ.out
      clear hW s0 s1 v1 v9
      (have qk0 := Wd.cell (by first | assumption | omega | (simp; omega)) u1; have qk1 := Wd.cell (by first | assumption | omega | (simp; omega)) u9; have qk2 := Wd.cell (by first | assumption | omega | (simp; omega)) s2'; (refine wp_region_wd_tail 11 (by kernel_rfl) (by kernel_rfl) ?_; simp only [List.take_succ_cons, List.take_zero, List.drop_succ_cons, List.drop_zero]); (repeat (go_big_quiet_step ((first | fail)))); (refine wpQuiet_nil ?_); rintro wx ⟨⟨w'', hbwx⟩, hw''⟩; obtain rfl : wx = w'' := hw''; clear qk0 qk1 qk2; have hzwx := hbwx.size; (try simp at hzwx))
      have HAx := Lib.hid (HAy.out.below hbwx (by omega))
      have s2 := ints_cell HAx.out HZ.out
      have s3 := HAx.out.free (j := r) (by omega)
      clear s2' u1 u9
      go_wp2
      go_roundw
      case rel =>
        refine ⟨k + 1, addAt (addAt acc q fv) r (-fv), by omega, by go_num, by rw [addAt_len, addAt_len]; exact HAL.out, fun z hz => by have := HBD2.out z hz; omega, ?_, ?_, ?_⟩
        · rw [← HF.out, HST.out]; simp
        · have := HAx.out.addAt (x := -fv) HZ.out (by omega)
          rw [← Int.sub_eq_add_neg] at this
          exact this
        · have h1 := hbH.out
          have h2 : Below w.heap.size w wy := Below.via (show Below w.heap.size w wz by (repeat' (first | (with_reducible exact Below.refl _ _) | (with_reducible assumption) | (with_reducible refine Below.alloc ?_ ?_ _) | (with_reducible refine Below.drew ?_) | (with_reducible refine Below.drewN' ?_ _) | (with_reducible refine Below.setCell ?_ ?_ _) | (refine Below.via ?_ (by with_reducible assumption) ?_) | (with_reducible refine Below.via ?_ (Wd.h _) ?_) | go_size))) hby (by omega)
          exact (Below.via h2 hbwx (by omega)).setCell (by simp) _
      case measure => simp [intOf]; omega
    · clear hbw
      have HE := Lib.hid (show acc = outL N fl by rw [← HF.out, outF_end hlt])
      go_wp2
      go_ret
      rw [← HE.out]
      exact ⟨_, _, rfl, Nat.le_refl _, by simpa using Wr.of_arr (by omega) HA.out, hbH.out⟩
set_option maxRecDepth 100000 in
set_option maxHeartbeats 4000000 in
theorem spec_l05Out (A B C : Option Addr) (n c m d e : Nat) (N : Net) (fl : List Int) (w : World) (hN : NetAt w A B N) (hn : n = N.nodes.length) (hm : m = N.pipes.length) (hO : N.Ok) (h : Rd w C (fl.map iV)) (hl : fl.length = N.pipes.length) (hb : ∀ x ∈ fl, -30000 ≤ x ∧ x ≤ 30000) :
    Calls Try.prog 85 #[netV A B n c m d, .slice C fl.length e] w (MadeL w 1 N.nodes.length ((outL N fl).map iV)) := by
  subst hn hm
  have HN := Lib.hid hN
  have HL := Lib.hid h
  have HO := Lib.hid hO
  have HB := Lib.hid hb
  have hla : fl.length ≤ N.pipes.length := by omega
  have hlb : N.pipes.length ≤ fl.length := by omega
  have hln := hO.n2
  have hlp := hO.p1
  clear hN h hO hb hl
  have hmk := make_i64 N.nodes.length (by omega)
  go_enter Try.func85, Try.ntmps85
  go_wp2
  have HA0 := Lib.hid (Arr.madeI (w.alloc (.cells #[.slice A N.nodes.length c, .slice B N.pipes.length d] 27)) N.nodes.length 2)
  clear hmk
  go_loopw [6] (fun v wr => ∃ (k : Nat) (acc : List Int), k ≤ fl.length ∧ v = .int .i64 k ∧ acc.length = N.nodes.length ∧ (∀ y ∈ acc, -(k * 60000 : Int) ≤ y ∧ y ≤ (k * 60000 : Int)) ∧ outF acc (N.pipes.drop k) (fl.drop k) = outL N fl ∧ Arr wr (w.heap.size + 1) N.nodes.length (acc.map iV) ∧ Bx wr w.heap.size [.slice A N.nodes.length c, .slice B N.pipes.length d] ∧ Below w.heap.size w wr) (fun v _ => fl.length - (intOf v).toNat)
  case atStart => exact ⟨0, List.replicate N.nodes.length 0, by omega, rfl, by simp, fun y hy => by have := (List.mem_replicate.1 hy).2; omega, by simp [outL], by simpa using HA0.out, bx2 (by simp; omega) (by simp) (by simp) (by simp) (by simp), by (repeat' (first | (with_reducible exact Below.refl _ _) | (with_reducible assumption) | (with_reducible refine Below.alloc ?_ ?_ _) | (with_reducible refine Below.drew ?_) | (with_reducible refine Below.drewN' ?_ _) | (with_reducible refine Below.setCell ?_ ?_ _) | (refine Below.via ?_ (by with_reducible assumption) ?_) | (with_reducible refine Below.via ?_ (Wd.h _) ?_) | go_size))⟩
  case round =>
    obtain ⟨k, acc, hk, rfl, hal, hbd, hF, hA, hB, hbw⟩ := hrel
    have hbH := Lib.hid hbw
    have HF := Lib.hid hF
    have HA := Lib.hid hA
    have HBD := Lib.hid hbd
    have HAL := Lib.hid hal
    have HBX := Lib.hid hB
    have hyA := hA.lt
    have c1 := hB.cell 1 rfl
    clear hF hA hbd hal hB
    by_cases hlt : k < fl.length
    · obtain ⟨fv, hfv⟩ := get_some hlt
      obtain ⟨b2, off2, rfl, hb2, hat2⟩ := HL.out.opened (k := k) (by simp; omega)
      have HP := Lib.hid HN.out.pipes
      have hltf := hlt
      replace hlt : k < N.pipes.length := by omega
      obtain ⟨x, hx⟩ := get_some hlt; obtain ⟨bx, offx, rfl, hbx, hat⟩ := HP.out.opened (k := k) (by rw [flat_len Pp.len]; omega); have hat' := hat.below hbw hbx; have hybx : bx < wr.heap.size := Nat.lt_of_lt_of_le hbx hbw.size; have hzw := hbw.size; have t0 := hat'.elem0 Pp.len hx rfl; have t1 := hat'.elem Pp.len hx 1 rfl; have t2 := hat'.elem Pp.len hx 2 rfl; have t3 := hat'.elem Pp.len hx 3 rfl; have t4 := hat'.elem Pp.len hx 4 rfl; have HX := Lib.hid hx; have HD := Lib.hid (drop_cons hx); have gx : (k : Int) < _ := Int.ofNat_lt.2 hlt; clear hx hat hat'
      have t9 := ints_at (hat2.below hbw hb2) hfv
      have hyb2 : b2 < wr.heap.size := Nat.lt_of_lt_of_le hb2 hbw.size
      obtain ⟨f1, f2⟩ := HB.out fv (List.mem_of_getElem? hfv)
      obtain ⟨p1, p2, p3, p4⟩ := pipe_ft HO.out (List.mem_of_getElem? HX.out)
      have HST := Lib.hid (outF_step (acc := acc) HX.out hfv)
      clear hbw hfv hat2
      obtain ⟨xf, xt, xk, xv, xl⟩ := x
      dsimp only at t0 t1 t2 t3 t4 p1 p2 p3 p4
      obtain ⟨q, rfl⟩ : ∃ q : Nat, xf = q := ⟨xf.toNat, by omega⟩
      obtain ⟨r, rfl⟩ : ∃ r : Nat, xt = r := ⟨xt.toNat, by omega⟩
      obtain ⟨y, hy⟩ := get_some (l := acc) (k := q) (by rw [HAL.out]; omega)
      obtain ⟨y1, y2⟩ := HBD.out y (List.mem_of_getElem? hy)
      have HBD1 := Lib.hid (addAt_bd (l := acc) (k := q) (x := fv) (a := -30000) (b := 30000) HBD.out (by omega) (by omega) (by omega) (by omega))
      have HBD2 := Lib.hid (addAt_bd (l := addAt acc q fv) (k := r) (x := -fv) (a := -30000) (b := 30000) HBD1.out (by omega) (by omega) (by omega) (by omega))
      obtain ⟨z, hz⟩ := get_some (l := addAt acc q fv) (k := r) (by rw [addAt_len, HAL.out]; omega)
      obtain ⟨z1, z2⟩ := HBD1.out z (List.mem_of_getElem? hz)
      have HY := Lib.hid hy
      have HZ := Lib.hid hz
      have g4 : (q : Int) < N.nodes.length := by omega
      have g5 : (r : Int) < N.nodes.length := by omega
      have g6 : (k : Int) < fl.length := by omega
      have s0' := ints_cell HA.out hy
      clear hy hz
      go_wp2_with fail
      (have qk0 := Wd.cell (by first | assumption | omega | (simp; omega)) c1; have qk1 := Wd.cell (by first | assumption | omega | (simp; omega)) t0; have qk2 := Wd.cell (by first | assumption | omega | (simp; omega)) t1; have qk3 := Wd.cell (by first | assumption | omega | (simp; omega)) t9; have qk4 := Wd.cell (by first | assumption | omega | (simp; omega)) s0'; (refine wp_region_wd_tail 22 (by kernel_rfl) (by kernel_rfl) ?_; simp only [List.take_succ_cons, List.take_zero, List.drop_succ_cons, List.drop_zero]); (repeat (go_big_quiet_step ((first | fail)))); (refine wpQuiet_nil ?_); rintro wz ⟨⟨w'', hbwz⟩, hw''⟩; obtain rfl : wz = w'' := hw''; clear qk0 qk1 qk2 qk3 qk4; have hzwz := hbwz.size; (try simp at hzwz))
      have HAz := Lib.hid (HA.out.below hbwz (by omega))
      have s0 := ints_cell HAz.out HY.out
      have s1 := HAz.out.free (j := q) (by omega)
      have v1 := bc hbwz hybx t1
      have v9 := bc hbwz hyb2 t9
      have d1 := bc hbwz (by omega) c1
      have HBZ := Lib.hid (HBX.out.below hbwz (by omega))
      clear s0' t0 t1 t2 t3 t4 t9 c1
      go_wp2_with fail
      generalize hW : World.setCell wz _ _ = wy
      have HAy := Lib.hid (show Arr wy (w.heap.size + 1) N.nodes.length ((addAt acc q fv).map iV) from hW ▸ HAz.out.addAt HY.out (by omega))
      have hby : Below (w.heap.size + 1) wz wy := by rw [← hW]; exact (Below.refl (w.heap.size + 1) wz).setCell (show w.heap.size + 1 ≤ w.heap.size + 1 from Nat.le_refl _) _
      have hzy : wz.heap.size ≤ wy.heap.size := hby.size
      have u1 := bc hby (by omega) v1
      have u9 := bc hby (by omega) v9
      have e1 := bc hby (by omega) d1
      have HBY := Lib.hid (HBZ.out.below hby (by omega))
      have s2' := ints_cell HAy.out HZ.out
      clear hW s0 s1 v1 v9 d1
      (have qk0 := Wd.cell (by first | assumption | omega | (simp; omega)) e1; have qk1 := Wd.cell (by first | assumption | omega | (simp; omega)) u1; have qk2 := Wd.cell (by first | assumption | omega | (simp; omega)) u9; have qk3 := Wd.cell (by first | assumption | omega | (simp; omega)) s2'; (refine wp_region_wd_tail 22 (by kernel_rfl) (by kernel_rfl) ?_; simp only [List.take_succ_cons, List.take_zero, List.drop_succ_cons, List.drop_zero]); (repeat (go_big_quiet_step ((first | fail)))); (refine wpQuiet_nil ?_); rintro wx ⟨⟨w'', hbwx⟩, hw''⟩; obtain rfl : wx = w'' := hw''; clear qk0 qk1 qk2 qk3; have hzwx := hbwx.size; (try simp at hzwx))
      have HAx := Lib.hid (HAy.out.below hbwx (by omega))
      have s2 := ints_cell HAx.out HZ.out
      have s3 := HAx.out.free (j := r) (by omega)
      have HBw := Lib.hid (HBY.out.below hbwx (by omega))
      clear s2' u1 u9 e1
      go_wp2
      go_roundw
      case rel =>
        refine ⟨k + 1, addAt (addAt acc q fv) r (-fv), by omega, by go_num, by rw [addAt_len, addAt_len]; exact HAL.out, fun z hz => by have := HBD2.out z hz; omega, ?_, ?_, HBw.out.below (B := w.heap.size + 1) ((Below.refl _ _).setCell (by simp) _) (by omega), ?_⟩
        · rw [← HF.out, HST.out]; simp
        · have := HAx.out.addAt (x := -fv) HZ.out (by omega)
          rw [← Int.sub_eq_add_neg] at this
          exact this
        · have h1 := hbH.out
          have h2 : Below w.heap.size w wy := Below.via (show Below w.heap.size w wz by (repeat' (first | (with_reducible exact Below.refl _ _) | (with_reducible assumption) | (with_reducible refine Below.alloc ?_ ?_ _) | (with_reducible refine Below.drew ?_) | (with_reducible refine Below.drewN' ?_ _) | (with_reducible refine Below.setCell ?_ ?_ _) | (refine Below.via ?_ (by with_reducible assumption) ?_) | (with_reducible refine Below.via ?_ (Wd.h _) ?_) | go_size))) hby (by omega)
          exact (Below.via h2 hbwx (by omega)).setCell (by simp) _
      case measure => simp [intOf]; omega
    · clear hbw
      have HE := Lib.hid (show acc = outL N fl by rw [← HF.out, outF_end (by omega)])
      go_wp2
      go_ret
      rw [← HE.out]
      exact ⟨_, _, rfl, Nat.le_refl _, by simpa using Wr.of_arr (by omega) HA.out, hbH.out⟩
set_option maxRecDepth 100000 in
set_option maxHeartbeats 4000000 in
theorem spec_l05Add (A B : Option Addr) (c d : Nat) (la lb : List Int) (s : Int) (w : World) (hA : Rd w A (la.map iV)) (hB : Rd w B (lb.map iV)) (hl : la.length ≤ lb.length) (hm : lb.length ≤ 1048576) (h1 : ∀ x ∈ la, -1000000000000 ≤ x ∧ x ≤ 1000000000000) (h2 : ∀ x ∈ lb, -1000000000000 ≤ s * x ∧ s * x ≤ 1000000000000) :
    Calls Try.prog 84 #[.slice A la.length c, .slice B lb.length d, .int .i64 s] w (MadeL w 1 la.length ((addS s la lb).map iV)) := by
  have HA := Lib.hid hA
  have HB := Lib.hid hB
  have H1 := Lib.hid h1
  have H2 := Lib.hid h2
  clear hA hB h1 h2
  go_enter Try.func84, Try.ntmps84
  go_wp2
  go_loopw [7, 8] (fun u v wr => ∃ (k : Nat), k ≤ la.length ∧ v = .int .i64 k ∧ Own wr w.heap.size 2 1 u k (((addS s la lb).take k).map iV) ∧ Below w.heap.size w wr) (fun _ v _ => la.length - (intOf v).toNat)
  case atStart => exact ⟨0, by omega, rfl, by simpa using Own.lit0 w w.heap.size 2 1 (Nat.le_refl _), by (repeat' (first | (with_reducible exact Below.refl _ _) | (with_reducible assumption) | (with_reducible refine Below.alloc ?_ ?_ _) | (with_reducible refine Below.drew ?_) | (with_reducible refine Below.drewN' ?_ _) | (with_reducible refine Below.setCell ?_ ?_ _) | (refine Below.via ?_ (by with_reducible assumption) ?_) | (with_reducible refine Below.via ?_ (Wd.h _) ?_) | go_size))⟩
  case round =>
    obtain ⟨k, hk, rfl, hO, hbw⟩ := hrel
    have hbH := Lib.hid hbw
    have HOW := Lib.hid hO
    have hzw := hbw.size
    clear hO
    by_cases hlt : k < la.length
    · obtain ⟨x, hx⟩ := get_some hlt
      obtain ⟨y, hy⟩ := get_some (show k < lb.length by omega)
      obtain ⟨ba, oa, rfl, hba, hata⟩ := HA.out.opened (k := k) (by simpa using hlt)
      obtain ⟨bb, ob, rfl, hbb, hatb⟩ := HB.out.opened (k := k) (by simp; omega)
      have t0 := ints_at (hata.below hbw hba) hx
      have t1 := ints_at (hatb.below hbw hbb) hy
      have hya : ba < wr.heap.size := by omega
      have hyb : bb < wr.heap.size := by omega
      obtain ⟨x1, x2⟩ := H1.out x (List.mem_of_getElem? hx)
      obtain ⟨y1, y2⟩ := H2.out y (List.mem_of_getElem? hy)
      have HG := Lib.hid (addS_get (s := s) hx hy)
      have g1 : (k : Int) < la.length := by omega
      have g2 : (k : Int) < lb.length := by omega
      clear hx hy hata hatb hbw
      go_wp2_with fail
      have z1 : IntKind.i64.wrap (s * y) = s * y := IntWalk.i64_in _ (by omega)
      have z2 : IntKind.i64.wrap (x + s * y) = x + s * y := IntWalk.i64_in _ (by omega)
      go_region_held3 (fun w' => w'.cell? ⟨ba, oa + k, none⟩ = some (.int .i64 x) ∧ w'.cell? ⟨bb, ob + k, none⟩ = some (.int .i64 y))
        (first | exact ⟨t0, t1⟩ | go_keep | exact ⟨bc hb1 hba (by simp [go_sem, t0, hya]), bc hb1 hbb (by simp [go_sem, t1, hyb])⟩)
        (first
          | (apply step_of rfl; apply app1x (s := .tmp 16) (x := .tmp 28) (t := 28) (base := w.heap.size) (hinfo := info_i64) (v := u7) (n := k) (xs := ((addS s la lb).take k).map iV) (news := [iV (x + s * y)]) (m := 1) (c := 1); (case ho => exact rfl); (case ht => exact Try.underlying28); (case hzs => exact rfl); (case hsz => decide); (case hby => decide); (case hs => exact rfl); (case hown => repeat' (first | (with_reducible exact HOW.out) | (with_reducible refine Own.alloc ?_ _) | (with_reducible refine Own.drew ?_))); (case hx => exact rfl); (case hl => exact rfl); (case hnews => (intro j u hu; match j, hu with | 0, hu => (simp at hu; subst hu; simp) | j + 1, hu => simp at hu)); (case h1 => simp [Value.oneCell']); (case hm => decide); (case hn => (clear z1 z2; omega)); (case hbase => (clear z1 z2; first | omega | (simp; omega))); intro v1 w1 hO1 hb1 hF1; have HO1 := Lib.hid hO1; clear hO1))
      all_goals
        clear z1 z2
        go_wp2
        go_roundw
        case rel =>
          refine ⟨k + 1, by omega, by go_num, by rw [ints_snoc HG.out]; exact HO1.out, ?_⟩
          have h1 := hbH.out
          (repeat' (first | (with_reducible exact Below.refl _ _) | (with_reducible assumption) | (with_reducible refine Below.alloc ?_ ?_ _) | (with_reducible refine Below.drew ?_) | (with_reducible refine Below.drewN' ?_ _) | (with_reducible refine Below.setCell ?_ ?_ _) | (refine Below.via ?_ (by with_reducible assumption) ?_) | (with_reducible refine Below.via ?_ (Wd.h _) ?_) | go_size))
        case measure => simp [intOf]; omega
    · obtain rfl : k = la.length := by omega
      clear hbw
      have hne : ¬ la.length < la.length := by omega
      go_wp2
      go_ret
      obtain ⟨B1, cc, rfl, hnc, hw⟩ := HOW.out.lt_
      rw [List.take_of_length_le (by rw [addS_len hl]; omega)] at hw
      exact ⟨B1, cc, rfl, hnc, hw, hbH.out⟩
end Go.Proofs.Ytijhadafmhbceaa
namespace Go.Proofs.Ytijhadafmhbceaa
set_option linter.unusedVariables false
set_option linter.unusedSimpArgs false
open Go.RowKit
theorem cur_get {nx ln : List Int} {k : Nat} {a : Int} (hk : k ≤ nx.length) (h : ln[k]? = some a) : (nx.take k ++ ln.drop k)[k]? = some a := by
  rw [List.getElem?_append_right (by simp; omega)]
  simp only [List.length_take, List.getElem?_drop]
  rw [show k + (k - min k nx.length) = k by omega]; exact h
theorem cur_step {nx ln : List Int} {k : Nat} {b : Int} (hk : k < nx.length) (hl : nx.length = ln.length) (h : nx[k]? = some b) : (nx.take k ++ ln.drop k).set k b = nx.take (k + 1) ++ ln.drop (k + 1) := by
  obtain ⟨h1, rfl⟩ := List.getElem?_eq_some_iff.1 h
  rw [List.set_append_right _ _ (by simp; omega)]
  have e : k - (nx.take k).length = 0 := by simp; omega
  rw [e, List.drop_eq_getElem_cons (show k < ln.length by omega), List.set_cons_zero, List.take_succ_eq_append_getElem h1, List.append_assoc]; rfl
theorem buf_now {n : Nat} {ll lh ln : List Int} (h : BufOk n ll lh ln) : ∀ y ∈ ln, 0 ≤ y ∧ y ≤ 1000000000 := by
  intro y hy
  obtain ⟨i, hi⟩ := List.getElem?_of_mem hy
  have hlt := (List.getElem?_eq_some_iff.1 hi).1
  obtain ⟨a, ha⟩ := get_some (l := ll) (k := i) (by rw [h.l1, ← h.l3]; exact hlt)
  obtain ⟨b, hb⟩ := get_some (l := lh) (k := i) (by rw [h.l2, ← h.l3]; exact hlt)
  have := h.el i a b y ha hb hi
  omega
set_option maxRecDepth 100000 in
set_option maxHeartbeats 4000000 in
theorem impl_contentAfter (A B Al Ah An : Option Addr) (n c m d nl nh nn cl ch cn : Nat) (N : Net) (ln : List Int) (x : Hr) (w : World) (hN : NetAt w A B N) (hn : n = N.nodes.length) (hm : m = N.pipes.length) (hO : N.Ok) (h : Rd w An (ln.map iV)) (e3 : nn = ln.length) (hat : HrAt w x) (hx : hrB N.pipes.length N.nodes.length x = true) (hl : ln.length = N.nodes.length) (hnow : ∀ y ∈ ln, 0 ≤ y ∧ y ≤ 1000000000) :
    Calls Try.prog 57 #[netV A B n c m d, bufV Al Ah An nl nh nn cl ch cn, x.val] w (MadeL w 1 ln.length ((nextL N ln x.su x.fl).map iV)) := by
  subst hn hm e3
  have HN := Lib.hid hN
  have HR := Lib.hid h
  have HA := Lib.hid hat
  have HX := Lib.hid (hrB_of hx)
  have HO := Lib.hid hO
  have HNW := Lib.hid hnow
  have HL := Lib.hid hl
  have hln := hO.n2
  have hn1 := hO.n1
  have hsu := (hrB_of hx).2.1
  have HSU := Lib.hid hsu
  clear hN h hat hx hO hnow
  obtain ⟨nx, hnx⟩ : ∃ nx, nx = nextL N ln x.su x.fl := ⟨_, rfl⟩
  have HNX := Lib.hid hnx
  have hnl : nx.length = ln.length := by rw [hnx, nextL_len hl hsu, hl]
  have HNL := Lib.hid hnl
  have l1 : ln.length ≤ N.nodes.length := by omega
  have l2 : N.nodes.length ≤ ln.length := by omega
  have l3 : nx.length ≤ ln.length := by omega
  have l4 : ln.length ≤ nx.length := by omega
  clear hnx hsu hnl hl
  go_enter Try.func57, Try.ntmps57
  go_wp2_with fail
  
  refine (slices_CloneI _ _ ln _ (HR.out.below (by (repeat' (first | (with_reducible exact Below.refl _ _) | (with_reducible assumption) | (with_reducible refine Below.alloc ?_ ?_ _) | (with_reducible refine Below.drew ?_) | (with_reducible refine Below.drewN' ?_ _) | (with_reducible refine Below.setCell ?_ ?_ _) | (refine Below.via ?_ (by with_reducible assumption) ?_) | (with_reducible refine Below.via ?_ (Wd.h _) ?_) | go_size)))) (by omega)).mono ?_
  rintro e w1 ⟨G, c1, rfl, hc1, hW1, hb1⟩
  obtain ⟨g, rfl, hg, ha⟩ := hW1.2.1 (by omega)
  (try simp at hg)
  rw [Nat.mul_one] at ha
  have HA1 := Lib.hid ha
  have hg1 := ha.lt
  clear hW1 ha
  (obtain ⟨hcn, hfn⟩ := bcell hb1; have hz1 := hb1.size; (try simp at hz1); have Ncw0_0 := hcn (w.heap.size) (0) (by first | omega | (simp; done) | (simp; omega)); have Nfw0_0 := hfn (w.heap.size) (0) (by first | omega | (simp; done) | (simp; omega)); have Nhy0 : w.heap.size < w1.heap.size := (by omega); have Ncw0_1 := hcn (w.heap.size) (1) (by first | omega | (simp; done) | (simp; omega)); have Nfw0_1 := hfn (w.heap.size) (1) (by first | omega | (simp; done) | (simp; omega)); have Ncw1_0 := hcn (w.heap.size + 1) (0) (by first | omega | (simp; done) | (simp; omega)); have Nfw1_0 := hfn (w.heap.size + 1) (0) (by first | omega | (simp; done) | (simp; omega)); have Nhy1 : w.heap.size + 1 < w1.heap.size := (by omega); have Ncw1_1 := hcn (w.heap.size + 1) (1) (by first | omega | (simp; done) | (simp; omega)); have Nfw1_1 := hfn (w.heap.size + 1) (1) (by first | omega | (simp; done) | (simp; omega)); have Ncw1_2 := hcn (w.heap.size + 1) (2) (by first | omega | (simp; done) | (simp; omega)); have Nfw1_2 := hfn (w.heap.size + 1) (2) (by first | omega | (simp; done) | (simp; omega)); have Ncw2_0 := hcn (w.heap.size + 2) (0) (by first | omega | (simp; done) | (simp; omega)); have Nfw2_0 := hfn (w.heap.size + 2) (0) (by first | omega | (simp; done) | (simp; omega)); have Nhy2 : w.heap.size + 2 < w1.heap.size := (by omega); have Ncw2_1 := hcn (w.heap.size + 2) (1) (by first | omega | (simp; done) | (simp; omega)); have Nfw2_1 := hfn (w.heap.size + 2) (1) (by first | omega | (simp; done) | (simp; omega)); simp [go_sem] at Ncw0_0 Nfw0_0 Ncw0_1 Nfw0_1 Ncw1_0 Nfw1_0 Ncw1_1 Nfw1_1 Ncw1_2 Nfw1_2 Ncw2_0 Nfw2_0 Ncw2_1 Nfw2_1; clear hcn hfn; have cw0_0 := Ncw0_0; have fw0_0 := Nfw0_0; have cw0_1 := Ncw0_1; have fw0_1 := Nfw0_1; have cw1_0 := Ncw1_0; have fw1_0 := Nfw1_0; have cw1_1 := Ncw1_1; have fw1_1 := Nfw1_1; have cw1_2 := Ncw1_2; have fw1_2 := Nfw1_2; have cw2_0 := Ncw2_0; have fw2_0 := Nfw2_0; have cw2_1 := Ncw2_1; have fw2_1 := Nfw2_1; have hy0 := Nhy0; have hy1 := Nhy1; have hy2 := Nhy2; clear Ncw0_0 Nfw0_0 Ncw0_1 Nfw0_1 Ncw1_0 Nfw1_0 Ncw1_1 Nfw1_1 Ncw1_2 Nfw1_2 Ncw2_0 Nfw2_0 Ncw2_1 Nfw2_1 Nhy0 Nhy1 Nhy2)
  go_wp2_with fail
  refine (impl_outflows _ _ _ _ _ _ _ _ N x.fl _ (HN.out.below (by (repeat' (first | (with_reducible exact Below.refl _ _) | (with_reducible assumption) | (with_reducible refine Below.alloc ?_ ?_ _) | (with_reducible refine Below.drew ?_) | (with_reducible refine Below.drewN' ?_ _) | (with_reducible refine Below.setCell ?_ ?_ _) | (refine Below.via ?_ (by with_reducible assumption) ?_) | (with_reducible refine Below.via ?_ (Wd.h _) ?_) | go_size)))) rfl rfl HO.out (HA.out.r1.below (by (repeat' (first | (with_reducible exact Below.refl _ _) | (with_reducible assumption) | (with_reducible refine Below.alloc ?_ ?_ _) | (with_reducible refine Below.drew ?_) | (with_reducible refine Below.drewN' ?_ _) | (with_reducible refine Below.setCell ?_ ?_ _) | (refine Below.via ?_ (by with_reducible assumption) ?_) | (with_reducible refine Below.via ?_ (Wd.h _) ?_) | go_size)))) HX.out.1.1 HX.out.1.2).mono ?_
  rintro e w2 ⟨O, c2, rfl, hc2, hW2, hb2⟩
  have HW2 := Lib.hid hW2
  clear hW2
  (obtain ⟨hcn, hfn⟩ := bcell hb2; have hz2 := hb2.size; (try simp at hz2); have Ncw0_0 := hcn (w.heap.size) (0) (by first | omega | (simp; done) | (simp; omega)); have Nfw0_0 := hfn (w.heap.size) (0) (by first | omega | (simp; done) | (simp; omega)); have Nhy0 : w.heap.size < w2.heap.size := (by omega); have Ncw0_1 := hcn (w.heap.size) (1) (by first | omega | (simp; done) | (simp; omega)); have Nfw0_1 := hfn (w.heap.size) (1) (by first | omega | (simp; done) | (simp; omega)); have Ncw1_0 := hcn (w.heap.size + 1) (0) (by first | omega | (simp; done) | (simp; omega)); have Nfw1_0 := hfn (w.heap.size + 1) (0) (by first | omega | (simp; done) | (simp; omega)); have Nhy1 : w.heap.size + 1 < w2.heap.size := (by omega); have Ncw1_1 := hcn (w.heap.size + 1) (1) (by first | omega | (simp; done) | (simp; omega)); have Nfw1_1 := hfn (w.heap.size + 1) (1) (by first | omega | (simp; done) | (simp; omega)); have Ncw1_2 := hcn (w.heap.size + 1) (2) (by first | omega | (simp; done) | (simp; omega)); have Nfw1_2 := hfn (w.heap.size + 1) (2) (by first | omega | (simp; done) | (simp; omega)); have Ncw2_0 := hcn (w.heap.size + 2) (0) (by first | omega | (simp; done) | (simp; omega)); have Nfw2_0 := hfn (w.heap.size + 2) (0) (by first | omega | (simp; done) | (simp; omega)); have Nhy2 : w.heap.size + 2 < w2.heap.size := (by omega); have Ncw2_1 := hcn (w.heap.size + 2) (1) (by first | omega | (simp; done) | (simp; omega)); have Nfw2_1 := hfn (w.heap.size + 2) (1) (by first | omega | (simp; done) | (simp; omega)); simp [go_sem, cw0_0, fw0_0, cw0_1, fw0_1, cw1_0, fw1_0, cw1_1, fw1_1, cw1_2, fw1_2, cw2_0, fw2_0, cw2_1, fw2_1, hy0, hy1, hy2] at Ncw0_0 Nfw0_0 Ncw0_1 Nfw0_1 Ncw1_0 Nfw1_0 Ncw1_1 Nfw1_1 Ncw1_2 Nfw1_2 Ncw2_0 Nfw2_0 Ncw2_1 Nfw2_1; clear cw0_0 fw0_0 cw0_1 fw0_1 cw1_0 fw1_0 cw1_1 fw1_1 cw1_2 fw1_2 cw2_0 fw2_0 cw2_1 fw2_1 hy0 hy1 hy2; clear hcn hfn; have cw0_0 := Ncw0_0; have fw0_0 := Nfw0_0; have cw0_1 := Ncw0_1; have fw0_1 := Nfw0_1; have cw1_0 := Ncw1_0; have fw1_0 := Nfw1_0; have cw1_1 := Ncw1_1; have fw1_1 := Nfw1_1; have cw1_2 := Ncw1_2; have fw1_2 := Nfw1_2; have cw2_0 := Ncw2_0; have fw2_0 := Nfw2_0; have cw2_1 := Ncw2_1; have fw2_1 := Nfw2_1; have hy0 := Nhy0; have hy1 := Nhy1; have hy2 := Nhy2; clear Ncw0_0 Nfw0_0 Ncw0_1 Nfw0_1 Ncw1_0 Nfw1_0 Ncw1_1 Nfw1_1 Ncw1_2 Nfw1_2 Ncw2_0 Nfw2_0 Ncw2_1 Nfw2_1 Nhy0 Nhy1 Nhy2)
  have HA2 := Lib.hid (HA1.out.below hb2 hg1)
  have HB2 := Lib.hid (show Below w.heap.size w w2 by (repeat' (first | (with_reducible exact Below.refl _ _) | (with_reducible assumption) | (with_reducible refine Below.alloc ?_ ?_ _) | (with_reducible refine Below.drew ?_) | (with_reducible refine Below.drewN' ?_ _) | (with_reducible refine Below.setCell ?_ ?_ _) | (refine Below.via ?_ (by with_reducible assumption) ?_) | (with_reducible refine Below.via ?_ (Wd.h _) ?_) | go_size)))
  have HS2 := Lib.hid (HA.out.r2.below HB2.out)
  have C21 := Lib.hid cw2_1
  clear hy0 cw0_0 fw0_0 cw0_1 fw0_1
  clear hy1 cw1_0 fw1_0 cw1_1 fw1_1 cw1_2 fw1_2
  clear hb1 hb2 cw2_0 cw2_1 fw2_0 fw2_1
  go_wp2_with fail
  go_loopw [18] (fun v wr => ∃ (k : Nat), k ≤ N.nodes.length ∧ v = .int .i64 k ∧ Arr wr g ln.length ((nx.take k ++ ln.drop k).map iV) ∧ Keep (· = g) w2 wr) (fun v _ => N.nodes.length - (intOf v).toNat)
  case atStart => exact ⟨0, by omega, rfl, by simpa using HA2.out, Keep.refl _ _⟩
  case round =>
    obtain ⟨k, hk, rfl, hAr, hK⟩ := hrel
    have HAr := Lib.hid hAr
    have HK := Lib.hid hK
    have hzr := hK.size
    have hgr := hAr.lt
    clear hAr hK
    by_cases hlt : k < N.nodes.length
    · obtain ⟨a, ha⟩ := get_some (show k < ln.length by omega)
      obtain ⟨b, hb⟩ := get_some (show k < x.su.length by rw [HSU.out]; omega)
      obtain ⟨o, ho⟩ := get_some (show k < (outL N x.fl).length by rw [outL_len]; omega)
      obtain ⟨bo, oo, rfl, hbo, hato⟩ := HW2.out.rd.opened (k := k) (by rw [List.length_map, outL_len]; omega)
      have hlo := HW2.out.lo bo ⟨oo, rfl⟩
      obtain ⟨bs, os, hxB, hbs, hats⟩ := HS2.out.opened (k := k) (by rw [List.length_map, HSU.out]; omega)
      obtain ⟨bs', os', hxB', hbs', _⟩ := HA.out.r2.opened (k := k) (by rw [List.length_map, HSU.out]; omega)
      obtain rfl : bs' = bs := by rw [hxB] at hxB'; injection hxB' with q; injection q with q1 q2; exact q1.symm
      have t0 := (HK.out.cell bo (oo + k) hbo (by omega)).trans (ints_at hato ho)
      have t1 := (HK.out.cell bs' (os + k) hbs (by omega)).trans (ints_at hats hb)
      have t2 := ints_cell HAr.out (cur_get (by omega) ha)
      have t3 := (HK.out.cell (w.heap.size + 2) 1 (by omega) (by omega)).trans C21.out
      rw [hxB] at t3
      have yo : bo < wr.heap.size := by omega
      have ys : bs' < wr.heap.size := by omega
      obtain ⟨a1, a2⟩ := HNW.out a (List.mem_of_getElem? ha)
      obtain ⟨b1, b2⟩ := HX.out.2.2 b (List.mem_of_getElem? hb)
      obtain ⟨o1, o2⟩ := outL_bd HO.out HX.out.1.2 o (List.mem_of_getElem? ho)
      have HG := Lib.hid (show nx[k]? = some (a + (b - o)) by rw [HNX.out]; exact nextL_get ha hb ho)
      have g1 : (k : Int) < ln.length := by omega
      have g2 : (k : Int) < x.su.length := by have := HSU.out; omega
      have g3 : (k : Int) < N.nodes.length := by omega
      clear ha hb ho hato hats hxB hxB' hbs hbs' hbo
      go_wp2_with fail
      (have qk0 := Wd.cell (by first | assumption | omega | (simp; omega)) t1; have qk1 := Wd.cell (by first | assumption | omega | (simp; omega)) t2; have qk2 := Wd.cell (by first | assumption | omega | (simp; omega)) t3; (refine wp_region_wd_tail 13 (by kernel_rfl) (by kernel_rfl) ?_; simp only [List.take_succ_cons, List.take_zero, List.drop_succ_cons, List.drop_zero]); (repeat (go_big_quiet_step ((first | fail)))); (refine wpQuiet_nil ?_); rintro wz ⟨⟨w'', hbwz⟩, hw''⟩; obtain rfl : wz = w'' := hw''; clear qk0 qk1 qk2; have hzwz := hbwz.size; (try simp at hzwz))
      have HAz := Lib.hid (HAr.out.below hbwz hgr)
      have s0 := bc hbwz hgr t2
      have s1 := HAz.out.free (j := k) (by omega)
      clear t0 t1 t2 t3
      go_wp2
      go_roundw
      case rel =>
        refine ⟨k + 1, by omega, by go_num, ?_, (HK.out.via hbwz).setCell rfl _⟩
        rw [← cur_step (by omega) HNL.out HG.out, map_set_iV]
        exact HAz.out.setAt (by omega) _
      case measure => simp [intOf]; omega
    · obtain rfl : k = N.nodes.length := by omega
      have hne : ¬ N.nodes.length < N.nodes.length := by omega
      go_wp2
      go_ret
      have hf := HAr.out
      rw [List.take_of_length_le (by omega), List.drop_eq_nil_of_le (by omega), List.append_nil] at hf
      refine ⟨_, c1, rfl, hc1, ?_, HK.out.below HB2.out (by omega) (fun q hq => by omega)⟩
      rw [← HNX.out, Nat.mul_one]
      exact Wr.of_arr (by omega) hf
theorem spec_l05Add' (A B : Option Addr) (c d na nb : Nat) (la lb : List Int) (s : Int) (w : World) (hA : Rd w A (la.map iV)) (hB : Rd w B (lb.map iV)) (ea : la.length = na) (eb : lb.length = nb) (hl : na ≤ nb) (hm : nb ≤ 1048576) (h1 : ∀ x ∈ la, -1000000000000 ≤ x ∧ x ≤ 1000000000000) (h2 : ∀ x ∈ lb, -1000000000000 ≤ s * x ∧ s * x ≤ 1000000000000) :
    Calls Try.prog 84 #[.slice A na c, .slice B nb d, .int .i64 s] w (MadeL w 1 na ((addS s la lb).map iV)) := by
  subst ea eb
  exact spec_l05Add A B c d la lb s w hA hB hl hm h1 h2
set_option maxRecDepth 100000 in
set_option maxHeartbeats 4000000 in
theorem spec_l19Next (A B An : Option Addr) (n c m d nn cn : Nat) (N : Net) (ln : List Int) (x : Hr) (w : World) (hN : NetAt w A B N) (hn : n = N.nodes.length) (hm : m = N.pipes.length) (hO : N.Ok) (h : Rd w An (ln.map iV)) (e3 : nn = ln.length) (hat : HrAt w x) (hx : hrB N.pipes.length N.nodes.length x = true) (hl : ln.length = N.nodes.length) (hnow : ∀ y ∈ ln, 0 ≤ y ∧ y ≤ 1000000000) :
    Calls Try.prog 63 #[netV A B n c m d, .slice An nn cn, x.val] w (MadeL w 1 ln.length ((nextL N ln x.su x.fl).map iV)) := by
  subst hn hm e3
  have HN := Lib.hid hN
  have HR := Lib.hid h
  have HA := Lib.hid hat
  have HX := Lib.hid (hrB_of hx)
  have HO := Lib.hid hO
  have HNW := Lib.hid hnow
  have hln := hO.n2
  have hsu := (hrB_of hx).2.1
  have q2 := hat.s2
  have HB1 := Lib.hid (show ∀ y ∈ ln, -1000000000000 ≤ y ∧ y ≤ 1000000000000 from fun y hy => by have := hnow y hy; omega)
  have HB2 := Lib.hid (show ∀ y ∈ x.su, -1000000000000 ≤ 1 * y ∧ 1 * y ≤ 1000000000000 from fun y hy => by have := HX.out.2.2 y hy; omega)
  have HB3 := Lib.hid (show ∀ y ∈ addS 1 ln x.su, -1000000000000 ≤ y ∧ y ≤ 1000000000000 from fun y hy => by have := addS_bd (s := 1) (la := 0) (ha := 1000000000) (lb := 30000) (hb := 30000) (.inl rfl) hnow HX.out.2.2 rfl y hy; omega)
  have HB4 := Lib.hid (show ∀ y ∈ outL N x.fl, -1000000000000 ≤ -1 * y ∧ -1 * y ≤ 1000000000000 from fun y hy => by have := outL_bd HO.out HX.out.1.2 y hy; omega)
  have HL1 := Lib.hid (addS_len (s := 1) (a := ln) (b := x.su) (by omega))
  have HL2 := Lib.hid (outL_len N x.fl)
  have HSU := Lib.hid hsu
  have l1 : ln.length ≤ N.nodes.length := by omega
  have l2 : N.nodes.length ≤ ln.length := by omega
  have l3 : x.su.length ≤ N.nodes.length := by omega
  have l4 : N.nodes.length ≤ x.su.length := by omega
  clear hN h hat hx hO hnow hsu hl
  go_enter Try.func63, Try.ntmps63
  go_wp2_with fail
  
  generalize hW : World.alloc _ _ = wb
  have hbb : Below w.heap.size w wb := by rw [← hW]; (repeat' (first | (with_reducible exact Below.refl _ _) | (with_reducible assumption) | (with_reducible refine Below.alloc ?_ ?_ _) | (with_reducible refine Below.drew ?_) | (with_reducible refine Below.drewN' ?_ _) | (with_reducible refine Below.setCell ?_ ?_ _) | (refine Below.via ?_ (by with_reducible assumption) ?_) | (with_reducible refine Below.via ?_ (Wd.h _) ?_) | go_size))
  have k0 : wb.cell? ⟨w.heap.size, 0, none⟩ = some (.slice A N.nodes.length c) := by rw [← hW]; simp
  have k1 : wb.cell? ⟨w.heap.size, 1, none⟩ = some (.slice B N.pipes.length d) := by rw [← hW]; simp
  have k2 : wb.cell? ⟨w.heap.size + 1, 0, none⟩ = some (.slice x.A x.fl.length x.c) := by rw [← hW]; simp
  have k3 : wb.cell? ⟨w.heap.size + 1, 1, none⟩ = some (.slice x.B x.su.length x.d) := by rw [← hW]; simp
  have hzb : w.heap.size + 2 ≤ wb.heap.size := by rw [← hW]; simp
  clear hW
  go_region_held3 (fun w' => w'.cell? ⟨w.heap.size, 0, none⟩ = some (.slice A N.nodes.length c) ∧ w'.cell? ⟨w.heap.size, 1, none⟩ = some (.slice B N.pipes.length d) ∧ w'.cell? ⟨w.heap.size + 1, 0, none⟩ = some (.slice x.A x.fl.length x.c) ∧ w'.cell? ⟨w.heap.size + 1, 1, none⟩ = some (.slice x.B x.su.length x.d))
    (first | exact ⟨k0, k1, k2, k3⟩ | go_keep)
    (first
      | (go_at_call 84; ((with_reducible refine (spec_l05Add _ _ _ _ ln x.su 1 _ (by exact HR.out.below (by (repeat' (first | (with_reducible exact Below.refl _ _) | (with_reducible assumption) | (with_reducible refine Below.alloc ?_ ?_ _) | (with_reducible refine Below.drew ?_) | (with_reducible refine Below.drewN' ?_ _) | (with_reducible refine Below.setCell ?_ ?_ _) | (refine Below.via ?_ (by with_reducible assumption) ?_) | (with_reducible refine Below.via ?_ (Wd.h _) ?_) | go_size)))) (by exact HA.out.r2.below (by (repeat' (first | (with_reducible exact Below.refl _ _) | (with_reducible assumption) | (with_reducible refine Below.alloc ?_ ?_ _) | (with_reducible refine Below.drew ?_) | (with_reducible refine Below.drewN' ?_ _) | (with_reducible refine Below.setCell ?_ ?_ _) | (refine Below.via ?_ (by with_reducible assumption) ?_) | (with_reducible refine Below.via ?_ (Wd.h _) ?_) | go_size)))) (by omega) q2 HB1.out HB2.out).mono ?_)); rintro e w1 ⟨G1, c1, rfl, hc1, hW1, hb1⟩; have HW1 := Lib.hid hW1; have hz1 := hb1.size; (try simp at hz1); clear hW1; replace k0 := bc hb1 (by first | omega | (simp; omega)) k0; replace k1 := bc hb1 (by first | omega | (simp; omega)) k1; replace k2 := bc hb1 (by first | omega | (simp; omega)) k2; replace k3 := bc hb1 (by first | omega | (simp; omega)) k3)
      | (go_at_call 85; ((with_reducible refine (spec_l05Out _ _ _ _ _ _ _ _ N x.fl _ (by exact HN.out.below (by (repeat' (first | (with_reducible exact Below.refl _ _) | (with_reducible assumption) | (with_reducible refine Below.alloc ?_ ?_ _) | (with_reducible refine Below.drew ?_) | (with_reducible refine Below.drewN' ?_ _) | (with_reducible refine Below.setCell ?_ ?_ _) | (refine Below.via ?_ (by with_reducible assumption) ?_) | (with_reducible refine Below.via ?_ (Wd.h _) ?_) | go_size)))) rfl rfl HO.out (by exact HA.out.r1.below (by (repeat' (first | (with_reducible exact Below.refl _ _) | (with_reducible assumption) | (with_reducible refine Below.alloc ?_ ?_ _) | (with_reducible refine Below.drew ?_) | (with_reducible refine Below.drewN' ?_ _) | (with_reducible refine Below.setCell ?_ ?_ _) | (refine Below.via ?_ (by with_reducible assumption) ?_) | (with_reducible refine Below.via ?_ (Wd.h _) ?_) | go_size)))) HX.out.1.1 HX.out.1.2).mono ?_)); rintro e w2 ⟨G2, c2, rfl, hc2, hW2, hb2⟩; have HW2 := Lib.hid hW2; have hz2 := hb2.size; (try simp at hz2); clear hW2; replace k0 := bc hb2 (by first | omega | (simp; omega)) k0; replace k1 := bc hb2 (by first | omega | (simp; omega)) k1; replace k2 := bc hb2 (by first | omega | (simp; omega)) k2; replace k3 := bc hb2 (by first | omega | (simp; omega)) k3)
      | (go_at_call 84; ((with_reducible refine (spec_l05Add' _ _ _ _ _ _ (addS 1 ln x.su) (outL N x.fl) (-1) _ (by exact HW1.out.rd.below (by (repeat' (first | (with_reducible exact Below.refl _ _) | (with_reducible assumption) | (with_reducible refine Below.alloc ?_ ?_ _) | (with_reducible refine Below.drew ?_) | (with_reducible refine Below.drewN' ?_ _) | (with_reducible refine Below.setCell ?_ ?_ _) | (refine Below.via ?_ (by with_reducible assumption) ?_) | (with_reducible refine Below.via ?_ (Wd.h _) ?_) | go_size)))) (by exact HW2.out.rd.below (by (repeat' (first | (with_reducible exact Below.refl _ _) | (with_reducible assumption) | (with_reducible refine Below.alloc ?_ ?_ _) | (with_reducible refine Below.drew ?_) | (with_reducible refine Below.drewN' ?_ _) | (with_reducible refine Below.setCell ?_ ?_ _) | (refine Below.via ?_ (by with_reducible assumption) ?_) | (with_reducible refine Below.via ?_ (Wd.h _) ?_) | go_size)))) HL1.out HL2.out (by omega) (by omega) HB3.out HB4.out).mono ?_)); rintro e w3 ⟨G3, c3, rfl, hc3, hW3, hb3⟩; have HW3 := Lib.hid hW3; have hz3 := hb3.size; (try simp at hz3); clear hW3; replace k0 := bc hb3 (by first | omega | (simp; omega)) k0; replace k1 := bc hb3 (by first | omega | (simp; omega)) k1; replace k2 := bc hb3 (by first | omega | (simp; omega)) k2; replace k3 := bc hb3 (by first | omega | (simp; omega)) k3))
  all_goals
    go_wp2
    go_ret
    exact ⟨G3, c3, rfl, hc3, HW3.out.lower (by omega), by (repeat' (first | (with_reducible exact Below.refl _ _) | (with_reducible assumption) | (with_reducible refine Below.alloc ?_ ?_ _) | (with_reducible refine Below.drew ?_) | (with_reducible refine Below.drewN' ?_ _) | (with_reducible refine Below.setCell ?_ ?_ _) | (refine Below.via ?_ (by with_reducible assumption) ?_) | (with_reducible refine Below.via ?_ (Wd.h _) ?_) | go_size))⟩
end Go.Proofs.Ytijhadafmhbceaa
namespace Go.Proofs.Ytijhadafmhbceaa
set_option linter.unusedVariables false
set_option linter.unusedSimpArgs false
open Go.RowKit
theorem some_blk {g g' o o' : Nat} (e : (some ⟨g, o, none⟩ : Option Addr) = some ⟨g', o', none⟩) : g = g' := by injection e with e; injection e
theorem Arr.push' {w : World} {g N : Nat} {xs : List Value} {i : Nat} {v v' : Value} (h : Arr w g N xs) (hi : i = xs.length) (hN : i < N) (e : v = v') : Arr (w.setCell ⟨g, i, none⟩ v) g N (xs ++ [v']) := e ▸ h.push i hi hN v
theorem Arr.any {w : World} {g N : Nat} {xs : List Value} (h : Arr w g N xs) {i : Nat} (hN : i < N) (v : Value) : Arr (w.setCell ⟨g, i, none⟩ v) g N [] := by
  obtain ⟨u, hu⟩ := h.some_ hN
  refine ⟨by rw [show (w.setCell ⟨g, i, none⟩ v).heap.size = w.heap.size by simp [World.setCell]]; exact h.1, fun j hj => ⟨?_, by simp [h.free hj]⟩, fun j x e => by simp at e⟩
  by_cases hji : j = i
  · subst hji; exact ⟨v, World.cell?_setCell_same _ _ _ hu⟩
  · obtain ⟨y, hy⟩ := h.some_ hj
    exact ⟨y, (World.cell?_setCell_other _ _ _ _ (by intro e; injection e; omega)).trans hy⟩
theorem markL_add (k0 : Int) (a n : Nat) : (markL k0 (a + n)).map iV = (markL k0 a).map iV ++ (markL (k0 + a) n).map iV := by
  induction n with
  | zero => simp [markL]
  | succ n ih => rw [← Nat.add_assoc, markL_succ, ih, markL_succ, List.append_assoc]; congr 3; simp; omega

set_option maxRecDepth 100000 in
set_option maxHeartbeats 4000000 in
theorem laws_markPipeS (base : Nat) (A : Option Addr) (c n : Nat) (k0 : Int) (xs : List Value) (w : World) (h : Wr base w A (n * 5) xs) (hn : n ≤ 1048576) (h0 : 0 ≤ k0) (h1 : k0 ≤ 1000000000000) :
    Calls Try.prog 46 #[.slice A n c, .int .i64 k0] w (MarkPost w base A (n * 5) k0) := by
  have HW := Lib.hid h
  clear h
  go_enter Try.func46, Try.ntmps46
  go_wp2
  go_loopw [1, 5] (fun u v wr => ∃ k : Nat, k ≤ n ∧ v = .int .i64 k ∧ u = .int .i64 (k0 + (k : Int) * 5) ∧ (∀ g, A = some ⟨g, 0, none⟩ → Arr w g (n * 5) xs → Arr wr g (n * 5) ((markL k0 (k * 5)).map iV)) ∧ Keep (onA A) w wr) (fun _ v _ => n - (intOf v).toNat)
  case atStart => exact ⟨0, by omega, rfl, by simp, fun g _ ha => by simpa [markL] using ha.none_, Keep.refl _ _⟩
  case round =>
    obtain ⟨k, hk, rfl, rfl, hA, hK⟩ := hrel
    have HA := Lib.hid hA
    have HK := Lib.hid hK
    clear hA hK
    by_cases hlt : k < n
    · obtain ⟨g, rfl, hg, ha⟩ := HW.out.2.1 (by omega)
      have HB := Lib.hid (HA.out g rfl ha)
      obtain ⟨u0, t0⟩ := HB.out.some_ (j := k * 5) (by omega)
      have f0 := HB.out.free (j := k * 5) (by omega)
      obtain ⟨u1, t1⟩ := HB.out.some_ (j := k * 5 + 1) (by omega)
      have f1 := HB.out.free (j := k * 5 + 1) (by omega)
      obtain ⟨u2, t2⟩ := HB.out.some_ (j := k * 5 + 2) (by omega)
      have f2 := HB.out.free (j := k * 5 + 2) (by omega)
      obtain ⟨u3, t3⟩ := HB.out.some_ (j := k * 5 + 3) (by omega)
      have f3 := HB.out.free (j := k * 5 + 3) (by omega)
      obtain ⟨u4, t4⟩ := HB.out.some_ (j := k * 5 + 4) (by omega)
      have f4 := HB.out.free (j := k * 5 + 4) (by omega)
      have g1 : (k : Int) < n := by omega
      clear ha
      go_wp2
      go_roundw
      case rel =>
        refine ⟨k + 1, by omega, by go_num, by go_num, fun g' e _ => ?_, ?_⟩
        · obtain rfl := some_blk e
          rw [show (k + 1) * 5 = k * 5 + 1 + 1 + 1 + 1 + 1 by omega]
          simp only [markL_succ]
          repeat' (first | (with_reducible exact HB.out) | (with_reducible refine Arr.push' ?_ ?_ ?_ ?_))
          all_goals first | (simp [markL_len]; done) | omega | (simp; done) | (simp; omega)
        · repeat' (first | (with_reducible exact HK.out) | (with_reducible refine Keep.setCell ?_ ?_ _))
          all_goals exact ⟨0, rfl⟩
      case measure => simp [intOf]; omega
    · have hkn : k = n := by omega
      go_wp2
      go_ret
      subst hkn
      refine ⟨by simp, ⟨?_, fun hN => ?_, fun b off e => ⟨(HW.out.2.2 b off e).1, Nat.lt_of_lt_of_le (HW.out.2.2 b off e).2 HK.out.size⟩⟩, HK.out⟩
      · intro hne
        have hp : 0 < k * 5 := Nat.pos_of_ne_zero (fun e => by rw [e] at hne; simp [markL] at hne)
        obtain ⟨g, rfl, hg, ha⟩ := HW.out.2.1 hp
        exact (HA.out g rfl ha).rd hne
      · obtain ⟨g, rfl, hg, ha⟩ := HW.out.2.1 hN
        exact ⟨g, rfl, hg, HA.out g rfl ha⟩
/-- string([]byte{n}) -/
theorem byte1_rule (n : Int) (w : World) : (convert 22 9 (.slice (some ⟨w.heap.size, 0, none⟩) 1 1)).run Try.prog (w.alloc (.cells #[.int .u8 n] 5)) = .ok (.string (strOfNums [n])) (w.alloc (.cells #[.int .u8 n] 5)) :=
  run_convert_bytes_arg _ 22 5 Try.underlying22 Try.underlying5 w.heap.size 0 1 1 [n] rfl (fun i hi => by
    have : i = 0 := by omega
    subst this; simp) 9 Try.underlying9
theorem str1_size (n : Int) : (strOfNums [n]).size = 1 := rfl
set_option maxRecDepth 100000 in
set_option maxHeartbeats 4000000 in
theorem laws_markText (k0 : Int) (w : World) (h0 : 0 ≤ k0) (h1 : k0 ≤ 2000000000000) :
    Calls Try.prog 69 #[.int .i64 k0] w fun e w' => ∃ s, e = .returned (.string s) ∧ Below w.heap.size w w' := by
  by_cases hz : k0 ≤ 0
  · go_enter Try.func69, Try.ntmps69
    go_wp2
    go_ret
    exact ⟨_, rfl, Below.refl _ _⟩
  go_enter Try.func69, Try.ntmps69
  go_wp2
  go_loopw [0, 3] (fun u v wr => ∃ (k j : Nat) (s : ByteArray), u = .int .i64 k ∧ v = .string s ∧ s.size = j ∧ j ≤ 13 ∧ k * 10 ^ j ≤ 2000000000000 ∧ k ≤ 2000000000000 ∧ Below w.heap.size w wr) (fun u _ _ => (intOf u).toNat)
  case atStart => exact ⟨k0.toNat, 0, _, by simp; omega, rfl, rfl, by omega, by simp; omega, by omega, Below.refl _ _⟩
  case round =>
    obtain ⟨k, j, s, rfl, rfl, hs, hjj, hj, hk, hb⟩ := hrel
    have hss : s.size ≤ 13 := by omega
    by_cases hp : 0 < k
    · have hj1 : 10 ^ j ≤ 2000000000000 := Nat.le_trans (Nat.le_mul_of_pos_left _ hp) hj
      have hj2 : j < 13 := by
        refine Nat.lt_of_not_le fun h => ?_
        have := Nat.pow_le_pow_right (show 0 < 10 by omega) h
        omega
      have HS := Lib.hid hs
      have HJ := Lib.hid hj
      have HB := Lib.hid hb
      have hss2 : s.size ≤ 12 := by omega
      have g1 : (0 : Int) < k := by omega
      clear hs hj hb hj1
      have hcv := byte1_rule (48 + (k : Int) % 10) wr
      have hs1 := str1_size (48 + (k : Int) % 10)
      generalize strOfNums [48 + (k : Int) % 10] = d at hcv hs1
      have HD := Lib.hid hs1
      have hd1 : d.size ≤ 1 := by omega
      clear hs1
      go_wp2
      go_roundw
      case rel =>
        refine ⟨k / 10, j + 1, _, by go_num, rfl, ?_, by omega, ?_, by omega, ?_⟩
        · have := HS.out; have := HD.out; simp; omega
        · have h1 : k / 10 * 10 ≤ k := by omega
          have h2 := Nat.mul_le_mul_right (10 ^ j) h1
          rw [Nat.pow_succ, Nat.mul_comm (10 ^ j) 10, ← Nat.mul_assoc]
          exact Nat.le_trans h2 HJ.out
        · exact HB.out.alloc (HB.out.size) _
      case measure => simp [intOf]; omega
    · have g1 : ¬ (0 : Int) < k := by omega
      have HB := Lib.hid hb
      clear hb hs hj
      go_wp2
      go_ret
      first | exact ⟨⟨_, rfl⟩, HB.out⟩ | exact ⟨_, rfl, HB.out⟩ | exact HB.out
set_option maxRecDepth 100000 in
set_option maxHeartbeats 4000000 in
theorem laws_markNodeS (base : Nat) (A : Option Addr) (c n : Nat) (k0 : Int) (xs : List Value) (w : World) (h : Wr base w A (n * 3) xs) (hn : n ≤ 1048576) (h0 : 0 ≤ k0) (h1 : k0 ≤ 1000000000000) :
    Calls Try.prog 45 #[.slice A n c, .int .i64 k0] w (MarkIn w (onA A) k0 (n * 3)) := by
  have HW := Lib.hid h
  clear h
  go_enter Try.func45, Try.ntmps45
  go_wp2
  go_loopw [1, 5] (fun u v wr => ∃ k : Nat, k ≤ n ∧ v = .int .i64 k ∧ u = .int .i64 (k0 + (k : Int) * 3) ∧ (∀ g, A = some ⟨g, 0, none⟩ → Arr w g (n * 3) xs → Arr wr g (n * 3) []) ∧ Keep (onA A) w wr) (fun _ v _ => n - (intOf v).toNat)
  case atStart => exact ⟨0, by omega, rfl, by simp, fun g _ ha => ha.none_, Keep.refl _ _⟩
  case round =>
    obtain ⟨k, hk, rfl, rfl, hA, hK⟩ := hrel
    have HA := Lib.hid hA
    have HK := Lib.hid hK
    clear hA hK
    by_cases hlt : k < n
    · obtain ⟨g, rfl, hg, ha⟩ := HW.out.2.1 (by omega)
      have HB := Lib.hid (HA.out g rfl ha)
      have g1 : (k : Int) < n := by omega
      clear ha
      go_wp2_with fail
      refine (laws_markText _ _ (by omega) (by omega)).mono ?_
      rintro e wn ⟨s, rfl, hbn⟩
      have HC := Lib.hid (HB.out.below hbn HB.out.lt)
      have HN := Lib.hid (HK.out.trans (Keep.of_below (onA _) hbn))
      obtain ⟨u0, t0⟩ := HC.out.some_ (j := k * 3) (by omega)
      have f0 := HC.out.free (j := k * 3) (by omega)
      obtain ⟨u1, t1⟩ := HC.out.some_ (j := k * 3 + 1) (by omega)
      have f1 := HC.out.free (j := k * 3 + 1) (by omega)
      obtain ⟨u2, t2⟩ := HC.out.some_ (j := k * 3 + 2) (by omega)
      have f2 := HC.out.free (j := k * 3 + 2) (by omega)
      clear hbn
      go_wp2
      go_roundw
      case rel =>
        refine ⟨k + 1, by omega, by go_num, by go_num, fun g' e _ => ?_, ?_⟩
        · obtain rfl := some_blk e
          exact ((HC.out.any (by omega) _).any (by omega) _).any (by omega) _
        · repeat' (first | (with_reducible exact HN.out) | (with_reducible refine Keep.setCell ?_ ?_ _))
          all_goals exact ⟨0, rfl⟩
      case measure => simp [intOf]; omega
    · have hkn : k = n := by omega
      go_wp2
      go_ret
      subst hkn
      exact ⟨_, rfl, by omega, by simp, HK.out⟩
set_option maxRecDepth 100000 in
set_option maxHeartbeats 4000000 in
theorem laws_markNetwork (base : Nat) (A B : Option Addr) (n c m d : Nat) (k0 : Int) (xs ys : List Value) (w : World) (hA : Wr base w A (n * 3) xs) (hB : Wr base w B (m * 5) ys) (hne : ∀ k, onA B k → ¬ onA A k) (hn : n ≤ 1048576) (hm : m ≤ 1048576) (h0 : 0 ≤ k0) (h1 : k0 ≤ 100000000000) :
    Calls Try.prog 20 #[netV A B n c m d, .int .i64 k0] w (MarkIn w (fun k => onA A k ∨ onA B k) k0 (n * 3 + m * 5)) := by
  have HA := Lib.hid hA
  have HB := Lib.hid hB
  have HE := Lib.hid hne
  clear hA hB hne
  go_enter Try.func20, Try.ntmps20
  go_wp2_with fail
  refine (laws_markNodeS base _ _ _ _ xs _ (HA.out.below (by (repeat' (first | (with_reducible exact Below.refl _ _) | (with_reducible assumption) | (with_reducible refine Below.alloc ?_ ?_ _) | (with_reducible refine Below.drew ?_) | (with_reducible refine Below.drewN' ?_ _) | (with_reducible refine Below.setCell ?_ ?_ _) | (refine Below.via ?_ (by with_reducible assumption) ?_) | (with_reducible refine Below.via ?_ (Wd.h _) ?_) | go_size)))) (by omega) (by omega) (by omega)).mono ?_
  rintro e w1 ⟨k1, rfl, hk1a, hk1b, hk1⟩
  have HB1 := Lib.hid ((HB.out.below (w' := World.alloc w _) (by (repeat' (first | (with_reducible exact Below.refl _ _) | (with_reducible assumption) | (with_reducible refine Below.alloc ?_ ?_ _) | (with_reducible refine Below.drew ?_) | (with_reducible refine Below.drewN' ?_ _) | (with_reducible refine Below.setCell ?_ ?_ _) | (refine Below.via ?_ (by with_reducible assumption) ?_) | (with_reducible refine Below.via ?_ (Wd.h _) ?_) | go_size)))).keep hk1 HE.out)
  have HK1 := Lib.hid hk1
  (have hz1 := hk1.size; (try simp at hz1); have Ncw0_0 := hk1.cell (w.heap.size) (0) (by first | omega | (simp; done) | (simp; omega)) (by intro hq; have := HA.out.hi _ hq; omega); have Nfw0_0 := hk1.frozen (w.heap.size) (0) (by first | omega | (simp; done) | (simp; omega)) (by intro hq; have := HA.out.hi _ hq; omega); have Nhy0 : w.heap.size < w1.heap.size := (by omega); have Ncw0_1 := hk1.cell (w.heap.size) (1) (by first | omega | (simp; done) | (simp; omega)) (by intro hq; have := HA.out.hi _ hq; omega); have Nfw0_1 := hk1.frozen (w.heap.size) (1) (by first | omega | (simp; done) | (simp; omega)) (by intro hq; have := HA.out.hi _ hq; omega); simp [go_sem] at Ncw0_0 Nfw0_0 Ncw0_1 Nfw0_1; have cw0_0 := Ncw0_0; have fw0_0 := Nfw0_0; have cw0_1 := Ncw0_1; have fw0_1 := Nfw0_1; have hy0 := Nhy0; clear Ncw0_0 Nfw0_0 Ncw0_1 Nfw0_1 Nhy0)
  clear hk1
  go_wp2_with fail
  refine (laws_markPipeS base _ _ _ _ ys _ HB1.out (by omega) (by omega) (by omega)).mono ?_
  rintro e w2 ⟨rfl, _, hk2⟩
  go_wp2
  go_ret
  exact ⟨_, rfl, by omega, by omega, ((Keep.of_below _ ((Below.refl _ _).alloc (Nat.le_refl _) _)).trans (HK1.out.mono fun _ h => .inl h)).trans (hk2.mono fun _ h => .inr h)⟩
end Go.Proofs.Ytijhadafmhbceaa
namespace Go.Proofs.Ytijhadafmhbceaa
set_option linter.unusedVariables false
set_option linter.unusedSimpArgs false
open Go.RowKit
theorem onA_lt {base : Nat} {w : World} {A : Option Addr} {N : Nat} {xs : List Value} (h : Wr base w A N xs) {k : Nat} (hk : onA A k) : k < w.heap.size := h.hi k hk
set_option maxRecDepth 100000 in
set_option maxHeartbeats 4000000 in
theorem laws_markBuffers (base : Nat) (Aa Ab Ac : Option Addr) (na nb nc ca cb cc : Nat) (k0 : Int) (xa xb xc : List Value) (w : World) (ha : Wr base w Aa na xa) (hb : Wr base w Ab nb xb) (hc : Wr base w Ac nc xc) (dab : ∀ k, onA Aa k → ¬ onA Ab k) (dac : ∀ k, onA Aa k → ¬ onA Ac k) (dbc : ∀ k, onA Ab k → ¬ onA Ac k) (la : na ≤ 1048576) (lb : nb ≤ 1048576) (lc : nc ≤ 1048576) (h0 : 0 ≤ k0) (h1 : k0 ≤ 100000000000) :
    Calls Try.prog 21 #[.agg #[.slice Aa na ca, .slice Ab nb cb, .slice Ac nc cc], .int .i64 k0] w fun e w' => e = .returned (.int .i64 (k0 + na + nb + nc)) ∧ Wr base w' Aa na ((markL (k0) na).map iV) ∧ Wr base w' Ab nb ((markL (k0 + na) nb).map iV) ∧ Wr base w' Ac nc ((markL (k0 + na + nb) nc).map iV) ∧ Keep (fun k => onA Aa k ∨ onA Ab k ∨ onA Ac k) w w' := by
  have Ha := Lib.hid ha
  have Hb := Lib.hid hb
  have Hc := Lib.hid hc
  have Dab := Lib.hid dab
  have Dba := Lib.hid (show ∀ k, onA Ab k → ¬ onA Aa k from fun k a b => dab k b a)
  have Dac := Lib.hid dac
  have Dca := Lib.hid (show ∀ k, onA Ac k → ¬ onA Aa k from fun k a b => dac k b a)
  have Dbc := Lib.hid dbc
  have Dcb := Lib.hid (show ∀ k, onA Ac k → ¬ onA Ab k from fun k a b => dbc k b a)
  clear ha hb hc dab dac dbc
  go_enter Try.func21, Try.ntmps21
  go_wp2_with fail
  
  refine (laws_markInt64S base _ _ _ _ xa _ (Ha.out.below (by (repeat' (first | (with_reducible exact Below.refl _ _) | (with_reducible assumption) | (with_reducible refine Below.alloc ?_ ?_ _) | (with_reducible refine Below.drew ?_) | (with_reducible refine Below.drewN' ?_ _) | (with_reducible refine Below.setCell ?_ ?_ _) | (refine Below.via ?_ (by with_reducible assumption) ?_) | (with_reducible refine Below.via ?_ (Wd.h _) ?_) | go_size)))) la (by omega) (by omega)).mono ?_
  rintro e w1 ⟨rfl, hm1, hk1⟩
  have Na1 := Lib.hid hm1
  have Nb1 := Lib.hid ((Hb.out.below (w' := World.alloc w _) (by (repeat' (first | (with_reducible exact Below.refl _ _) | (with_reducible assumption) | (with_reducible refine Below.alloc ?_ ?_ _) | (with_reducible refine Below.drew ?_) | (with_reducible refine Below.drewN' ?_ _) | (with_reducible refine Below.setCell ?_ ?_ _) | (refine Below.via ?_ (by with_reducible assumption) ?_) | (with_reducible refine Below.via ?_ (Wd.h _) ?_) | go_size)))).keep hk1 Dba.out)
  have Nc1 := Lib.hid ((Hc.out.below (w' := World.alloc w _) (by (repeat' (first | (with_reducible exact Below.refl _ _) | (with_reducible assumption) | (with_reducible refine Below.alloc ?_ ?_ _) | (with_reducible refine Below.drew ?_) | (with_reducible refine Below.drewN' ?_ _) | (with_reducible refine Below.setCell ?_ ?_ _) | (refine Below.via ?_ (by with_reducible assumption) ?_) | (with_reducible refine Below.via ?_ (Wd.h _) ?_) | go_size)))).keep hk1 Dca.out)
  have K1 := Lib.hid hk1
  (have hz1 := hk1.size; (try simp at hz1); have Ncw0_0 := hk1.cell (w.heap.size) (0) (by first | omega | (simp; done) | (simp; omega)) (by intro hq; have := Ha.out.hi _ hq; omega); have Nfw0_0 := hk1.frozen (w.heap.size) (0) (by first | omega | (simp; done) | (simp; omega)) (by intro hq; have := Ha.out.hi _ hq; omega); have Nhy0 : w.heap.size < w1.heap.size := (by omega); have Ncw0_1 := hk1.cell (w.heap.size) (1) (by first | omega | (simp; done) | (simp; omega)) (by intro hq; have := Ha.out.hi _ hq; omega); have Nfw0_1 := hk1.frozen (w.heap.size) (1) (by first | omega | (simp; done) | (simp; omega)) (by intro hq; have := Ha.out.hi _ hq; omega); have Ncw0_2 := hk1.cell (w.heap.size) (2) (by first | omega | (simp; done) | (simp; omega)) (by intro hq; have := Ha.out.hi _ hq; omega); have Nfw0_2 := hk1.frozen (w.heap.size) (2) (by first | omega | (simp; done) | (simp; omega)) (by intro hq; have := Ha.out.hi _ hq; omega); simp [go_sem] at Ncw0_0 Nfw0_0 Ncw0_1 Nfw0_1 Ncw0_2 Nfw0_2; have cw0_0 := Ncw0_0; have fw0_0 := Nfw0_0; have cw0_1 := Ncw0_1; have fw0_1 := Nfw0_1; have cw0_2 := Ncw0_2; have fw0_2 := Nfw0_2; have hy0 := Nhy0; clear Ncw0_0 Nfw0_0 Ncw0_1 Nfw0_1 Ncw0_2 Nfw0_2 Nhy0)
  clear hk1 hm1
  go_wp2_with fail
  
  refine (laws_markInt64S base _ _ _ _ xb _ Nb1.out lb (by omega) (by omega)).mono ?_
  rintro e w2 ⟨rfl, hm2, hk2⟩
  have Na2 := Lib.hid (Na1.out.keep hk2 Dab.out)
  have Nb2 := Lib.hid hm2
  have Nc2 := Lib.hid (Nc1.out.keep hk2 Dcb.out)
  have K2 := Lib.hid hk2
  (have hz2 := hk2.size; (try simp at hz2); have Ncw0_0 := hk2.cell (w.heap.size) (0) (by first | omega | (simp; done) | (simp; omega)) (by intro hq; have := Hb.out.hi _ hq; omega); have Nfw0_0 := hk2.frozen (w.heap.size) (0) (by first | omega | (simp; done) | (simp; omega)) (by intro hq; have := Hb.out.hi _ hq; omega); have Nhy0 : w.heap.size < w2.heap.size := (by omega); have Ncw0_1 := hk2.cell (w.heap.size) (1) (by first | omega | (simp; done) | (simp; omega)) (by intro hq; have := Hb.out.hi _ hq; omega); have Nfw0_1 := hk2.frozen (w.heap.size) (1) (by first | omega | (simp; done) | (simp; omega)) (by intro hq; have := Hb.out.hi _ hq; omega); have Ncw0_2 := hk2.cell (w.heap.size) (2) (by first | omega | (simp; done) | (simp; omega)) (by intro hq; have := Hb.out.hi _ hq; omega); have Nfw0_2 := hk2.frozen (w.heap.size) (2) (by first | omega | (simp; done) | (simp; omega)) (by intro hq; have := Hb.out.hi _ hq; omega); simp [go_sem, cw0_0, fw0_0, cw0_1, fw0_1, cw0_2, fw0_2, hy0] at Ncw0_0 Nfw0_0 Ncw0_1 Nfw0_1 Ncw0_2 Nfw0_2; clear cw0_0 fw0_0 cw0_1 fw0_1 cw0_2 fw0_2 hy0; have cw0_0 := Ncw0_0; have fw0_0 := Nfw0_0; have cw0_1 := Ncw0_1; have fw0_1 := Nfw0_1; have cw0_2 := Ncw0_2; have fw0_2 := Nfw0_2; have hy0 := Nhy0; clear Ncw0_0 Nfw0_0 Ncw0_1 Nfw0_1 Ncw0_2 Nfw0_2 Nhy0)
  clear hk2 hm2
  go_wp2_with fail
  
  refine (laws_markInt64S base _ _ _ _ xc _ Nc2.out lc (by omega) (by omega)).mono ?_
  rintro e w3 ⟨rfl, hm3, hk3⟩
  have Na3 := Lib.hid (Na2.out.keep hk3 Dac.out)
  have Nb3 := Lib.hid (Nb2.out.keep hk3 Dbc.out)
  have Nc3 := Lib.hid hm3
  have K3 := Lib.hid hk3
  clear hk3 hm3
  go_wp2
  go_ret
  exact ⟨rfl, Na3.out, Nb3.out, Nc3.out, ((((Keep.of_below _ ((Below.refl _ _).alloc (Nat.le_refl _) _)).trans (K1.out.mono fun _ h => .inl h)).trans (K2.out.mono fun _ h => .inr (.inl h))).trans (K3.out.mono fun _ h => .inr (.inr h)))⟩
set_option maxRecDepth 100000 in
set_option maxHeartbeats 4000000 in
theorem laws_heldBuffers (Aa Ab Ac : Option Addr) (na nb nc ca cb cc : Nat) (k0 : Int) (w : World) (ha : Rd w Aa ((markL (k0) na).map iV)) (hb : Rd w Ab ((markL (k0 + na) nb).map iV)) (hc : Rd w Ac ((markL (k0 + na + nb) nc).map iV)) (la : na ≤ 1048576) (lb : nb ≤ 1048576) (lc : nc ≤ 1048576) (h0 : 0 ≤ k0) (h1 : k0 ≤ 100000000000) :
    Calls Try.prog 23 #[.agg #[.slice Aa na ca, .slice Ab nb cb, .slice Ac nc cc], .int .i64 k0] w fun e w' => e = .returned (.int .i64 (k0 + na + nb + nc)) ∧ Below w.heap.size w w' := by
  have Ha := Lib.hid ha
  clear ha
  have Hb := Lib.hid hb
  clear hb
  have Hc := Lib.hid hc
  clear hc
  go_enter Try.func23, Try.ntmps23
  go_wp2_with fail
  refine (laws_heldInt64S _ _ _ (k0) _ (Ha.out.below (by (repeat' (first | (with_reducible exact Below.refl _ _) | (with_reducible assumption) | (with_reducible refine Below.alloc ?_ ?_ _) | (with_reducible refine Below.drew ?_) | (with_reducible refine Below.drewN' ?_ _) | (with_reducible refine Below.setCell ?_ ?_ _) | (refine Below.via ?_ (by with_reducible assumption) ?_) | (with_reducible refine Below.via ?_ (Wd.h _) ?_) | go_size)))) la (by omega) (by omega)).mono ?_
  rintro e w1 ⟨rfl, rfl⟩
  go_wp2_with fail
  refine (laws_heldInt64S _ _ _ (k0 + na) _ (Hb.out.below (by (repeat' (first | (with_reducible exact Below.refl _ _) | (with_reducible assumption) | (with_reducible refine Below.alloc ?_ ?_ _) | (with_reducible refine Below.drew ?_) | (with_reducible refine Below.drewN' ?_ _) | (with_reducible refine Below.setCell ?_ ?_ _) | (refine Below.via ?_ (by with_reducible assumption) ?_) | (with_reducible refine Below.via ?_ (Wd.h _) ?_) | go_size)))) lb (by omega) (by omega)).mono ?_
  rintro e w2 ⟨rfl, rfl⟩
  go_wp2_with fail
  refine (laws_heldInt64S _ _ _ (k0 + na + nb) _ (Hc.out.below (by (repeat' (first | (with_reducible exact Below.refl _ _) | (with_reducible assumption) | (with_reducible refine Below.alloc ?_ ?_ _) | (with_reducible refine Below.drew ?_) | (with_reducible refine Below.drewN' ?_ _) | (with_reducible refine Below.setCell ?_ ?_ _) | (refine Below.via ?_ (by with_reducible assumption) ?_) | (with_reducible refine Below.via ?_ (Wd.h _) ?_) | go_size)))) lc (by omega) (by omega)).mono ?_
  rintro e w3 ⟨rfl, rfl⟩
  go_wp2
  go_ret
  exact ⟨rfl, by (repeat' (first | (with_reducible exact Below.refl _ _) | (with_reducible assumption) | (with_reducible refine Below.alloc ?_ ?_ _) | (with_reducible refine Below.drew ?_) | (with_reducible refine Below.drewN' ?_ _) | (with_reducible refine Below.setCell ?_ ?_ _) | (refine Below.via ?_ (by with_reducible assumption) ?_) | (with_reducible refine Below.via ?_ (Wd.h _) ?_) | go_size))⟩
end Go.Proofs.Ytijhadafmhbceaa
namespace Go.Proofs.Ytijhadafmhbceaa
set_option linter.unusedVariables false
set_option linter.unusedSimpArgs false
open Go.RowKit
/-- no flow is greater than its pipe's limit -/
def limF : List Int → List Pp → Bool
  | x :: xs, p :: ps => !(decide (p.lim < absI x)) && limF xs ps
  | _, _ => true
theorem limF_step {fl : List Int} {ps : List Pp} {k : Nat} {x : Int} {p : Pp} (hx : fl[k]? = some x) (hp : ps[k]? = some p) : limF (fl.drop k) (ps.drop k) = (!(decide (p.lim < absI x)) && limF (fl.drop (k + 1)) (ps.drop (k + 1))) := by
  rw [drop_consI hx, drop_consI hp, limF]
theorem limF_end {fl : List Int} {ps : List Pp} {k : Nat} (h : ¬ k < ps.length) : limF (fl.drop k) (ps.drop k) = true := by
  rw [drop_endI h]
  cases fl.drop k <;> rfl
theorem limF_end' {fl : List Int} {ps : List Pp} {k : Nat} (h : ¬ k < fl.length) : limF (fl.drop k) (ps.drop k) = true := by
  rw [drop_endI h]; simp [limF]
/-- buffers, and whether the hour was possible -/
structure Bfs where
  lo : List Int
  hi : List Int
  nw : List Int
noncomputable def stR (N : Net) (ll lh ln fl su : List Int) : Bfs × Bool :=
  if limF fl N.pipes = false then (⟨[], [], []⟩, false) else (⟨ll, lh, nextL N ln su fl⟩, bufB N.nodes.length ll lh (nextL N ln su fl))
theorem stR_no {N : Net} {ll lh ln fl su : List Int} (h : limF fl N.pipes = false) : stR N ll lh ln fl su = (⟨[], [], []⟩, false) := by simp [stR, h]
theorem stR_yes {N : Net} {ll lh ln fl su : List Int} (h : limF fl N.pipes = true) : stR N ll lh ln fl su = (⟨ll, lh, nextL N ln su fl⟩, bufB N.nodes.length ll lh (nextL N ln su fl)) := by simp [stR, h]
/-- three lists of numbers of the call's own, apart from each other -/
structure BufW (base : Nat) (w : World) (A1 A2 A3 : Option Addr) (l1 l2 l3 : List Int) : Prop where
  r1 : Wr base w A1 l1.length (l1.map iV)
  r2 : Wr base w A2 l2.length (l2.map iV)
  r3 : Wr base w A3 l3.length (l3.map iV)
  d12 : ∀ k, onA A1 k → ¬ onA A2 k
  d13 : ∀ k, onA A1 k → ¬ onA A3 k
  d23 : ∀ k, onA A2 k → ¬ onA A3 k
theorem BufW.below {base : Nat} {w w' : World} {A1 A2 A3 : Option Addr} {l1 l2 l3 : List Int} (h : BufW base w A1 A2 A3 l1 l2 l3) (hb : Below w.heap.size w w') : BufW base w' A1 A2 A3 l1 l2 l3 :=
  ⟨h.r1.below hb, h.r2.below hb, h.r3.below hb, h.d12, h.d13, h.d23⟩
theorem BufW.lower {base base' : Nat} {w : World} {A1 A2 A3 : Option Addr} {l1 l2 l3 : List Int} (h : BufW base w A1 A2 A3 l1 l2 l3) (hb : base' ≤ base) : BufW base' w A1 A2 A3 l1 l2 l3 :=
  ⟨h.r1.lower hb, h.r2.lower hb, h.r3.lower hb, h.d12, h.d13, h.d23⟩
theorem BufW.nil (base : Nat) (w : World) : BufW base w none none none [] [] [] :=
  ⟨Wr.nil base w, Wr.nil base w, Wr.nil base w, fun k h => by simp [onA_none] at h, fun k h => by simp [onA_none] at h, fun k h => by simp [onA_none] at h⟩
theorem BufW.at_ {base : Nat} {w : World} {A1 A2 A3 : Option Addr} {l1 l2 l3 : List Int} (h : BufW base w A1 A2 A3 l1 l2 l3) (s1 : l1.length ≤ 1048576) (s2 : l2.length ≤ 1048576) (s3 : l3.length ≤ 1048576) : BufAt w A1 A2 A3 l1 l2 l3 := by
  constructor <;> first | exact h.r1.rd | exact h.r2.rd | exact h.r3.rd | assumption
/-- what a call that makes buffers hands back -/
def MadeB (w : World) (x : Bfs) (ok : Bool) (e : Ending) (w' : World) : Prop :=
  ∃ A1 A2 A3 c1 c2 c3, e = .returned (.tuple #[.agg #[.slice A1 x.lo.length c1, .slice A2 x.hi.length c2, .slice A3 x.nw.length c3], .bool ok]) ∧ BufW w.heap.size w' A1 A2 A3 x.lo x.hi x.nw ∧ Below w.heap.size w w'
theorem onA_apart {base : Nat} {w w1 : World} {A B : Option Addr} {N M : Nat} {xs ys : List Value} (h : Wr base w A N xs) (h' : Wr w1.heap.size w1 B M ys) : True := trivial
theorem Wr.apart {base : Nat} {w w1 w2 : World} {A B : Option Addr} {N M : Nat} {xs ys : List Value} (h : Wr base w A N xs) (h' : Wr w1.heap.size w2 B M ys) (hs : w.heap.size ≤ w1.heap.size) : ∀ k, onA A k → ¬ onA B k := fun k h1 h2 => by
  have := h.hi k h1
  have := h'.lo k h2
  omega
end Go.Proofs.Ytijhadafmhbceaa
namespace Go.Proofs.Ytijhadafmhbceaa
set_option linter.unusedVariables false
set_option linter.unusedSimpArgs false
open Go.RowKit
theorem app0 {P : Program} {ops : Array Oper} {o : Oper} {a : Act} {w : World} {K : Act → World → Prop} {Q : Exit → Act → World → Prop} {E : Prop}
    (hgd : o.guard = none) (s x : Operand) (t : TypeId)
    (ho : o.op = .call { callee := .builtin .append, args := #[s, x], argTypes := #[t, t] })
    {e : TypeId} {z : Value} {size bytes : Nat} (hinfo : (P.info? e).map (fun i => (i.zero, i.size, i.bytes)) = some (some z, size, bytes)) (ht : P.underlying t = some (.slice e))
    (hzs : z.cells.size = size) (hsz : 0 < size) (hby : bytes ≤ 1024)
    (ao : Option Addr) (hs : a.eval s = .slice ao 0 0)
    (ad : Addr) (m c : Nat) (news : List Value) (hx : a.eval x = .slice (some ad) m c) (hl : news.length = m * size) (hrd : Rd w (some ad) news) (h1 : ∀ u ∈ news, u.oneCell' = true)
    (hm : 0 < m) (hn : m ≤ 4194304)
    (h : ∀ v' w', Own w' w.heap.size e size v' m news → Below w.heap.size w w' → K (a.put o.dst v') w') :
    if Region.wanted o (yielded ops a.tmps) = true then Oper.wp P o a w K Q else E := by
  obtain ⟨i, hi, hz, hsize, hb⟩ := info_parts hinfo
  refine step_append_grows hgd s x t ho e i z size bytes ht hi hz hsize hb hzs hsz ao 0 0 [] hs (fun _ => ⟨rfl, rfl⟩) (by simp) (fun b _ j u hu => by simp at hu) ad m c news hx hl (fun j u hu => ?_) h1 (by omega) ?_ ?_ (fun v' w' h2 h3 => h v' w' ?_ ?_)
  · obtain ⟨b, off, e1, _, hat⟩ := hrd (by rintro rfl; simp at hu)
    injection e1 with e1; subst e1
    rw [addr_add]; exact hat j u hu
  · unfold maxLen; omega
  · calc (0 + m) * bytes ≤ 4194304 * 1024 := Nat.mul_le_mul (by omega) hby
      _ ≤ 140737488355328 := by omega
  · rw [Nat.zero_add, List.nil_append] at h2; exact h2
  · exact (Below.refl _ w).grown h3 (Nat.le_refl _) (fun k hk => by cases hk)
theorem rd_some {w : World} {A : Option Addr} {xs : List Value} (h : Rd w A xs) (hx : xs ≠ []) : ∃ ad, A = some ad := by
  obtain ⟨b, off, e, _⟩ := h hx
  exact ⟨_, e⟩
end Go.Proofs.Ytijhadafmhbceaa
namespace Go.Proofs.Ytijhadafmhbceaa
set_option linter.unusedVariables false
set_option linter.unusedSimpArgs false
open Go.RowKit
theorem Wr.set_ {base : Nat} {w : World} {A : Option Addr} {N : Nat} {xs : List Value} (h : Wr base w A N xs) {p : Addr} (hp : ∀ k, onA A k → k ≠ p.block) (u : Value) : Wr base (w.setCell p u) A N xs :=
  h.keep (S := fun k => k = p.block) ((Keep.refl (fun k => k = p.block) w).setCell (p := p) rfl u) (fun k hk e => hp k hk e)
theorem BufW.set_ {base : Nat} {w : World} {A1 A2 A3 : Option Addr} {l1 l2 l3 : List Int} (h : BufW base w A1 A2 A3 l1 l2 l3) {p : Addr} (hp : p.block < base) (u : Value) : BufW base (w.setCell p u) A1 A2 A3 l1 l2 l3 :=
  ⟨h.r1.set_ (fun k hk => by have := h.r1.lo k hk; omega) u, h.r2.set_ (fun k hk => by have := h.r2.lo k hk; omega) u, h.r3.set_ (fun k hk => by have := h.r3.lo k hk; omega) u, h.d12, h.d13, h.d23⟩
set_option maxRecDepth 100000 in
set_option maxHeartbeats 4000000 in
theorem impl_cloneBuffers (Al Ah An : Option Addr) (nl nh nn cl ch cn : Nat) (ll lh ln : List Int) (w : World) (h : BufAt w Al Ah An ll lh ln) (e1 : nl = ll.length) (e2 : nh = lh.length) (e3 : nn = ln.length) :
    Calls Try.prog 28 #[bufV Al Ah An nl nh nn cl ch cn] w fun e w' => ∃ A1 A2 A3 c1 c2 c3, e = .returned (.agg #[.slice A1 ll.length c1, .slice A2 lh.length c2, .slice A3 ln.length c3]) ∧ BufW (w.heap.size + 2) w' A1 A2 A3 ll lh ln ∧ Below w.heap.size w w' := by
  subst e1 e2 e3
  have HF := Lib.hid h
  clear h
  go_enter Try.func28, Try.ntmps28
  go_wp2_with fail
  (generalize hW : (World.alloc (World.alloc w _) _) = wn; have hbn : Below w.heap.size w wn := (by rw [← hW]; (repeat' (first | (with_reducible exact Below.refl _ _) | (with_reducible assumption) | (with_reducible refine Below.alloc ?_ ?_ _) | (with_reducible refine Below.drew ?_) | (with_reducible refine Below.drewN' ?_ _) | (with_reducible refine Below.setCell ?_ ?_ _) | (refine Below.via ?_ (by with_reducible assumption) ?_) | (with_reducible refine Below.via ?_ (Wd.h _) ?_) | go_size))); have hzn := congrArg (fun W => W.heap.size) hW; simp at hzn; have cw0_0 := congrArg (fun W => World.cell? W ⟨w.heap.size, 0, none⟩) hW.symm; have fw0_0 := congrArg (fun W => World.frozen? W ⟨w.heap.size, 0, none⟩) hW.symm; have hy0 : w.heap.size < wn.heap.size := (by omega); have cw0_1 := congrArg (fun W => World.cell? W ⟨w.heap.size, 1, none⟩) hW.symm; have fw0_1 := congrArg (fun W => World.frozen? W ⟨w.heap.size, 1, none⟩) hW.symm; have cw0_2 := congrArg (fun W => World.cell? W ⟨w.heap.size, 2, none⟩) hW.symm; have fw0_2 := congrArg (fun W => World.frozen? W ⟨w.heap.size, 2, none⟩) hW.symm; have cw1_0 := congrArg (fun W => World.cell? W ⟨w.heap.size + 1, 0, none⟩) hW.symm; have fw1_0 := congrArg (fun W => World.frozen? W ⟨w.heap.size + 1, 0, none⟩) hW.symm; have hy1 : w.heap.size + 1 < wn.heap.size := (by omega); have cw1_1 := congrArg (fun W => World.cell? W ⟨w.heap.size + 1, 1, none⟩) hW.symm; have fw1_1 := congrArg (fun W => World.frozen? W ⟨w.heap.size + 1, 1, none⟩) hW.symm; have cw1_2 := congrArg (fun W => World.cell? W ⟨w.heap.size + 1, 2, none⟩) hW.symm; have fw1_2 := congrArg (fun W => World.frozen? W ⟨w.heap.size + 1, 2, none⟩) hW.symm; simp [go_sem] at cw0_0 fw0_0 cw0_1 fw0_1 cw0_2 fw0_2 cw1_0 fw1_0 cw1_1 fw1_1 cw1_2 fw1_2; clear hW hzn)
  have hz0 : w.heap.size + 2 ≤ wn.heap.size := by omega
  have HBN := Lib.hid hbn
  clear hbn
  (go_region_held3 (fun w' => w'.cell? ⟨w.heap.size, 0, none⟩ = some (.slice Al ll.length cl) ∧ w'.cell? ⟨w.heap.size, 1, none⟩ = some (.slice Ah lh.length ch) ∧ w'.cell? ⟨w.heap.size, 2, none⟩ = some (.slice An ln.length cn)) (first | exact ⟨cw0_0, cw0_1, cw0_2⟩ | (simp [go_sem, cw0_0, cw0_1, cw0_2]; done) | go_keep) (first
    | (go_at_call 55; ((with_reducible refine (slices_CloneI Al cl ll _ (HF.out.r1.below (by have h1 := HBN.out; (repeat' (first | (with_reducible exact Below.refl _ _) | (with_reducible assumption) | (with_reducible refine Below.alloc ?_ ?_ _) | (with_reducible refine Below.drew ?_) | (with_reducible refine Below.drewN' ?_ _) | (with_reducible refine Below.setCell ?_ ?_ _) | (refine Below.via ?_ (by with_reducible assumption) ?_) | (with_reducible refine Below.via ?_ (Wd.h _) ?_) | go_size)))) HF.out.s1).mono ?_)); rintro e w1 ⟨G1, c1, rfl, hc1, hW1, hb1⟩; have HW1 := Lib.hid hW1; have HZ1 := Lib.hid hb1.size; clear hW1; (obtain ⟨hcn, hfn⟩ := bcell hb1; have hz1 := hb1.size; (try simp at hz1); have Ncw0_0 := hcn (w.heap.size) (0) (by first | omega | (simp; done) | (simp; omega)); have Nfw0_0 := hfn (w.heap.size) (0) (by first | omega | (simp; done) | (simp; omega)); have Nhy0 : w.heap.size < w1.heap.size := (by omega); have Ncw0_1 := hcn (w.heap.size) (1) (by first | omega | (simp; done) | (simp; omega)); have Nfw0_1 := hfn (w.heap.size) (1) (by first | omega | (simp; done) | (simp; omega)); have Ncw0_2 := hcn (w.heap.size) (2) (by first | omega | (simp; done) | (simp; omega)); have Nfw0_2 := hfn (w.heap.size) (2) (by first | omega | (simp; done) | (simp; omega)); have Ncw1_0 := hcn (w.heap.size + 1) (0) (by first | omega | (simp; done) | (simp; omega)); have Nfw1_0 := hfn (w.heap.size + 1) (0) (by first | omega | (simp; done) | (simp; omega)); have Nhy1 : w.heap.size + 1 < w1.heap.size := (by omega); have Ncw1_1 := hcn (w.heap.size + 1) (1) (by first | omega | (simp; done) | (simp; omega)); have Nfw1_1 := hfn (w.heap.size + 1) (1) (by first | omega | (simp; done) | (simp; omega)); have Ncw1_2 := hcn (w.heap.size + 1) (2) (by first | omega | (simp; done) | (simp; omega)); have Nfw1_2 := hfn (w.heap.size + 1) (2) (by first | omega | (simp; done) | (simp; omega)); simp [go_sem, cw0_0, fw0_0, cw0_1, fw0_1, cw0_2, fw0_2, cw1_0, fw1_0, cw1_1, fw1_1, cw1_2, fw1_2, hy0, hy1] at Ncw0_0 Nfw0_0 Ncw0_1 Nfw0_1 Ncw0_2 Nfw0_2 Ncw1_0 Nfw1_0 Ncw1_1 Nfw1_1 Ncw1_2 Nfw1_2; clear cw0_0 fw0_0 cw0_1 fw0_1 cw0_2 fw0_2 cw1_0 fw1_0 cw1_1 fw1_1 cw1_2 fw1_2 hy0 hy1; clear hcn hfn; have cw0_0 := Ncw0_0; have fw0_0 := Nfw0_0; have cw0_1 := Ncw0_1; have fw0_1 := Nfw0_1; have cw0_2 := Ncw0_2; have fw0_2 := Nfw0_2; have cw1_0 := Ncw1_0; have fw1_0 := Nfw1_0; have cw1_1 := Ncw1_1; have fw1_1 := Nfw1_1; have cw1_2 := Ncw1_2; have fw1_2 := Nfw1_2; have hy0 := Nhy0; have hy1 := Nhy1; clear Ncw0_0 Nfw0_0 Ncw0_1 Nfw0_1 Ncw0_2 Nfw0_2 Ncw1_0 Nfw1_0 Ncw1_1 Nfw1_1 Ncw1_2 Nfw1_2 Nhy0 Nhy1))
    | (go_at_call 55; ((with_reducible refine (slices_CloneI Ah ch lh _ (HF.out.r2.below (by have h1 := HBN.out; (repeat' (first | (with_reducible exact Below.refl _ _) | (with_reducible assumption) | (with_reducible refine Below.alloc ?_ ?_ _) | (with_reducible refine Below.drew ?_) | (with_reducible refine Below.drewN' ?_ _) | (with_reducible refine Below.setCell ?_ ?_ _) | (refine Below.via ?_ (by with_reducible assumption) ?_) | (with_reducible refine Below.via ?_ (Wd.h _) ?_) | go_size)))) HF.out.s2).mono ?_)); rintro e w2 ⟨G2, c2, rfl, hc2, hW2, hb2⟩; have HW2 := Lib.hid hW2; have HZ2 := Lib.hid hb2.size; clear hW2; (obtain ⟨hcn, hfn⟩ := bcell hb2; have hz2 := hb2.size; (try simp at hz2); have Ncw0_0 := hcn (w.heap.size) (0) (by first | omega | (simp; done) | (simp; omega)); have Nfw0_0 := hfn (w.heap.size) (0) (by first | omega | (simp; done) | (simp; omega)); have Nhy0 : w.heap.size < w2.heap.size := (by omega); have Ncw0_1 := hcn (w.heap.size) (1) (by first | omega | (simp; done) | (simp; omega)); have Nfw0_1 := hfn (w.heap.size) (1) (by first | omega | (simp; done) | (simp; omega)); have Ncw0_2 := hcn (w.heap.size) (2) (by first | omega | (simp; done) | (simp; omega)); have Nfw0_2 := hfn (w.heap.size) (2) (by first | omega | (simp; done) | (simp; omega)); have Ncw1_0 := hcn (w.heap.size + 1) (0) (by first | omega | (simp; done) | (simp; omega)); have Nfw1_0 := hfn (w.heap.size + 1) (0) (by first | omega | (simp; done) | (simp; omega)); have Nhy1 : w.heap.size + 1 < w2.heap.size := (by omega); have Ncw1_1 := hcn (w.heap.size + 1) (1) (by first | omega | (simp; done) | (simp; omega)); have Nfw1_1 := hfn (w.heap.size + 1) (1) (by first | omega | (simp; done) | (simp; omega)); have Ncw1_2 := hcn (w.heap.size + 1) (2) (by first | omega | (simp; done) | (simp; omega)); have Nfw1_2 := hfn (w.heap.size + 1) (2) (by first | omega | (simp; done) | (simp; omega)); simp [go_sem, cw0_0, fw0_0, cw0_1, fw0_1, cw0_2, fw0_2, cw1_0, fw1_0, cw1_1, fw1_1, cw1_2, fw1_2, hy0, hy1] at Ncw0_0 Nfw0_0 Ncw0_1 Nfw0_1 Ncw0_2 Nfw0_2 Ncw1_0 Nfw1_0 Ncw1_1 Nfw1_1 Ncw1_2 Nfw1_2; clear cw0_0 fw0_0 cw0_1 fw0_1 cw0_2 fw0_2 cw1_0 fw1_0 cw1_1 fw1_1 cw1_2 fw1_2 hy0 hy1; clear hcn hfn; have cw0_0 := Ncw0_0; have fw0_0 := Nfw0_0; have cw0_1 := Ncw0_1; have fw0_1 := Nfw0_1; have cw0_2 := Ncw0_2; have fw0_2 := Nfw0_2; have cw1_0 := Ncw1_0; have fw1_0 := Nfw1_0; have cw1_1 := Ncw1_1; have fw1_1 := Nfw1_1; have cw1_2 := Ncw1_2; have fw1_2 := Nfw1_2; have hy0 := Nhy0; have hy1 := Nhy1; clear Ncw0_0 Nfw0_0 Ncw0_1 Nfw0_1 Ncw0_2 Nfw0_2 Ncw1_0 Nfw1_0 Ncw1_1 Nfw1_1 Ncw1_2 Nfw1_2 Nhy0 Nhy1))
    | (go_at_call 55; ((with_reducible refine (slices_CloneI An cn ln _ (HF.out.r3.below (by have h1 := HBN.out; (repeat' (first | (with_reducible exact Below.refl _ _) | (with_reducible assumption) | (with_reducible refine Below.alloc ?_ ?_ _) | (with_reducible refine Below.drew ?_) | (with_reducible refine Below.drewN' ?_ _) | (with_reducible refine Below.setCell ?_ ?_ _) | (refine Below.via ?_ (by with_reducible assumption) ?_) | (with_reducible refine Below.via ?_ (Wd.h _) ?_) | go_size)))) HF.out.s3).mono ?_)); rintro e w3 ⟨G3, c3, rfl, hc3, hW3, hb3⟩; have HW3 := Lib.hid hW3; have HZ3 := Lib.hid hb3.size; clear hW3; (obtain ⟨hcn, hfn⟩ := bcell hb3; have hz3 := hb3.size; (try simp at hz3); have Ncw0_0 := hcn (w.heap.size) (0) (by first | omega | (simp; done) | (simp; omega)); have Nfw0_0 := hfn (w.heap.size) (0) (by first | omega | (simp; done) | (simp; omega)); have Nhy0 : w.heap.size < w3.heap.size := (by omega); have Ncw0_1 := hcn (w.heap.size) (1) (by first | omega | (simp; done) | (simp; omega)); have Nfw0_1 := hfn (w.heap.size) (1) (by first | omega | (simp; done) | (simp; omega)); have Ncw0_2 := hcn (w.heap.size) (2) (by first | omega | (simp; done) | (simp; omega)); have Nfw0_2 := hfn (w.heap.size) (2) (by first | omega | (simp; done) | (simp; omega)); have Ncw1_0 := hcn (w.heap.size + 1) (0) (by first | omega | (simp; done) | (simp; omega)); have Nfw1_0 := hfn (w.heap.size + 1) (0) (by first | omega | (simp; done) | (simp; omega)); have Nhy1 : w.heap.size + 1 < w3.heap.size := (by omega); have Ncw1_1 := hcn (w.heap.size + 1) (1) (by first | omega | (simp; done) | (simp; omega)); have Nfw1_1 := hfn (w.heap.size + 1) (1) (by first | omega | (simp; done) | (simp; omega)); have Ncw1_2 := hcn (w.heap.size + 1) (2) (by first | omega | (simp; done) | (simp; omega)); have Nfw1_2 := hfn (w.heap.size + 1) (2) (by first | omega | (simp; done) | (simp; omega)); simp [go_sem, cw0_0, fw0_0, cw0_1, fw0_1, cw0_2, fw0_2, cw1_0, fw1_0, cw1_1, fw1_1, cw1_2, fw1_2, hy0, hy1] at Ncw0_0 Nfw0_0 Ncw0_1 Nfw0_1 Ncw0_2 Nfw0_2 Ncw1_0 Nfw1_0 Ncw1_1 Nfw1_1 Ncw1_2 Nfw1_2; clear cw0_0 fw0_0 cw0_1 fw0_1 cw0_2 fw0_2 cw1_0 fw1_0 cw1_1 fw1_1 cw1_2 fw1_2 hy0 hy1; clear hcn hfn; have cw0_0 := Ncw0_0; have fw0_0 := Nfw0_0; have cw0_1 := Ncw0_1; have fw0_1 := Nfw0_1; have cw0_2 := Ncw0_2; have fw0_2 := Nfw0_2; have cw1_0 := Ncw1_0; have fw1_0 := Nfw1_0; have cw1_1 := Ncw1_1; have fw1_1 := Nfw1_1; have cw1_2 := Ncw1_2; have fw1_2 := Nfw1_2; have hy0 := Nhy0; have hy1 := Nhy1; clear Ncw0_0 Nfw0_0 Ncw0_1 Nfw0_1 Ncw0_2 Nfw0_2 Ncw1_0 Nfw1_0 Ncw1_1 Nfw1_1 Ncw1_2 Nfw1_2 Nhy0 Nhy1))))
  all_goals
    go_wp2
    (first | (refine bodyPost_ret (by simp [results, Try.results28, go_sem, cw0_0, cw0_1, cw0_2, cw1_0, cw1_1, cw1_2]; try rfl) rfl ?_) | (refine bodyPost_ret (by simp [results, Try.results28, go_sem]; try rfl) rfl ?_))
    refine ⟨G1, G2, G3, c1, c2, c3, rfl, ?_, by have h1 := HBN.out; (repeat' (first | (with_reducible exact Below.refl _ _) | (with_reducible assumption) | (with_reducible refine Below.alloc ?_ ?_ _) | (with_reducible refine Below.drew ?_) | (with_reducible refine Below.drewN' ?_ _) | (with_reducible refine Below.setCell ?_ ?_ _) | (refine Below.via ?_ (by with_reducible assumption) ?_) | (with_reducible refine Below.via ?_ (Wd.h _) ?_) | go_size))⟩
    refine BufW.set_ (BufW.set_ (BufW.set_ ?_ (by simp) _) (by simp) _) (by simp) _
    have zd : wn.drew.heap.size = wn.heap.size := rfl
    have z1 := HZ1.out
    have z2 := HZ2.out
    have z3 := HZ3.out
    refine ⟨?_, ?_, ?_, fun k h1 h2 => ?_, fun k h1 h2 => ?_, fun k h1 h2 => ?_⟩
    · exact Wr.below (by have := HW1.out.lower (base' := w.heap.size + 2) (by omega); rwa [Nat.mul_one] at this) (by (repeat' (first | (with_reducible exact Below.refl _ _) | (with_reducible assumption) | (with_reducible refine Below.alloc ?_ ?_ _) | (with_reducible refine Below.drew ?_) | (with_reducible refine Below.drewN' ?_ _) | (with_reducible refine Below.setCell ?_ ?_ _) | (refine Below.via ?_ (by with_reducible assumption) ?_) | (with_reducible refine Below.via ?_ (Wd.h _) ?_) | go_size)))
    · exact Wr.below (by have := HW2.out.lower (base' := w.heap.size + 2) (by omega); rwa [Nat.mul_one] at this) (by (repeat' (first | (with_reducible exact Below.refl _ _) | (with_reducible assumption) | (with_reducible refine Below.alloc ?_ ?_ _) | (with_reducible refine Below.drew ?_) | (with_reducible refine Below.drewN' ?_ _) | (with_reducible refine Below.setCell ?_ ?_ _) | (refine Below.via ?_ (by with_reducible assumption) ?_) | (with_reducible refine Below.via ?_ (Wd.h _) ?_) | go_size)))
    · exact Wr.below (by have := HW3.out.lower (base' := w.heap.size + 2) (by omega); rwa [Nat.mul_one] at this) (by (repeat' (first | (with_reducible exact Below.refl _ _) | (with_reducible assumption) | (with_reducible refine Below.alloc ?_ ?_ _) | (with_reducible refine Below.drew ?_) | (with_reducible refine Below.drewN' ?_ _) | (with_reducible refine Below.setCell ?_ ?_ _) | (refine Below.via ?_ (by with_reducible assumption) ?_) | (with_reducible refine Below.via ?_ (Wd.h _) ?_) | go_size)))
    · have a := HW1.out.lo k h1; have b := HW1.out.hi k h1; have c := HW2.out.lo k h2; have d := HW2.out.hi k h2; omega
    · have a := HW1.out.lo k h1; have b := HW1.out.hi k h1; have c := HW3.out.lo k h2; have d := HW3.out.hi k h2; omega
    · have a := HW2.out.lo k h1; have b := HW2.out.hi k h1; have c := HW3.out.lo k h2; have d := HW3.out.hi k h2; omega
set_option maxRecDepth 100000 in
set_option maxHeartbeats 8000000 in
theorem impl_stepHour (A B Al Ah An : Option Addr) (n c m d nl nh nn cl ch cn : Nat) (N : Net) (ll lh ln : List Int) (x : Hr) (w : World) (hN : NetAt w A B N) (hn : n = N.nodes.length) (hm : m = N.pipes.length) (hO : N.Ok) (hf : BufAt w Al Ah An ll lh ln) (hk : BufOk N.nodes.length ll lh ln) (e1 : nl = ll.length) (e2 : nh = lh.length) (e3 : nn = ln.length) (hat : HrAt w x) (hx : hrB N.pipes.length N.nodes.length x = true) :
    Calls Try.prog 29 #[netV A B n c m d, bufV Al Ah An nl nh nn cl ch cn, x.val] w (MadeB w (stR N ll lh ln x.fl x.su).1 (stR N ll lh ln x.fl x.su).2) := by
  subst hn hm e1 e2 e3
  have HN := Lib.hid hN
  have HFb := Lib.hid hf
  have HA := Lib.hid hat
  have HX := Lib.hid hx
  have HO := Lib.hid hO
  have HK := Lib.hid hk
  have hlx : x.fl.length ≤ N.pipes.length := by have := (hrB_of hx).1.1; omega
  have hly : N.pipes.length ≤ x.fl.length := by have := (hrB_of hx).1.1; omega
  have h24 := hO.n2
  have h40 := hO.p1
  have hn1 := hO.n1
  clear hN hf hat hx hO hk
  go_enter Try.func29, Try.ntmps29
  go_wp2_with fail
  (generalize hW : (World.alloc (World.alloc (World.alloc (World.alloc w _) _) _) _) = wn; have hbn : Below w.heap.size w wn := (by rw [← hW]; (repeat' (first | (with_reducible exact Below.refl _ _) | (with_reducible assumption) | (with_reducible refine Below.alloc ?_ ?_ _) | (with_reducible refine Below.drew ?_) | (with_reducible refine Below.drewN' ?_ _) | (with_reducible refine Below.setCell ?_ ?_ _) | (refine Below.via ?_ (by with_reducible assumption) ?_) | (with_reducible refine Below.via ?_ (Wd.h _) ?_) | go_size))); have hzn := congrArg (fun W => W.heap.size) hW; simp at hzn; have cw0_0 := congrArg (fun W => World.cell? W ⟨w.heap.size, 0, none⟩) hW.symm; have fw0_0 := congrArg (fun W => World.frozen? W ⟨w.heap.size, 0, none⟩) hW.symm; have hy0 : w.heap.size < wn.heap.size := (by omega); have cw0_1 := congrArg (fun W => World.cell? W ⟨w.heap.size, 1, none⟩) hW.symm; have fw0_1 := congrArg (fun W => World.frozen? W ⟨w.heap.size, 1, none⟩) hW.symm; have cw1_0 := congrArg (fun W => World.cell? W ⟨w.heap.size + 1, 0, none⟩) hW.symm; have fw1_0 := congrArg (fun W => World.frozen? W ⟨w.heap.size + 1, 0, none⟩) hW.symm; have hy1 : w.heap.size + 1 < wn.heap.size := (by omega); have cw1_1 := congrArg (fun W => World.cell? W ⟨w.heap.size + 1, 1, none⟩) hW.symm; have fw1_1 := congrArg (fun W => World.frozen? W ⟨w.heap.size + 1, 1, none⟩) hW.symm; have cw1_2 := congrArg (fun W => World.cell? W ⟨w.heap.size + 1, 2, none⟩) hW.symm; have fw1_2 := congrArg (fun W => World.frozen? W ⟨w.heap.size + 1, 2, none⟩) hW.symm; have cw2_0 := congrArg (fun W => World.cell? W ⟨w.heap.size + 2, 0, none⟩) hW.symm; have fw2_0 := congrArg (fun W => World.frozen? W ⟨w.heap.size + 2, 0, none⟩) hW.symm; have hy2 : w.heap.size + 2 < wn.heap.size := (by omega); have cw2_1 := congrArg (fun W => World.cell? W ⟨w.heap.size + 2, 1, none⟩) hW.symm; have fw2_1 := congrArg (fun W => World.frozen? W ⟨w.heap.size + 2, 1, none⟩) hW.symm; have cw3_0 := congrArg (fun W => World.cell? W ⟨w.heap.size + 3, 0, none⟩) hW.symm; have fw3_0 := congrArg (fun W => World.frozen? W ⟨w.heap.size + 3, 0, none⟩) hW.symm; have hy3 : w.heap.size + 3 < wn.heap.size := (by omega); have cw3_1 := congrArg (fun W => World.cell? W ⟨w.heap.size + 3, 1, none⟩) hW.symm; have fw3_1 := congrArg (fun W => World.frozen? W ⟨w.heap.size + 3, 1, none⟩) hW.symm; have cw3_2 := congrArg (fun W => World.cell? W ⟨w.heap.size + 3, 2, none⟩) hW.symm; have fw3_2 := congrArg (fun W => World.frozen? W ⟨w.heap.size + 3, 2, none⟩) hW.symm; simp [go_sem] at cw0_0 fw0_0 cw0_1 fw0_1 cw1_0 fw1_0 cw1_1 fw1_1 cw1_2 fw1_2 cw2_0 fw2_0 cw2_1 fw2_1 cw3_0 fw3_0 cw3_1 fw3_1 cw3_2 fw3_2; clear hW hzn)
  have HB0 := Lib.hid (show Bx wn w.heap.size [.slice A N.nodes.length c, .slice B N.pipes.length d] from (bx2 (by first | exact hy0 | go_size) (by first | (with_reducible exact cw0_0) | go_cell_look | (simp [go_sem, hy0, cw0_0, fw0_0, cw0_1, fw0_1]; done) | (simp [go_sem]; done)) (by first | (with_reducible exact fw0_0) | (simp only [World.frozen?_setCell, fw0_0]; done) | (simp [go_sem, hy0, cw0_0, fw0_0, cw0_1, fw0_1]; done) | (simp [go_sem]; done)) (by first | (with_reducible exact cw0_1) | go_cell_look | (simp [go_sem, hy0, cw0_0, fw0_0, cw0_1, fw0_1]; done) | (simp [go_sem]; done)) (by first | (with_reducible exact fw0_1) | (simp only [World.frozen?_setCell, fw0_1]; done) | (simp [go_sem, hy0, cw0_0, fw0_0, cw0_1, fw0_1]; done) | (simp [go_sem]; done))))
  have HB1 := Lib.hid (show Bx wn (w.heap.size + 1) [.slice Al ll.length cl, .slice Ah lh.length ch, .slice An ln.length cn] from (bx3 (by first | exact hy1 | go_size) (by first | (with_reducible exact cw1_0) | go_cell_look | (simp [go_sem, hy1, cw1_0, fw1_0, cw1_1, fw1_1, cw1_2, fw1_2]; done) | (simp [go_sem]; done)) (by first | (with_reducible exact fw1_0) | (simp only [World.frozen?_setCell, fw1_0]; done) | (simp [go_sem, hy1, cw1_0, fw1_0, cw1_1, fw1_1, cw1_2, fw1_2]; done) | (simp [go_sem]; done)) (by first | (with_reducible exact cw1_1) | go_cell_look | (simp [go_sem, hy1, cw1_0, fw1_0, cw1_1, fw1_1, cw1_2, fw1_2]; done) | (simp [go_sem]; done)) (by first | (with_reducible exact fw1_1) | (simp only [World.frozen?_setCell, fw1_1]; done) | (simp [go_sem, hy1, cw1_0, fw1_0, cw1_1, fw1_1, cw1_2, fw1_2]; done) | (simp [go_sem]; done)) (by first | (with_reducible exact cw1_2) | go_cell_look | (simp [go_sem, hy1, cw1_0, fw1_0, cw1_1, fw1_1, cw1_2, fw1_2]; done) | (simp [go_sem]; done)) (by first | (with_reducible exact fw1_2) | (simp only [World.frozen?_setCell, fw1_2]; done) | (simp [go_sem, hy1, cw1_0, fw1_0, cw1_1, fw1_1, cw1_2, fw1_2]; done) | (simp [go_sem]; done))))
  have HB2 := Lib.hid (show Bx wn (w.heap.size + 2) [.slice x.A x.fl.length x.c, .slice x.B x.su.length x.d] from (bx2 (by first | exact hy2 | go_size) (by first | (with_reducible exact cw2_0) | go_cell_look | (simp [go_sem, hy2, cw2_0, fw2_0, cw2_1, fw2_1]; done) | (simp [go_sem]; done)) (by first | (with_reducible exact fw2_0) | (simp only [World.frozen?_setCell, fw2_0]; done) | (simp [go_sem, hy2, cw2_0, fw2_0, cw2_1, fw2_1]; done) | (simp [go_sem]; done)) (by first | (with_reducible exact cw2_1) | go_cell_look | (simp [go_sem, hy2, cw2_0, fw2_0, cw2_1, fw2_1]; done) | (simp [go_sem]; done)) (by first | (with_reducible exact fw2_1) | (simp only [World.frozen?_setCell, fw2_1]; done) | (simp [go_sem, hy2, cw2_0, fw2_0, cw2_1, fw2_1]; done) | (simp [go_sem]; done))))
  have HB3 := Lib.hid (show Bx wn (w.heap.size + 3) [.slice none 0 0, .slice none 0 0, .slice none 0 0] from (bx3 (by first | exact hy3 | go_size) (by first | (with_reducible exact cw3_0) | go_cell_look | (simp [go_sem, hy3, cw3_0, fw3_0, cw3_1, fw3_1, cw3_2, fw3_2]; done) | (simp [go_sem]; done)) (by first | (with_reducible exact fw3_0) | (simp only [World.frozen?_setCell, fw3_0]; done) | (simp [go_sem, hy3, cw3_0, fw3_0, cw3_1, fw3_1, cw3_2, fw3_2]; done) | (simp [go_sem]; done)) (by first | (with_reducible exact cw3_1) | go_cell_look | (simp [go_sem, hy3, cw3_0, fw3_0, cw3_1, fw3_1, cw3_2, fw3_2]; done) | (simp [go_sem]; done)) (by first | (with_reducible exact fw3_1) | (simp only [World.frozen?_setCell, fw3_1]; done) | (simp [go_sem, hy3, cw3_0, fw3_0, cw3_1, fw3_1, cw3_2, fw3_2]; done) | (simp [go_sem]; done)) (by first | (with_reducible exact cw3_2) | go_cell_look | (simp [go_sem, hy3, cw3_0, fw3_0, cw3_1, fw3_1, cw3_2, fw3_2]; done) | (simp [go_sem]; done)) (by first | (with_reducible exact fw3_2) | (simp only [World.frozen?_setCell, fw3_2]; done) | (simp [go_sem, hy3, cw3_0, fw3_0, cw3_1, fw3_1, cw3_2, fw3_2]; done) | (simp [go_sem]; done))))
  have HBN := Lib.hid hbn
  clear hy1 cw1_0 fw1_0 cw1_1 fw1_1 cw1_2 fw1_2
  clear hy2 cw2_0 fw2_0 cw2_1 fw2_1
  clear hy3 cw3_0 fw3_0 cw3_1 fw3_1 cw3_2 fw3_2
  clear hbn
  go_wp2_with fail
  clear hy0 cw0_0 fw0_0 cw0_1 fw0_1
  go_loopw [14] (fun v wr => ∃ k : Nat, k ≤ N.pipes.length ∧ v = .int .i64 k ∧ limF (x.fl.drop k) (N.pipes.drop k) = limF x.fl N.pipes ∧ Bx wr w.heap.size [.slice A N.nodes.length c, .slice B N.pipes.length d] ∧ Bx wr (w.heap.size + 1) [.slice Al ll.length cl, .slice Ah lh.length ch, .slice An ln.length cn] ∧ Bx wr (w.heap.size + 2) [.slice x.A x.fl.length x.c, .slice x.B x.su.length x.d] ∧ Bx wr (w.heap.size + 3) [.slice none 0 0, .slice none 0 0, .slice none 0 0] ∧ Below w.heap.size w wr) (fun v _ => N.pipes.length - (intOf v).toNat)
  case atStart => exact ⟨0, by omega, rfl, rfl, HB0.out, HB1.out, HB2.out, HB3.out, HBN.out⟩
  case round =>
    clear HB0 HB1 HB2 HB3 HBN
    obtain ⟨k, hk, rfl, hF, hB0, hB1, hB2, hB3, hbw⟩ := hrel
    have hbH := Lib.hid hbw
    have HF := Lib.hid hF
    have HB0 := Lib.hid hB0
    have HB1 := Lib.hid hB1
    have HB2 := Lib.hid hB2
    have HB3 := Lib.hid hB3
    have hz3 := hB3.lt
    clear hF hB0 hB1 hB2 hB3
    by_cases hlt : k < N.pipes.length
    · obtain ⟨y, hy⟩ := get_some (show k < x.fl.length by omega)
      obtain ⟨b2, off2, hAx, hb2, hat2⟩ := HA.out.r1.opened (k := k) (by simp; omega)
      have HP := Lib.hid HN.out.pipes
      obtain ⟨p, hp⟩ := get_some hlt; obtain ⟨bp, offp, rfl, hbp, hat⟩ := HP.out.opened (k := k) (by rw [flat_len Pp.len]; omega); have hat' := hat.below hbw hbp; have hybp : bp < wr.heap.size := Nat.lt_of_lt_of_le hbp hbw.size; have hzw := hbw.size; have t0 := hat'.elem0 Pp.len hp rfl; have t1 := hat'.elem Pp.len hp 1 rfl; have t2 := hat'.elem Pp.len hp 2 rfl; have t3 := hat'.elem Pp.len hp 3 rfl; have t4 := hat'.elem Pp.len hp 4 rfl; have HXp := Lib.hid hp; have HDp := Lib.hid (drop_cons hp); have gp : (k : Int) < _ := Int.ofNat_lt.2 hlt; clear hp hat hat'
      have s0 := ints_at (hat2.below hbw hb2) hy
      have hyb2 : b2 < wr.heap.size := Nat.lt_of_lt_of_le hb2 hbw.size
      obtain ⟨y1, y2⟩ := (hrB_of HX.out).1.2 y (List.mem_of_getElem? hy)
      have g2 : (k : Int) < x.fl.length := by omega
      have HST := Lib.hid (limF_step hy HXp.out)
      have hB2 := HB2.out
      rw [hAx] at hB2
      have c20 := hB2.cell 0 rfl
      have hy2 := hB2.lt
      clear hy hat2 hbw hB2
      go_wp2_with fail
      generalize hW : World.alloc wr _ = wn
      have hbn0 : Below wr.heap.size wr wn := by rw [← hW]; (repeat' (first | (with_reducible exact Below.refl _ _) | (with_reducible assumption) | (with_reducible refine Below.alloc ?_ ?_ _) | (with_reducible refine Below.drew ?_) | (with_reducible refine Below.drewN' ?_ _) | (with_reducible refine Below.setCell ?_ ?_ _) | (refine Below.via ?_ (by with_reducible assumption) ?_) | (with_reducible refine Below.via ?_ (Wd.h _) ?_) | go_size))
      have hzn := hbn0.size
      have hy_cx : wr.heap.size < wn.heap.size := by have := congrArg (fun W => W.heap.size) hW; simp at this; omega
      have hy_cy : b2 < wn.heap.size := by omega
      have q4 := Wd.cell (w0 := wn) (b := wr.heap.size) (o := 4) (v := .int .i64 p.lim) hy_cx (by rw [← hW]; simp)
      have q5 := Wd.cell (w0 := wn) (b := b2) (o := off2 + k) (v := .int .i64 y) hy_cy ((hbn0.cell (p := ⟨b2, off2 + k, none⟩) hyb2).trans s0)
      have q6 := Wd.cell (w0 := wn) (b := w.heap.size + 2) (o := 0) (by omega) (bc hbn0 hy2 c20)
      clear hW t0 t1 t2 t3 t4 s0 c20
      cases p1 : decide (p.lim < absI y)
      · refine wp_region_wd (by kernel_rfl) (by kernel_rfl) ?_
        repeat (go_big_quiet_step ((go_at_call 56; exact wd_pure (impl_absOf' _ _ (by omega) (by omega)))))
        refine wpQuiet_nil ?_
        rintro w2 ⟨⟨w'', hbn⟩, hw''⟩
        obtain rfl : w2 = w'' := hw''
        clear q4 q5 q6
        have hb2 : Below wr.heap.size wr w2 := by (repeat' (first | (with_reducible exact Below.refl _ _) | (with_reducible assumption) | (with_reducible refine Below.alloc ?_ ?_ _) | (with_reducible refine Below.drew ?_) | (with_reducible refine Below.drewN' ?_ _) | (with_reducible refine Below.setCell ?_ ?_ _) | (refine Below.via ?_ (by with_reducible assumption) ?_) | (with_reducible refine Below.via ?_ (Wd.h _) ?_) | go_size))
        go_wp2
        go_roundw
        case rel =>
          refine ⟨k + 1, by omega, by go_num, ?_, HB0.out.below hb2 (by omega), HB1.out.below hb2 (by omega), HB2.out.below hb2 (by omega), HB3.out.below hb2 (by omega), hbH.out.trans (hb2.mono hbH.out.size)⟩
          rw [← HF.out, HST.out, p1]; rfl
        case measure => simp [intOf]; omega
      · refine wp_region_wd (by kernel_rfl) (by kernel_rfl) ?_
        repeat (go_big_quiet_step ((go_at_call 56; exact wd_pure (impl_absOf' _ _ (by omega) (by omega)))))
        refine wpQuiet_nil ?_
        rintro w2 ⟨⟨w'', hbn⟩, hw''⟩
        obtain rfl : w2 = w'' := hw''
        clear q4 q5 q6
        have hb2 : Below wr.heap.size wr w2 := by (repeat' (first | (with_reducible exact Below.refl _ _) | (with_reducible assumption) | (with_reducible refine Below.alloc ?_ ?_ _) | (with_reducible refine Below.drew ?_) | (with_reducible refine Below.drewN' ?_ _) | (with_reducible refine Below.setCell ?_ ?_ _) | (refine Below.via ?_ (by with_reducible assumption) ?_) | (with_reducible refine Below.via ?_ (Wd.h _) ?_) | go_size))
        have hB3 := HB3.out.below hb2 (by omega)
        have HR := Lib.hid (stR_no (ll := ll) (lh := lh) (ln := ln) (su := x.su) (show limF x.fl N.pipes = false by rw [← HF.out, HST.out, p1]; rfl))
        have hy3 := hB3.lt; have cw3_0 := hB3.cell 0 rfl; have fw3_0 := hB3.frozen 0 rfl; have cw3_1 := hB3.cell 1 rfl; have fw3_1 := hB3.frozen 1 rfl; have cw3_2 := hB3.cell 2 rfl; have fw3_2 := hB3.frozen 2 rfl
        have HBE := Lib.hid (hbH.out.trans (hb2.mono hbH.out.size))
        clear hB3 hbn0 hbn hb2
        go_wp2
        refine bodyPost_ret (by simp [results, Try.results29, go_sem, cw3_0, cw3_1, cw3_2]; try rfl) rfl ?_
        rw [HR.out]
        exact ⟨none, none, none, 0, 0, 0, rfl, BufW.nil _ _, by have h1 := HBE.out; (repeat' (first | (with_reducible exact Below.refl _ _) | (with_reducible assumption) | (with_reducible refine Below.alloc ?_ ?_ _) | (with_reducible refine Below.drew ?_) | (with_reducible refine Below.drewN' ?_ _) | (with_reducible refine Below.setCell ?_ ?_ _) | (refine Below.via ?_ (by with_reducible assumption) ?_) | (with_reducible refine Below.via ?_ (Wd.h _) ?_) | go_size))⟩
    · obtain rfl : k = N.pipes.length := by omega
      have hne : ¬ N.pipes.length < N.pipes.length := by omega
      have HR := Lib.hid (stR_yes (ll := ll) (lh := lh) (ln := ln) (su := x.su) (show limF x.fl N.pipes = true by rw [← HF.out]; exact limF_end hlt))
      obtain ⟨nx, hnx⟩ : ∃ nx, nx = nextL N ln x.su x.fl := ⟨_, rfl⟩
      have HL := Lib.hid HK.out.l3
      have HNX := Lib.hid hnx
      have hnl : nx.length = ln.length := by rw [hnx, nextL_len HK.out.l3 (hrB_of HX.out).2.1, HK.out.l3]
      have l3 : nx.length ≤ ln.length := by omega
      have l4 : ln.length ≤ nx.length := by omega
      have l5 : ln.length ≤ 24 := by rw [HL.out]; omega
      have l6 : 1 ≤ ln.length := by rw [HL.out]; omega
      have b0 := HB0.out
      have b1 := HB1.out
      have b2 := HB2.out
      have b3 := HB3.out
      have hy0 := b0.lt; have cw0_0 := b0.cell 0 rfl; have fw0_0 := b0.frozen 0 rfl; have cw0_1 := b0.cell 1 rfl; have fw0_1 := b0.frozen 1 rfl
      have hy1 := b1.lt; have cw1_0 := b1.cell 0 rfl; have fw1_0 := b1.frozen 0 rfl; have cw1_1 := b1.cell 1 rfl; have fw1_1 := b1.frozen 1 rfl; have cw1_2 := b1.cell 2 rfl; have fw1_2 := b1.frozen 2 rfl
      have hy2 := b2.lt; have cw2_0 := b2.cell 0 rfl; have fw2_0 := b2.frozen 0 rfl; have cw2_1 := b2.cell 1 rfl; have fw2_1 := b2.frozen 1 rfl
      have hy3 := b3.lt; have cw3_0 := b3.cell 0 rfl; have fw3_0 := b3.frozen 0 rfl; have cw3_1 := b3.cell 1 rfl; have fw3_1 := b3.frozen 1 rfl; have cw3_2 := b3.cell 2 rfl; have fw3_2 := b3.frozen 2 rfl
      clear b0 b1 b2 b3 hbw hnx hnl
      have hbw := hbH.out
      go_wp2_with fail
      
      
      refine (impl_cloneBuffers _ _ _ _ _ _ _ _ _ ll lh ln _ (HFb.out.below (by (repeat' (first | (with_reducible exact Below.refl _ _) | (with_reducible assumption) | (with_reducible refine Below.alloc ?_ ?_ _) | (with_reducible refine Below.drew ?_) | (with_reducible refine Below.drewN' ?_ _) | (with_reducible refine Below.setCell ?_ ?_ _) | (refine Below.via ?_ (by with_reducible assumption) ?_) | (with_reducible refine Below.via ?_ (Wd.h _) ?_) | go_size)))) rfl rfl rfl).mono ?_
      rintro e w5 ⟨A1, A2, A3, c1, c2, c3, rfl, hW5, hb5⟩
      have HW5 := Lib.hid hW5
      clear hW5
      (obtain ⟨hcn, hfn⟩ := bcell hb5; have hz5 := hb5.size; (try simp at hz5); have Ncw0_0 := hcn (w.heap.size) (0) (by first | omega | (simp; done) | (simp; omega)); have Nfw0_0 := hfn (w.heap.size) (0) (by first | omega | (simp; done) | (simp; omega)); have Nhy0 : w.heap.size < w5.heap.size := (by omega); have Ncw0_1 := hcn (w.heap.size) (1) (by first | omega | (simp; done) | (simp; omega)); have Nfw0_1 := hfn (w.heap.size) (1) (by first | omega | (simp; done) | (simp; omega)); have Ncw1_0 := hcn (w.heap.size + 1) (0) (by first | omega | (simp; done) | (simp; omega)); have Nfw1_0 := hfn (w.heap.size + 1) (0) (by first | omega | (simp; done) | (simp; omega)); have Nhy1 : w.heap.size + 1 < w5.heap.size := (by omega); have Ncw1_1 := hcn (w.heap.size + 1) (1) (by first | omega | (simp; done) | (simp; omega)); have Nfw1_1 := hfn (w.heap.size + 1) (1) (by first | omega | (simp; done) | (simp; omega)); have Ncw1_2 := hcn (w.heap.size + 1) (2) (by first | omega | (simp; done) | (simp; omega)); have Nfw1_2 := hfn (w.heap.size + 1) (2) (by first | omega | (simp; done) | (simp; omega)); have Ncw2_0 := hcn (w.heap.size + 2) (0) (by first | omega | (simp; done) | (simp; omega)); have Nfw2_0 := hfn (w.heap.size + 2) (0) (by first | omega | (simp; done) | (simp; omega)); have Nhy2 : w.heap.size + 2 < w5.heap.size := (by omega); have Ncw2_1 := hcn (w.heap.size + 2) (1) (by first | omega | (simp; done) | (simp; omega)); have Nfw2_1 := hfn (w.heap.size + 2) (1) (by first | omega | (simp; done) | (simp; omega)); have Ncw3_0 := hcn (w.heap.size + 3) (0) (by first | omega | (simp; done) | (simp; omega)); have Nfw3_0 := hfn (w.heap.size + 3) (0) (by first | omega | (simp; done) | (simp; omega)); have Nhy3 : w.heap.size + 3 < w5.heap.size := (by omega); have Ncw3_1 := hcn (w.heap.size + 3) (1) (by first | omega | (simp; done) | (simp; omega)); have Nfw3_1 := hfn (w.heap.size + 3) (1) (by first | omega | (simp; done) | (simp; omega)); have Ncw3_2 := hcn (w.heap.size + 3) (2) (by first | omega | (simp; done) | (simp; omega)); have Nfw3_2 := hfn (w.heap.size + 3) (2) (by first | omega | (simp; done) | (simp; omega)); simp [go_sem, cw0_0, fw0_0, cw0_1, fw0_1, cw1_0, fw1_0, cw1_1, fw1_1, cw1_2, fw1_2, cw2_0, fw2_0, cw2_1, fw2_1, cw3_0, fw3_0, cw3_1, fw3_1, cw3_2, fw3_2, hy0, hy1, hy2, hy3] at Ncw0_0 Nfw0_0 Ncw0_1 Nfw0_1 Ncw1_0 Nfw1_0 Ncw1_1 Nfw1_1 Ncw1_2 Nfw1_2 Ncw2_0 Nfw2_0 Ncw2_1 Nfw2_1 Ncw3_0 Nfw3_0 Ncw3_1 Nfw3_1 Ncw3_2 Nfw3_2; clear cw0_0 fw0_0 cw0_1 fw0_1 cw1_0 fw1_0 cw1_1 fw1_1 cw1_2 fw1_2 cw2_0 fw2_0 cw2_1 fw2_1 cw3_0 fw3_0 cw3_1 fw3_1 cw3_2 fw3_2 hy0 hy1 hy2 hy3; clear hcn hfn; have cw0_0 := Ncw0_0; have fw0_0 := Nfw0_0; have cw0_1 := Ncw0_1; have fw0_1 := Nfw0_1; have cw1_0 := Ncw1_0; have fw1_0 := Nfw1_0; have cw1_1 := Ncw1_1; have fw1_1 := Nfw1_1; have cw1_2 := Ncw1_2; have fw1_2 := Nfw1_2; have cw2_0 := Ncw2_0; have fw2_0 := Nfw2_0; have cw2_1 := Ncw2_1; have fw2_1 := Nfw2_1; have cw3_0 := Ncw3_0; have fw3_0 := Nfw3_0; have cw3_1 := Ncw3_1; have fw3_1 := Nfw3_1; have cw3_2 := Ncw3_2; have fw3_2 := Nfw3_2; have hy0 := Nhy0; have hy1 := Nhy1; have hy2 := Nhy2; have hy3 := Nhy3; clear Ncw0_0 Nfw0_0 Ncw0_1 Nfw0_1 Ncw1_0 Nfw1_0 Ncw1_1 Nfw1_1 Ncw1_2 Nfw1_2 Ncw2_0 Nfw2_0 Ncw2_1 Nfw2_1 Ncw3_0 Nfw3_0 Ncw3_1 Nfw3_1 Ncw3_2 Nfw3_2 Nhy0 Nhy1 Nhy2 Nhy3)
      go_wp2_with fail
      
      refine (impl_contentAfter _ _ _ _ _ _ _ _ _ _ _ _ _ _ _ N ln x _ (HN.out.below (by (repeat' (first | (with_reducible exact Below.refl _ _) | (with_reducible assumption) | (with_reducible refine Below.alloc ?_ ?_ _) | (with_reducible refine Below.drew ?_) | (with_reducible refine Below.drewN' ?_ _) | (with_reducible refine Below.setCell ?_ ?_ _) | (refine Below.via ?_ (by with_reducible assumption) ?_) | (with_reducible refine Below.via ?_ (Wd.h _) ?_) | go_size)))) rfl rfl HO.out (HFb.out.r3.below (by (repeat' (first | (with_reducible exact Below.refl _ _) | (with_reducible assumption) | (with_reducible refine Below.alloc ?_ ?_ _) | (with_reducible refine Below.drew ?_) | (with_reducible refine Below.drewN' ?_ _) | (with_reducible refine Below.setCell ?_ ?_ _) | (refine Below.via ?_ (by with_reducible assumption) ?_) | (with_reducible refine Below.via ?_ (Wd.h _) ?_) | go_size)))) rfl (HA.out.below (by (repeat' (first | (with_reducible exact Below.refl _ _) | (with_reducible assumption) | (with_reducible refine Below.alloc ?_ ?_ _) | (with_reducible refine Below.drew ?_) | (with_reducible refine Below.drewN' ?_ _) | (with_reducible refine Below.setCell ?_ ?_ _) | (refine Below.via ?_ (by with_reducible assumption) ?_) | (with_reducible refine Below.via ?_ (Wd.h _) ?_) | go_size)))) HX.out HL.out (buf_now HK.out)).mono ?_
      rintro e w6 ⟨A4, c4, rfl, hc4, hW6, hb6⟩
      have HW6 := Lib.hid hW6
      clear hW6
      (obtain ⟨hcn, hfn⟩ := bcell hb6; have hz6 := hb6.size; (try simp at hz6); have Ncw0_0 := hcn (w.heap.size) (0) (by first | omega | (simp; done) | (simp; omega)); have Nfw0_0 := hfn (w.heap.size) (0) (by first | omega | (simp; done) | (simp; omega)); have Nhy0 : w.heap.size < w6.heap.size := (by omega); have Ncw0_1 := hcn (w.heap.size) (1) (by first | omega | (simp; done) | (simp; omega)); have Nfw0_1 := hfn (w.heap.size) (1) (by first | omega | (simp; done) | (simp; omega)); have Ncw1_0 := hcn (w.heap.size + 1) (0) (by first | omega | (simp; done) | (simp; omega)); have Nfw1_0 := hfn (w.heap.size + 1) (0) (by first | omega | (simp; done) | (simp; omega)); have Nhy1 : w.heap.size + 1 < w6.heap.size := (by omega); have Ncw1_1 := hcn (w.heap.size + 1) (1) (by first | omega | (simp; done) | (simp; omega)); have Nfw1_1 := hfn (w.heap.size + 1) (1) (by first | omega | (simp; done) | (simp; omega)); have Ncw1_2 := hcn (w.heap.size + 1) (2) (by first | omega | (simp; done) | (simp; omega)); have Nfw1_2 := hfn (w.heap.size + 1) (2) (by first | omega | (simp; done) | (simp; omega)); have Ncw2_0 := hcn (w.heap.size + 2) (0) (by first | omega | (simp; done) | (simp; omega)); have Nfw2_0 := hfn (w.heap.size + 2) (0) (by first | omega | (simp; done) | (simp; omega)); have Nhy2 : w.heap.size + 2 < w6.heap.size := (by omega); have Ncw2_1 := hcn (w.heap.size + 2) (1) (by first | omega | (simp; done) | (simp; omega)); have Nfw2_1 := hfn (w.heap.size + 2) (1) (by first | omega | (simp; done) | (simp; omega)); have Ncw3_0 := hcn (w.heap.size + 3) (0) (by first | omega | (simp; done) | (simp; omega)); have Nfw3_0 := hfn (w.heap.size + 3) (0) (by first | omega | (simp; done) | (simp; omega)); have Nhy3 : w.heap.size + 3 < w6.heap.size := (by omega); have Ncw3_1 := hcn (w.heap.size + 3) (1) (by first | omega | (simp; done) | (simp; omega)); have Nfw3_1 := hfn (w.heap.size + 3) (1) (by first | omega | (simp; done) | (simp; omega)); have Ncw3_2 := hcn (w.heap.size + 3) (2) (by first | omega | (simp; done) | (simp; omega)); have Nfw3_2 := hfn (w.heap.size + 3) (2) (by first | omega | (simp; done) | (simp; omega)); have Ncx_0 := hcn (w5.heap.size) (0) (by first | omega | (simp; done) | (simp; omega)); have Ncx_0f := hfn (w5.heap.size) (0) (by first | omega | (simp; done) | (simp; omega)); have Nhy_cx : w5.heap.size < w6.heap.size := (by omega); have Ncx_1 := hcn (w5.heap.size) (1) (by first | omega | (simp; done) | (simp; omega)); have Ncx_1f := hfn (w5.heap.size) (1) (by first | omega | (simp; done) | (simp; omega)); have Ncx_2 := hcn (w5.heap.size) (2) (by first | omega | (simp; done) | (simp; omega)); have Ncx_2f := hfn (w5.heap.size) (2) (by first | omega | (simp; done) | (simp; omega)); simp [go_sem, cw0_0, fw0_0, cw0_1, fw0_1, cw1_0, fw1_0, cw1_1, fw1_1, cw1_2, fw1_2, cw2_0, fw2_0, cw2_1, fw2_1, cw3_0, fw3_0, cw3_1, fw3_1, cw3_2, fw3_2, hy0, hy1, hy2, hy3] at Ncw0_0 Nfw0_0 Ncw0_1 Nfw0_1 Ncw1_0 Nfw1_0 Ncw1_1 Nfw1_1 Ncw1_2 Nfw1_2 Ncw2_0 Nfw2_0 Ncw2_1 Nfw2_1 Ncw3_0 Nfw3_0 Ncw3_1 Nfw3_1 Ncw3_2 Nfw3_2 Ncx_0 Ncx_0f Ncx_1 Ncx_1f Ncx_2 Ncx_2f; clear cw0_0 fw0_0 cw0_1 fw0_1 cw1_0 fw1_0 cw1_1 fw1_1 cw1_2 fw1_2 cw2_0 fw2_0 cw2_1 fw2_1 cw3_0 fw3_0 cw3_1 fw3_1 cw3_2 fw3_2 hy0 hy1 hy2 hy3; clear hcn hfn; have cw0_0 := Ncw0_0; have fw0_0 := Nfw0_0; have cw0_1 := Ncw0_1; have fw0_1 := Nfw0_1; have cw1_0 := Ncw1_0; have fw1_0 := Nfw1_0; have cw1_1 := Ncw1_1; have fw1_1 := Nfw1_1; have cw1_2 := Ncw1_2; have fw1_2 := Nfw1_2; have cw2_0 := Ncw2_0; have fw2_0 := Nfw2_0; have cw2_1 := Ncw2_1; have fw2_1 := Nfw2_1; have cw3_0 := Ncw3_0; have fw3_0 := Nfw3_0; have cw3_1 := Ncw3_1; have fw3_1 := Nfw3_1; have cw3_2 := Ncw3_2; have fw3_2 := Nfw3_2; have cx_0 := Ncx_0; have cx_0f := Ncx_0f; have cx_1 := Ncx_1; have cx_1f := Ncx_1f; have cx_2 := Ncx_2; have cx_2f := Ncx_2f; have hy0 := Nhy0; have hy1 := Nhy1; have hy2 := Nhy2; have hy3 := Nhy3; have hy_cx := Nhy_cx; clear Ncw0_0 Nfw0_0 Ncw0_1 Nfw0_1 Ncw1_0 Nfw1_0 Ncw1_1 Nfw1_1 Ncw1_2 Nfw1_2 Ncw2_0 Nfw2_0 Ncw2_1 Nfw2_1 Ncw3_0 Nfw3_0 Ncw3_1 Nfw3_1 Ncw3_2 Nfw3_2 Ncx_0 Ncx_0f Ncx_1 Ncx_1f Ncx_2 Ncx_2f Nhy0 Nhy1 Nhy2 Nhy3 Nhy_cx)
      have ze := congrArg World.heap (rfl : w5 = w5)
      have W1 := Lib.hid ((HW5.out.r1.below (w' := w6) (by (repeat' (first | (with_reducible exact Below.refl _ _) | (with_reducible assumption) | (with_reducible refine Below.alloc ?_ ?_ _) | (with_reducible refine Below.drew ?_) | (with_reducible refine Below.drewN' ?_ _) | (with_reducible refine Below.setCell ?_ ?_ _) | (refine Below.via ?_ (by with_reducible assumption) ?_) | (with_reducible refine Below.via ?_ (Wd.h _) ?_) | go_size)))).set_ (p := ⟨w5.heap.size, 2, none⟩) (fun k hk => by have := HW5.out.r1.hi k hk; simp; omega) (.slice A4 ln.length c4))
      have W2 := Lib.hid ((HW5.out.r2.below (w' := w6) (by (repeat' (first | (with_reducible exact Below.refl _ _) | (with_reducible assumption) | (with_reducible refine Below.alloc ?_ ?_ _) | (with_reducible refine Below.drew ?_) | (with_reducible refine Below.drewN' ?_ _) | (with_reducible refine Below.setCell ?_ ?_ _) | (refine Below.via ?_ (by with_reducible assumption) ?_) | (with_reducible refine Below.via ?_ (Wd.h _) ?_) | go_size)))).set_ (p := ⟨w5.heap.size, 2, none⟩) (fun k hk => by have := HW5.out.r2.hi k hk; simp; omega) (.slice A4 ln.length c4))
      have W3a : Wr (w5.heap.size + 1) w6 A4 nx.length (nx.map iV) := by
        have := HW6.out
        rw [Nat.mul_one, ← HNX.out] at this
        have e4 : ln.length = nx.length := by omega
        rw [e4] at this
        exact this.lower (by simp)
      have W3 := Lib.hid (W3a.set_ (p := ⟨w5.heap.size, 2, none⟩) (fun k hk => by have := W3a.lo k hk; simp; omega) (.slice A4 ln.length c4))
      clear W3a ze
      have HBF := Lib.hid (show BufAt (w6.setCell ⟨w5.heap.size, 2, none⟩ (.slice A4 ln.length c4)) A1 A2 A4 ll lh nx from ⟨W1.out.rd, W2.out.rd, W3.out.rd, HFb.out.s1, HFb.out.s2, by omega⟩)
      go_wp2_with fail
      (go_region_held3 (fun w' => w'.cell? ⟨w.heap.size, 0, none⟩ = some (.slice A N.nodes.length c) ∧ w'.cell? ⟨w.heap.size, 1, none⟩ = some (.slice B N.pipes.length d) ∧ w'.cell? ⟨w5.heap.size, 0, none⟩ = some (.slice A1 ll.length c1) ∧ w'.cell? ⟨w5.heap.size, 1, none⟩ = some (.slice A2 lh.length c2) ∧ w'.cell? ⟨w5.heap.size, 2, none⟩ = some (.slice A4 ln.length c4)) (first | exact ⟨cw0_0, cw0_1, cx_0, cx_1, cx_2⟩ | (simp [go_sem, cw0_0, cw0_1, cx_0, cx_1, cx_2]; done) | go_keep) (first
        | (go_at_call 52; ((with_reducible refine (impl_areBuffers _ _ _ _ _ _ _ _ _ _ _ _ _ _ _ ll lh nx _ (by omega) (HBF.out.below (by (repeat' (first | (with_reducible exact Below.refl _ _) | (with_reducible assumption) | (with_reducible refine Below.alloc ?_ ?_ _) | (with_reducible refine Below.drew ?_) | (with_reducible refine Below.drewN' ?_ _) | (with_reducible refine Below.setCell ?_ ?_ _) | (refine Below.via ?_ (by with_reducible assumption) ?_) | (with_reducible refine Below.via ?_ (Wd.h _) ?_) | go_size)))) rfl rfl (by omega)).mono ?_)); rintro e w7 ⟨rfl, hb7⟩; (obtain ⟨hcn, hfn⟩ := bcell hb7; have hz7 := hb7.size; (try simp at hz7); have Ncw0_0 := hcn (w.heap.size) (0) (by first | omega | (simp; done) | (simp; omega)); have Nfw0_0 := hfn (w.heap.size) (0) (by first | omega | (simp; done) | (simp; omega)); have Nhy0 : w.heap.size < w7.heap.size := (by omega); have Ncw0_1 := hcn (w.heap.size) (1) (by first | omega | (simp; done) | (simp; omega)); have Nfw0_1 := hfn (w.heap.size) (1) (by first | omega | (simp; done) | (simp; omega)); have Ncw1_0 := hcn (w.heap.size + 1) (0) (by first | omega | (simp; done) | (simp; omega)); have Nfw1_0 := hfn (w.heap.size + 1) (0) (by first | omega | (simp; done) | (simp; omega)); have Nhy1 : w.heap.size + 1 < w7.heap.size := (by omega); have Ncw1_1 := hcn (w.heap.size + 1) (1) (by first | omega | (simp; done) | (simp; omega)); have Nfw1_1 := hfn (w.heap.size + 1) (1) (by first | omega | (simp; done) | (simp; omega)); have Ncw1_2 := hcn (w.heap.size + 1) (2) (by first | omega | (simp; done) | (simp; omega)); have Nfw1_2 := hfn (w.heap.size + 1) (2) (by first | omega | (simp; done) | (simp; omega)); have Ncw2_0 := hcn (w.heap.size + 2) (0) (by first | omega | (simp; done) | (simp; omega)); have Nfw2_0 := hfn (w.heap.size + 2) (0) (by first | omega | (simp; done) | (simp; omega)); have Nhy2 : w.heap.size + 2 < w7.heap.size := (by omega); have Ncw2_1 := hcn (w.heap.size + 2) (1) (by first | omega | (simp; done) | (simp; omega)); have Nfw2_1 := hfn (w.heap.size + 2) (1) (by first | omega | (simp; done) | (simp; omega)); have Ncw3_0 := hcn (w.heap.size + 3) (0) (by first | omega | (simp; done) | (simp; omega)); have Nfw3_0 := hfn (w.heap.size + 3) (0) (by first | omega | (simp; done) | (simp; omega)); have Nhy3 : w.heap.size + 3 < w7.heap.size := (by omega); have Ncw3_1 := hcn (w.heap.size + 3) (1) (by first | omega | (simp; done) | (simp; omega)); have Nfw3_1 := hfn (w.heap.size + 3) (1) (by first | omega | (simp; done) | (simp; omega)); have Ncw3_2 := hcn (w.heap.size + 3) (2) (by first | omega | (simp; done) | (simp; omega)); have Nfw3_2 := hfn (w.heap.size + 3) (2) (by first | omega | (simp; done) | (simp; omega)); have Ncx_0 := hcn (w5.heap.size) (0) (by first | omega | (simp; done) | (simp; omega)); have Ncx_0f := hfn (w5.heap.size) (0) (by first | omega | (simp; done) | (simp; omega)); have Nhy_cx : w5.heap.size < w7.heap.size := (by omega); have Ncx_1 := hcn (w5.heap.size) (1) (by first | omega | (simp; done) | (simp; omega)); have Ncx_1f := hfn (w5.heap.size) (1) (by first | omega | (simp; done) | (simp; omega)); have Ncx_2 := hcn (w5.heap.size) (2) (by first | omega | (simp; done) | (simp; omega)); have Ncx_2f := hfn (w5.heap.size) (2) (by first | omega | (simp; done) | (simp; omega)); simp [go_sem, cw0_0, fw0_0, cw0_1, fw0_1, cw1_0, fw1_0, cw1_1, fw1_1, cw1_2, fw1_2, cw2_0, fw2_0, cw2_1, fw2_1, cw3_0, fw3_0, cw3_1, fw3_1, cw3_2, fw3_2, cx_0, cx_0f, cx_1, cx_1f, cx_2, cx_2f, hy0, hy1, hy2, hy3, hy_cx] at Ncw0_0 Nfw0_0 Ncw0_1 Nfw0_1 Ncw1_0 Nfw1_0 Ncw1_1 Nfw1_1 Ncw1_2 Nfw1_2 Ncw2_0 Nfw2_0 Ncw2_1 Nfw2_1 Ncw3_0 Nfw3_0 Ncw3_1 Nfw3_1 Ncw3_2 Nfw3_2 Ncx_0 Ncx_0f Ncx_1 Ncx_1f Ncx_2 Ncx_2f; clear cw0_0 fw0_0 cw0_1 fw0_1 cw1_0 fw1_0 cw1_1 fw1_1 cw1_2 fw1_2 cw2_0 fw2_0 cw2_1 fw2_1 cw3_0 fw3_0 cw3_1 fw3_1 cw3_2 fw3_2 cx_0 cx_0f cx_1 cx_1f cx_2 cx_2f hy0 hy1 hy2 hy3 hy_cx; clear hcn hfn; have cw0_0 := Ncw0_0; have fw0_0 := Nfw0_0; have cw0_1 := Ncw0_1; have fw0_1 := Nfw0_1; have cw1_0 := Ncw1_0; have fw1_0 := Nfw1_0; have cw1_1 := Ncw1_1; have fw1_1 := Nfw1_1; have cw1_2 := Ncw1_2; have fw1_2 := Nfw1_2; have cw2_0 := Ncw2_0; have fw2_0 := Nfw2_0; have cw2_1 := Ncw2_1; have fw2_1 := Nfw2_1; have cw3_0 := Ncw3_0; have fw3_0 := Nfw3_0; have cw3_1 := Ncw3_1; have fw3_1 := Nfw3_1; have cw3_2 := Ncw3_2; have fw3_2 := Nfw3_2; have cx_0 := Ncx_0; have cx_0f := Ncx_0f; have cx_1 := Ncx_1; have cx_1f := Ncx_1f; have cx_2 := Ncx_2; have cx_2f := Ncx_2f; have hy0 := Nhy0; have hy1 := Nhy1; have hy2 := Nhy2; have hy3 := Nhy3; have hy_cx := Nhy_cx; clear Ncw0_0 Nfw0_0 Ncw0_1 Nfw0_1 Ncw1_0 Nfw1_0 Ncw1_1 Nfw1_1 Ncw1_2 Nfw1_2 Ncw2_0 Nfw2_0 Ncw2_1 Nfw2_1 Ncw3_0 Nfw3_0 Ncw3_1 Nfw3_1 Ncw3_2 Nfw3_2 Ncx_0 Ncx_0f Ncx_1 Ncx_1f Ncx_2 Ncx_2f Nhy0 Nhy1 Nhy2 Nhy3 Nhy_cx))))
      all_goals
        go_wp2
        refine bodyPost_ret (by simp [results, Try.results29, go_sem, cw3_0, cw3_1, cw3_2]; try rfl) rfl ?_
        rw [HR.out, ← HNX.out]
        have e4 : ln.length = nx.length := by omega
        refine ⟨A1, A2, A4, c1, c2, c4, ?_, BufW.lower (base := w.heap.size + 4) (BufW.set_ (BufW.set_ (BufW.set_ ?_ (by simp) _) (by simp) _) (by simp) _) (by omega), by (repeat' (first | (with_reducible exact Below.refl _ _) | (with_reducible assumption) | (with_reducible refine Below.alloc ?_ ?_ _) | (with_reducible refine Below.drew ?_) | (with_reducible refine Below.drewN' ?_ _) | (with_reducible refine Below.setCell ?_ ?_ _) | (refine Below.via ?_ (by with_reducible assumption) ?_) | (with_reducible refine Below.via ?_ (Wd.h _) ?_) | go_size))⟩
        · show Ending.returned (.tuple #[.agg #[.slice A1 ll.length c1, .slice A2 lh.length c2, .slice A4 ln.length c4], .bool (bufB N.nodes.length ll lh nx)]) = .returned (.tuple #[.agg #[.slice A1 ll.length c1, .slice A2 lh.length c2, .slice A4 nx.length c4], .bool (bufB N.nodes.length ll lh nx)])
          rw [e4]
        · refine ⟨(W1.out.lower (by omega)).below (by (repeat' (first | (with_reducible exact Below.refl _ _) | (with_reducible assumption) | (with_reducible refine Below.alloc ?_ ?_ _) | (with_reducible refine Below.drew ?_) | (with_reducible refine Below.drewN' ?_ _) | (with_reducible refine Below.setCell ?_ ?_ _) | (refine Below.via ?_ (by with_reducible assumption) ?_) | (with_reducible refine Below.via ?_ (Wd.h _) ?_) | go_size))), (W2.out.lower (by omega)).below (by (repeat' (first | (with_reducible exact Below.refl _ _) | (with_reducible assumption) | (with_reducible refine Below.alloc ?_ ?_ _) | (with_reducible refine Below.drew ?_) | (with_reducible refine Below.drewN' ?_ _) | (with_reducible refine Below.setCell ?_ ?_ _) | (refine Below.via ?_ (by with_reducible assumption) ?_) | (with_reducible refine Below.via ?_ (Wd.h _) ?_) | go_size))), (W3.out.lower (by omega)).below (by (repeat' (first | (with_reducible exact Below.refl _ _) | (with_reducible assumption) | (with_reducible refine Below.alloc ?_ ?_ _) | (with_reducible refine Below.drew ?_) | (with_reducible refine Below.drewN' ?_ _) | (with_reducible refine Below.setCell ?_ ?_ _) | (refine Below.via ?_ (by with_reducible assumption) ?_) | (with_reducible refine Below.via ?_ (Wd.h _) ?_) | go_size))), HW5.out.d12, fun k h1 h2 => ?_, fun k h1 h2 => ?_⟩
          · have a := HW5.out.r1.hi k h1; have b := W3.out.lo k h2; omega
          · have a := HW5.out.r2.hi k h1; have b := W3.out.lo k h2; omega
end Go.Proofs.Ytijhadafmhbceaa
namespace Go.Proofs.Ytijhadafmhbceaa
set_option linter.unusedVariables false
set_option linter.unusedSimpArgs false
end Go.Proofs.Ytijhadafmhbceaa
namespace Go.Proofs.Ytijhadafmhbceaa
set_option linter.unusedVariables false
set_option linter.unusedSimpArgs false
open Go.RowKit
def IW (lo hi : Nat) (w : World) (G : Option Addr) (l : List Int) : Prop := Wr lo w G l.length (l.map iV) ∧ (∀ k, onA G k → k < hi) ∧ lo ≤ hi ∧ hi ≤ w.heap.size
theorem IW.below {lo hi : Nat} {w w' : World} {G : Option Addr} {l : List Int} (h : IW lo hi w G l) (hb : Below w.heap.size w w') : IW lo hi w' G l :=
  ⟨h.1.below hb, h.2.1, h.2.2.1, Nat.le_trans h.2.2.2 hb.size⟩
theorem IW.of {lo : Nat} {w : World} {G : Option Addr} {l : List Int} (h : Wr lo w G l.length (l.map iV)) (hs : lo ≤ w.heap.size) : IW lo w.heap.size w G l :=
  ⟨h, h.hi, hs, Nat.le_refl _⟩
theorem BufW.setx {base : Nat} {w : World} {A1 A2 A3 : Option Addr} {l1 l2 l3 : List Int} (h : BufW base w A1 A2 A3 l1 l2 l3) {p : Addr} (h1 : ∀ k, onA A1 k → k ≠ p.block) (h2 : ∀ k, onA A2 k → k ≠ p.block) (h3 : ∀ k, onA A3 k → k ≠ p.block) (u : Value) : BufW base (w.setCell p u) A1 A2 A3 l1 l2 l3 :=
  ⟨h.r1.set_ h1 u, h.r2.set_ h2 u, h.r3.set_ h3 u, h.d12, h.d13, h.d23⟩
structure SD where
  u : Nat → Value
  g : Nat
  lo : Nat → Nat
  hi : Nat → Nat
  c : Nat → Nat
  G : Nat → Option Addr
def SD.put (D : SD) (t : Nat) (v : Value) : SD := { D with u := fun j => if j = t then v else D.u j }
def SD.made (D : SD) (t : Nat) (v : Value) (lo hi c : Nat) (G : Option Addr) : SD :=
  { u := fun j => if j = t then v else D.u j, g := D.g, lo := fun j => if j = t then lo else D.lo j, hi := fun j => if j = t then hi else D.hi j, c := fun j => if j = t then c else D.c j, G := fun j => if j = t then G else D.G j }
def SD.boxed (D : SD) (v : Value) (g : Nat) : SD := { D with u := fun j => if j = 9 then v else D.u j, g := g }
def lits : List (Nat × Nat) := [(1, 32), (2, 33), (5, 36), (6, 37), (8, 39), (9, 40), (10, 41), (11, 42)]
def mks : List (Nat × Nat) := [(3, 34), (7, 38), (12, 43)]
structure SI (L : Nat → Bool) (D : SD) (q : Nat → Value) (l : Nat → List Int) (z : Nat) (w0 w : World) : Prop where
  bl : Below z w0 w
  sz : z ≤ w.heap.size
  lit : ∀ p ∈ lits, L p.1 = true → D.u p.2 = q p.2
  e0 : L 0 = true → ∃ ao, D.u 31 = .slice ao 0 0
  e4 : L 4 = true → ∃ ao, D.u 35 = .slice ao 0 0
  m : ∀ p ∈ mks, L p.1 = true → D.u p.2 = .slice (D.G p.2) (l p.2).length (D.c p.2) ∧ IW (D.lo p.2) (D.hi p.2) w (D.G p.2) (l p.2) ∧ z ≤ D.lo p.2
  ap : ∀ p ∈ mks, ∀ r ∈ mks, p.1 < r.1 → L p.1 = true → L r.1 = true → D.hi p.2 ≤ D.lo r.2
  b : L 14 = true → D.u 9 = .pointer (some ⟨D.g, 0, none⟩) ∧ z ≤ D.g ∧ ∃ y0 y1 y2, Bx w D.g [y0, y1, y2]
  ag : ∀ p ∈ mks, L p.1 = true → L 14 = true → D.g < D.lo p.2 ∨ D.hi p.2 ≤ D.g
  f13 : L 13 = true → D.u 44 = .agg #[D.u 34, D.u 38, D.u 43]
  f15 : L 15 = true → Bx w D.g [D.u 34, D.u 38, D.u 43]
  c7 : L 7 = true → L 3 = true
  c12 : L 12 = true → L 7 = true
  c13 : L 13 = true → L 12 = true
  c15 : L 15 = true → L 13 = true ∧ L 14 = true
variable {L : Nat → Bool} {D : SD} {q : Nat → Value} {l : Nat → List Int} {z : Nat} {w0 w w' : World}
theorem SI.below (h : SI L D q l z w0 w) (hb : Below w.heap.size w w') : SI L D q l z w0 w' where
  bl := h.bl.trans (hb.mono h.sz)
  sz := Nat.le_trans h.sz hb.size
  lit := h.lit
  e0 := h.e0
  e4 := h.e4
  m := fun p hp hl => ⟨(h.m p hp hl).1, (h.m p hp hl).2.1.below hb, (h.m p hp hl).2.2⟩
  ap := h.ap
  b := fun hl => by
    obtain ⟨a1, a2, y0, y1, y2, a3⟩ := h.b hl
    exact ⟨a1, a2, y0, y1, y2, a3.below hb a3.lt⟩
  ag := h.ag
  f13 := h.f13
  f15 := fun hl => (h.f15 hl).below hb (h.f15 hl).lt
  c7 := h.c7
  c12 := h.c12
  c13 := h.c13
  c15 := h.c15
theorem SI.start (hb : Below z w0 w) (hz : z ≤ w.heap.size) : SI (fun _ => false) D q l z w0 w := by
  constructor <;> first | exact hb | exact hz | (intros; contradiction)
/-- the loads and the fields' addresses -/
theorem SI.lit_ (h : SI L D q l z w0 w) {i t : Nat} (hp : (i, t) ∈ lits) : SI (upd L i) (D.put t (q t)) q l z w0 w := by
  simp [lits] at hp
  rcases hp with ⟨rfl, rfl⟩ | ⟨rfl, rfl⟩ | ⟨rfl, rfl⟩ | ⟨rfl, rfl⟩ | ⟨rfl, rfl⟩ | ⟨rfl, rfl⟩ | ⟨rfl, rfl⟩ | ⟨rfl, rfl⟩
  all_goals
    constructor
    case bl => exact h.bl
    case sz => exact h.sz
    case lit =>
      have hl := h.lit
      simp [lits, upd, SD.put] at hl ⊢
      simp_all
    case m => have hl := h.m; simp [mks, upd, SD.put] at hl ⊢; exact hl
    case ap => have hl := h.ap; simp [mks, upd, SD.put] at hl ⊢; exact hl
    case ag => have hl := h.ag; simp [mks, upd, SD.put] at hl ⊢; exact hl
    all_goals first
      | (intro x; exact h.e0 (by simpa [upd] using x))
      | (intro x; exact h.e4 (by simpa [upd] using x))
      | (intro x; exact h.b (by simpa [upd] using x))
      | (intro x; exact h.f13 (by simpa [upd] using x))
      | (intro x; exact h.f15 (by simpa [upd] using x))
      | (have := h.c7; simpa [upd] using this)
      | (have := h.c12; simpa [upd] using this)
      | (have := h.c13; simpa [upd] using this)
      | (have := h.c15; simpa [upd] using this)
theorem SI.e_ (h : SI L D q l z w0 w) {i t : Nat} (hp : (i, t) ∈ [(0, 31), (4, 35)]) {v : Value} (hv : ∃ ao, v = .slice ao 0 0) : SI (upd L i) (D.put t v) q l z w0 w := by
  simp at hp
  rcases hp with ⟨rfl, rfl⟩ | ⟨rfl, rfl⟩
  all_goals
    constructor
    case bl => exact h.bl
    case sz => exact h.sz
    case lit => have hl := h.lit; simp [lits, upd, SD.put] at hl ⊢; exact hl
    case m => have hl := h.m; simp [mks, upd, SD.put] at hl ⊢; exact hl
    case ap => have hl := h.ap; simp [mks, upd, SD.put] at hl ⊢; exact hl
    case ag => have hl := h.ag; simp [mks, upd, SD.put] at hl ⊢; exact hl
    all_goals first
      | (intro x; exact hv)
      | (intro x; exact h.e0 (by simpa [upd] using x))
      | (intro x; exact h.e4 (by simpa [upd] using x))
      | (intro x; exact h.b (by simpa [upd] using x))
      | (intro x; exact h.f13 (by simpa [upd] using x))
      | (intro x; exact h.f15 (by simpa [upd] using x))
      | (have := h.c7; simpa [upd] using this)
      | (have := h.c12; simpa [upd] using this)
      | (have := h.c13; simpa [upd] using this)
      | (have := h.c15; simpa [upd] using this)
theorem SI.gLt (h : SI L D q l z w0 w) (h14 : L 14 = true) : D.g < w.heap.size := by
  obtain ⟨_, _, _, _, _, hb⟩ := h.b h14
  exact hb.lt
theorem SI.hiLe (h : SI L D q l z w0 w) {p : Nat × Nat} (hp : p ∈ mks) (hl : L p.1 = true) : D.hi p.2 ≤ w.heap.size := (h.m p hp hl).2.1.2.2.2
/-- the two appends and the call -/
theorem SI.m_ (h : SI L D q l z w0 w) {i t : Nat} (hp : (i, t) ∈ mks) (hno : L i = false) (hpre : (i = 7 → L 3 = true) ∧ (i = 12 → L 7 = true)) (hb : Below w.heap.size w w') {G : Option Addr} {c : Nat} (hi : IW w.heap.size w'.heap.size w' G (l t)) :
    SI (upd L i) (D.made t (.slice G (l t).length c) w.heap.size w'.heap.size c G) q l z w0 w' := by
  have hg := h.gLt
  have h3 := h.hiLe (p := (3, 34)) (by simp [mks])
  have h7 := h.hiLe (p := (7, 38)) (by simp [mks])
  have h12 := h.hiLe (p := (12, 43)) (by simp [mks])
  have hs := h.sz
  have h' := h.below hb
  have c7 := h.c7
  have c12 := h.c12
  have c13 := h.c13
  have c15 := h.c15
  simp only [] at h3 h7 h12
  simp [mks] at hp
  rcases hp with ⟨rfl, rfl⟩ | ⟨rfl, rfl⟩ | ⟨rfl, rfl⟩
  · have n7 : L 7 = false := by cases h7 : L 7 <;> simp_all
    have n12 : L 12 = false := by cases h12 : L 12 <;> simp_all
    have n13 : L 13 = false := by cases h13 : L 13 <;> simp_all
    have n15 : L 15 = false := by cases h15 : L 15 <;> simp_all
    constructor
    case bl => exact h'.bl
    case sz => exact h'.sz
    case lit => have hl := h.lit; simp [lits, upd, SD.made] at hl ⊢; exact hl
    case m => simp [mks, upd, SD.made, n7, n12]; exact ⟨hi, hs⟩
    case ap => simp [mks, upd, SD.made, n7, n12]
    case ag => simp [mks, upd, SD.made, n7, n12]; intro x; exact .inl (hg x)
    case e0 => intro x; exact h.e0 (by simpa [upd] using x)
    case e4 => intro x; exact h.e4 (by simpa [upd] using x)
    case b => intro x; exact h'.b (by simpa [upd] using x)
    all_goals simp [upd, n7, n12, n13, n15]
  · have n3 := hpre.1 rfl
    have n12 : L 12 = false := by cases h12 : L 12 <;> simp_all
    have n13 : L 13 = false := by cases h13 : L 13 <;> simp_all
    have n15 : L 15 = false := by cases h15 : L 15 <;> simp_all
    have hl := h'.m
    have ha := h.ag
    simp [mks, n3, n12, hno] at hl ha
    constructor
    case bl => exact h'.bl
    case sz => exact h'.sz
    case lit => have hl := h.lit; simp [lits, upd, SD.made] at hl ⊢; exact hl
    case m => simp [mks, upd, SD.made, n3, n12]; exact ⟨hl, hi, hs⟩
    case ap => simp [mks, upd, SD.made, n3, n12]; exact h3 n3
    case ag => simp [mks, upd, SD.made, n3, n12]; exact ⟨ha, fun x => .inl (hg x)⟩
    case e0 => intro x; exact h.e0 (by simpa [upd] using x)
    case e4 => intro x; exact h.e4 (by simpa [upd] using x)
    case b => intro x; exact h'.b (by simpa [upd] using x)
    all_goals simp [upd, n3, n12, n13, n15]
  · have n7 := hpre.2 rfl
    have n3 := c7 n7
    have n13 : L 13 = false := by cases h13 : L 13 <;> simp_all
    have n15 : L 15 = false := by cases h15 : L 15 <;> simp_all
    have hl := h'.m
    have ha := h.ag
    have hp' := h.ap
    simp [mks, n3, n7, hno] at hl ha hp'
    constructor
    case bl => exact h'.bl
    case sz => exact h'.sz
    case lit => have hl := h.lit; simp [lits, upd, SD.made] at hl ⊢; exact hl
    case m => simp [mks, upd, SD.made, n3, n7]; exact ⟨hl.1, hl.2, hi, hs⟩
    case ap => simp [mks, upd, SD.made, n3, n7]; exact ⟨⟨hp', h3 n3⟩, h7 n7⟩
    case ag => simp [mks, upd, SD.made, n3, n7]; exact ⟨ha.1, ha.2, fun x => .inl (hg x)⟩
    case e0 => intro x; exact h.e0 (by simpa [upd] using x)
    case e4 => intro x; exact h.e4 (by simpa [upd] using x)
    case b => intro x; exact h'.b (by simpa [upd] using x)
    all_goals simp [upd, n3, n7, n13, n15]
/-- the fresh box -/
theorem SI.b_ (h : SI L D q l z w0 w) (hno : L 14 = false) (hb : Below w.heap.size w w') {y0 y1 y2 : Value} (hx : Bx w' w.heap.size [y0, y1, y2]) :
    SI (upd L 14) (D.boxed (.pointer (some ⟨w.heap.size, 0, none⟩)) w.heap.size) q l z w0 w' := by
  have h3 := h.hiLe (p := (3, 34)) (by simp [mks])
  have h7 := h.hiLe (p := (7, 38)) (by simp [mks])
  have h12 := h.hiLe (p := (12, 43)) (by simp [mks])
  have hs := h.sz
  have h' := h.below hb
  have c15 := h.c15
  have n15 : L 15 = false := by cases h15 : L 15 <;> simp_all
  simp only [] at h3 h7 h12
  constructor
  case bl => exact h'.bl
  case sz => exact h'.sz
  case lit => have hl := h.lit; simp [lits, upd, SD.boxed] at hl ⊢; exact hl
  case m => have hl := h'.m; simp [mks, upd, SD.boxed] at hl ⊢; exact hl
  case ap => have hl := h'.ap; simp [mks, upd, SD.boxed] at hl ⊢; exact hl
  case ag => simp [mks, upd, SD.boxed]; exact ⟨fun x => .inr (h3 x), fun x => .inr (h7 x), fun x => .inr (h12 x)⟩
  case b => intro _; exact ⟨rfl, hs, y0, y1, y2, hx⟩
  case e0 => intro x; exact h.e0 (by simpa [upd] using x)
  case e4 => intro x; exact h.e4 (by simpa [upd] using x)
  case f13 => intro x; exact h.f13 (by simpa [upd] using x)
  case f15 => simp [upd, n15]
  case c7 => have := h.c7; simpa [upd] using this
  case c12 => have := h.c12; simpa [upd] using this
  case c13 => have := h.c13; simpa [upd] using this
  case c15 => simp [upd, n15]
/-- the build -/
theorem SI.a_ (h : SI L D q l z w0 w) (hpre : L 12 = true) : SI (upd L 13) (D.put 44 (.agg #[D.u 34, D.u 38, D.u 43])) q l z w0 w := by
  constructor
  case bl => exact h.bl
  case sz => exact h.sz
  case lit => have hl := h.lit; simp [lits, upd, SD.put] at hl ⊢; exact hl
  case m => have hl := h.m; simp [mks, upd, SD.put] at hl ⊢; exact hl
  case ap => have hl := h.ap; simp [mks, upd, SD.put] at hl ⊢; exact hl
  case ag => have hl := h.ag; simp [mks, upd, SD.put] at hl ⊢; exact hl
  case e0 => intro x; exact h.e0 (by simpa [upd] using x)
  case e4 => intro x; exact h.e4 (by simpa [upd] using x)
  case b => intro x; exact h.b (by simpa [upd] using x)
  case f13 => intro _; rfl
  case f15 => intro x; exact h.f15 (by simpa [upd] using x)
  case c7 => have := h.c7; simpa [upd] using this
  case c12 => have := h.c12; simpa [upd] using this
  case c13 => intro _; simp [upd, hpre]
  case c15 => intro x; have := h.c15 (by simpa [upd] using x); simp [upd, this]
/-- all that is known behind the region -/
theorem SI.last (h : SI L D q l z w0 w) (h13 : L 13 = true) (h14 : L 14 = true) :
    D.u 9 = .pointer (some ⟨D.g, 0, none⟩) ∧ z ≤ D.g ∧ (∃ y0 y1 y2, Bx w D.g [y0, y1, y2]) ∧ D.u 44 = .agg #[.slice (D.G 34) (l 34).length (D.c 34), .slice (D.G 38) (l 38).length (D.c 38), .slice (D.G 43) (l 43).length (D.c 43)] ∧
      BufW z w (D.G 34) (D.G 38) (D.G 43) (l 34) (l 38) (l 43) ∧ (∀ t ∈ [34, 38, 43], ∀ k, onA (D.G t) k → k ≠ D.g) := by
  have n12 := h.c13 h13
  have n7 := h.c12 n12
  have n3 := h.c7 n7
  obtain ⟨a1, a2, a3⟩ := h.b h14
  have hm := h.m
  have ha := h.ap
  have hg := h.ag
  have hu := h.f13 h13
  simp [mks, n3, n7, n12, h14] at hm ha hg
  obtain ⟨⟨m1, i1, z1⟩, ⟨m2, i2, z2⟩, ⟨m3, i3, z3⟩⟩ := hm
  refine ⟨a1, a2, a3, by rw [hu, m1, m2, m3], ⟨i1.1.lower z1, i2.1.lower z2, i3.1.lower z3, fun k x y => ?_, fun k x y => ?_, fun k x y => ?_⟩, ?_⟩
  · have := i1.2.1 k x; have := i2.1.lo k y; omega
  · have := i1.2.1 k x; have := i3.1.lo k y; omega
  · have := i2.2.1 k x; have := i3.1.lo k y; omega
  · intro t ht k hk
    simp at ht
    rcases ht with rfl | rfl | rfl
    · have := i1.2.1 k hk; have := i1.1.lo k hk; omega
    · have := i2.2.1 k hk; have := i2.1.lo k hk; omega
    · have := i3.2.1 k hk; have := i3.1.lo k hk; omega
end Go.Proofs.Ytijhadafmhbceaa
namespace Go.Proofs.Ytijhadafmhbceaa
set_option linter.unusedVariables false
set_option linter.unusedSimpArgs false
open Go.RowKit
set_option maxRecDepth 100000 in
set_option maxHeartbeats 8000000 in
theorem spec_l19Step (A B Al Ah An : Option Addr) (n c m d nl nh nn cl ch cn : Nat) (N : Net) (ll lh ln : List Int) (x : Hr) (w : World) (hN : NetAt w A B N) (hn : n = N.nodes.length) (hm : m = N.pipes.length) (hO : N.Ok) (hf : BufAt w Al Ah An ll lh ln) (hk : BufOk N.nodes.length ll lh ln) (e1 : nl = ll.length) (e2 : nh = lh.length) (e3 : nn = ln.length) (hat : HrAt w x) (hx : hrB N.pipes.length N.nodes.length x = true) :
    Calls Try.prog 32 #[netV A B n c m d, bufV Al Ah An nl nh nn cl ch cn, x.val] w (MadeB w (stR N ll lh ln x.fl x.su).1 (stR N ll lh ln x.fl x.su).2) := by
  subst hn hm e1 e2 e3
  have hn1 := hO.n1
  obtain ⟨aL, rfl⟩ := rd_some hf.r1 (by have := hk.l1; cases ll with
    | nil => simp at this; omega
    | cons y l => simp)
  obtain ⟨aH, rfl⟩ := rd_some hf.r2 (by have := hk.l2; cases lh with
    | nil => simp at this; omega
    | cons y l => simp)
  have HN := Lib.hid hN
  have HFb := Lib.hid hf
  have HA := Lib.hid hat
  have HX := Lib.hid hx
  have HO := Lib.hid hO
  have HK := Lib.hid hk
  have hlx : x.fl.length ≤ N.pipes.length := by have := (hrB_of hx).1.1; omega
  have hly : N.pipes.length ≤ x.fl.length := by have := (hrB_of hx).1.1; omega
  have h24 := hO.n2
  have h40 := hO.p1
  clear hN hf hat hx hO hk
  go_enter Try.func32, Try.ntmps32
  go_wp2_with fail
  (generalize hW : (World.alloc (World.alloc (World.alloc (World.alloc w _) _) _) _) = wn; have hbn : Below w.heap.size w wn := (by rw [← hW]; (repeat' (first | (with_reducible exact Below.refl _ _) | (with_reducible assumption) | (with_reducible refine Below.alloc ?_ ?_ _) | (with_reducible refine Below.drew ?_) | (with_reducible refine Below.drewN' ?_ _) | (with_reducible refine Below.setCell ?_ ?_ _) | (refine Below.via ?_ (by with_reducible assumption) ?_) | (with_reducible refine Below.via ?_ (Wd.h _) ?_) | go_size))); have hzn := congrArg (fun W => W.heap.size) hW; simp at hzn; have cw0_0 := congrArg (fun W => World.cell? W ⟨w.heap.size, 0, none⟩) hW.symm; have fw0_0 := congrArg (fun W => World.frozen? W ⟨w.heap.size, 0, none⟩) hW.symm; have hy0 : w.heap.size < wn.heap.size := (by omega); have cw0_1 := congrArg (fun W => World.cell? W ⟨w.heap.size, 1, none⟩) hW.symm; have fw0_1 := congrArg (fun W => World.frozen? W ⟨w.heap.size, 1, none⟩) hW.symm; have cw1_0 := congrArg (fun W => World.cell? W ⟨w.heap.size + 1, 0, none⟩) hW.symm; have fw1_0 := congrArg (fun W => World.frozen? W ⟨w.heap.size + 1, 0, none⟩) hW.symm; have hy1 : w.heap.size + 1 < wn.heap.size := (by omega); have cw1_1 := congrArg (fun W => World.cell? W ⟨w.heap.size + 1, 1, none⟩) hW.symm; have fw1_1 := congrArg (fun W => World.frozen? W ⟨w.heap.size + 1, 1, none⟩) hW.symm; have cw1_2 := congrArg (fun W => World.cell? W ⟨w.heap.size + 1, 2, none⟩) hW.symm; have fw1_2 := congrArg (fun W => World.frozen? W ⟨w.heap.size + 1, 2, none⟩) hW.symm; have cw2_0 := congrArg (fun W => World.cell? W ⟨w.heap.size + 2, 0, none⟩) hW.symm; have fw2_0 := congrArg (fun W => World.frozen? W ⟨w.heap.size + 2, 0, none⟩) hW.symm; have hy2 : w.heap.size + 2 < wn.heap.size := (by omega); have cw2_1 := congrArg (fun W => World.cell? W ⟨w.heap.size + 2, 1, none⟩) hW.symm; have fw2_1 := congrArg (fun W => World.frozen? W ⟨w.heap.size + 2, 1, none⟩) hW.symm; have cw3_0 := congrArg (fun W => World.cell? W ⟨w.heap.size + 3, 0, none⟩) hW.symm; have fw3_0 := congrArg (fun W => World.frozen? W ⟨w.heap.size + 3, 0, none⟩) hW.symm; have hy3 : w.heap.size + 3 < wn.heap.size := (by omega); have cw3_1 := congrArg (fun W => World.cell? W ⟨w.heap.size + 3, 1, none⟩) hW.symm; have fw3_1 := congrArg (fun W => World.frozen? W ⟨w.heap.size + 3, 1, none⟩) hW.symm; have cw3_2 := congrArg (fun W => World.cell? W ⟨w.heap.size + 3, 2, none⟩) hW.symm; have fw3_2 := congrArg (fun W => World.frozen? W ⟨w.heap.size + 3, 2, none⟩) hW.symm; simp [go_sem] at cw0_0 fw0_0 cw0_1 fw0_1 cw1_0 fw1_0 cw1_1 fw1_1 cw1_2 fw1_2 cw2_0 fw2_0 cw2_1 fw2_1 cw3_0 fw3_0 cw3_1 fw3_1 cw3_2 fw3_2; clear hW hzn)
  have HB0 := Lib.hid (show Bx wn w.heap.size [.slice A N.nodes.length c, .slice B N.pipes.length d] from (bx2 (by first | exact hy0 | go_size) (by first | (with_reducible exact cw0_0) | go_cell_look | (simp [go_sem, hy0, cw0_0, fw0_0, cw0_1, fw0_1]; done) | (simp [go_sem]; done)) (by first | (with_reducible exact fw0_0) | (simp only [World.frozen?_setCell, fw0_0]; done) | (simp [go_sem, hy0, cw0_0, fw0_0, cw0_1, fw0_1]; done) | (simp [go_sem]; done)) (by first | (with_reducible exact cw0_1) | go_cell_look | (simp [go_sem, hy0, cw0_0, fw0_0, cw0_1, fw0_1]; done) | (simp [go_sem]; done)) (by first | (with_reducible exact fw0_1) | (simp only [World.frozen?_setCell, fw0_1]; done) | (simp [go_sem, hy0, cw0_0, fw0_0, cw0_1, fw0_1]; done) | (simp [go_sem]; done))))
  have HB1 := Lib.hid (show Bx wn (w.heap.size + 1) [.slice (some aL) ll.length cl, .slice (some aH) lh.length ch, .slice An ln.length cn] from (bx3 (by first | exact hy1 | go_size) (by first | (with_reducible exact cw1_0) | go_cell_look | (simp [go_sem, hy1, cw1_0, fw1_0, cw1_1, fw1_1, cw1_2, fw1_2]; done) | (simp [go_sem]; done)) (by first | (with_reducible exact fw1_0) | (simp only [World.frozen?_setCell, fw1_0]; done) | (simp [go_sem, hy1, cw1_0, fw1_0, cw1_1, fw1_1, cw1_2, fw1_2]; done) | (simp [go_sem]; done)) (by first | (with_reducible exact cw1_1) | go_cell_look | (simp [go_sem, hy1, cw1_0, fw1_0, cw1_1, fw1_1, cw1_2, fw1_2]; done) | (simp [go_sem]; done)) (by first | (with_reducible exact fw1_1) | (simp only [World.frozen?_setCell, fw1_1]; done) | (simp [go_sem, hy1, cw1_0, fw1_0, cw1_1, fw1_1, cw1_2, fw1_2]; done) | (simp [go_sem]; done)) (by first | (with_reducible exact cw1_2) | go_cell_look | (simp [go_sem, hy1, cw1_0, fw1_0, cw1_1, fw1_1, cw1_2, fw1_2]; done) | (simp [go_sem]; done)) (by first | (with_reducible exact fw1_2) | (simp only [World.frozen?_setCell, fw1_2]; done) | (simp [go_sem, hy1, cw1_0, fw1_0, cw1_1, fw1_1, cw1_2, fw1_2]; done) | (simp [go_sem]; done))))
  have HB2 := Lib.hid (show Bx wn (w.heap.size + 2) [.slice x.A x.fl.length x.c, .slice x.B x.su.length x.d] from (bx2 (by first | exact hy2 | go_size) (by first | (with_reducible exact cw2_0) | go_cell_look | (simp [go_sem, hy2, cw2_0, fw2_0, cw2_1, fw2_1]; done) | (simp [go_sem]; done)) (by first | (with_reducible exact fw2_0) | (simp only [World.frozen?_setCell, fw2_0]; done) | (simp [go_sem, hy2, cw2_0, fw2_0, cw2_1, fw2_1]; done) | (simp [go_sem]; done)) (by first | (with_reducible exact cw2_1) | go_cell_look | (simp [go_sem, hy2, cw2_0, fw2_0, cw2_1, fw2_1]; done) | (simp [go_sem]; done)) (by first | (with_reducible exact fw2_1) | (simp only [World.frozen?_setCell, fw2_1]; done) | (simp [go_sem, hy2, cw2_0, fw2_0, cw2_1, fw2_1]; done) | (simp [go_sem]; done))))
  have HB3 := Lib.hid (show Bx wn (w.heap.size + 3) [.slice none 0 0, .slice none 0 0, .slice none 0 0] from (bx3 (by first | exact hy3 | go_size) (by first | (with_reducible exact cw3_0) | go_cell_look | (simp [go_sem, hy3, cw3_0, fw3_0, cw3_1, fw3_1, cw3_2, fw3_2]; done) | (simp [go_sem]; done)) (by first | (with_reducible exact fw3_0) | (simp only [World.frozen?_setCell, fw3_0]; done) | (simp [go_sem, hy3, cw3_0, fw3_0, cw3_1, fw3_1, cw3_2, fw3_2]; done) | (simp [go_sem]; done)) (by first | (with_reducible exact cw3_1) | go_cell_look | (simp [go_sem, hy3, cw3_0, fw3_0, cw3_1, fw3_1, cw3_2, fw3_2]; done) | (simp [go_sem]; done)) (by first | (with_reducible exact fw3_1) | (simp only [World.frozen?_setCell, fw3_1]; done) | (simp [go_sem, hy3, cw3_0, fw3_0, cw3_1, fw3_1, cw3_2, fw3_2]; done) | (simp [go_sem]; done)) (by first | (with_reducible exact cw3_2) | go_cell_look | (simp [go_sem, hy3, cw3_0, fw3_0, cw3_1, fw3_1, cw3_2, fw3_2]; done) | (simp [go_sem]; done)) (by first | (with_reducible exact fw3_2) | (simp only [World.frozen?_setCell, fw3_2]; done) | (simp [go_sem, hy3, cw3_0, fw3_0, cw3_1, fw3_1, cw3_2, fw3_2]; done) | (simp [go_sem]; done))))
  have HBN := Lib.hid hbn
  clear hy0 cw0_0 fw0_0 cw0_1 fw0_1
  clear hy1 cw1_0 fw1_0 cw1_1 fw1_1 cw1_2 fw1_2
  clear hy2 cw2_0 fw2_0 cw2_1 fw2_1
  clear hy3 cw3_0 fw3_0 cw3_1 fw3_1 cw3_2 fw3_2
  clear hbn
  go_loopw [8] (fun v wr => ∃ k : Nat, k ≤ x.fl.length ∧ v = .int .i64 k ∧ limF (x.fl.drop k) (N.pipes.drop k) = limF x.fl N.pipes ∧ Bx wr w.heap.size [.slice A N.nodes.length c, .slice B N.pipes.length d] ∧ Bx wr (w.heap.size + 1) [.slice (some aL) ll.length cl, .slice (some aH) lh.length ch, .slice An ln.length cn] ∧ Bx wr (w.heap.size + 2) [.slice x.A x.fl.length x.c, .slice x.B x.su.length x.d] ∧ Bx wr (w.heap.size + 3) [.slice none 0 0, .slice none 0 0, .slice none 0 0] ∧ Below w.heap.size w wr) (fun v _ => x.fl.length - (intOf v).toNat)
  case atStart => exact ⟨0, by omega, rfl, rfl, HB0.out, HB1.out, HB2.out, HB3.out, HBN.out⟩
  case round =>
    clear HB0 HB1 HB2 HB3 HBN
    obtain ⟨k, hk, rfl, hF, hB0, hB1, hB2, hB3, hbw⟩ := hrel
    have hbH := Lib.hid hbw
    have HF := Lib.hid hF
    have HB0 := Lib.hid hB0
    have HB1 := Lib.hid hB1
    have HB2 := Lib.hid hB2
    have HB3 := Lib.hid hB3
    have hz3 := hB3.lt
    clear hF hB1 hB3
    have hy0 := hB0.lt; have cw0_0 := hB0.cell 0 rfl; have fw0_0 := hB0.frozen 0 rfl; have cw0_1 := hB0.cell 1 rfl; have fw0_1 := hB0.frozen 1 rfl
    have hy2 := hB2.lt; have cw2_0 := hB2.cell 0 rfl; have fw2_0 := hB2.frozen 0 rfl; have cw2_1 := hB2.cell 1 rfl; have fw2_1 := hB2.frozen 1 rfl
    clear hB0 hB2
    by_cases hlt : k < x.fl.length
    · obtain ⟨y, hy⟩ := get_some hlt
      obtain ⟨b2, off2, hAx, hb2, hat2⟩ := HA.out.r1.opened (k := k) (by simp; omega)
      obtain ⟨p, hp⟩ := get_some (show k < N.pipes.length by omega)
      obtain ⟨b, off, hBx, hb, hat⟩ := HN.out.pipes.opened (k := k) (by rw [flat_len Pp.len]; omega)
      have hzw := hbw.size
      obtain ⟨y1, y2⟩ := (hrB_of HX.out).1.2 y (List.mem_of_getElem? hy)
      have q4 := Wd.cell (show b < wr.heap.size by omega) ((hat.below hbw hb).elem Pp.len hp 4 rfl)
      have q5 := Wd.cell (show b2 < wr.heap.size by omega) (ints_at (hat2.below hbw hb2) hy)
      rw [hAx] at cw2_0
      rw [hBx] at cw0_1
      have q6 := Wd.cell (show w.heap.size + 2 < wr.heap.size by omega) cw2_0
      have q7 := Wd.cell (show w.heap.size < wr.heap.size by omega) cw0_1
      have g1 : (k : Int) < N.pipes.length := by omega
      have g2 : (k : Int) < x.fl.length := by omega
      have HST := Lib.hid (limF_step hy hp)
      clear hy hp hat2 hat hbw
      cases p1 : decide (p.lim < absI y)
      · go_wp2_with fail
        refine wp_region_wd (by kernel_rfl) (by kernel_rfl) ?_
        repeat (go_big_quiet_step ((go_at_call 62; exact wd_pure (spec_l01Abs _ _ (by omega) (by omega)))))
        refine wpQuiet_nil ?_
        rintro w2 ⟨⟨w'', hbn⟩, hw''⟩
        obtain rfl : w2 = w'' := hw''
        clear q4 q5 q6 q7
        go_wp2
        go_roundw
        case rel =>
          refine ⟨k + 1, by omega, by go_num, ?_, HB0.out.below hbn (by omega), HB1.out.below hbn (by omega), HB2.out.below hbn (by omega), HB3.out.below hbn (by omega), hbH.out.trans (hbn.mono hbH.out.size)⟩
          rw [← HF.out, HST.out, p1]; rfl
        case measure => simp [intOf]; omega
      · go_wp2_with fail
        refine wp_region_wd (by kernel_rfl) (by kernel_rfl) ?_
        repeat (go_big_quiet_step ((go_at_call 62; exact wd_pure (spec_l01Abs _ _ (by omega) (by omega)))))
        refine wpQuiet_nil ?_
        rintro w2 ⟨⟨w'', hbn⟩, hw''⟩
        obtain rfl : w2 = w'' := hw''
        clear q4 q5 q6 q7
        have hB3 := HB3.out.below hbn (by omega)
        have HR := Lib.hid (stR_no (ll := ll) (lh := lh) (ln := ln) (su := x.su) (show limF x.fl N.pipes = false by rw [← HF.out, HST.out, p1]; rfl))
        have hy3 := hB3.lt; have cw3_0 := hB3.cell 0 rfl; have fw3_0 := hB3.frozen 0 rfl; have cw3_1 := hB3.cell 1 rfl; have fw3_1 := hB3.frozen 1 rfl; have cw3_2 := hB3.cell 2 rfl; have fw3_2 := hB3.frozen 2 rfl
        have HBE := Lib.hid (hbH.out.trans (hbn.mono hbH.out.size))
        clear hB3 hbn
        go_wp2
        refine bodyPost_ret (by simp [results, Try.results32, go_sem, cw3_0, cw3_1, cw3_2]; try rfl) rfl ?_
        rw [HR.out]
        exact ⟨none, none, none, 0, 0, 0, rfl, BufW.nil _ _, by have h1 := HBE.out; (repeat' (first | (with_reducible exact Below.refl _ _) | (with_reducible assumption) | (with_reducible refine Below.alloc ?_ ?_ _) | (with_reducible refine Below.drew ?_) | (with_reducible refine Below.drewN' ?_ _) | (with_reducible refine Below.setCell ?_ ?_ _) | (refine Below.via ?_ (by with_reducible assumption) ?_) | (with_reducible refine Below.via ?_ (Wd.h _) ?_) | go_size))⟩
    · have HR := Lib.hid (stR_yes (ll := ll) (lh := lh) (ln := ln) (su := x.su) (show limF x.fl N.pipes = true by rw [← HF.out]; exact limF_end' hlt))
      obtain ⟨nx, hnx⟩ : ∃ nx, nx = nextL N ln x.su x.fl := ⟨_, rfl⟩
      have HL := Lib.hid HK.out.l3
      have HNX := Lib.hid hnx
      have hnl : nx.length = ln.length := by rw [hnx, nextL_len HK.out.l3 (hrB_of HX.out).2.1, HK.out.l3]
      have l3 : nx.length ≤ ln.length := by omega
      have l4 : ln.length ≤ nx.length := by omega
      have l5 : ln.length ≤ 24 := by rw [HL.out]; omega
      have l6 : 1 ≤ ln.length := by rw [HL.out]; omega
      have l7 : 1 ≤ ll.length := by rw [HK.out.l1]; omega
      have l8 : 1 ≤ lh.length := by rw [HK.out.l2]; omega
      have l9 := HFb.out.s1
      have l10 := HFb.out.s2
      have b1 := HB1.out
      have hy1 := b1.lt; have cw1_0 := b1.cell 0 rfl; have fw1_0 := b1.frozen 0 rfl; have cw1_1 := b1.cell 1 rfl; have fw1_1 := b1.frozen 1 rfl; have cw1_2 := b1.cell 2 rfl; have fw1_2 := b1.frozen 2 rfl
      clear b1 hnx hnl
      have hR1 := HFb.out.r1.below hbw
      have hR2 := HFb.out.r2.below hbw
      have HR1 := Lib.hid hR1
      have HR2 := Lib.hid hR2
      clear hR1 hR2 hbw
      go_wp2_with fail
      go_cut [9] (fun s9 wx => ∃ g A1 A2 A3 c1 c2 c3, s9 = .pointer (some ⟨g, 0, none⟩) ∧ w.heap.size + 4 ≤ g ∧ Bx wx g [.slice A1 ll.length c1, .slice A2 lh.length c2, .slice A3 ln.length c3] ∧ BufW (w.heap.size + 4) wx A1 A2 A3 ll lh nx ∧ Below wr.heap.size wr wx)
      case first =>
        refine wp_region_inv' (fun L a wx => ∃ D : SD, a = ⟨#[netV A B N.nodes.length c N.pipes.length d, bufV (some aL) (some aH) An ll.length lh.length ln.length cl ch cn, x.val, .pointer (some ⟨w.heap.size, 0, none⟩), .pointer (some ⟨w.heap.size + 1, 0, none⟩), .pointer (some ⟨w.heap.size + 1 + 1, 0, none⟩), .pointer (some ⟨w.heap.size + 1 + 1 + 1, 0, none⟩), u7, .int .i64 k, D.u 9, .int .i64 k, .pointer (some ⟨w.heap.size + 1 + 1, 0, none⟩), .slice x.A x.fl.length x.c, .int .i64 x.fl.length, .bool false, u15, u16, u17, u18, u19, u20, u21, u22, u23, u24, u25, u26, u27, u28, u29, u30, D.u 31, D.u 32, D.u 33, D.u 34, D.u 35, D.u 36, D.u 37, D.u 38, D.u 39, D.u 40, D.u 41, D.u 42, D.u 43, D.u 44, undef, undef, undef, undef], []⟩ ∧ ((L 15 = false ∧ SI L D (fun | 32 => .pointer (some ⟨w.heap.size + 1, 0, none⟩) | 33 => .slice (some aL) ll.length cl | 36 => .pointer (some ⟨w.heap.size + 1, 1, none⟩) | 37 => .slice (some aH) lh.length ch | 39 => netV A B N.nodes.length c N.pipes.length d | 40 => .pointer (some ⟨w.heap.size + 1, 2, none⟩) | 41 => .slice An ln.length cn | 42 => x.val | _ => undef) (fun | 34 => ll | 38 => lh | _ => nx) wr.heap.size wr wx) ∨ ((∀ i, i < 16 → L i = true) ∧ ∃ A1 A2 A3 c1 c2 c3, D.u 9 = .pointer (some ⟨D.g, 0, none⟩) ∧ w.heap.size + 4 ≤ D.g ∧ Bx wx D.g [.slice A1 ll.length c1, .slice A2 lh.length c2, .slice A3 ln.length c3] ∧ BufW (w.heap.size + 4) wx A1 A2 A3 ll lh nx ∧ Below wr.heap.size wr wx))) (by kernel_rfl) (by kernel_rfl) ?_ ?_ ?_
        · exact ⟨⟨fun _ => undef, 0, fun _ => 0, fun _ => 0, fun _ => 0, fun _ => none⟩, rfl, .inl ⟨rfl, SI.start (Below.drew (Below.refl _ _)) (Nat.le_refl _)⟩⟩
        · intro i hi L a wx hl hp hI
          obtain ⟨D, rfl, hI⟩ := hI
          rcases hI with ⟨n15, hS⟩ | ⟨hall, _⟩
          · have hbl := hS.bl
            have hz := hS.sz
            have bb0 := HB0.out.below hbl (by omega)
            have bb1 := HB1.out.below hbl (by omega)
            have bb2 := HB2.out.below hbl (by omega)
            have x0 := bb0.cell 0 rfl
            have x1 := bb0.cell 1 rfl
            have x2 := bb1.cell 0 rfl
            have x3 := bb1.cell 1 rfl
            have x4 := bb1.cell 2 rfl
            have x5 := bb2.cell 0 rfl
            have x6 := bb2.cell 1 rfl
            have hi : i < 16 := hi
            have hi : i = 0 ∨ i = 1 ∨ i = 2 ∨ i = 3 ∨ i = 4 ∨ i = 5 ∨ i = 6 ∨ i = 7 ∨ i = 8 ∨ i = 9 ∨ i = 10 ∨ i = 11 ∨ i = 12 ∨ i = 13 ∨ i = 14 ∨ i = 15 := by omega
            rcases hi with rfl | rfl | rfl | rfl | rfl | rfl | rfl | rfl | rfl | rfl | rfl | rfl | rfl | rfl | rfl | rfl
            · refine wpOp_go (E := True) rfl rfl (fun K' hK => ?_)
              go_simp
              refine hK.out _ _ ?_; exact ⟨D.put 31 _, (by simp only [SD.put, SD.made, SD.boxed]; first | rfl | (simp [*]; done)), .inl ⟨by simp [upd, n15], SI.e_ (i := 0) (hS.below (by (repeat' (first | (with_reducible exact Below.refl _ _) | (with_reducible assumption) | (with_reducible refine Below.alloc ?_ ?_ _) | (with_reducible refine Below.drew ?_) | (with_reducible refine Below.drewN' ?_ _) | (with_reducible refine Below.setCell ?_ ?_ _) | (refine Below.via ?_ (by with_reducible assumption) ?_) | (with_reducible refine Below.via ?_ (Wd.h _) ?_) | go_size)))) (by simp) ⟨_, rfl⟩⟩⟩
            · refine wpOp_go (E := True) rfl rfl (fun K' hK => ?_)
              go_simp
              refine hK.out _ _ ?_; exact ⟨D.put 32 _, (by simp only [SD.put, SD.made, SD.boxed]; first | rfl | (simp [*]; done)), .inl ⟨by simp [upd, n15], hS.lit_ (i := 1) (t := 32) (by simp [lits])⟩⟩
            · refine wpOp_go (E := True) rfl rfl (fun K' hK => ?_)
              simp [before, Region.binds] at hp
              have e : D.u 32 = _ := hS.lit (1, 32) (by simp [lits]) hp
              dsimp only at e
              go_simp
              refine hK.out _ _ ?_; exact ⟨D.put 33 _, (by simp only [SD.put, SD.made, SD.boxed]; first | rfl | (simp [*]; done)), .inl ⟨by simp [upd, n15], hS.lit_ (i := 2) (t := 33) (by simp [lits])⟩⟩
            · refine wpOp_go (E := True) rfl rfl (fun K' hK => ?_)
              simp [before, Region.binds] at hp
              obtain ⟨ao, e⟩ := hS.e0 hp.1
              have e' : D.u 33 = _ := hS.lit (2, 33) (by simp [lits]) hp.2
              dsimp only at e'
              refine app0 rfl (.tmp 31) (.tmp 33) 28 rfl info_i64 Try.underlying28 rfl (by omega) (by omega) ao e aL ll.length cl (ll.map iV) e' (by simp) (HR1.out.below (by (repeat' (first | (with_reducible exact Below.refl _ _) | (with_reducible assumption) | (with_reducible refine Below.alloc ?_ ?_ _) | (with_reducible refine Below.drew ?_) | (with_reducible refine Below.drewN' ?_ _) | (with_reducible refine Below.setCell ?_ ?_ _) | (refine Below.via ?_ (by with_reducible assumption) ?_) | (with_reducible refine Below.via ?_ (Wd.h _) ?_) | go_size)))) (iV_one ll) (by omega) (by omega) ?_
              intro v1 w1 hO1 hb1
              obtain ⟨G1, c1, rfl, hc1, hW1⟩ := hO1.lt_
              rw [Nat.mul_one] at hW1
              refine hK.out _ _ ?_; exact ⟨D.made 34 _ wx.heap.size w1.heap.size c1 G1, (by simp only [SD.put, SD.made, SD.boxed]; first | rfl | (simp [*]; done)), .inl ⟨by simp [upd, n15], hS.m_ (i := 3) (t := 34) (by simp [mks]) hl ⟨fun x => (by cases x), fun x => (by cases x)⟩ hb1 (IW.of hW1 hb1.size)⟩⟩
            · refine wpOp_go (E := True) rfl rfl (fun K' hK => ?_)
              go_simp
              refine hK.out _ _ ?_; exact ⟨D.put 35 _, (by simp only [SD.put, SD.made, SD.boxed]; first | rfl | (simp [*]; done)), .inl ⟨by simp [upd, n15], SI.e_ (i := 4) (hS.below (by (repeat' (first | (with_reducible exact Below.refl _ _) | (with_reducible assumption) | (with_reducible refine Below.alloc ?_ ?_ _) | (with_reducible refine Below.drew ?_) | (with_reducible refine Below.drewN' ?_ _) | (with_reducible refine Below.setCell ?_ ?_ _) | (refine Below.via ?_ (by with_reducible assumption) ?_) | (with_reducible refine Below.via ?_ (Wd.h _) ?_) | go_size)))) (by simp) ⟨_, rfl⟩⟩⟩
            · refine wpOp_go (E := True) rfl rfl (fun K' hK => ?_)
              go_simp
              refine hK.out _ _ ?_; exact ⟨D.put 36 _, (by simp only [SD.put, SD.made, SD.boxed]; first | rfl | (simp [*]; done)), .inl ⟨by simp [upd, n15], hS.lit_ (i := 5) (t := 36) (by simp [lits])⟩⟩
            · refine wpOp_go (E := True) rfl rfl (fun K' hK => ?_)
              simp [before, Region.binds] at hp
              have e : D.u 36 = _ := hS.lit (5, 36) (by simp [lits]) hp
              dsimp only at e
              go_simp
              refine hK.out _ _ ?_; exact ⟨D.put 37 _, (by simp only [SD.put, SD.made, SD.boxed]; first | rfl | (simp [*]; done)), .inl ⟨by simp [upd, n15], hS.lit_ (i := 6) (t := 37) (by simp [lits])⟩⟩
            · refine wpOp_go (E := True) rfl rfl (fun K' hK => ?_)
              simp [before, Region.binds] at hp
              obtain ⟨ao, e⟩ := hS.e4 hp.1
              have e' : D.u 37 = _ := hS.lit (6, 37) (by simp [lits]) hp.2.1
              dsimp only at e'
              refine app0 rfl (.tmp 35) (.tmp 37) 28 rfl info_i64 Try.underlying28 rfl (by omega) (by omega) ao e aH lh.length ch (lh.map iV) e' (by simp) (HR2.out.below (by (repeat' (first | (with_reducible exact Below.refl _ _) | (with_reducible assumption) | (with_reducible refine Below.alloc ?_ ?_ _) | (with_reducible refine Below.drew ?_) | (with_reducible refine Below.drewN' ?_ _) | (with_reducible refine Below.setCell ?_ ?_ _) | (refine Below.via ?_ (by with_reducible assumption) ?_) | (with_reducible refine Below.via ?_ (Wd.h _) ?_) | go_size)))) (iV_one lh) (by omega) (by omega) ?_
              intro v1 w1 hO1 hb1
              obtain ⟨G1, c1, rfl, hc1, hW1⟩ := hO1.lt_
              rw [Nat.mul_one] at hW1
              refine hK.out _ _ ?_; exact ⟨D.made 38 _ wx.heap.size w1.heap.size c1 G1, (by simp only [SD.put, SD.made, SD.boxed]; first | rfl | (simp [*]; done)), .inl ⟨by simp [upd, n15], hS.m_ (i := 7) (t := 38) (by simp [mks]) hl ⟨fun x => hp.2.2, fun x => (by cases x)⟩ hb1 (IW.of hW1 hb1.size)⟩⟩
            · refine wpOp_go (E := True) rfl rfl (fun K' hK => ?_)
              go_simp
              refine hK.out _ _ ?_; exact ⟨D.put 39 _, (by simp only [SD.put, SD.made, SD.boxed]; first | rfl | (simp [*]; done)), .inl ⟨by simp [upd, n15], hS.lit_ (i := 8) (t := 39) (by simp [lits])⟩⟩
            · refine wpOp_go (E := True) rfl rfl (fun K' hK => ?_)
              go_simp
              refine hK.out _ _ ?_; exact ⟨D.put 40 _, (by simp only [SD.put, SD.made, SD.boxed]; first | rfl | (simp [*]; done)), .inl ⟨by simp [upd, n15], hS.lit_ (i := 9) (t := 40) (by simp [lits])⟩⟩
            · refine wpOp_go (E := True) rfl rfl (fun K' hK => ?_)
              simp [before, Region.binds] at hp
              have e : D.u 40 = _ := hS.lit (9, 40) (by simp [lits]) hp
              dsimp only at e
              go_simp
              refine hK.out _ _ ?_; exact ⟨D.put 41 _, (by simp only [SD.put, SD.made, SD.boxed]; first | rfl | (simp [*]; done)), .inl ⟨by simp [upd, n15], hS.lit_ (i := 10) (t := 41) (by simp [lits])⟩⟩
            · refine wpOp_go (E := True) rfl rfl (fun K' hK => ?_)
              go_simp
              refine hK.out _ _ ?_; exact ⟨D.put 42 _, (by simp only [SD.put, SD.made, SD.boxed]; first | rfl | (simp [*]; done)), .inl ⟨by simp [upd, n15], hS.lit_ (i := 11) (t := 42) (by simp [lits])⟩⟩
            · refine wpOp_go (E := True) rfl rfl (fun K' hK => ?_)
              simp [before, Region.binds] at hp
              have e39 : D.u 39 = _ := hS.lit (8, 39) (by simp [lits]) hp.1
              dsimp only at e39
              have e41 : D.u 41 = _ := hS.lit (10, 41) (by simp [lits]) hp.2.1
              dsimp only at e41
              have e42 : D.u 42 = _ := hS.lit (11, 42) (by simp [lits]) hp.2.2.1
              dsimp only at e42
              go_simp
              go_at_call 63
              refine (spec_l19Next _ _ _ _ _ _ _ _ _ N ln x _ (HN.out.below (by have h1 := hbH.out; (repeat' (first | (with_reducible exact Below.refl _ _) | (with_reducible assumption) | (with_reducible refine Below.alloc ?_ ?_ _) | (with_reducible refine Below.drew ?_) | (with_reducible refine Below.drewN' ?_ _) | (with_reducible refine Below.setCell ?_ ?_ _) | (refine Below.via ?_ (by with_reducible assumption) ?_) | (with_reducible refine Below.via ?_ (Wd.h _) ?_) | go_size)))) rfl rfl HO.out (HFb.out.r3.below (by have h1 := hbH.out; (repeat' (first | (with_reducible exact Below.refl _ _) | (with_reducible assumption) | (with_reducible refine Below.alloc ?_ ?_ _) | (with_reducible refine Below.drew ?_) | (with_reducible refine Below.drewN' ?_ _) | (with_reducible refine Below.setCell ?_ ?_ _) | (refine Below.via ?_ (by with_reducible assumption) ?_) | (with_reducible refine Below.via ?_ (Wd.h _) ?_) | go_size)))) rfl (HA.out.below (by have h1 := hbH.out; (repeat' (first | (with_reducible exact Below.refl _ _) | (with_reducible assumption) | (with_reducible refine Below.alloc ?_ ?_ _) | (with_reducible refine Below.drew ?_) | (with_reducible refine Below.drewN' ?_ _) | (with_reducible refine Below.setCell ?_ ?_ _) | (refine Below.via ?_ (by with_reducible assumption) ?_) | (with_reducible refine Below.via ?_ (Wd.h _) ?_) | go_size)))) HX.out HL.out (buf_now HK.out)).mono ?_
              rintro e w3 ⟨G3, c3, rfl, hc3, hW3, hb3⟩
              rw [Nat.mul_one, ← HNX.out] at hW3
              have e4 : ln.length = nx.length := by omega
              rw [e4] at hW3
              refine hK.out _ _ ?_
              refine ⟨D.made 43 (.slice G3 nx.length c3) wx.heap.size w3.heap.size c3 G3, ?_, .inl ⟨by simp [upd, n15], hS.m_ (i := 12) (t := 43) (by simp [mks]) hl ⟨fun x => (by cases x), fun x => hp.2.2.2⟩ hb3 (IW.of hW3 hb3.size)⟩⟩
              simp only [SD.made]
              rw [← e4]
              simp [e39, e41, e42]
            · refine wpOp_go (E := True) rfl rfl (fun K' hK => ?_)
              simp [before, Region.binds] at hp
              have n12 := hp.2.2
              have n7 := hp.2.1
              have n3 := hp.1
              have m1 := (hS.m (3, 34) (by simp [mks]) n3).1
              have m2 := (hS.m (7, 38) (by simp [mks]) n7).1
              have m3 := (hS.m (12, 43) (by simp [mks]) n12).1
              dsimp only at m1 m2 m3
              go_simp
              refine hK.out _ _ ?_; exact ⟨D.put 44 (.agg #[D.u 34, D.u 38, D.u 43]), (by simp only [SD.put, SD.made, SD.boxed]; first | rfl | (simp [*]; done)), .inl ⟨by simp [upd, n15], hS.a_ hp.2.2⟩⟩
            · refine wpOp_go (E := True) rfl rfl (fun K' hK => ?_)
              go_simp
              refine hK.out _ _ ?_
              exact ⟨D.boxed _ wx.heap.size, (by simp only [SD.put, SD.made, SD.boxed]; first | rfl | (simp [*]; done)), .inl ⟨by simp [upd, n15], hS.b_ (y0 := .slice none 0 0) (y1 := .slice none 0 0) (y2 := .slice none 0 0) hl (by (repeat' (first | (with_reducible exact Below.refl _ _) | (with_reducible assumption) | (with_reducible refine Below.alloc ?_ ?_ _) | (with_reducible refine Below.drew ?_) | (with_reducible refine Below.drewN' ?_ _) | (with_reducible refine Below.setCell ?_ ?_ _) | (refine Below.via ?_ (by with_reducible assumption) ?_) | (with_reducible refine Below.via ?_ (Wd.h _) ?_) | go_size))) (bx3 (by simp) (by simp) (by simp) (by simp) (by simp) (by simp) (by simp))⟩⟩
            · refine wpOp_go (E := True) rfl rfl (fun K' hK => ?_)
              simp [before, Region.binds] at hp
              obtain ⟨h14, h13, h12, hrest⟩ := hp
              obtain ⟨f9, fg, ⟨y0, y1, y2, fb⟩, f44, fB, fa⟩ := hS.last h13 h14
              have n12 := hS.c13 h13
              have n7 := hS.c12 n12
              have n3 := hS.c7 n7
              have m1 := (hS.m (3, 34) (by simp [mks]) n3).1
              have m2 := (hS.m (7, 38) (by simp [mks]) n7).1
              have m3 := (hS.m (12, 43) (by simp [mks]) n12).1
              dsimp only at m1 m2 m3
              have k0 := fb.cell 0 rfl
              have k1 := fb.cell 1 rfl
              have k2 := fb.cell 2 rfl
              have z0 := fb.frozen 0 rfl
              have z1 := fb.frozen 1 rfl
              have z2 := fb.frozen 2 rfl
              go_simp
              refine hK.out _ _ ?_
              refine ⟨D, (by simp only [SD.put, SD.made, SD.boxed]; first | rfl | (simp [*]; done)), .inr ⟨?_, D.G 34, D.G 38, D.G 43, D.c 34, D.c 38, D.c 43, f9, by omega, ?_, ?_, ?_⟩⟩
              · intro j hj
                have hj : j = 0 ∨ j = 1 ∨ j = 2 ∨ j = 3 ∨ j = 4 ∨ j = 5 ∨ j = 6 ∨ j = 7 ∨ j = 8 ∨ j = 9 ∨ j = 10 ∨ j = 11 ∨ j = 12 ∨ j = 13 ∨ j = 14 ∨ j = 15 := by omega
                rcases hj with rfl | rfl | rfl | rfl | rfl | rfl | rfl | rfl | rfl | rfl | rfl | rfl | rfl | rfl | rfl | rfl <;> simp [upd, *]
              · have fl := fb.lt
                exact bx3 (by simpa using fl) (by simp [go_sem, k0, k1, k2]; try omega) (by simp [z0, z1, z2]) (by simp [go_sem, k0, k1, k2]; try omega) (by simp [z0, z1, z2]) (by simp [go_sem, k0, k1, k2]; try omega) (by simp [z0, z1, z2])
              · have a1 := fa 34 (by simp)
                have a2 := fa 38 (by simp)
                have a3 := fa 43 (by simp)
                exact BufW.lower (BufW.setx (BufW.setx (BufW.setx fB a1 a2 a3 _) a1 a2 a3 _) a1 a2 a3 _) (by omega)
              · (repeat' (first | (with_reducible exact Below.refl _ _) | (with_reducible assumption) | (with_reducible refine Below.alloc ?_ ?_ _) | (with_reducible refine Below.drew ?_) | (with_reducible refine Below.drewN' ?_ _) | (with_reducible refine Below.setCell ?_ ?_ _) | (refine Below.via ?_ (by with_reducible assumption) ?_) | (with_reducible refine Below.via ?_ (Wd.h _) ?_) | go_size))
          · have := hall i hi
            rw [this] at hl; cases hl
        · intro L a wx hall hI
          obtain ⟨D, rfl, hI⟩ := hI
          rcases hI with ⟨n15, _⟩ | ⟨_, A1, A2, A3, c1, c2, c3, g1, g2, g3, g4, g5⟩
          · have := hall 15 (by show 15 < 16; omega)
            rw [this] at n15; cases n15
          · go_wp2_with fail
            go_meet
            exact ⟨D.g, A1, A2, A3, c1, c2, c3, g1, g2, g3, g4, g5⟩
      case rest =>
        obtain ⟨g, A1, A2, A3, c1, c2, c3, rfl, hg, hgx, hW, hbc⟩ := hcut
        have HW := Lib.hid hW
        have b0 := HB0.out.below hbc (by omega)
        have b1 := HB1.out.below hbc (by omega)
        have b2 := HB2.out.below hbc (by omega)
        have b3 := HB3.out.below hbc (by omega)
        clear hy1 cw1_0 fw1_0 cw1_1 fw1_1 cw1_2 fw1_2
        have hy0 := b0.lt; have cw0_0 := b0.cell 0 rfl; have fw0_0 := b0.frozen 0 rfl; have cw0_1 := b0.cell 1 rfl; have fw0_1 := b0.frozen 1 rfl
        have hy1 := b1.lt; have cw1_0 := b1.cell 0 rfl; have fw1_0 := b1.frozen 0 rfl; have cw1_1 := b1.cell 1 rfl; have fw1_1 := b1.frozen 1 rfl; have cw1_2 := b1.cell 2 rfl; have fw1_2 := b1.frozen 2 rfl
        have hy2 := b2.lt; have cw2_0 := b2.cell 0 rfl; have fw2_0 := b2.frozen 0 rfl; have cw2_1 := b2.cell 1 rfl; have fw2_1 := b2.frozen 1 rfl
        have hy3 := b3.lt; have cw3_0 := b3.cell 0 rfl; have fw3_0 := b3.frozen 0 rfl; have cw3_1 := b3.cell 1 rfl; have fw3_1 := b3.frozen 1 rfl; have cw3_2 := b3.cell 2 rfl; have fw3_2 := b3.frozen 2 rfl
        have hy_cx := hgx.lt
        have cx_0 := hgx.cell 0 rfl
        have cx_1 := hgx.cell 1 rfl
        have cx_2 := hgx.cell 2 rfl
        have cx_0f := hgx.frozen 0 rfl
        have cx_1f := hgx.frozen 1 rfl
        have cx_2f := hgx.frozen 2 rfl
        have hne1 : ¬ g = w.heap.size + 3 := by omega
        have hne2 : ¬ w.heap.size + 3 = g := by omega
        have HBF := Lib.hid (hW.at_ (by omega) (by omega) (by omega))
        have HBC := Lib.hid (hbH.out.trans (hbc.mono hbH.out.size))
        have HN2 := Lib.hid (show N.nodes.length ≤ 1048576 by omega)
        clear hW hgx b0 b1 b2 b3 hbc
        go_wp2_with fail
        
        
        (go_region_held3 (fun w' => w'.cell? ⟨w.heap.size, 0, none⟩ = some (.slice A N.nodes.length c) ∧ w'.cell? ⟨w.heap.size, 1, none⟩ = some (.slice B N.pipes.length d) ∧ w'.cell? ⟨g, 0, none⟩ = some (.slice A1 ll.length c1) ∧ w'.cell? ⟨g, 1, none⟩ = some (.slice A2 lh.length c2) ∧ w'.cell? ⟨g, 2, none⟩ = some (.slice A3 ln.length c3)) (first | exact ⟨cw0_0, cw0_1, cx_0, cx_1, cx_2⟩ | (simp [go_sem, cw0_0, cw0_1, cx_0, cx_1, cx_2, hne1, hne2]; done) | go_keep) (first
          | (go_at_call 59; ((with_reducible refine (spec_l19Is _ _ _ _ _ _ _ _ _ _ _ _ _ _ _ ll lh nx _ HN2.out (HBF.out.below (by (repeat' (first | (with_reducible exact Below.refl _ _) | (with_reducible assumption) | (with_reducible refine Below.alloc ?_ ?_ _) | (with_reducible refine Below.drew ?_) | (with_reducible refine Below.drewN' ?_ _) | (with_reducible refine Below.setCell ?_ ?_ _) | (refine Below.via ?_ (by with_reducible assumption) ?_) | (with_reducible refine Below.via ?_ (Wd.h _) ?_) | go_size)))) rfl rfl (by omega)).mono ?_)); rintro e w7 ⟨rfl, hb7⟩; (obtain ⟨hcn, hfn⟩ := bcell hb7; have hz7 := hb7.size; (try simp at hz7); have Ncw0_0 := hcn (w.heap.size) (0) (by first | omega | (simp; done) | (simp; omega)); have Nfw0_0 := hfn (w.heap.size) (0) (by first | omega | (simp; done) | (simp; omega)); have Nhy0 : w.heap.size < w7.heap.size := (by omega); have Ncw0_1 := hcn (w.heap.size) (1) (by first | omega | (simp; done) | (simp; omega)); have Nfw0_1 := hfn (w.heap.size) (1) (by first | omega | (simp; done) | (simp; omega)); have Ncw1_0 := hcn (w.heap.size + 1) (0) (by first | omega | (simp; done) | (simp; omega)); have Nfw1_0 := hfn (w.heap.size + 1) (0) (by first | omega | (simp; done) | (simp; omega)); have Nhy1 : w.heap.size + 1 < w7.heap.size := (by omega); have Ncw1_1 := hcn (w.heap.size + 1) (1) (by first | omega | (simp; done) | (simp; omega)); have Nfw1_1 := hfn (w.heap.size + 1) (1) (by first | omega | (simp; done) | (simp; omega)); have Ncw1_2 := hcn (w.heap.size + 1) (2) (by first | omega | (simp; done) | (simp; omega)); have Nfw1_2 := hfn (w.heap.size + 1) (2) (by first | omega | (simp; done) | (simp; omega)); have Ncw2_0 := hcn (w.heap.size + 2) (0) (by first | omega | (simp; done) | (simp; omega)); have Nfw2_0 := hfn (w.heap.size + 2) (0) (by first | omega | (simp; done) | (simp; omega)); have Nhy2 : w.heap.size + 2 < w7.heap.size := (by omega); have Ncw2_1 := hcn (w.heap.size + 2) (1) (by first | omega | (simp; done) | (simp; omega)); have Nfw2_1 := hfn (w.heap.size + 2) (1) (by first | omega | (simp; done) | (simp; omega)); have Ncw3_0 := hcn (w.heap.size + 3) (0) (by first | omega | (simp; done) | (simp; omega)); have Nfw3_0 := hfn (w.heap.size + 3) (0) (by first | omega | (simp; done) | (simp; omega)); have Nhy3 : w.heap.size + 3 < w7.heap.size := (by omega); have Ncw3_1 := hcn (w.heap.size + 3) (1) (by first | omega | (simp; done) | (simp; omega)); have Nfw3_1 := hfn (w.heap.size + 3) (1) (by first | omega | (simp; done) | (simp; omega)); have Ncw3_2 := hcn (w.heap.size + 3) (2) (by first | omega | (simp; done) | (simp; omega)); have Nfw3_2 := hfn (w.heap.size + 3) (2) (by first | omega | (simp; done) | (simp; omega)); have Ncx_0 := hcn (g) (0) (by first | omega | (simp; done) | (simp; omega)); have Ncx_0f := hfn (g) (0) (by first | omega | (simp; done) | (simp; omega)); have Nhy_cx : g < w7.heap.size := (by omega); have Ncx_1 := hcn (g) (1) (by first | omega | (simp; done) | (simp; omega)); have Ncx_1f := hfn (g) (1) (by first | omega | (simp; done) | (simp; omega)); have Ncx_2 := hcn (g) (2) (by first | omega | (simp; done) | (simp; omega)); have Ncx_2f := hfn (g) (2) (by first | omega | (simp; done) | (simp; omega)); simp [go_sem, cw0_0, fw0_0, cw0_1, fw0_1, cw1_0, fw1_0, cw1_1, fw1_1, cw1_2, fw1_2, cw2_0, fw2_0, cw2_1, fw2_1, cw3_0, fw3_0, cw3_1, fw3_1, cw3_2, fw3_2, cx_0, cx_0f, cx_1, cx_1f, cx_2, cx_2f, hy0, hy1, hy2, hy3, hy_cx] at Ncw0_0 Nfw0_0 Ncw0_1 Nfw0_1 Ncw1_0 Nfw1_0 Ncw1_1 Nfw1_1 Ncw1_2 Nfw1_2 Ncw2_0 Nfw2_0 Ncw2_1 Nfw2_1 Ncw3_0 Nfw3_0 Ncw3_1 Nfw3_1 Ncw3_2 Nfw3_2 Ncx_0 Ncx_0f Ncx_1 Ncx_1f Ncx_2 Ncx_2f; clear cw0_0 fw0_0 cw0_1 fw0_1 cw1_0 fw1_0 cw1_1 fw1_1 cw1_2 fw1_2 cw2_0 fw2_0 cw2_1 fw2_1 cw3_0 fw3_0 cw3_1 fw3_1 cw3_2 fw3_2 cx_0 cx_0f cx_1 cx_1f cx_2 cx_2f hy0 hy1 hy2 hy3 hy_cx; clear hcn hfn; have cw0_0 := Ncw0_0; have fw0_0 := Nfw0_0; have cw0_1 := Ncw0_1; have fw0_1 := Nfw0_1; have cw1_0 := Ncw1_0; have fw1_0 := Nfw1_0; have cw1_1 := Ncw1_1; have fw1_1 := Nfw1_1; have cw1_2 := Ncw1_2; have fw1_2 := Nfw1_2; have cw2_0 := Ncw2_0; have fw2_0 := Nfw2_0; have cw2_1 := Ncw2_1; have fw2_1 := Nfw2_1; have cw3_0 := Ncw3_0; have fw3_0 := Nfw3_0; have cw3_1 := Ncw3_1; have fw3_1 := Nfw3_1; have cw3_2 := Ncw3_2; have fw3_2 := Nfw3_2; have cx_0 := Ncx_0; have cx_0f := Ncx_0f; have cx_1 := Ncx_1; have cx_1f := Ncx_1f; have cx_2 := Ncx_2; have cx_2f := Ncx_2f; have hy0 := Nhy0; have hy1 := Nhy1; have hy2 := Nhy2; have hy3 := Nhy3; have hy_cx := Nhy_cx; clear Ncw0_0 Nfw0_0 Ncw0_1 Nfw0_1 Ncw1_0 Nfw1_0 Ncw1_1 Nfw1_1 Ncw1_2 Nfw1_2 Ncw2_0 Nfw2_0 Ncw2_1 Nfw2_1 Ncw3_0 Nfw3_0 Ncw3_1 Nfw3_1 Ncw3_2 Nfw3_2 Ncx_0 Ncx_0f Ncx_1 Ncx_1f Ncx_2 Ncx_2f Nhy0 Nhy1 Nhy2 Nhy3 Nhy_cx))))
        all_goals
          have hBC := HBC.out
          have hyd : w.heap.size ≤ wc.drew.heap.size := HBC.out.size
          go_wp2
          refine bodyPost_ret (by simp [results, Try.results32, go_sem, cw3_0, cw3_1, cw3_2]; try rfl) rfl ?_
          rw [HR.out, ← HNX.out]
          have e4 : ln.length = nx.length := by omega
          refine ⟨A1, A2, A3, c1, c2, c3, ?_, BufW.lower (base := w.heap.size + 4) (BufW.set_ (BufW.set_ (BufW.set_ (HW.out.below (by (repeat' (first | (with_reducible exact Below.refl _ _) | (with_reducible assumption) | (with_reducible refine Below.alloc ?_ ?_ _) | (with_reducible refine Below.drew ?_) | (with_reducible refine Below.drewN' ?_ _) | (with_reducible refine Below.setCell ?_ ?_ _) | (refine Below.via ?_ (by with_reducible assumption) ?_) | (with_reducible refine Below.via ?_ (Wd.h _) ?_) | go_size)))) (by simp) _) (by simp) _) (by simp) _) (by omega), by (repeat' (first | (with_reducible exact Below.refl _ _) | (with_reducible assumption) | (with_reducible refine Below.alloc ?_ ?_ _) | (with_reducible refine Below.drew ?_) | (with_reducible refine Below.drewN' ?_ _) | (with_reducible refine Below.setCell ?_ ?_ _) | (refine Below.via ?_ (by with_reducible assumption) ?_) | (with_reducible refine Below.via ?_ (Wd.h _) ?_) | go_size))⟩
          show Ending.returned (.tuple #[.agg #[.slice A1 ll.length c1, .slice A2 lh.length c2, .slice A3 ln.length c3], .bool (bufB N.nodes.length ll lh nx)]) = .returned (.tuple #[.agg #[.slice A1 ll.length c1, .slice A2 lh.length c2, .slice A3 nx.length c3], .bool (bufB N.nodes.length ll lh nx)])
          rw [e4]
end Go.Proofs.Ytijhadafmhbceaa
namespace Go.Proofs.Ytijhadafmhbceaa
set_option linter.unusedVariables false
set_option linter.unusedSimpArgs false
open Go.RowKit
noncomputable def sdGo (N : Net) (fl su : List Int) : Nat → Nat → Bfs → Int
  | 0, k, _ => k
  | r + 1, k, b => if (stR N b.lo b.hi b.nw fl su).2 = false then k else sdGo N fl su r (k + 1) (stR N b.lo b.hi b.nw fl su).1
noncomputable def sdR (N : Net) (ll lh ln : List Int) (x : Hr) : Int × Int :=
  if hrC N ll lh ln x = 0 then (sdGo N x.fl x.su 48 0 ⟨ll, lh, ln⟩, 0) else (0, hrC N ll lh ln x)
theorem sdGo_no {N : Net} {fl su : List Int} {k : Nat} {b : Bfs} (hk : k < 48) (h : (stR N b.lo b.hi b.nw fl su).2 = false) : sdGo N fl su (48 - k) k b = k := by
  obtain ⟨r, hr⟩ : ∃ r, 48 - k = r + 1 := ⟨47 - k, by omega⟩
  rw [hr, sdGo, if_pos h]
theorem sdGo_yes {N : Net} {fl su : List Int} {k : Nat} {b : Bfs} (hk : k < 48) (h : (stR N b.lo b.hi b.nw fl su).2 = true) : sdGo N fl su (48 - k) k b = sdGo N fl su (48 - (k + 1)) (k + 1) (stR N b.lo b.hi b.nw fl su).1 := by
  obtain ⟨r, hr⟩ : ∃ r, 48 - k = r + 1 := ⟨47 - k, by omega⟩
  rw [hr, sdGo, h, if_neg (by simp), show 48 - (k + 1) = r by omega]
theorem sdGo_end {N : Net} {fl su : List Int} {k : Nat} {b : Bfs} (hk : ¬ k < 48) : sdGo N fl su (48 - k) k b = k := by
  rw [show 48 - k = 0 by omega, sdGo]
theorem stR_ok {N : Net} {ll lh ln fl su : List Int} (h : (stR N ll lh ln fl su).2 = true) :
    BufOk N.nodes.length (stR N ll lh ln fl su).1.lo (stR N ll lh ln fl su).1.hi (stR N ll lh ln fl su).1.nw := by
  cases hl : limF fl N.pipes
  · rw [stR_no hl] at h; cases h
  · rw [stR_yes hl] at h ⊢
    exact bufB_ok h
theorem Rd.blk {w : World} {A : Option Addr} {xs : List Value} (h : Rd w A xs) (hx : xs ≠ []) : ∀ k, onA A k → k < w.heap.size := fun k hk => by
  obtain ⟨b, off, e, hb, _⟩ := h hx
  obtain ⟨o2, e2⟩ := hk
  rw [e2] at e
  injection e with e
  injection e with e
  omega
/-- the three lists lie elsewhere than block p -/
def Off (p : Nat) (A1 A2 A3 : Option Addr) : Prop := (∀ k, onA A1 k → k ≠ p) ∧ (∀ k, onA A2 k → k ≠ p) ∧ ∀ k, onA A3 k → k ≠ p
theorem BufAt.off {w : World} {A1 A2 A3 : Option Addr} {l1 l2 l3 : List Int} {n p : Nat} (h : BufAt w A1 A2 A3 l1 l2 l3) (hk : BufOk n l1 l2 l3) (hn : 1 ≤ n) (hp : w.heap.size ≤ p) : Off p A1 A2 A3 := by
  have e1 := hk.l1
  have e2 := hk.l2
  have e3 := hk.l3
  refine ⟨fun k hk => ?_, fun k hk => ?_, fun k hk => ?_⟩
  · have := h.r1.blk (by intro e; have := congrArg List.length e; simp at this; simp [this] at e1; omega) k hk; omega
  · have := h.r2.blk (by intro e; have := congrArg List.length e; simp at this; simp [this] at e2; omega) k hk; omega
  · have := h.r3.blk (by intro e; have := congrArg List.length e; simp at this; simp [this] at e3; omega) k hk; omega
theorem BufW.off {base p : Nat} {w : World} {A1 A2 A3 : Option Addr} {l1 l2 l3 : List Int} (h : BufW base w A1 A2 A3 l1 l2 l3) (hp : p < base) : Off p A1 A2 A3 :=
  ⟨fun k hk => by have := h.r1.lo k hk; omega, fun k hk => by have := h.r2.lo k hk; omega, fun k hk => by have := h.r3.lo k hk; omega⟩
theorem BufW.fresh {base p : Nat} {w : World} {A1 A2 A3 : Option Addr} {l1 l2 l3 : List Int} (h : BufW base w A1 A2 A3 l1 l2 l3) (hp : w.heap.size ≤ p) : Off p A1 A2 A3 :=
  ⟨fun k hk => by have := h.r1.hi k hk; omega, fun k hk => by have := h.r2.hi k hk; omega, fun k hk => by have := h.r3.hi k hk; omega⟩
theorem BufW.seto {base : Nat} {w : World} {A1 A2 A3 : Option Addr} {l1 l2 l3 : List Int} (h : BufW base w A1 A2 A3 l1 l2 l3) {p : Addr} (ho : Off p.block A1 A2 A3) (u : Value) : BufW base (w.setCell p u) A1 A2 A3 l1 l2 l3 :=
  h.setx ho.1 ho.2.1 ho.2.2 u
/-- what goes around the loop of SteadyHours -/
structure SdI (w : World) (P : Nat) (N : Net) (x : Hr) (tot : Int) (k : Nat) (b : Bfs) (A1 A2 A3 : Option Addr) (c1 c2 c3 : Nat) (wr : World) : Prop where
  le : k ≤ 48
  go : sdGo N x.fl x.su (48 - k) k b = tot
  at_ : BufAt wr A1 A2 A3 b.lo b.hi b.nw
  ok : BufOk N.nodes.length b.lo b.hi b.nw
  off : Off P A1 A2 A3
  bx : Bx wr P [.slice A1 b.lo.length c1, .slice A2 b.hi.length c2, .slice A3 b.nw.length c3]
end Go.Proofs.Ytijhadafmhbceaa
namespace Go.Proofs.Ytijhadafmhbceaa
set_option linter.unusedVariables false
set_option linter.unusedSimpArgs false
open Go.RowKit
/-- an hour's two lists -/
abbrev Hr.q (x : Hr) : List Int × List Int := (x.fl, x.su)
def qB (m n : Nat) (x : List Int × List Int) : Bool := listB m x.1 && supB n x.2
def qsB (m n : Nat) (l : List (List Int × List Int)) : Bool := l.all (qB m n)
theorem qsB_hrs (m n : Nat) : ∀ l : List Hr, qsB m n (l.map Hr.q) = hrsF m n l
  | [] => rfl
  | x :: l => by
    have ih := qsB_hrs m n l
    simp only [qsB] at ih
    simp only [qsB, List.map_cons, List.all_cons, hrsF, ih]; rfl
/-- the buffers behind the hours that are possible, and their number -/
noncomputable def rhGo (N : Net) : List (List Int × List Int) → Nat → Bfs → Bfs × Nat
  | [], k, b => (b, k)
  | x :: l, k, b => if (stR N b.lo b.hi b.nw x.1 x.2).2 = false then (b, k) else rhGo N l (k + 1) (stR N b.lo b.hi b.nw x.1 x.2).1
noncomputable def rhC (N : Net) (ll lh ln : List Int) (l : List (List Int × List Int)) : Int :=
  if bufC N ll lh ln ≠ 0 then bufC N ll lh ln else if 48 < l.length then 5 else if qsB N.pipes.length N.nodes.length l = false then 2 else 0
noncomputable def rhR (N : Net) (ll lh ln : List Int) (l : List (List Int × List Int)) : Bfs × Int × Int :=
  if rhC N ll lh ln l = 0 then ((rhGo N l 0 ⟨ll, lh, ln⟩).1, (rhGo N l 0 ⟨ll, lh, ln⟩).2, 0) else (⟨[], [], []⟩, 0, rhC N ll lh ln l)
theorem rhR_code {N : Net} {ll lh ln : List Int} {l : List (List Int × List Int)} {k : Int} (h : rhC N ll lh ln l = k) (hk : k ≠ 0) : rhR N ll lh ln l = (⟨[], [], []⟩, 0, k) := by
  unfold rhR; rw [if_neg (by rw [h]; exact hk), h]
theorem rhR_zero {N : Net} {ll lh ln : List Int} {l : List (List Int × List Int)} (h : rhC N ll lh ln l = 0) : rhR N ll lh ln l = ((rhGo N l 0 ⟨ll, lh, ln⟩).1, ((rhGo N l 0 ⟨ll, lh, ln⟩).2 : Int), 0) := by
  unfold rhR; rw [if_pos h]
theorem rhC_1 {N : Net} {ll lh ln : List Int} {l : List (List Int × List Int)} (h : bufC N ll lh ln ≠ 0) : rhC N ll lh ln l = bufC N ll lh ln := by unfold rhC; rw [if_pos h]
theorem rhC_5 {N : Net} {ll lh ln : List Int} {l : List (List Int × List Int)} (h : bufC N ll lh ln = 0) (h48 : 48 < l.length) : rhC N ll lh ln l = 5 := by unfold rhC; rw [if_neg (by simp [h]), if_pos h48]
theorem rhC_q {N : Net} {ll lh ln : List Int} {l : List (List Int × List Int)} (h : bufC N ll lh ln = 0) (h48 : ¬ 48 < l.length) : rhC N ll lh ln l = if qsB N.pipes.length N.nodes.length l = false then 2 else 0 := by unfold rhC; rw [if_neg (by simp [h]), if_neg h48]
theorem rhGo_no {N : Net} {l : List (List Int × List Int)} {k : Nat} {b : Bfs} {x : List Int × List Int} (hx : l[k]? = some x) (h : (stR N b.lo b.hi b.nw x.1 x.2).2 = false) : rhGo N (l.drop k) k b = (b, k) := by
  rw [drop_consI hx, rhGo, if_pos h]
theorem rhGo_yes {N : Net} {l : List (List Int × List Int)} {k : Nat} {b : Bfs} {x : List Int × List Int} (hx : l[k]? = some x) (h : (stR N b.lo b.hi b.nw x.1 x.2).2 = true) : rhGo N (l.drop k) k b = rhGo N (l.drop (k + 1)) (k + 1) (stR N b.lo b.hi b.nw x.1 x.2).1 := by
  rw [drop_consI hx, rhGo, h, if_neg (by simp)]
theorem rhGo_end {N : Net} {l : List (List Int × List Int)} {k : Nat} {b : Bfs} (h : ¬ k < l.length) : rhGo N (l.drop k) k b = (b, k) := by
  rw [drop_endI h, rhGo]
theorem q_at {l : List Hr} {k : Nat} {x : Hr} (h : l[k]? = some x) : (l.map Hr.q)[k]? = some (x.fl, x.su) := by rw [List.getElem?_map, h]; rfl
theorem hrsF_at {m n : Nat} {l : List Hr} {k : Nat} {x : Hr} (h : hrsF m n l = true) (hx : l[k]? = some x) : hrB m n x = true := hrsF_all.1 h x (List.mem_of_getElem? hx)
/-- buffers, a number and a code that a call makes -/
def MadeBII (w : World) (x : Bfs) (k code : Int) (e : Ending) (w' : World) : Prop :=
  ∃ A1 A2 A3 c1 c2 c3, e = .returned (.tuple #[.agg #[.slice A1 x.lo.length c1, .slice A2 x.hi.length c2, .slice A3 x.nw.length c3], .int .i64 k, .int .i64 code]) ∧ BufW w.heap.size w' A1 A2 A3 x.lo x.hi x.nw ∧ Below w.heap.size w w'
/-- what goes around the loops of RunHours: the buffers of the call's own in box P -/
structure RhI (base : Nat) (P : Nat) (N : Net) (l : List (List Int × List Int)) (tot : Bfs × Nat) (k : Nat) (b : Bfs) (A1 A2 A3 : Option Addr) (c1 c2 c3 : Nat) (wr : World) : Prop where
  le : k ≤ l.length
  go : rhGo N (l.drop k) k b = tot
  at_ : BufW base wr A1 A2 A3 b.lo b.hi b.nw
  ok : BufOk N.nodes.length b.lo b.hi b.nw
  off : Off P A1 A2 A3
  bx : Bx wr P [.slice A1 b.lo.length c1, .slice A2 b.hi.length c2, .slice A3 b.nw.length c3]
theorem rhGo_len {N : Net} {n : Nat} : ∀ {l : List (List Int × List Int)} {k : Nat} {b : Bfs}, N.nodes.length = n → BufOk n b.lo b.hi b.nw → BufOk n (rhGo N l k b).1.lo (rhGo N l k b).1.hi (rhGo N l k b).1.nw
  | [], k, b, e, h => h
  | x :: l, k, b, e, h => by
    rw [rhGo]
    cases hs : (stR N b.lo b.hi b.nw x.1 x.2).2
    · rw [if_pos rfl]; exact h
    · rw [if_neg (by simp)]
      have := stR_ok hs
      rw [e] at this
      exact rhGo_len e this
theorem rhC_of {N : Net} {ll lh ln : List Int} {l : List (List Int × List Int)} (h : rhC N ll lh ln l = 0) : bufC N ll lh ln = 0 ∧ l.length ≤ 48 ∧ qsB N.pipes.length N.nodes.length l = true := by
  unfold rhC at h
  by_cases h0 : bufC N ll lh ln = 0
  · rw [if_neg (by simp [h0])] at h
    by_cases h1 : 48 < l.length
    · rw [if_pos h1] at h; cases h
    · rw [if_neg h1] at h
      cases h2 : qsB N.pipes.length N.nodes.length l
      · rw [if_pos h2] at h; cases h
      · exact ⟨h0, by omega, rfl⟩
  · rw [if_pos h0] at h; exact absurd h h0
theorem rhR_len (N : Net) (ll lh ln : List Int) (l : List (List Int × List Int)) : (rhR N ll lh ln l).1.lo.length ≤ 24 ∧ (rhR N ll lh ln l).1.hi.length ≤ 24 ∧ (rhR N ll lh ln l).1.nw.length ≤ 24 := by
  unfold rhR
  split
  · rename_i h
    have hb := bufC_of (rhC_of h).1
    have hk := rhGo_len (l := l) (k := 0) (b := ⟨ll, lh, ln⟩) rfl hb.2
    have h24 := hb.1.n2
    have h1 := hk.l1
    have h2 := hk.l2
    have h3 := hk.l3
    dsimp only
    omega
  · simp
end Go.Proofs.Ytijhadafmhbceaa
namespace Go.Proofs.Ytijhadafmhbceaa
set_option linter.unusedVariables false
set_option linter.unusedSimpArgs false
open Go.RowKit
structure Rz where
  a : Nat → Option Addr
  c : Nat → Nat
  b : Nat
def Rz.zero : Rz := ⟨fun _ => none, fun _ => 0, 0⟩
def Rz.list (ρ : Rz) (j : Nat) (A : Option Addr) (c : Nat) : Rz := ⟨fun k => if k = j then A else ρ.a k, fun k => if k = j then c else ρ.c k, ρ.b⟩
def Rz.box (ρ : Rz) (g : Nat) : Rz := ⟨ρ.a, ρ.c, g⟩
/-- M: operation, label and content of the lists made; kb makes the box of zero values z, ks fills it with cs -/
structure WB (w0 : World) (M : List (Nat × Nat × List Int)) (kb ks : Nat) (z : List Value) (cs : Rz → List Value) (L : Nat → Bool) (ρ : Rz) (w : World) : Prop where
  bl : Below w0.heap.size w0 w
  md : ∀ i j l, (i, j, l) ∈ M → L i = true → Wr w0.heap.size w (ρ.a j) l.length (l.map iV)
  ds : ∀ i j l i' j' l', (i, j, l) ∈ M → (i', j', l') ∈ M → L i = true → L i' = true → j ≠ j' → ∀ q, onA (ρ.a j) q → ¬ onA (ρ.a j') q
  b0 : L kb = true → w0.heap.size ≤ ρ.b ∧ ρ.b < w.heap.size ∧ ∀ i j l, (i, j, l) ∈ M → L i = true → ¬ onA (ρ.a j) ρ.b
  b1 : L kb = true → L ks = false → Bx w ρ.b z
  b2 : L ks = true → Bx w ρ.b (cs ρ)
section
variable {w0 w w' : World} {M : List (Nat × Nat × List Int)} {kb ks : Nat} {z : List Value} {cs : Rz → List Value} {L : Nat → Bool} {ρ : Rz}
theorem WB.start (h : Below w0.heap.size w0 w) : WB w0 M kb ks z cs (fun _ => false) ρ w :=
  ⟨h, (fun _ _ _ _ e => by cases e), (fun _ _ _ _ _ _ _ _ e => by cases e), (fun e => by cases e), (fun e => by cases e), (fun e => by cases e)⟩
theorem WB.notin {i j : Nat} {l : List Int} (h : (M.map (·.1)).contains i = false) (hm : (i, j, l) ∈ M) : False := by
  have : (M.map (·.1)).contains i = true := by
    rw [List.contains_iff_mem]; exact List.mem_map.2 ⟨_, hm, rfl⟩
  rw [h] at this; cases this
/-- an operation that makes nothing that is told of -/
theorem WB.below (h : WB w0 M kb ks z cs L ρ w) {i : Nat} (h1 : (M.map (·.1)).contains i = false) (h2 : kb ≠ i) (h3 : ks ≠ i) (hb : Below w.heap.size w w') : WB w0 M kb ks z cs (upd L i) ρ w' := by
  refine ⟨h.bl.trans (hb.mono h.bl.size), fun i' j l hm hj => ?_, fun i1 j1 l1 i2 j2 l2 m1 m2 e1 e2 => ?_, ?_, ?_, ?_⟩
  · rcases upd_cases hj with hj | rfl
    · exact (h.md i' j l hm hj).below hb
    · exact (WB.notin h1 hm).elim
  · rcases upd_cases e1 with e1 | rfl
    · rcases upd_cases e2 with e2 | rfl
      · exact h.ds _ _ _ _ _ _ m1 m2 e1 e2
      · exact (WB.notin h1 m2).elim
    · exact (WB.notin h1 m1).elim
  · rw [upd_ne h2]; intro e
    obtain ⟨p, q, r⟩ := h.b0 e
    refine ⟨p, by have := hb.size; omega, fun i' j l hm hj => ?_⟩
    rcases upd_cases hj with hj | rfl
    · exact r _ _ _ hm hj
    · exact (WB.notin h1 hm).elim
  · rw [upd_ne h2, upd_ne h3]; intro e e'; exact (h.b1 e e').below hb (h.b0 e).2.1
  · rw [upd_ne h3]; intro e
    have := h.b2 e
    exact this.below hb this.lt
theorem WB.pure (h : WB w0 M kb ks z cs L ρ w) {i : Nat} (h1 : (M.map (·.1)).contains i = false) (h2 : kb ≠ i) (h3 : ks ≠ i) : WB w0 M kb ks z cs (upd L i) ρ w := h.below h1 h2 h3 (Below.refl _ _)
/-- the same where the record tells of an address that is in no list -/
theorem WB.other (h : WB w0 M kb ks z cs L ρ w) {ρ' : Rz} (ha : ∀ i j l, (i, j, l) ∈ M → ρ'.a j = ρ.a j) (hb : ρ'.b = ρ.b) (hc : cs ρ' = cs ρ) : WB w0 M kb ks z cs L ρ' w := by
  refine ⟨h.bl, fun i j l hm e => by rw [ha i j l hm]; exact h.md i j l hm e, fun i1 j1 l1 i2 j2 l2 m1 m2 e1 e2 => by rw [ha _ _ _ m1, ha _ _ _ m2]; exact h.ds _ _ _ _ _ _ m1 m2 e1 e2, fun e => ?_, fun e e' => by rw [hb]; exact h.b1 e e', fun e => by rw [hb, hc]; exact h.b2 e⟩
  rw [hb]
  obtain ⟨p, q, r⟩ := h.b0 e
  exact ⟨p, q, fun i j l hm e => by rw [ha i j l hm]; exact r i j l hm e⟩
/-- operation i makes lists -/
theorem WB.make (h : WB w0 M kb ks z cs L ρ w) {i : Nat} {ρ' : Rz} (h2 : kb ≠ i) (h3 : ks ≠ i) (hks : L ks = false) (hb : Below w.heap.size w w') (hρ : ρ'.b = ρ.b)
    (ho : ∀ i' j l, (i', j, l) ∈ M → i' ≠ i → ρ'.a j = ρ.a j) (hw : ∀ j l, (i, j, l) ∈ M → Wr w.heap.size w' (ρ'.a j) l.length (l.map iV)) (hd : ∀ j l j' l', (i, j, l) ∈ M → (i, j', l') ∈ M → j ≠ j' → ∀ q, onA (ρ'.a j) q → ¬ onA (ρ'.a j') q) :
    WB w0 M kb ks z cs (upd L i) ρ' w' := by
  have hz := h.bl.size
  refine ⟨h.bl.trans (hb.mono h.bl.size), fun i' j l hm hj => ?_, fun i1 j1 l1 i2 j2 l2 m1 m2 e1 e2 hne q q1 q2 => ?_, ?_, ?_, ?_⟩
  · by_cases hi : i' = i
    · subst hi; exact (hw j l hm).lower hz
    · rw [upd_ne hi] at hj
      rw [ho _ _ _ hm hi]; exact (h.md i' j l hm hj).below hb
  · by_cases h5 : i1 = i
    · subst h5
      by_cases h6 : i2 = i1
      · subst h6; exact hd _ _ _ _ m1 m2 hne q q1 q2
      · rw [upd_ne h6] at e2
        rw [ho _ _ _ m2 h6] at q2
        have a := (hw _ _ m1).lo q q1
        have b := (h.md _ _ _ m2 e2).hi q q2
        omega
    · rw [upd_ne h5] at e1
      rw [ho _ _ _ m1 h5] at q1
      by_cases h6 : i2 = i
      · subst h6
        have a := (hw _ _ m2).lo q q2
        have b := (h.md _ _ _ m1 e1).hi q q1
        omega
      · rw [upd_ne h6] at e2
        rw [ho _ _ _ m2 h6] at q2
        exact h.ds _ _ _ _ _ _ m1 m2 e1 e2 hne q q1 q2
  · rw [upd_ne h2]; intro e
    obtain ⟨p, q, r⟩ := h.b0 e
    rw [hρ]
    refine ⟨p, by have := hb.size; omega, fun i' j l hm hj hq => ?_⟩
    by_cases hi : i' = i
    · subst hi
      have := (hw _ _ hm).lo _ hq
      omega
    · rw [upd_ne hi] at hj
      rw [ho _ _ _ hm hi] at hq
      exact r _ _ _ hm hj hq
  · rw [upd_ne h2, upd_ne h3, hρ]; intro e e'; exact (h.b1 e e').below hb (h.b0 e).2.1
  · rw [upd_ne h3, hks]; intro e; cases e
/-- operation i makes one list, of label j -/
theorem WB.one (h : WB w0 M kb ks z cs L ρ w) {i j c : Nat} {A : Option Addr} {l : List Int} (h2 : kb ≠ i) (h3 : ks ≠ i) (hks : L ks = false) (hb : Below w.heap.size w w') (hw : Wr w.heap.size w' A l.length (l.map iV))
    (ho : ∀ i' j' l', (i', j', l') ∈ M → i' ≠ i → j' ≠ j) (hl : ∀ j' l', (i, j', l') ∈ M → j' = j ∧ l' = l) : WB w0 M kb ks z cs (upd L i) (ρ.list j A c) w' :=
  h.make h2 h3 hks hb rfl (fun i' j' l' hm hi => by simp [Rz.list, ho i' j' l' hm hi]) (fun j' l' hm => by obtain ⟨rfl, rfl⟩ := hl _ _ hm; simpa [Rz.list] using hw)
    (fun j1 l1 j2 l2 m1 m2 hne => absurd ((hl _ _ m1).1.trans (hl _ _ m2).1.symm) hne)
/-- operation i makes an empty list, of a label that is in no list -/
theorem WB.empty (h : WB w0 M kb ks z cs L ρ w) {i j c : Nat} {A : Option Addr} (h1 : (M.map (·.1)).contains i = false) (h2 : kb ≠ i) (h3 : ks ≠ i) (hj : (M.map (·.2.1)).contains j = false) (hc : cs (ρ.list j A c) = cs ρ) (hb : Below w.heap.size w w') : WB w0 M kb ks z cs (upd L i) (ρ.list j A c) w' :=
  (h.below h1 h2 h3 hb).other (fun i' j' l' hm => by
    have hne : j' ≠ j := by
      rintro rfl
      have : (M.map (·.2.1)).contains j' = true := by
        rw [List.contains_iff_mem]; exact List.mem_map.2 ⟨_, hm, rfl⟩
      rw [hj] at this; cases this
    simp [Rz.list, hne]) rfl hc
/-- operation i makes three lists, labels 0 to 2 -/
theorem WB.three {i c1 c2 c3 : Nat} {l0 l1 l2 : List Int} {A1 A2 A3 : Option Addr} (h : WB w0 [(i, 0, l0), (i, 1, l1), (i, 2, l2)] kb ks z cs L ρ w) (h2 : kb ≠ i) (h3 : ks ≠ i) (hks : L ks = false) (hb : Below w.heap.size w w') (hw : BufW w.heap.size w' A1 A2 A3 l0 l1 l2) :
    WB w0 [(i, 0, l0), (i, 1, l1), (i, 2, l2)] kb ks z cs (upd L i) (((ρ.list 0 A1 c1).list 1 A2 c2).list 2 A3 c3) w' := by
  refine h.make h2 h3 hks hb rfl (fun i' j l hm hi => ?_) (fun j l hm => ?_) (fun j l j' l' m1 m2 hne => ?_)
  · simp at hm; rcases hm with ⟨rfl, -⟩ | ⟨rfl, -⟩ | ⟨rfl, -⟩ <;> exact absurd rfl hi
  · simp at hm
    rcases hm with ⟨rfl, rfl⟩ | ⟨rfl, rfl⟩ | ⟨rfl, rfl⟩
    · exact hw.r1
    · exact hw.r2
    · exact hw.r3
  · simp at m1 m2
    rcases m1 with ⟨rfl, rfl⟩ | ⟨rfl, rfl⟩ | ⟨rfl, rfl⟩ <;> rcases m2 with ⟨rfl, rfl⟩ | ⟨rfl, rfl⟩ | ⟨rfl, rfl⟩
    · exact absurd rfl hne
    · exact hw.d12
    · exact hw.d13
    · exact fun q a b => hw.d12 q b a
    · exact absurd rfl hne
    · exact hw.d23
    · exact fun q a b => hw.d13 q b a
    · exact fun q a b => hw.d23 q b a
    · exact absurd rfl hne
/-- the box is made -/
theorem WB.boxed (h : WB w0 M kb ks z cs L ρ w) (h1 : (M.map (·.1)).contains kb = false) (h3 : ks ≠ kb) (hks : L ks = false) (hb : Below w.heap.size w w') (hx : Bx w' w.heap.size z) : WB w0 M kb ks z cs (upd L kb) (ρ.box w.heap.size) w' := by
  have hz := h.bl.size
  refine ⟨h.bl.trans (hb.mono h.bl.size), fun i' j l hm hj => ?_, fun i1 j1 l1 i2 j2 l2 m1 m2 e1 e2 => ?_, fun _ => ⟨hz, hx.lt, fun i j l hm hj hq => ?_⟩, fun _ _ => hx, ?_⟩
  · rcases upd_cases hj with hj | rfl
    · exact (h.md i' j l hm hj).below hb
    · exact (WB.notin h1 hm).elim
  · rcases upd_cases e1 with e1 | rfl
    · rcases upd_cases e2 with e2 | rfl
      · exact h.ds _ _ _ _ _ _ m1 m2 e1 e2
      · exact (WB.notin h1 m2).elim
    · exact (WB.notin h1 m1).elim
  · rcases upd_cases hj with hj | rfl
    · have : w.heap.size < w.heap.size := (h.md _ _ _ hm hj).hi _ hq
      omega
    · exact (WB.notin h1 hm).elim
  · rw [upd_ne h3, hks]; intro e; cases e
/-- the box is filled -/
theorem WB.store (h : WB w0 M kb ks z cs L ρ w) (h1 : (M.map (·.1)).contains ks = false) (h3 : kb ≠ ks) (hL : L kb = true) (hk : Keep (· = ρ.b) w w') (hx : Bx w' ρ.b (cs ρ)) : WB w0 M kb ks z cs (upd L ks) ρ w' := by
  obtain ⟨p, q, r⟩ := h.b0 hL
  refine ⟨hk.below h.bl h.bl.size (fun k e => by subst e; exact p), fun i' j l hm hj => ?_, fun i1 j1 l1 i2 j2 l2 m1 m2 e1 e2 => ?_, fun _ => ⟨p, hx.lt, fun i j l hm hj => ?_⟩, (fun _ => by rw [upd_self]; intro e; cases e), fun _ => hx⟩
  · rcases upd_cases hj with hj | rfl
    · exact (h.md i' j l hm hj).keep hk (fun k hk' e => r _ _ _ hm hj (e ▸ hk'))
    · exact (WB.notin h1 hm).elim
  · rcases upd_cases e1 with e1 | rfl
    · rcases upd_cases e2 with e2 | rfl
      · exact h.ds _ _ _ _ _ _ m1 m2 e1 e2
      · exact (WB.notin h1 m2).elim
    · exact (WB.notin h1 m1).elim
  · rcases upd_cases hj with hj | rfl
    · exact r _ _ _ hm hj
    · exact (WB.notin h1 hm).elim
end
theorem keep3 {w : World} {b : Nat} (v0 v1 v2 : Value) : Keep (· = b) w (((w.setCell ⟨b, 0, none⟩ v0).setCell ⟨b, 1, none⟩ v1).setCell ⟨b, 2, none⟩ v2) :=
  (((Keep.refl (· = b) w).setCell rfl v0).setCell rfl v1).setCell rfl v2
theorem bx_fill3 {w : World} {b : Nat} {z0 z1 z2 : Value} (h : Bx w b [z0, z1, z2]) (v0 v1 v2 : Value) : Bx (((w.setCell ⟨b, 0, none⟩ v0).setCell ⟨b, 1, none⟩ v1).setCell ⟨b, 2, none⟩ v2) b [v0, v1, v2] := by
  have hy := h.lt
  have c0 := h.cell 0 rfl
  have c1 := h.cell 1 rfl
  have c2 := h.cell 2 rfl
  have f0 := h.frozen 0 rfl
  have f1 := h.frozen 1 rfl
  have f2 := h.frozen 2 rfl
  refine bx3 (by simpa [World.setCell] using hy) ?_ ?_ ?_ ?_ ?_ ?_ <;> simp [go_sem, c0, c1, c2, f0, f1, f2, hy]
end Go.Proofs.Ytijhadafmhbceaa

/- What flows out of the nodes, and what they hold after an hour. -/
import Derived.Test.YtijhadafmhbceaaHr
import Derived.Test.YtijhadafmhbceaaAp2
import Derived.Deep.RegionHeld3
import Derived.IntWalk
namespace Go.Proofs.Ytijhadafmhbceaa
set_option linter.unusedVariables false
set_option linter.unusedSimpArgs false
open Go.RowKit
def outF : List Int → List Pp → List Int → List Int
  | acc, p :: ps, x :: xs => outF (addAt (addAt acc p.f.toNat x) p.t.toNat (-x)) ps xs
  | acc, _, _ => acc
theorem outF_len : ∀ (ps : List Pp) (xs acc : List Int), (outF acc ps xs).length = acc.length
  | [], _, acc => by simp [outF]
  | p :: ps, [], acc => by simp [outF]
  | p :: ps, x :: xs, acc => by rw [outF, outF_len ps xs, addAt_len, addAt_len]
def outL (N : Net) (fl : List Int) : List Int := outF (List.replicate N.nodes.length 0) N.pipes fl
theorem outL_len (N : Net) (fl : List Int) : (outL N fl).length = N.nodes.length := by rw [outL, outF_len]; simp
theorem outF_bd : ∀ (ps : List Pp) (xs acc : List Int) (b : Int), 0 ≤ b → (∀ y ∈ acc, -b ≤ y ∧ y ≤ b) → (∀ x ∈ xs, -30000 ≤ x ∧ x ≤ 30000) → ∀ y ∈ outF acc ps xs, -(b + ps.length * 60000) ≤ y ∧ y ≤ b + ps.length * 60000
  | [], _, acc, b, _, h, _ => by simpa [outF] using h
  | p :: ps, [], acc, b, hb, h, _ => by
    intro y hy
    have := h y (by simpa [outF] using hy)
    simp only [List.length_cons]; omega
  | p :: ps, x :: xs, acc, b, hb, h, hx => by
    intro y hy
    rw [outF] at hy
    have h1 := hx x (by simp)
    have h2 := addAt_bd (l := acc) (k := p.f.toNat) (x := x) (a := -30000) (b := 30000) h (by omega) (by omega) (by omega) (by omega)
    have h3 := addAt_bd (l := addAt acc p.f.toNat x) (k := p.t.toNat) (x := -x) (a := -30000) (b := 30000) h2 (by omega) (by omega) (by omega) (by omega)
    have := outF_bd ps xs _ (b + 60000) (by omega) (fun z hz => by have := h3 z hz; omega) (fun z hz => hx z (by simp [hz])) y hy
    simp only [List.length_cons]; omega
theorem outL_bd {N : Net} {fl : List Int} (hO : N.Ok) (h : ∀ x ∈ fl, -30000 ≤ x ∧ x ≤ 30000) : ∀ y ∈ outL N fl, -2400000 ≤ y ∧ y ≤ 2400000 := by
  intro y hy
  have := outF_bd N.pipes fl (List.replicate N.nodes.length 0) 0 (by omega) (fun z hz => by have := (List.mem_replicate.1 hz).2; omega) h y hy
  have := hO.p1
  omega
theorem outF_step {acc : List Int} {ps : List Pp} {xs : List Int} {k : Nat} {p : Pp} {x : Int} (hp : ps[k]? = some p) (hx : xs[k]? = some x) : outF acc (ps.drop k) (xs.drop k) = outF (addAt (addAt acc p.f.toNat x) p.t.toNat (-x)) (ps.drop (k + 1)) (xs.drop (k + 1)) := by
  rw [drop_consI hp, drop_consI hx, outF]
theorem outF_end {acc : List Int} {ps : List Pp} {xs : List Int} {k : Nat} (h : ¬ k < ps.length) : outF acc (ps.drop k) (xs.drop k) = acc := by
  rw [drop_endI h]; simp [outF]
def addS (s : Int) (a b : List Int) : List Int := List.zipWith (fun x y => x + s * y) a b
theorem addS_len {s : Int} {a b : List Int} (h : a.length ≤ b.length) : (addS s a b).length = a.length := by simp [addS]; omega
theorem addS_get {s : Int} {a b : List Int} {i : Nat} {x y : Int} (hx : a[i]? = some x) (hy : b[i]? = some y) : (addS s a b)[i]? = some (x + s * y) := by simp only [addS, List.getElem?_zipWith, hx, hy]
theorem addS_bd {s la ha lb hb : Int} {a b : List Int} (hs : s = 1 ∨ s = -1) (h1 : ∀ x ∈ a, la ≤ x ∧ x ≤ ha) (h2 : ∀ x ∈ b, -lb ≤ x ∧ x ≤ lb) (e : hb = lb) : ∀ y ∈ addS s a b, la - lb ≤ y ∧ y ≤ ha + lb := by
  intro y hy
  obtain ⟨i, hi⟩ := List.getElem?_of_mem hy
  simp only [addS, List.getElem?_zipWith] at hi
  cases ha' : a[i]? with
  | none => simp [ha'] at hi
  | some x =>
    cases hb' : b[i]? with
    | none => simp [ha', hb'] at hi
    | some z =>
      simp [ha', hb'] at hi
      have g1 := h1 x (List.mem_of_getElem? ha')
      have g2 := h2 z (List.mem_of_getElem? hb')
      rcases hs with rfl | rfl <;> omega
/-- what the nodes hold after an hour -/
def nextL (N : Net) (now su fl : List Int) : List Int := addS (-1) (addS 1 now su) (outL N fl)
theorem nextL_len {N : Net} {now su fl : List Int} (h1 : now.length = N.nodes.length) (h2 : su.length = N.nodes.length) : (nextL N now su fl).length = N.nodes.length := by
  rw [nextL, addS_len (by rw [addS_len (by omega), outL_len]; omega), addS_len (by omega)]; exact h1
theorem nextL_get {N : Net} {now su fl : List Int} {i : Nat} {a b c : Int} (h1 : now[i]? = some a) (h2 : su[i]? = some b) (h3 : (outL N fl)[i]? = some c) : (nextL N now su fl)[i]? = some (a + (b - c)) := by
  rw [nextL, addS_get (addS_get h1 h2) h3]; congr 1; omega
theorem pipe_ft {N : Net} (hO : N.Ok) {p : Pp} (hp : p ∈ N.pipes) : 0 ≤ p.f ∧ p.f ≤ (N.nodes.length : Int) - 1 ∧ 0 ≤ p.t ∧ p.t ≤ (N.nodes.length : Int) - 1 := by
  have := hO.pipes p hp
  simp only [pipeB, Bool.and_eq_true, inB_iff] at this
  omega
set_option maxRecDepth 100000 in
set_option maxHeartbeats 4000000 in
theorem impl_outflows (A B C : Option Addr) (n c m d e : Nat) (N : Net) (fl : List Int) (w : World) (hN : NetAt w A B N) (hn : n = N.nodes.length) (hm : m = N.pipes.length) (hO : N.Ok) (h : Rd w C (fl.map iV)) (hl : fl.length = N.pipes.length) (hb : ∀ x ∈ fl, -30000 ≤ x ∧ x ≤ 30000) :
    Calls Try.prog 79 #[netV A B n c m d, .slice C fl.length e] w (MadeL w 1 N.nodes.length ((outL N fl).map iV)) := by
  subst hn hm
  have HN := Lib.hid hN
  have HL := Lib.hid h
  have HO := Lib.hid hO
  have HB := Lib.hid hb
  have hla : fl.length ≤ N.pipes.length := by omega
  have hlb : N.pipes.length ≤ fl.length := by omega
  have hln := hO.n2
  have hlp := hO.p1
  clear hN h hO hb hl
  have hmk := make_i64 N.nodes.length (by omega)
  go_enter Try.func79, Try.ntmps79
  go_wp2
  have HA0 := Lib.hid (Arr.madeI (w.alloc (.cells #[.slice A N.nodes.length c, .slice B N.pipes.length d] 27)) N.nodes.length 2)
  clear hmk
  go_loopw [15] (fun v wr => ∃ (k : Nat) (acc : List Int), k ≤ N.pipes.length ∧ v = .int .i64 k ∧ acc.length = N.nodes.length ∧ (∀ y ∈ acc, -(k * 60000 : Int) ≤ y ∧ y ≤ (k * 60000 : Int)) ∧ outF acc (N.pipes.drop k) (fl.drop k) = outL N fl ∧ Arr wr (w.heap.size + 1) N.nodes.length (acc.map iV) ∧ Below w.heap.size w wr) (fun v _ => N.pipes.length - (intOf v).toNat)
  case atStart => exact ⟨0, List.replicate N.nodes.length 0, by omega, rfl, by simp, fun y hy => by have := (List.mem_replicate.1 hy).2; omega, by simp [outL], by simpa using HA0.out, by (repeat' (first | (with_reducible exact Below.refl _ _) | (with_reducible assumption) | (with_reducible refine Below.alloc ?_ ?_ _) | (with_reducible refine Below.drew ?_) | (with_reducible refine Below.drewN' ?_ _) | (with_reducible refine Below.setCell ?_ ?_ _) | (refine Below.via ?_ (by with_reducible assumption) ?_) | (with_reducible refine Below.via ?_ (Wd.h _) ?_) | go_size))⟩
  case round =>
    obtain ⟨k, acc, hk, rfl, hal, hbd, hF, hA, hbw⟩ := hrel
    have hbH := Lib.hid hbw
    have HF := Lib.hid hF
    have HA := Lib.hid hA
    have HBD := Lib.hid hbd
    have HAL := Lib.hid hal
    have hyA := hA.lt
    clear hF hA hbd hal
    by_cases hlt : k < N.pipes.length
    · obtain ⟨fv, hfv⟩ := get_some (show k < fl.length by omega)
      obtain ⟨b2, off2, rfl, hb2, hat2⟩ := HL.out.opened (k := k) (by simp; omega)
      have HP := Lib.hid HN.out.pipes
      obtain ⟨x, hx⟩ := get_some hlt; obtain ⟨bx, offx, rfl, hbx, hat⟩ := HP.out.opened (k := k) (by rw [flat_len Pp.len]; omega); have hat' := hat.below hbw hbx; have hybx : bx < wr.heap.size := Nat.lt_of_lt_of_le hbx hbw.size; have hzw := hbw.size; have t0 := hat'.elem0 Pp.len hx rfl; have t1 := hat'.elem Pp.len hx 1 rfl; have t2 := hat'.elem Pp.len hx 2 rfl; have t3 := hat'.elem Pp.len hx 3 rfl; have t4 := hat'.elem Pp.len hx 4 rfl; have HX := Lib.hid hx; have HD := Lib.hid (drop_cons hx); have gx : (k : Int) < _ := Int.ofNat_lt.2 hlt; clear hx hat hat'
      have t9 := ints_at (hat2.below hbw hb2) hfv
      have hyb2 : b2 < wr.heap.size := Nat.lt_of_lt_of_le hb2 hbw.size
      obtain ⟨f1, f2⟩ := HB.out fv (List.mem_of_getElem? hfv)
      obtain ⟨p1, p2, p3, p4⟩ := pipe_ft HO.out (List.mem_of_getElem? HX.out)
      have HST := Lib.hid (outF_step (acc := acc) HX.out hfv)
      clear hbw hfv hat2
      obtain ⟨xf, xt, xk, xv, xl⟩ := x
      dsimp only at t0 t1 t2 t3 t4 p1 p2 p3 p4
      obtain ⟨q, rfl⟩ : ∃ q : Nat, xf = q := ⟨xf.toNat, by omega⟩
      obtain ⟨r, rfl⟩ : ∃ r : Nat, xt = r := ⟨xt.toNat, by omega⟩
      obtain ⟨y, hy⟩ := get_some (l := acc) (k := q) (by rw [HAL.out]; omega)
      obtain ⟨y1, y2⟩ := HBD.out y (List.mem_of_getElem? hy)
      have HBD1 := Lib.hid (addAt_bd (l := acc) (k := q) (x := fv) (a := -30000) (b := 30000) HBD.out (by omega) (by omega) (by omega) (by omega))
      have HBD2 := Lib.hid (addAt_bd (l := addAt acc q fv) (k := r) (x := -fv) (a := -30000) (b := 30000) HBD1.out (by omega) (by omega) (by omega) (by omega))
      obtain ⟨z, hz⟩ := get_some (l := addAt acc q fv) (k := r) (by rw [addAt_len, HAL.out]; omega)
      obtain ⟨z1, z2⟩ := HBD1.out z (List.mem_of_getElem? hz)
      have HY := Lib.hid hy
      have HZ := Lib.hid hz
      have g4 : (q : Int) < N.nodes.length := by omega
      have g5 : (r : Int) < N.nodes.length := by omega
      have g6 : (k : Int) < fl.length := by omega
      clear hy hz
      go_wp2_with fail
      generalize hW : World.alloc wr _ = wq
      have hbq : Below wr.heap.size wr wq := by rw [← hW]; (repeat' (first | (with_reducible exact Below.refl _ _) | (with_reducible assumption) | (with_reducible refine Below.alloc ?_ ?_ _) | (with_reducible refine Below.drew ?_) | (with_reducible refine Below.drewN' ?_ _) | (with_reducible refine Below.setCell ?_ ?_ _) | (refine Below.via ?_ (by with_reducible assumption) ?_) | (with_reducible refine Below.via ?_ (Wd.h _) ?_) | go_size))
      have hzq : wr.heap.size < wq.heap.size := by rw [← hW]; simp
      have r0 : wq.cell? ⟨wr.heap.size, 0, none⟩ = some (.int .i64 q) := by rw [← hW]; simp
      have r1 : wq.cell? ⟨wr.heap.size, 1, none⟩ = some (.int .i64 r) := by rw [← hW]; simp
      have r9 := bc hbq hyb2 t9
      have HAq := Lib.hid (HA.out.below hbq (by omega))
      have s0' := ints_cell HAq.out HY.out
      clear hW t0 t1 t2 t3 t4 t9
      (have qk0 := Wd.cell (by first | assumption | omega | (simp; omega)) r0; have qk1 := Wd.cell (by first | assumption | omega | (simp; omega)) r1; have qk2 := Wd.cell (by first | assumption | omega | (simp; omega)) r9; have qk3 := Wd.cell (by first | assumption | omega | (simp; omega)) s0'; (refine wp_region_wd_tail 11 (by kernel_rfl) (by kernel_rfl) ?_; simp only [List.take_succ_cons, List.take_zero, List.drop_succ_cons, List.drop_zero]); (repeat (go_big_quiet_step ((first | fail)))); (refine wpQuiet_nil ?_); rintro wz ⟨⟨w'', hbwz⟩, hw''⟩; obtain rfl : wz = w'' := hw''; clear qk0 qk1 qk2 qk3; have hzwz := hbwz.size; (try simp at hzwz))
      have HAz := Lib.hid (HAq.out.below hbwz (by omega))
      have s0 := ints_cell HAz.out HY.out
      have s1 := HAz.out.free (j := q) (by omega)
      have v1 := bc hbwz (by omega) r1
      have v9 := bc hbwz (by omega) r9
      clear s0' r0 r1 r9
      go_wp2_with fail
      generalize hW : World.setCell wz _ _ = wy
      have HAy := Lib.hid (show Arr wy (w.heap.size + 1) N.nodes.length ((addAt acc q fv).map iV) from hW ▸ HAz.out.addAt HY.out (by omega))
      have hby : Below (w.heap.size + 1) wz wy := by rw [← hW]; exact (Below.refl (w.heap.size + 1) wz).setCell (show w.heap.size + 1 ≤ w.heap.size + 1 from Nat.le_refl _) _
      have hzy : wz.heap.size ≤ wy.heap.size := hby.size
      have u1 : wy.cell? ⟨wr.heap.size, 1, none⟩ = some (.int .i64 r) := by rw [← hW, World.cell?_setCell_other _ _ _ _ (by intro e; injection e; omega)]; exact v1
      have u9 : wy.cell? ⟨b2, off2 + k, none⟩ = some (.int .i64 fv) := by rw [← hW, World.cell?_setCell_other _ _ _ _ (by intro e; injection e; omega)]; exact v9
      have s2' := ints_cell HAy.out HZ.out
      clear hW s0 s1 v1 v9
      (have qk0 := Wd.cell (by first | assumption | omega | (simp; omega)) u1; have qk1 := Wd.cell (by first | assumption | omega | (simp; omega)) u9; have qk2 := Wd.cell (by first | assumption | omega | (simp; omega)) s2'; (refine wp_region_wd_tail 11 (by kernel_rfl) (by kernel_rfl) ?_; simp only [List.take_succ_cons, List.take_zero, List.drop_succ_cons, List.drop_zero]); (repeat (go_big_quiet_step ((first | fail)))); (refine wpQuiet_nil ?_); rintro wx ⟨⟨w'', hbwx⟩, hw''⟩; obtain rfl : wx = w'' := hw''; clear qk0 qk1 qk2; have hzwx := hbwx.size; (try simp at hzwx))
      have HAx := Lib.hid (HAy.out.below hbwx (by omega))
      have s2 := ints_cell HAx.out HZ.out
      have s3 := HAx.out.free (j := r) (by omega)
      clear s2' u1 u9
      go_wp2
      go_roundw
      case rel =>
        refine ⟨k + 1, addAt (addAt acc q fv) r (-fv), by omega, by go_num, by rw [addAt_len, addAt_len]; exact HAL.out, fun z hz => by have := HBD2.out z hz; omega, ?_, ?_, ?_⟩
        · rw [← HF.out, HST.out]; simp
        · have := HAx.out.addAt (x := -fv) HZ.out (by omega)
          rw [← Int.sub_eq_add_neg] at this
          exact this
        · have h1 := hbH.out
          have h2 : Below w.heap.size w wy := Below.via (show Below w.heap.size w wz by (repeat' (first | (with_reducible exact Below.refl _ _) | (with_reducible assumption) | (with_reducible refine Below.alloc ?_ ?_ _) | (with_reducible refine Below.drew ?_) | (with_reducible refine Below.drewN' ?_ _) | (with_reducible refine Below.setCell ?_ ?_ _) | (refine Below.via ?_ (by with_reducible assumption) ?_) | (with_reducible refine Below.via ?_ (Wd.h _) ?_) | go_size))) hby (by omega)
          exact (Below.via h2 hbwx (by omega)).setCell (by simp) _
      case measure => simp [intOf]; omega
    · clear hbw
      have HE := Lib.hid (show acc = outL N fl by rw [← HF.out, outF_end hlt])
      go_wp2
      go_ret
      rw [← HE.out]
      exact ⟨_, _, rfl, Nat.le_refl _, by simpa using Wr.of_arr (by omega) HA.out, hbH.out⟩
set_option maxRecDepth 100000 in
set_option maxHeartbeats 4000000 in
theorem spec_l05Out (A B C : Option Addr) (n c m d e : Nat) (N : Net) (fl : List Int) (w : World) (hN : NetAt w A B N) (hn : n = N.nodes.length) (hm : m = N.pipes.length) (hO : N.Ok) (h : Rd w C (fl.map iV)) (hl : fl.length = N.pipes.length) (hb : ∀ x ∈ fl, -30000 ≤ x ∧ x ≤ 30000) :
    Calls Try.prog 85 #[netV A B n c m d, .slice C fl.length e] w (MadeL w 1 N.nodes.length ((outL N fl).map iV)) := by
  subst hn hm
  have HN := Lib.hid hN
  have HL := Lib.hid h
  have HO := Lib.hid hO
  have HB := Lib.hid hb
  have hla : fl.length ≤ N.pipes.length := by omega
  have hlb : N.pipes.length ≤ fl.length := by omega
  have hln := hO.n2
  have hlp := hO.p1
  clear hN h hO hb hl
  have hmk := make_i64 N.nodes.length (by omega)
  go_enter Try.func85, Try.ntmps85
  go_wp2
  have HA0 := Lib.hid (Arr.madeI (w.alloc (.cells #[.slice A N.nodes.length c, .slice B N.pipes.length d] 27)) N.nodes.length 2)
  clear hmk
  go_loopw [6] (fun v wr => ∃ (k : Nat) (acc : List Int), k ≤ fl.length ∧ v = .int .i64 k ∧ acc.length = N.nodes.length ∧ (∀ y ∈ acc, -(k * 60000 : Int) ≤ y ∧ y ≤ (k * 60000 : Int)) ∧ outF acc (N.pipes.drop k) (fl.drop k) = outL N fl ∧ Arr wr (w.heap.size + 1) N.nodes.length (acc.map iV) ∧ Bx wr w.heap.size [.slice A N.nodes.length c, .slice B N.pipes.length d] ∧ Below w.heap.size w wr) (fun v _ => fl.length - (intOf v).toNat)
  case atStart => exact ⟨0, List.replicate N.nodes.length 0, by omega, rfl, by simp, fun y hy => by have := (List.mem_replicate.1 hy).2; omega, by simp [outL], by simpa using HA0.out, bx2 (by simp; omega) (by simp) (by simp) (by simp) (by simp), by (repeat' (first | (with_reducible exact Below.refl _ _) | (with_reducible assumption) | (with_reducible refine Below.alloc ?_ ?_ _) | (with_reducible refine Below.drew ?_) | (with_reducible refine Below.drewN' ?_ _) | (with_reducible refine Below.setCell ?_ ?_ _) | (refine Below.via ?_ (by with_reducible assumption) ?_) | (with_reducible refine Below.via ?_ (Wd.h _) ?_) | go_size))⟩
  case round =>
    obtain ⟨k, acc, hk, rfl, hal, hbd, hF, hA, hB, hbw⟩ := hrel
    have hbH := Lib.hid hbw
    have HF := Lib.hid hF
    have HA := Lib.hid hA
    have HBD := Lib.hid hbd
    have HAL := Lib.hid hal
    have HBX := Lib.hid hB
    have hyA := hA.lt
    have c1 := hB.cell 1 rfl
    clear hF hA hbd hal hB
    by_cases hlt : k < fl.length
    · obtain ⟨fv, hfv⟩ := get_some hlt
      obtain ⟨b2, off2, rfl, hb2, hat2⟩ := HL.out.opened (k := k) (by simp; omega)
      have HP := Lib.hid HN.out.pipes
      have hltf := hlt
      replace hlt : k < N.pipes.length := by omega
      obtain ⟨x, hx⟩ := get_some hlt; obtain ⟨bx, offx, rfl, hbx, hat⟩ := HP.out.opened (k := k) (by rw [flat_len Pp.len]; omega); have hat' := hat.below hbw hbx; have hybx : bx < wr.heap.size := Nat.lt_of_lt_of_le hbx hbw.size; have hzw := hbw.size; have t0 := hat'.elem0 Pp.len hx rfl; have t1 := hat'.elem Pp.len hx 1 rfl; have t2 := hat'.elem Pp.len hx 2 rfl; have t3 := hat'.elem Pp.len hx 3 rfl; have t4 := hat'.elem Pp.len hx 4 rfl; have HX := Lib.hid hx; have HD := Lib.hid (drop_cons hx); have gx : (k : Int) < _ := Int.ofNat_lt.2 hlt; clear hx hat hat'
      have t9 := ints_at (hat2.below hbw hb2) hfv
      have hyb2 : b2 < wr.heap.size := Nat.lt_of_lt_of_le hb2 hbw.size
      obtain ⟨f1, f2⟩ := HB.out fv (List.mem_of_getElem? hfv)
      obtain ⟨p1, p2, p3, p4⟩ := pipe_ft HO.out (List.mem_of_getElem? HX.out)
      have HST := Lib.hid (outF_step (acc := acc) HX.out hfv)
      clear hbw hfv hat2
      obtain ⟨xf, xt, xk, xv, xl⟩ := x
      dsimp only at t0 t1 t2 t3 t4 p1 p2 p3 p4
      obtain ⟨q, rfl⟩ : ∃ q : Nat, xf = q := ⟨xf.toNat, by omega⟩
      obtain ⟨r, rfl⟩ : ∃ r : Nat, xt = r := ⟨xt.toNat, by omega⟩
      obtain ⟨y, hy⟩ := get_some (l := acc) (k := q) (by rw [HAL.out]; omega)
      obtain ⟨y1, y2⟩ := HBD.out y (List.mem_of_getElem? hy)
      have HBD1 := Lib.hid (addAt_bd (l := acc) (k := q) (x := fv) (a := -30000) (b := 30000) HBD.out (by omega) (by omega) (by omega) (by omega))
      have HBD2 := Lib.hid (addAt_bd (l := addAt acc q fv) (k := r) (x := -fv) (a := -30000) (b := 30000) HBD1.out (by omega) (by omega) (by omega) (by omega))
      obtain ⟨z, hz⟩ := get_some (l := addAt acc q fv) (k := r) (by rw [addAt_len, HAL.out]; omega)
      obtain ⟨z1, z2⟩ := HBD1.out z (List.mem_of_getElem? hz)
      have HY := Lib.hid hy
      have HZ := Lib.hid hz
      have g4 : (q : Int) < N.nodes.length := by omega
      have g5 : (r : Int) < N.nodes.length := by omega
      have g6 : (k : Int) < fl.length := by omega
      have s0' := ints_cell HA.out hy
      clear hy hz
      go_wp2_with fail
      (have qk0 := Wd.cell (by first | assumption | omega | (simp; omega)) c1; have qk1 := Wd.cell (by first | assumption | omega | (simp; omega)) t0; have qk2 := Wd.cell (by first | assumption | omega | (simp; omega)) t1; have qk3 := Wd.cell (by first | assumption | omega | (simp; omega)) t9; have qk4 := Wd.cell (by first | assumption | omega | (simp; omega)) s0'; (refine wp_region_wd_tail 22 (by kernel_rfl) (by kernel_rfl) ?_; simp only [List.take_succ_cons, List.take_zero, List.drop_succ_cons, List.drop_zero]); (repeat (go_big_quiet_step ((first | fail)))); (refine wpQuiet_nil ?_); rintro wz ⟨⟨w'', hbwz⟩, hw''⟩; obtain rfl : wz = w'' := hw''; clear qk0 qk1 qk2 qk3 qk4; have hzwz := hbwz.size; (try simp at hzwz))
      have HAz := Lib.hid (HA.out.below hbwz (by omega))
      have s0 := ints_cell HAz.out HY.out
      have s1 := HAz.out.free (j := q) (by omega)
      have v1 := bc hbwz hybx t1
      have v9 := bc hbwz hyb2 t9
      have d1 := bc hbwz (by omega) c1
      have HBZ := Lib.hid (HBX.out.below hbwz (by omega))
      clear s0' t0 t1 t2 t3 t4 t9 c1
      go_wp2_with fail
      generalize hW : World.setCell wz _ _ = wy
      have HAy := Lib.hid (show Arr wy (w.heap.size + 1) N.nodes.length ((addAt acc q fv).map iV) from hW ▸ HAz.out.addAt HY.out (by omega))
      have hby : Below (w.heap.size + 1) wz wy := by rw [← hW]; exact (Below.refl (w.heap.size + 1) wz).setCell (show w.heap.size + 1 ≤ w.heap.size + 1 from Nat.le_refl _) _
      have hzy : wz.heap.size ≤ wy.heap.size := hby.size
      have u1 := bc hby (by omega) v1
      have u9 := bc hby (by omega) v9
      have e1 := bc hby (by omega) d1
      have HBY := Lib.hid (HBZ.out.below hby (by omega))
      have s2' := ints_cell HAy.out HZ.out
      clear hW s0 s1 v1 v9 d1
      (have qk0 := Wd.cell (by first | assumption | omega | (simp; omega)) e1; have qk1 := Wd.cell (by first | assumption | omega | (simp; omega)) u1; have qk2 := Wd.cell (by first | assumption | omega | (simp; omega)) u9; have qk3 := Wd.cell (by first | assumption | omega | (simp; omega)) s2'; (refine wp_region_wd_tail 22 (by kernel_rfl) (by kernel_rfl) ?_; simp only [List.take_succ_cons, List.take_zero, List.drop_succ_cons, List.drop_zero]); (repeat (go_big_quiet_step ((first | fail)))); (refine wpQuiet_nil ?_); rintro wx ⟨⟨w'', hbwx⟩, hw''⟩; obtain rfl : wx = w'' := hw''; clear qk0 qk1 qk2 qk3; have hzwx := hbwx.size; (try simp at hzwx))
      have HAx := Lib.hid (HAy.out.below hbwx (by omega))
      have s2 := ints_cell HAx.out HZ.out
      have s3 := HAx.out.free (j := r) (by omega)
      have HBw := Lib.hid (HBY.out.below hbwx (by omega))
      clear s2' u1 u9 e1
      go_wp2
      go_roundw
      case rel =>
        refine ⟨k + 1, addAt (addAt acc q fv) r (-fv), by omega, by go_num, by rw [addAt_len, addAt_len]; exact HAL.out, fun z hz => by have := HBD2.out z hz; omega, ?_, ?_, HBw.out.below (B := w.heap.size + 1) ((Below.refl _ _).setCell (by simp) _) (by omega), ?_⟩
        · rw [← HF.out, HST.out]; simp
        · have := HAx.out.addAt (x := -fv) HZ.out (by omega)
          rw [← Int.sub_eq_add_neg] at this
          exact this
        · have h1 := hbH.out
          have h2 : Below w.heap.size w wy := Below.via (show Below w.heap.size w wz by (repeat' (first | (with_reducible exact Below.refl _ _) | (with_reducible assumption) | (with_reducible refine Below.alloc ?_ ?_ _) | (with_reducible refine Below.drew ?_) | (with_reducible refine Below.drewN' ?_ _) | (with_reducible refine Below.setCell ?_ ?_ _) | (refine Below.via ?_ (by with_reducible assumption) ?_) | (with_reducible refine Below.via ?_ (Wd.h _) ?_) | go_size))) hby (by omega)
          exact (Below.via h2 hbwx (by omega)).setCell (by simp) _
      case measure => simp [intOf]; omega
    · clear hbw
      have HE := Lib.hid (show acc = outL N fl by rw [← HF.out, outF_end (by omega)])
      go_wp2
      go_ret
      rw [← HE.out]
      exact ⟨_, _, rfl, Nat.le_refl _, by simpa using Wr.of_arr (by omega) HA.out, hbH.out⟩
set_option maxRecDepth 100000 in
set_option maxHeartbeats 4000000 in
theorem spec_l05Add (A B : Option Addr) (c d : Nat) (la lb : List Int) (s : Int) (w : World) (hA : Rd w A (la.map iV)) (hB : Rd w B (lb.map iV)) (hl : la.length ≤ lb.length) (hm : lb.length ≤ 1048576) (h1 : ∀ x ∈ la, -1000000000000 ≤ x ∧ x ≤ 1000000000000) (h2 : ∀ x ∈ lb, -1000000000000 ≤ s * x ∧ s * x ≤ 1000000000000) :
    Calls Try.prog 84 #[.slice A la.length c, .slice B lb.length d, .int .i64 s] w (MadeL w 1 la.length ((addS s la lb).map iV)) := by
  have HA := Lib.hid hA
  have HB := Lib.hid hB
  have H1 := Lib.hid h1
  have H2 := Lib.hid h2
  clear hA hB h1 h2
  go_enter Try.func84, Try.ntmps84
  go_wp2
  go_loopw [7, 8] (fun u v wr => ∃ (k : Nat), k ≤ la.length ∧ v = .int .i64 k ∧ Own wr w.heap.size 2 1 u k (((addS s la lb).take k).map iV) ∧ Below w.heap.size w wr) (fun _ v _ => la.length - (intOf v).toNat)
  case atStart => exact ⟨0, by omega, rfl, by simpa using Own.lit0 w w.heap.size 2 1 (Nat.le_refl _), by (repeat' (first | (with_reducible exact Below.refl _ _) | (with_reducible assumption) | (with_reducible refine Below.alloc ?_ ?_ _) | (with_reducible refine Below.drew ?_) | (with_reducible refine Below.drewN' ?_ _) | (with_reducible refine Below.setCell ?_ ?_ _) | (refine Below.via ?_ (by with_reducible assumption) ?_) | (with_reducible refine Below.via ?_ (Wd.h _) ?_) | go_size))⟩
  case round =>
    obtain ⟨k, hk, rfl, hO, hbw⟩ := hrel
    have hbH := Lib.hid hbw
    have HOW := Lib.hid hO
    have hzw := hbw.size
    clear hO
    by_cases hlt : k < la.length
    · obtain ⟨x, hx⟩ := get_some hlt
      obtain ⟨y, hy⟩ := get_some (show k < lb.length by omega)
      obtain ⟨ba, oa, rfl, hba, hata⟩ := HA.out.opened (k := k) (by simpa using hlt)
      obtain ⟨bb, ob, rfl, hbb, hatb⟩ := HB.out.opened (k := k) (by simp; omega)
      have t0 := ints_at (hata.below hbw hba) hx
      have t1 := ints_at (hatb.below hbw hbb) hy
      have hya : ba < wr.heap.size := by omega
      have hyb : bb < wr.heap.size := by omega
      obtain ⟨x1, x2⟩ := H1.out x (List.mem_of_getElem? hx)
      obtain ⟨y1, y2⟩ := H2.out y (List.mem_of_getElem? hy)
      have HG := Lib.hid (addS_get (s := s) hx hy)
      have g1 : (k : Int) < la.length := by omega
      have g2 : (k : Int) < lb.length := by omega
      clear hx hy hata hatb hbw
      go_wp2_with fail
      have z1 : IntKind.i64.wrap (s * y) = s * y := IntWalk.i64_in _ (by omega)
      have z2 : IntKind.i64.wrap (x + s * y) = x + s * y := IntWalk.i64_in _ (by omega)
      go_region_held3 (fun w' => w'.cell? ⟨ba, oa + k, none⟩ = some (.int .i64 x) ∧ w'.cell? ⟨bb, ob + k, none⟩ = some (.int .i64 y))
        (first | exact ⟨t0, t1⟩ | go_keep | exact ⟨bc hb1 hba (by simp [go_sem, t0, hya]), bc hb1 hbb (by simp [go_sem, t1, hyb])⟩)
        (first
          | (apply step_of rfl; apply app1x (s := .tmp 16) (x := .tmp 28) (t := 28) (base := w.heap.size) (hinfo := info_i64) (v := u7) (n := k) (xs := ((addS s la lb).take k).map iV) (news := [iV (x + s * y)]) (m := 1) (c := 1); (case ho => exact rfl); (case ht => exact Try.underlying28); (case hzs => exact rfl); (case hsz => decide); (case hby => decide); (case hs => exact rfl); (case hown => repeat' (first | (with_reducible exact HOW.out) | (with_reducible refine Own.alloc ?_ _) | (with_reducible refine Own.drew ?_))); (case hx => exact rfl); (case hl => exact rfl); (case hnews => (intro j u hu; match j, hu with | 0, hu => (simp at hu; subst hu; simp) | j + 1, hu => simp at hu)); (case h1 => simp [Value.oneCell']); (case hm => decide); (case hn => (clear z1 z2; omega)); (case hbase => (clear z1 z2; first | omega | (simp; omega))); intro v1 w1 hO1 hb1 hF1; have HO1 := Lib.hid hO1; clear hO1))
      all_goals
        clear z1 z2
        go_wp2
        go_roundw
        case rel =>
          refine ⟨k + 1, by omega, by go_num, by rw [ints_snoc HG.out]; exact HO1.out, ?_⟩
          have h1 := hbH.out
          (repeat' (first | (with_reducible exact Below.refl _ _) | (with_reducible assumption) | (with_reducible refine Below.alloc ?_ ?_ _) | (with_reducible refine Below.drew ?_) | (with_reducible refine Below.drewN' ?_ _) | (with_reducible refine Below.setCell ?_ ?_ _) | (refine Below.via ?_ (by with_reducible assumption) ?_) | (with_reducible refine Below.via ?_ (Wd.h _) ?_) | go_size))
        case measure => simp [intOf]; omega
    · obtain rfl : k = la.length := by omega
      clear hbw
      have hne : ¬ la.length < la.length := by omega
      go_wp2
      go_ret
      obtain ⟨B1, cc, rfl, hnc, hw⟩ := HOW.out.lt_
      rw [List.take_of_length_le (by rw [addS_len hl]; omega)] at hw
      exact ⟨B1, cc, rfl, hnc, hw, hbH.out⟩
end Go.Proofs.Ytijhadafmhbceaa

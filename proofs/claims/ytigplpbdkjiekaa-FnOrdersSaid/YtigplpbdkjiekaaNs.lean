/- NominatedSupplies. -/
import Derived.Test.YtigplpbdkjiekaaAm
namespace Go.Proofs.Ytigplpbdkjiekaa
set_option linter.unusedVariables false
set_option linter.unusedSimpArgs false
open Go.RowKit
def nsF : List Int → List Ctr → List Int → List Int
  | acc, p :: ps, x :: xs => nsF (addAt (addAt acc p.en.toNat x) p.ex.toNat (-x)) ps xs
  | acc, _, _ => acc
theorem nsF_len : ∀ (ps : List Ctr) (xs acc : List Int), (nsF acc ps xs).length = acc.length
  | [], _, acc => by simp [nsF]
  | p :: ps, [], acc => by simp [nsF]
  | p :: ps, x :: xs, acc => by rw [nsF, nsF_len ps xs, addAt_len, addAt_len]
def nsL (n : Nat) (lb : List Ctr) (am : List Int) : List Int := nsF (List.replicate n 0) lb am
theorem nsL_len (n : Nat) (lb : List Ctr) (am : List Int) : (nsL n lb am).length = n := by rw [nsL, nsF_len]; simp
theorem nsF_step {acc : List Int} {ps : List Ctr} {xs : List Int} {k : Nat} {p : Ctr} {x : Int} (hp : ps[k]? = some p) (hx : xs[k]? = some x) : nsF acc (ps.drop k) (xs.drop k) = nsF (addAt (addAt acc p.en.toNat x) p.ex.toNat (-x)) (ps.drop (k + 1)) (xs.drop (k + 1)) := by
  rw [drop_consI hp, drop_consI hx, nsF]
theorem nsF_end {acc : List Int} {ps : List Ctr} {xs : List Int} {k : Nat} (h : ¬ k < ps.length) : nsF acc (ps.drop k) (xs.drop k) = acc := by
  rw [drop_endI h]; simp [nsF]
noncomputable def nsR (N : Net) (lb : List Ctr) (ln : List Nom) (hr : Int) : List Int × Int :=
  if (amR N lb ln hr).2 ≠ 0 then ([], (amR N lb ln hr).2) else if supB N.nodes.length (nsL N.nodes.length lb (amL lb ln hr)) = false then ([], 7) else (nsL N.nodes.length lb (amL lb ln hr), 0)
theorem amR_cases (N : Net) (lb : List Ctr) (ln : List Nom) (hr : Int) : (∃ c, c ≠ 0 ∧ amR N lb ln hr = ([], c)) ∨ (nomsC N lb ln = 0 ∧ amR N lb ln hr = (amL lb ln hr, 0)) := by
  unfold amR
  by_cases h : nomsC N lb ln = 0
  · cases h2 : inB hr 0 47
    · left; exact ⟨2, by omega, by simp [h]⟩
    · right; simp [h]
  · left; exact ⟨_, h, by simp [h]⟩
theorem nsR_len {N : Net} {lb : List Ctr} {ln : List Nom} {hr : Int} : (nsR N lb ln hr).1.length ≤ 1048576 := by
  unfold nsR
  rcases amR_cases N lb ln hr with ⟨c, hc, e⟩ | ⟨h0, e⟩
  · rw [e]; simp [hc]
  · have := (book_of (noms_of h0).1).1.n2
    rw [e]
    split
    · simp
    · split
      · simp
      · simp [nsL_len]; omega
theorem amL_bd {N : Net} {lb : List Ctr} {ln : List Nom} {hr : Int} (h : nomsC N lb ln = 0) : ∀ y ∈ amL lb ln hr, 0 ≤ y ∧ y ≤ 30000 :=
  amF_bd hr ln _ (fun x hx => by have := nom_mem (ctrsOk_of (noms_of h).1) (noms_of h).2 hx; omega) (fun y hy => by have := (List.mem_replicate.1 hy).2; omega)
set_option maxRecDepth 100000 in
set_option maxHeartbeats 4000000 in
theorem impl_NominatedSupplies (A B C D : Option Addr) (n c m d e f : Nat) (N : Net) (lb : List Ctr) (ln : List Nom) (hr : Int) (w : World) (hN : NetAt w A B N) (hn : n = N.nodes.length) (hm : m = N.pipes.length) (hc : n ≤ c) (h : Rd w C (lb.flatMap Ctr.cells)) (hl : lb.length ≤ 1048576) (h' : Rd w D (ln.flatMap Nom.cells)) (hl' : ln.length ≤ 1048576) :
    Calls Try.prog 23 #[netV A B n c m d, .slice C lb.length e, .slice D ln.length f, .int .i64 hr] w (MadeR w 1 (nsR N lb ln hr).1.length ((nsR N lb ln hr).1.map iV) (nsR N lb ln hr).2) := by
  subst hn hm
  have HN := Lib.hid hN
  have HB := Lib.hid h
  have HM := Lib.hid h'
  have hln := hN.ln
  clear hN h h'
  rcases amR_cases N lb ln hr with ⟨cc, hcc, hea⟩ | ⟨h0, hea⟩
  · have HE := Lib.hid hea
    have b0 : (cc != 0) = true := by simp [hcc]
    have HR := Lib.hid (show nsR N lb ln hr = ([], cc) by rw [nsR, hea]; simp [hcc])
    clear hea hcc
    go_enter Try.func23, Try.ntmps23
    go_wp2_with fail
    
    refine (((impl_AmountsIn _ _ _ _ _ _ _ _ _ _ N lb ln hr _ (HN.out.below (by (repeat' (first | (with_reducible exact Below.refl _ _) | (with_reducible assumption) | (with_reducible refine Below.alloc ?_ ?_ _) | (with_reducible refine Below.drew ?_) | (with_reducible refine Below.drewN' ?_ _) | (with_reducible refine Below.setCell ?_ ?_ _) | (refine Below.via ?_ (by with_reducible assumption) ?_) | (with_reducible refine Below.via ?_ (Wd.h _) ?_) | go_size)))) rfl rfl hc (HB.out.below (by (repeat' (first | (with_reducible exact Below.refl _ _) | (with_reducible assumption) | (with_reducible refine Below.alloc ?_ ?_ _) | (with_reducible refine Below.drew ?_) | (with_reducible refine Below.drewN' ?_ _) | (with_reducible refine Below.setCell ?_ ?_ _) | (refine Below.via ?_ (by with_reducible assumption) ?_) | (with_reducible refine Below.via ?_ (Wd.h _) ?_) | go_size)))) hl (HM.out.below (by (repeat' (first | (with_reducible exact Below.refl _ _) | (with_reducible assumption) | (with_reducible refine Below.alloc ?_ ?_ _) | (with_reducible refine Below.drew ?_) | (with_reducible refine Below.drewN' ?_ _) | (with_reducible refine Below.setCell ?_ ?_ _) | (refine Below.via ?_ (by with_reducible assumption) ?_) | (with_reducible refine Below.via ?_ (Wd.h _) ?_) | go_size)))) hl')).made HE.out).mono ?_
    rintro e w1 ⟨G, c1, rfl, hc1, hW1, hb1⟩
    clear hW1
    go_wp2
    go_ret2
    exact MadeR.nil HR.out rfl (by (repeat' (first | (with_reducible exact Below.refl _ _) | (with_reducible assumption) | (with_reducible refine Below.alloc ?_ ?_ _) | (with_reducible refine Below.drew ?_) | (with_reducible refine Below.drewN' ?_ _) | (with_reducible refine Below.setCell ?_ ?_ _) | (refine Below.via ?_ (by with_reducible assumption) ?_) | (with_reducible refine Below.via ?_ (Wd.h _) ?_) | go_size)))
  obtain ⟨am, ham⟩ : ∃ am, am = amL lb ln hr := ⟨_, rfl⟩
  have HE := Lib.hid (show amR N lb ln hr = (am, 0) by rw [ham]; exact hea)
  have HAM := Lib.hid ham
  have HBA := Lib.hid (show ∀ y ∈ am, 0 ≤ y ∧ y ≤ 30000 by rw [ham]; exact amL_bd h0)
  have la1 : am.length ≤ lb.length := by rw [ham, amL_len]; omega
  have la2 : lb.length ≤ am.length := by rw [ham, amL_len]; omega
  have HO := Lib.hid (book_of (noms_of h0).1)
  have h32 := (book_of (noms_of h0).1).2.1
  have HRS := Lib.hid (show nsR N lb ln hr = (if supB N.nodes.length (nsL N.nodes.length lb am) = false then ([], 7) else (nsL N.nodes.length lb am, 0)) by rw [nsR, hea, ham]; simp)
  clear h0 hea ham
  have hmk := make_i64 N.nodes.length (by omega)
  go_enter Try.func23, Try.ntmps23
  go_wp2_with fail
  
  refine (((impl_AmountsIn _ _ _ _ _ _ _ _ _ _ N lb ln hr _ (HN.out.below (by (repeat' (first | (with_reducible exact Below.refl _ _) | (with_reducible assumption) | (with_reducible refine Below.alloc ?_ ?_ _) | (with_reducible refine Below.drew ?_) | (with_reducible refine Below.drewN' ?_ _) | (with_reducible refine Below.setCell ?_ ?_ _) | (refine Below.via ?_ (by with_reducible assumption) ?_) | (with_reducible refine Below.via ?_ (Wd.h _) ?_) | go_size)))) rfl rfl hc (HB.out.below (by (repeat' (first | (with_reducible exact Below.refl _ _) | (with_reducible assumption) | (with_reducible refine Below.alloc ?_ ?_ _) | (with_reducible refine Below.drew ?_) | (with_reducible refine Below.drewN' ?_ _) | (with_reducible refine Below.setCell ?_ ?_ _) | (refine Below.via ?_ (by with_reducible assumption) ?_) | (with_reducible refine Below.via ?_ (Wd.h _) ?_) | go_size)))) hl (HM.out.below (by (repeat' (first | (with_reducible exact Below.refl _ _) | (with_reducible assumption) | (with_reducible refine Below.alloc ?_ ?_ _) | (with_reducible refine Below.drew ?_) | (with_reducible refine Below.drewN' ?_ _) | (with_reducible refine Below.setCell ?_ ?_ _) | (refine Below.via ?_ (by with_reducible assumption) ?_) | (with_reducible refine Below.via ?_ (Wd.h _) ?_) | go_size)))) hl')).made HE.out).mono ?_
  rintro e w1 ⟨G, c1, rfl, hc1, hW1, hb1⟩
  have HW1 := Lib.hid hW1
  have HAr := Lib.hid hW1.rd
  clear hW1
  (obtain ⟨hcn, hfn⟩ := bcell hb1; have hz1 := hb1.size; (try simp at hz1); have Ncw0_0 := hcn (w.heap.size) (0) (by first | omega | (simp; done) | (simp; omega)); have Nfw0_0 := hfn (w.heap.size) (0) (by first | omega | (simp; done) | (simp; omega)); have Nhy0 : w.heap.size < w1.heap.size := (by omega); have Ncw0_1 := hcn (w.heap.size) (1) (by first | omega | (simp; done) | (simp; omega)); have Nfw0_1 := hfn (w.heap.size) (1) (by first | omega | (simp; done) | (simp; omega)); simp [go_sem] at Ncw0_0 Nfw0_0 Ncw0_1 Nfw0_1; clear hcn hfn; have cw0_0 := Ncw0_0; have fw0_0 := Nfw0_0; have cw0_1 := Ncw0_1; have fw0_1 := Nfw0_1; have hy0 := Nhy0; clear Ncw0_0 Nfw0_0 Ncw0_1 Nfw0_1 Nhy0)
  have hb1' : Below w.heap.size w w1 := by (repeat' (first | (with_reducible exact Below.refl _ _) | (with_reducible assumption) | (with_reducible refine Below.alloc ?_ ?_ _) | (with_reducible refine Below.drew ?_) | (with_reducible refine Below.drewN' ?_ _) | (with_reducible refine Below.setCell ?_ ?_ _) | (refine Below.via ?_ (by with_reducible assumption) ?_) | (with_reducible refine Below.via ?_ (Wd.h _) ?_) | go_size))
  have HB1 := Lib.hid hb1'
  have HBX := Lib.hid (show Bx w1 w.heap.size [.slice A N.nodes.length c, .slice B N.pipes.length d] from (bx2 (by first | exact hy0 | go_size) (by first | (with_reducible exact cw0_0) | go_cell_look | (simp [go_sem, hy0, cw0_0, fw0_0, cw0_1, fw0_1]; done) | (simp [go_sem]; done)) (by first | (with_reducible exact fw0_0) | (simp only [World.frozen?_setCell, fw0_0]; done) | (simp [go_sem, hy0, cw0_0, fw0_0, cw0_1, fw0_1]; done) | (simp [go_sem]; done)) (by first | (with_reducible exact cw0_1) | go_cell_look | (simp [go_sem, hy0, cw0_0, fw0_0, cw0_1, fw0_1]; done) | (simp [go_sem]; done)) (by first | (with_reducible exact fw0_1) | (simp only [World.frozen?_setCell, fw0_1]; done) | (simp [go_sem, hy0, cw0_0, fw0_0, cw0_1, fw0_1]; done) | (simp [go_sem]; done))))
  have hzz : w.heap.size ≤ w1.heap.size := hb1'.size
  have HA0 := Lib.hid (Arr.madeI w1 N.nodes.length 2)
  go_wp2_with fail
  clear hy0 cw0_0 fw0_0 cw0_1 fw0_1
  clear hb1 hb1' hmk
  go_loopw [32] (fun v wr => ∃ (k : Nat) (acc : List Int), k ≤ lb.length ∧ v = .int .i64 k ∧ acc.length = N.nodes.length ∧ (∀ y ∈ acc, -(k * 60000 : Int) ≤ y ∧ y ≤ (k * 60000 : Int)) ∧ nsF acc (lb.drop k) (am.drop k) = nsL N.nodes.length lb am ∧ Arr wr w1.heap.size N.nodes.length (acc.map iV) ∧ Bx wr w.heap.size [.slice A N.nodes.length c, .slice B N.pipes.length d] ∧ Below w1.heap.size w1 wr) (fun v _ => lb.length - (intOf v).toNat)
  case atStart => exact ⟨0, List.replicate N.nodes.length 0, by omega, rfl, by simp, fun y hy => by have := (List.mem_replicate.1 hy).2; omega, by simp [nsL], HA0.out, HBX.out.below ((Below.refl _ _).alloc (Nat.le_refl _) _) (by omega), by (repeat' (first | (with_reducible exact Below.refl _ _) | (with_reducible assumption) | (with_reducible refine Below.alloc ?_ ?_ _) | (with_reducible refine Below.drew ?_) | (with_reducible refine Below.drewN' ?_ _) | (with_reducible refine Below.setCell ?_ ?_ _) | (refine Below.via ?_ (by with_reducible assumption) ?_) | (with_reducible refine Below.via ?_ (Wd.h _) ?_) | go_size))⟩
  case round =>
    obtain ⟨k, acc, hk, rfl, hal, hbd, hF, hA, hB, hbw1⟩ := hrel
    have hbH1 := Lib.hid hbw1
    have hbw : Below w.heap.size w wr := Below.via HB1.out hbw1 (by omega)
    have hbH := Lib.hid hbw
    have HF := Lib.hid hF
    have HA := Lib.hid hA
    have HBD := Lib.hid hbd
    have HAL := Lib.hid hal
    have HBR := Lib.hid hB
    have hyA := hA.lt
    have hzr1 := hbw1.size
    clear hF hA hbd hal
    by_cases hlt : k < lb.length
    · clear hB
      obtain ⟨fv, hfv⟩ := get_some (show k < am.length by omega)
      obtain ⟨b2, off2, rfl, hb2, hat2⟩ := HAr.out.opened (k := k) (by simp; omega)
      obtain ⟨x, hx⟩ := get_some hlt; obtain ⟨bx, offx, rfl, hbx, hat⟩ := HB.out.opened (k := k) (by rw [flat_len Ctr.len]; omega); have hat' := hat.below hbw hbx; have hybx : bx < wr.heap.size := Nat.lt_of_lt_of_le hbx hbw.size; have hzw := hbw.size; have t0 := hat'.elem0 Ctr.len hx rfl; have t1 := hat'.elem Ctr.len hx 1 rfl; have t2 := hat'.elem Ctr.len hx 2 rfl; have t3 := hat'.elem Ctr.len hx 3 rfl; have t4 := hat'.elem Ctr.len hx 4 rfl; have t5 := hat'.elem Ctr.len hx 5 rfl; have t6 := hat'.elem Ctr.len hx 6 rfl; have t7 := hat'.elem Ctr.len hx 7 rfl; have HX := Lib.hid hx; have HD := Lib.hid (drop_cons hx); have gx : (k : Int) < _ := Int.ofNat_lt.2 hlt; clear hx hat hat'
      have t9 := ints_at (hat2.below hbw1 hb2) hfv
      have hyb2 : b2 < wr.heap.size := by omega
      obtain ⟨f1, f2⟩ := HBA.out fv (List.mem_of_getElem? hfv)
      have cc := ctr_of (HO.out.2.2 x (List.mem_of_getElem? HX.out))
      obtain ⟨_, ⟨p1, p2⟩, ⟨p3, p4⟩, _⟩ := cc
      have HST := Lib.hid (nsF_step (acc := acc) HX.out hfv)
      clear hbw hbw1 hfv hat2
      obtain ⟨xsh, xen, xex, xam, xcl, xfr, xto, xpr⟩ := x
      dsimp only at t0 t1 t2 t3 t4 t5 t6 t7 p1 p2 p3 p4
      obtain ⟨q, rfl⟩ : ∃ q : Nat, xen = q := ⟨xen.toNat, by omega⟩
      obtain ⟨r, rfl⟩ : ∃ r : Nat, xex = r := ⟨xex.toNat, by omega⟩
      obtain ⟨y, hy⟩ := get_some (l := acc) (k := q) (by rw [HAL.out]; omega)
      obtain ⟨y1, y2⟩ := HBD.out y (List.mem_of_getElem? hy)
      have HBD1 := Lib.hid (addAt_bd (l := acc) (k := q) (x := fv) (a := -30000) (b := 30000) HBD.out (by omega) (by omega) (by omega) (by omega))
      have HBD2 := Lib.hid (addAt_bd (l := addAt acc q fv) (k := r) (x := -fv) (a := -30000) (b := 30000) HBD1.out (by omega) (by omega) (by omega) (by omega))
      obtain ⟨z, hz⟩ := get_some (l := addAt acc q fv) (k := r) (by rw [addAt_len, HAL.out]; omega)
      obtain ⟨z1, z2⟩ := HBD1.out z (List.mem_of_getElem? hz)
      have HY := Lib.hid hy
      have HZ := Lib.hid hz
      have g4 : (q : Int) < N.nodes.length := by omega
      have g5 : (r : Int) < N.nodes.length := by omega
      have g6 : (k : Int) < am.length := by omega
      clear hy hz
      go_wp2_with fail
      generalize hW : World.alloc wr _ = wq
      have hbq : Below wr.heap.size wr wq := by rw [← hW]; (repeat' (first | (with_reducible exact Below.refl _ _) | (with_reducible assumption) | (with_reducible refine Below.alloc ?_ ?_ _) | (with_reducible refine Below.drew ?_) | (with_reducible refine Below.drewN' ?_ _) | (with_reducible refine Below.setCell ?_ ?_ _) | (refine Below.via ?_ (by with_reducible assumption) ?_) | (with_reducible refine Below.via ?_ (Wd.h _) ?_) | go_size))
      have hzq : wr.heap.size < wq.heap.size := by rw [← hW]; simp
      have r1 : wq.cell? ⟨wr.heap.size, 1, none⟩ = some (.int .i64 q) := by rw [← hW]; simp
      have r2 : wq.cell? ⟨wr.heap.size, 2, none⟩ = some (.int .i64 r) := by rw [← hW]; simp
      have r9 := bc hbq hyb2 t9
      have HAq := Lib.hid (HA.out.below hbq (by omega))
      have HBQ := Lib.hid (HBR.out.below hbq (by omega))
      have s0' := ints_cell HAq.out HY.out
      clear hW t0 t1 t2 t3 t4 t5 t6 t7 t9
      (have qk0 := Wd.cell (by first | assumption | omega | (simp; omega)) r1; have qk1 := Wd.cell (by first | assumption | omega | (simp; omega)) r2; have qk2 := Wd.cell (by first | assumption | omega | (simp; omega)) r9; have qk3 := Wd.cell (by first | assumption | omega | (simp; omega)) s0'; (refine wp_region_wd_tail 11 (by kernel_rfl) (by kernel_rfl) ?_; simp only [List.take_succ_cons, List.take_zero, List.drop_succ_cons, List.drop_zero]); (repeat (go_big_quiet_step ((first | fail)))); (refine wpQuiet_nil ?_); rintro wz ⟨⟨w'', hbwz⟩, hw''⟩; obtain rfl : wz = w'' := hw''; clear qk0 qk1 qk2 qk3; have hzwz := hbwz.size; (try simp at hzwz))
      have HAz := Lib.hid (HAq.out.below hbwz (by omega))
      have HBZ := Lib.hid (HBQ.out.below hbwz (by omega))
      have s0 := ints_cell HAz.out HY.out
      have s1 := HAz.out.free (j := q) (by omega)
      have v2 := bc hbwz (by omega) r2
      have v9 := bc hbwz (by omega) r9
      clear s0' r1 r2 r9
      go_wp2_with fail
      generalize hW : World.setCell wz _ _ = wy
      have HAy := Lib.hid (show Arr wy w1.heap.size N.nodes.length ((addAt acc q fv).map iV) from hW ▸ HAz.out.addAt HY.out (by omega))
      have hby : Below w1.heap.size wz wy := by rw [← hW]; exact (Below.refl w1.heap.size wz).setCell (show w1.heap.size ≤ w1.heap.size from Nat.le_refl _) _
      have hzy : wz.heap.size ≤ wy.heap.size := hby.size
      have u2 : wy.cell? ⟨wr.heap.size, 2, none⟩ = some (.int .i64 r) := by rw [← hW, World.cell?_setCell_other _ _ _ _ (by intro e; injection e; omega)]; exact v2
      have u9 := bc hby hb2 v9
      have HBY := Lib.hid (HBZ.out.below hby (by omega))
      have s2' := ints_cell HAy.out HZ.out
      clear hW s0 s1 v2 v9
      (have qk0 := Wd.cell (by first | assumption | omega | (simp; omega)) u2; have qk1 := Wd.cell (by first | assumption | omega | (simp; omega)) u9; have qk2 := Wd.cell (by first | assumption | omega | (simp; omega)) s2'; (refine wp_region_wd_tail 11 (by kernel_rfl) (by kernel_rfl) ?_; simp only [List.take_succ_cons, List.take_zero, List.drop_succ_cons, List.drop_zero]); (repeat (go_big_quiet_step ((first | fail)))); (refine wpQuiet_nil ?_); rintro wx ⟨⟨w'', hbwx⟩, hw''⟩; obtain rfl : wx = w'' := hw''; clear qk0 qk1 qk2; have hzwx := hbwx.size; (try simp at hzwx))
      have HAx := Lib.hid (HAy.out.below hbwx (by omega))
      have HBXx := Lib.hid (HBY.out.below hbwx (by omega))
      have s2 := ints_cell HAx.out HZ.out
      have s3 := HAx.out.free (j := r) (by omega)
      clear s2' u2 u9
      go_wp2
      go_roundw
      case rel =>
        refine ⟨k + 1, addAt (addAt acc q fv) r (-fv), by omega, by go_num, by rw [addAt_len, addAt_len]; exact HAL.out, fun z hz => by have := HBD2.out z hz; omega, ?_, ?_, HBXx.out.below (B := w.heap.size + 1) ((Below.refl _ _).setCell (by simp; omega) _) (by omega), ?_⟩
        · rw [← HF.out, HST.out]; simp
        · have := HAx.out.addAt (x := -fv) HZ.out (by omega)
          rw [← Int.sub_eq_add_neg] at this
          exact this
        · have h1 := hbH1.out
          have h2 : Below w1.heap.size w1 wy := Below.via (Below.via (Below.via h1 hbq (by omega)) hbwz (by omega)) hby (Nat.le_refl _)
          exact (Below.via h2 hbwx (by omega)).setCell (by simp) _
      case measure => simp [intOf]; omega
    · clear hbw hbw1
      have HEE := Lib.hid (show acc = nsL N.nodes.length lb am by rw [← HF.out, nsF_end hlt])
      have hy0 := hB.lt; have cw0_0 := hB.cell 0 rfl; have fw0_0 := hB.frozen 0 rfl; have cw0_1 := hB.cell 1 rfl; have fw0_1 := hB.frozen 1 rfl
      clear hB
      cases hs : supB N.nodes.length acc
      · have HR := Lib.hid (show nsR N lb ln hr = ([], 7) by rw [HRS.out, ← HEE.out, if_pos hs])
        go_wp2_with fail
        refine (impl_areSupplies' _ _ _ _ _ _ _ _ _ acc _ hln (HA.out.rd) HAL.out hln).mono ?_
        rintro e wq ⟨rfl, hbq⟩
        go_wp2
        go_ret2
        exact MadeR.nil HR.out rfl (by have h1 := hbH.out; (repeat' (first | (with_reducible exact Below.refl _ _) | (with_reducible assumption) | (with_reducible refine Below.alloc ?_ ?_ _) | (with_reducible refine Below.drew ?_) | (with_reducible refine Below.drewN' ?_ _) | (with_reducible refine Below.setCell ?_ ?_ _) | (refine Below.via ?_ (by with_reducible assumption) ?_) | (with_reducible refine Below.via ?_ (Wd.h _) ?_) | go_size)))
      · have HR := Lib.hid (show nsR N lb ln hr = (acc, 0) by rw [HRS.out, ← HEE.out, if_neg (by simp [hs])])
        go_wp2_with fail
        refine (impl_areSupplies' _ _ _ _ _ _ _ _ _ acc _ hln (HA.out.rd) HAL.out hln).mono ?_
        rintro e wq ⟨rfl, hbq⟩
        go_wp2
        go_ret2
        exact MadeR.arr HR.out HAL.out (Nat.le_refl _) (HA.out.below hbq (by omega)) hzz (by have h1 := hbH.out; (repeat' (first | (with_reducible exact Below.refl _ _) | (with_reducible assumption) | (with_reducible refine Below.alloc ?_ ?_ _) | (with_reducible refine Below.drew ?_) | (with_reducible refine Below.drewN' ?_ _) | (with_reducible refine Below.setCell ?_ ?_ _) | (refine Below.via ?_ (by with_reducible assumption) ?_) | (with_reducible refine Below.via ?_ (Wd.h _) ?_) | go_size)))
set_option maxRecDepth 100000 in
set_option maxHeartbeats 4000000 in
theorem spec_l21Supplies (A B C G : Option Addr) (n c m d e f : Nat) (N : Net) (lb : List Ctr) (am : List Int) (w : World) (hn : n = N.nodes.length) (hln : N.nodes.length ≤ 1048576) (h : Rd w C (lb.flatMap Ctr.cells)) (h32 : lb.length ≤ 32) (ho : ∀ x ∈ lb, ctrB x N.nodes.length = true) (hg : Rd w G (am.map iV)) (hla : am.length = lb.length) (hba : ∀ y ∈ am, 0 ≤ y ∧ y ≤ 30000) :
    Calls Try.prog 56 #[netV A B n c m d, .slice C lb.length e, .slice G am.length f] w (MadeL w 1 N.nodes.length ((nsL N.nodes.length lb am).map iV)) := by
  subst hn
  have HB := Lib.hid h
  have HO := Lib.hid ho
  have HAr := Lib.hid hg
  have HBA := Lib.hid hba
  have la1 : am.length ≤ lb.length := by omega
  have la2 : lb.length ≤ am.length := by omega
  clear h ho hg hla hba
  have hmk := make_i64 N.nodes.length (by omega)
  go_enter Try.func56, Try.ntmps56
  go_wp2
  have HA0 := Lib.hid (Arr.madeI (w.alloc (.cells #[.slice A N.nodes.length c, .slice B m d] 27)) N.nodes.length 2)
  clear hmk
  go_loopw [8] (fun v wr => ∃ (k : Nat) (acc : List Int), k ≤ lb.length ∧ v = .int .i64 k ∧ acc.length = N.nodes.length ∧ (∀ y ∈ acc, -(k * 60000 : Int) ≤ y ∧ y ≤ (k * 60000 : Int)) ∧ nsF acc (lb.drop k) (am.drop k) = nsL N.nodes.length lb am ∧ Arr wr (w.heap.size + 1) N.nodes.length (acc.map iV) ∧ Below w.heap.size w wr) (fun v _ => lb.length - (intOf v).toNat)
  case atStart => exact ⟨0, List.replicate N.nodes.length 0, by omega, rfl, by simp, fun y hy => by have := (List.mem_replicate.1 hy).2; omega, by simp [nsL], by simpa using HA0.out, by (repeat' (first | (with_reducible exact Below.refl _ _) | (with_reducible assumption) | (with_reducible refine Below.alloc ?_ ?_ _) | (with_reducible refine Below.drew ?_) | (with_reducible refine Below.drewN' ?_ _) | (with_reducible refine Below.setCell ?_ ?_ _) | (refine Below.via ?_ (by with_reducible assumption) ?_) | (with_reducible refine Below.via ?_ (Wd.h _) ?_) | go_size))⟩
  case round =>
    obtain ⟨k, acc, hk, rfl, hal, hbd, hF, hA, hbw⟩ := hrel
    have hbH := Lib.hid hbw
    have HF := Lib.hid hF
    have HA := Lib.hid hA
    have HBD := Lib.hid hbd
    have HAL := Lib.hid hal
    have hyA := hA.lt
    clear hF hA hbd hal
    by_cases hlt : k < lb.length
    · obtain ⟨fv, hfv⟩ := get_some (show k < am.length by omega)
      obtain ⟨b2, off2, rfl, hb2, hat2⟩ := HAr.out.opened (k := k) (by simp; omega)
      obtain ⟨x, hx⟩ := get_some hlt; obtain ⟨bx, offx, rfl, hbx, hat⟩ := HB.out.opened (k := k) (by rw [flat_len Ctr.len]; omega); have hat' := hat.below hbw hbx; have hybx : bx < wr.heap.size := Nat.lt_of_lt_of_le hbx hbw.size; have hzw := hbw.size; have t0 := hat'.elem0 Ctr.len hx rfl; have t1 := hat'.elem Ctr.len hx 1 rfl; have t2 := hat'.elem Ctr.len hx 2 rfl; have t3 := hat'.elem Ctr.len hx 3 rfl; have t4 := hat'.elem Ctr.len hx 4 rfl; have t5 := hat'.elem Ctr.len hx 5 rfl; have t6 := hat'.elem Ctr.len hx 6 rfl; have t7 := hat'.elem Ctr.len hx 7 rfl; have HX := Lib.hid hx; have HD := Lib.hid (drop_cons hx); have gx : (k : Int) < _ := Int.ofNat_lt.2 hlt; clear hx hat hat'
      have t9 := ints_at (hat2.below hbw hb2) hfv
      have hyb2 : b2 < wr.heap.size := Nat.lt_of_lt_of_le hb2 hbw.size
      obtain ⟨f1, f2⟩ := HBA.out fv (List.mem_of_getElem? hfv)
      have cc := ctr_of (HO.out x (List.mem_of_getElem? HX.out))
      obtain ⟨_, ⟨p1, p2⟩, ⟨p3, p4⟩, _⟩ := cc
      have HST := Lib.hid (nsF_step (acc := acc) HX.out hfv)
      clear hbw hfv hat2
      obtain ⟨xsh, xen, xex, xam, xcl, xfr, xto, xpr⟩ := x
      dsimp only at t0 t1 t2 t3 t4 t5 t6 t7 p1 p2 p3 p4
      obtain ⟨q, rfl⟩ : ∃ q : Nat, xen = q := ⟨xen.toNat, by omega⟩
      obtain ⟨r, rfl⟩ : ∃ r : Nat, xex = r := ⟨xex.toNat, by omega⟩
      obtain ⟨y, hy⟩ := get_some (l := acc) (k := q) (by rw [HAL.out]; omega)
      obtain ⟨y1, y2⟩ := HBD.out y (List.mem_of_getElem? hy)
      have HBD1 := Lib.hid (addAt_bd (l := acc) (k := q) (x := fv) (a := -30000) (b := 30000) HBD.out (by omega) (by omega) (by omega) (by omega))
      have HBD2 := Lib.hid (addAt_bd (l := addAt acc q fv) (k := r) (x := -fv) (a := -30000) (b := 30000) HBD1.out (by omega) (by omega) (by omega) (by omega))
      obtain ⟨z, hz⟩ := get_some (l := addAt acc q fv) (k := r) (by rw [addAt_len, HAL.out]; omega)
      obtain ⟨z1, z2⟩ := HBD1.out z (List.mem_of_getElem? hz)
      have HY := Lib.hid hy
      have HZ := Lib.hid hz
      have g4 : (q : Int) < N.nodes.length := by omega
      have g5 : (r : Int) < N.nodes.length := by omega
      have g6 : (k : Int) < am.length := by omega
      have s0' := ints_cell HA.out hy
      clear hy hz
      go_wp2_with fail
      (have qk0 := Wd.cell (by first | assumption | omega | (simp; omega)) t1; have qk1 := Wd.cell (by first | assumption | omega | (simp; omega)) t2; have qk2 := Wd.cell (by first | assumption | omega | (simp; omega)) t9; have qk3 := Wd.cell (by first | assumption | omega | (simp; omega)) s0'; (refine wp_region_wd_tail 20 (by kernel_rfl) (by kernel_rfl) ?_; simp only [List.take_succ_cons, List.take_zero, List.drop_succ_cons, List.drop_zero]); (repeat (go_big_quiet_step ((first | fail)))); (refine wpQuiet_nil ?_); rintro wz ⟨⟨w'', hbwz⟩, hw''⟩; obtain rfl : wz = w'' := hw''; clear qk0 qk1 qk2 qk3; have hzwz := hbwz.size; (try simp at hzwz))
      have HAz := Lib.hid (HA.out.below hbwz (by omega))
      have s0 := ints_cell HAz.out HY.out
      have s1 := HAz.out.free (j := q) (by omega)
      have v2 := bc hbwz hybx t2
      have v9 := bc hbwz hyb2 t9
      clear s0' t0 t1 t2 t3 t4 t5 t6 t7 t9
      go_wp2_with fail
      generalize hW : World.setCell wz _ _ = wy
      have HAy := Lib.hid (show Arr wy (w.heap.size + 1) N.nodes.length ((addAt acc q fv).map iV) from hW ▸ HAz.out.addAt HY.out (by omega))
      have hby : Below (w.heap.size + 1) wz wy := by rw [← hW]; exact (Below.refl (w.heap.size + 1) wz).setCell (show w.heap.size + 1 ≤ w.heap.size + 1 from Nat.le_refl _) _
      have hzy : wz.heap.size ≤ wy.heap.size := hby.size
      have u2 := bc hby (by omega) v2
      have u9 := bc hby (by omega) v9
      have s2' := ints_cell HAy.out HZ.out
      clear hW s0 s1 v2 v9
      (have qk0 := Wd.cell (by first | assumption | omega | (simp; omega)) u2; have qk1 := Wd.cell (by first | assumption | omega | (simp; omega)) u9; have qk2 := Wd.cell (by first | assumption | omega | (simp; omega)) s2'; (refine wp_region_wd_tail 20 (by kernel_rfl) (by kernel_rfl) ?_; simp only [List.take_succ_cons, List.take_zero, List.drop_succ_cons, List.drop_zero]); (repeat (go_big_quiet_step ((first | fail)))); (refine wpQuiet_nil ?_); rintro wx ⟨⟨w'', hbwx⟩, hw''⟩; obtain rfl : wx = w'' := hw''; clear qk0 qk1 qk2; have hzwx := hbwx.size; (try simp at hzwx))
      have HAx := Lib.hid (HAy.out.below hbwx (by omega))
      have s2 := ints_cell HAx.out HZ.out
      have s3 := HAx.out.free (j := r) (by omega)
      clear s2' u2 u9
      go_wp2
      go_roundw
      case rel =>
        refine ⟨k + 1, addAt (addAt acc q fv) r (-fv), by omega, by go_num, by rw [addAt_len, addAt_len]; exact HAL.out, fun z hz => by have := HBD2.out z hz; omega, ?_, ?_, ?_⟩
        · rw [← HF.out, HST.out]; simp
        · have := HAx.out.addAt (x := -fv) HZ.out (by omega)
          rw [← Int.sub_eq_add_neg] at this
          exact this
        · have h1 := hbH.out
          have h2 : Below w.heap.size w wy := Below.via (show Below w.heap.size w wz by (repeat' (first | (with_reducible exact Below.refl _ _) | (with_reducible assumption) | (with_reducible refine Below.alloc ?_ ?_ _) | (with_reducible refine Below.drew ?_) | (with_reducible refine Below.drewN' ?_ _) | (with_reducible refine Below.setCell ?_ ?_ _) | (refine Below.via ?_ (by with_reducible assumption) ?_) | (with_reducible refine Below.via ?_ (Wd.h _) ?_) | go_size))) hby (by omega)
          exact (Below.via h2 hbwx (by omega)).setCell (by simp) _
      case measure => simp [intOf]; omega
    · clear hbw
      have HE := Lib.hid (show acc = nsL N.nodes.length lb am by rw [← HF.out, nsF_end hlt])
      go_wp2
      go_ret
      rw [← HE.out]
      exact ⟨_, _, rfl, Nat.le_refl _, by simpa using Wr.of_arr (by omega) HA.out, hbH.out⟩
set_option maxRecDepth 100000 in
set_option maxHeartbeats 4000000 in
theorem spec_NominatedSupplies (A B C D : Option Addr) (n c m d e f : Nat) (N : Net) (lb : List Ctr) (ln : List Nom) (hr : Int) (w : World) (hN : NetAt w A B N) (hn : n = N.nodes.length) (hm : m = N.pipes.length) (h : Rd w C (lb.flatMap Ctr.cells)) (hl : lb.length ≤ 1048576) (h' : Rd w D (ln.flatMap Nom.cells)) (hl' : ln.length ≤ 1048576) :
    Calls Try.prog 26 #[netV A B n c m d, .slice C lb.length e, .slice D ln.length f, .int .i64 hr] w (MadeR w 1 (nsR N lb ln hr).1.length ((nsR N lb ln hr).1.map iV) (nsR N lb ln hr).2) := by
  subst hn hm
  have HN := Lib.hid hN
  have HB := Lib.hid h
  have HM := Lib.hid h'
  have hln := hN.ln
  clear hN h h'
  rcases amR_cases N lb ln hr with ⟨cc, hcc, hea⟩ | ⟨h0, hea⟩
  · have HE := Lib.hid hea
    have b0 : (cc != 0) = true := by simp [hcc]
    have HR := Lib.hid (show nsR N lb ln hr = ([], cc) by rw [nsR, hea]; simp [hcc])
    clear hea hcc
    go_enter Try.func26, Try.ntmps26
    go_wp2_with fail
    
    refine (((spec_AmountsIn _ _ _ _ _ _ _ _ _ _ N lb ln hr _ (HN.out.below (by (repeat' (first | (with_reducible exact Below.refl _ _) | (with_reducible assumption) | (with_reducible refine Below.alloc ?_ ?_ _) | (with_reducible refine Below.drew ?_) | (with_reducible refine Below.drewN' ?_ _) | (with_reducible refine Below.setCell ?_ ?_ _) | (refine Below.via ?_ (by with_reducible assumption) ?_) | (with_reducible refine Below.via ?_ (Wd.h _) ?_) | go_size)))) rfl rfl (HB.out.below (by (repeat' (first | (with_reducible exact Below.refl _ _) | (with_reducible assumption) | (with_reducible refine Below.alloc ?_ ?_ _) | (with_reducible refine Below.drew ?_) | (with_reducible refine Below.drewN' ?_ _) | (with_reducible refine Below.setCell ?_ ?_ _) | (refine Below.via ?_ (by with_reducible assumption) ?_) | (with_reducible refine Below.via ?_ (Wd.h _) ?_) | go_size)))) hl (HM.out.below (by (repeat' (first | (with_reducible exact Below.refl _ _) | (with_reducible assumption) | (with_reducible refine Below.alloc ?_ ?_ _) | (with_reducible refine Below.drew ?_) | (with_reducible refine Below.drewN' ?_ _) | (with_reducible refine Below.setCell ?_ ?_ _) | (refine Below.via ?_ (by with_reducible assumption) ?_) | (with_reducible refine Below.via ?_ (Wd.h _) ?_) | go_size)))) hl')).made HE.out).mono ?_
    rintro e w1 ⟨G, c1, rfl, hc1, hW1, hb1⟩
    clear hW1
    go_wp2
    go_ret2
    exact MadeR.nil HR.out rfl (by (repeat' (first | (with_reducible exact Below.refl _ _) | (with_reducible assumption) | (with_reducible refine Below.alloc ?_ ?_ _) | (with_reducible refine Below.drew ?_) | (with_reducible refine Below.drewN' ?_ _) | (with_reducible refine Below.setCell ?_ ?_ _) | (refine Below.via ?_ (by with_reducible assumption) ?_) | (with_reducible refine Below.via ?_ (Wd.h _) ?_) | go_size)))
  obtain ⟨am, ham⟩ : ∃ am, am = amL lb ln hr := ⟨_, rfl⟩
  have HE := Lib.hid (show amR N lb ln hr = (am, 0) by rw [ham]; exact hea)
  have HBA := Lib.hid (show ∀ y ∈ am, 0 ≤ y ∧ y ≤ 30000 by rw [ham]; exact amL_bd h0)
  have HLA := Lib.hid (show am.length = lb.length by rw [ham, amL_len])
  have HO := Lib.hid (book_of (noms_of h0).1)
  have h32 := (book_of (noms_of h0).1).2.1
  have HRS := Lib.hid (show nsR N lb ln hr = (if supB N.nodes.length (nsL N.nodes.length lb am) = false then ([], 7) else (nsL N.nodes.length lb am, 0)) by rw [nsR, hea, ham]; simp)
  clear h0 hea ham
  obtain ⟨acc, hacc⟩ : ∃ acc, acc = nsL N.nodes.length lb am := ⟨_, rfl⟩
  have HEE := Lib.hid hacc
  have HAL := Lib.hid (show acc.length = N.nodes.length by rw [hacc, nsL_len])
  clear hacc
  cases hs : supB N.nodes.length acc
  all_goals
    go_enter Try.func26, Try.ntmps26
    go_wp2_with fail
    refine (((spec_AmountsIn _ _ _ _ _ _ _ _ _ _ N lb ln hr _ (HN.out.below (by (repeat' (first | (with_reducible exact Below.refl _ _) | (with_reducible assumption) | (with_reducible refine Below.alloc ?_ ?_ _) | (with_reducible refine Below.drew ?_) | (with_reducible refine Below.drewN' ?_ _) | (with_reducible refine Below.setCell ?_ ?_ _) | (refine Below.via ?_ (by with_reducible assumption) ?_) | (with_reducible refine Below.via ?_ (Wd.h _) ?_) | go_size)))) rfl rfl (HB.out.below (by (repeat' (first | (with_reducible exact Below.refl _ _) | (with_reducible assumption) | (with_reducible refine Below.alloc ?_ ?_ _) | (with_reducible refine Below.drew ?_) | (with_reducible refine Below.drewN' ?_ _) | (with_reducible refine Below.setCell ?_ ?_ _) | (refine Below.via ?_ (by with_reducible assumption) ?_) | (with_reducible refine Below.via ?_ (Wd.h _) ?_) | go_size)))) hl (HM.out.below (by (repeat' (first | (with_reducible exact Below.refl _ _) | (with_reducible assumption) | (with_reducible refine Below.alloc ?_ ?_ _) | (with_reducible refine Below.drew ?_) | (with_reducible refine Below.drewN' ?_ _) | (with_reducible refine Below.setCell ?_ ?_ _) | (refine Below.via ?_ (by with_reducible assumption) ?_) | (with_reducible refine Below.via ?_ (Wd.h _) ?_) | go_size)))) hl')).made HE.out).mono ?_
    rintro e w1 ⟨G, c1, rfl, hc1, hW1, hb1⟩
    have HW1 := Lib.hid hW1
    clear hW1
    (obtain ⟨hcn, hfn⟩ := bcell hb1; have hz1 := hb1.size; (try simp at hz1); have Ncw0_0 := hcn (w.heap.size) (0) (by first | omega | (simp; done) | (simp; omega)); have Nfw0_0 := hfn (w.heap.size) (0) (by first | omega | (simp; done) | (simp; omega)); have Nhy0 : w.heap.size < w1.heap.size := (by omega); have Ncw0_1 := hcn (w.heap.size) (1) (by first | omega | (simp; done) | (simp; omega)); have Nfw0_1 := hfn (w.heap.size) (1) (by first | omega | (simp; done) | (simp; omega)); simp [go_sem] at Ncw0_0 Nfw0_0 Ncw0_1 Nfw0_1; clear hcn hfn; have cw0_0 := Ncw0_0; have fw0_0 := Nfw0_0; have cw0_1 := Ncw0_1; have fw0_1 := Nfw0_1; have hy0 := Nhy0; clear Ncw0_0 Nfw0_0 Ncw0_1 Nfw0_1 Nhy0)
    go_wp2_with fail
    refine (spec_l21Supplies _ _ _ _ _ _ _ _ _ _ N lb am _ rfl hln (HB.out.below (by (repeat' (first | (with_reducible exact Below.refl _ _) | (with_reducible assumption) | (with_reducible refine Below.alloc ?_ ?_ _) | (with_reducible refine Below.drew ?_) | (with_reducible refine Below.drewN' ?_ _) | (with_reducible refine Below.setCell ?_ ?_ _) | (refine Below.via ?_ (by with_reducible assumption) ?_) | (with_reducible refine Below.via ?_ (Wd.h _) ?_) | go_size)))) h32 HO.out.2.2 HW1.out.rd HLA.out HBA.out).mono ?_
    rintro e w2 ⟨G2, c2, rfl, hc2, hW2, hb2⟩
    rw [← HEE.out] at hW2
    have HW2 := Lib.hid hW2
    clear hW2
    (obtain ⟨hcn, hfn⟩ := bcell hb2; have hz2 := hb2.size; (try simp at hz2); have Ncw0_0 := hcn (w.heap.size) (0) (by first | omega | (simp; done) | (simp; omega)); have Nfw0_0 := hfn (w.heap.size) (0) (by first | omega | (simp; done) | (simp; omega)); have Nhy0 : w.heap.size < w2.heap.size := (by omega); have Ncw0_1 := hcn (w.heap.size) (1) (by first | omega | (simp; done) | (simp; omega)); have Nfw0_1 := hfn (w.heap.size) (1) (by first | omega | (simp; done) | (simp; omega)); simp [go_sem, cw0_0, fw0_0, cw0_1, fw0_1, hy0] at Ncw0_0 Nfw0_0 Ncw0_1 Nfw0_1; clear cw0_0 fw0_0 cw0_1 fw0_1 hy0; clear hcn hfn; have cw0_0 := Ncw0_0; have fw0_0 := Nfw0_0; have cw0_1 := Ncw0_1; have fw0_1 := Nfw0_1; have hy0 := Nhy0; clear Ncw0_0 Nfw0_0 Ncw0_1 Nfw0_1 Nhy0)
    go_wp2_with fail
    refine (spec_l06List' _ _ _ _ _ _ _ _ _ acc _ hln HW2.out.rd HAL.out hln).mono ?_
    rintro e w3 ⟨rfl, hb3⟩
    go_wp2
    go_ret2
    first
      | (exact MadeR.nil (show nsR N lb ln hr = ([], 7) by rw [HRS.out, ← HEE.out, if_pos hs]) rfl (by (repeat' (first | (with_reducible exact Below.refl _ _) | (with_reducible assumption) | (with_reducible refine Below.alloc ?_ ?_ _) | (with_reducible refine Below.drew ?_) | (with_reducible refine Below.drewN' ?_ _) | (with_reducible refine Below.setCell ?_ ?_ _) | (refine Below.via ?_ (by with_reducible assumption) ?_) | (with_reducible refine Below.via ?_ (Wd.h _) ?_) | go_size))))
      | (exact MadeR.ofWr (show nsR N lb ln hr = (acc, 0) by rw [HRS.out, ← HEE.out, if_neg (by simp [hs])]) HAL.out hc2 ((HW2.out.lower (by omega)).below hb3) (by (repeat' (first | (with_reducible exact Below.refl _ _) | (with_reducible assumption) | (with_reducible refine Below.alloc ?_ ?_ _) | (with_reducible refine Below.drew ?_) | (with_reducible refine Below.drewN' ?_ _) | (with_reducible refine Below.setCell ?_ ?_ _) | (refine Below.via ?_ (by with_reducible assumption) ?_) | (with_reducible refine Below.via ?_ (Wd.h _) ?_) | go_size))))
end Go.Proofs.Ytigplpbdkjiekaa

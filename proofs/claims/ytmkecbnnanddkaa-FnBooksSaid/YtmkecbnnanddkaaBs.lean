/- BookedSupplies. -/
import Derived.Test.YtmkecbnnanddkaaOs
import Derived.Test.YtmkecbnnanddkaaBa
namespace Go.Proofs.Ytmkecbnnanddkaa
set_option linter.unusedVariables false
set_option linter.unusedSimpArgs false
open Go.RowKit
theorem addAt_get (l : List Int) (k : Nat) (x : Int) (i : Nat) : (addAt l k x)[i]? = if k = i then (l[i]?).map (· + x) else l[i]? := by
  unfold addAt
  by_cases h : k = i
  · subst h
    rw [if_pos rfl]
    cases hl : l[k]? with
    | none => simp [hl]
    | some y =>
      have : k < l.length := (List.getElem?_eq_some_iff.1 hl).1
      simp [this]
  · rw [if_neg h]
    split
    · rw [List.getElem?_set_ne h]
    · rfl
def bsF (hr : Int) : List Int → List Ctr → List Int
  | acc, [] => acc
  | acc, x :: l => bsF hr (if inB hr x.fr x.to = true then addAt (addAt acc x.en.toNat x.am) x.ex.toNat (-x.am) else acc) l
theorem bsF_len (hr : Int) : ∀ (l : List Ctr) (acc : List Int), (bsF hr acc l).length = acc.length
  | [], acc => rfl
  | x :: l, acc => by
    rw [bsF, bsF_len hr l]
    split
    · rw [addAt_len, addAt_len]
    · rfl
theorem bsF_get (hr : Int) (i : Nat) : ∀ (lb : List Ctr) (acc : List Int) (a : Int), (∀ x ∈ lb, 0 ≤ x.en ∧ 0 ≤ x.ex) → acc[i]? = some a → (bsF hr acc lb)[i]? = some (a + bkI i hr lb - bkO i hr lb)
  | [], acc, a, _, ha => by simp [bsF, bkI, bkO, ha]
  | x :: lb, acc, a, hx, ha => by
    have hx0 := hx x (by simp)
    have hr' : ∀ y ∈ lb, 0 ≤ y.en ∧ 0 ≤ y.ex := fun y hy => hx y (by simp [hy])
    rw [bsF, bkI, bkO]
    cases hh : inB hr x.fr x.to
    · simp only [Bool.false_eq_true, if_false, Bool.false_and]
      rw [bsF_get hr i lb acc a hr' ha]; congr 1; omega
    · simp only [if_true, Bool.true_and]
      have he : (x.en.toNat = i) ↔ ((x.en == (i : Int)) = true) := by simp; omega
      have hf : (x.ex.toNat = i) ↔ ((x.ex == (i : Int)) = true) := by simp; omega
      have h1 : (addAt (addAt acc x.en.toNat x.am) x.ex.toNat (-x.am))[i]? = some (a + (if (x.en == (i : Int)) = true then x.am else 0) - (if (x.ex == (i : Int)) = true then x.am else 0)) := by
        rw [addAt_get, addAt_get, ha]
        by_cases e1 : (x.en == (i : Int)) = true <;> by_cases e2 : (x.ex == (i : Int)) = true
        · rw [if_pos (hf.2 e2), if_pos (he.2 e1), if_pos e1, if_pos e2]; simp; omega
        · rw [if_neg (fun h => e2 (hf.1 h)), if_pos (he.2 e1), if_pos e1, if_neg e2]; simp
        · rw [if_pos (hf.2 e2), if_neg (fun h => e1 (he.1 h)), if_neg e1, if_pos e2]; simp; omega
        · rw [if_neg (fun h => e2 (hf.1 h)), if_neg (fun h => e1 (he.1 h)), if_neg e1, if_neg e2]; simp
      rw [bsF_get hr i lb _ _ hr' h1]; congr 1; omega
def bsL (n : Nat) (lb : List Ctr) (hr : Int) : List Int := (List.range n).map fun i : Nat => bkI i hr lb - bkO i hr lb
theorem bsL_len (n : Nat) (lb : List Ctr) (hr : Int) : (bsL n lb hr).length = n := by simp [bsL]
theorem bsF_eq {n : Nat} {lb : List Ctr} {hr : Int} (h : ∀ x ∈ lb, 0 ≤ x.en ∧ 0 ≤ x.ex) : bsF hr (List.replicate n 0) lb = bsL n lb hr := by
  apply List.ext_getElem?
  intro i
  by_cases hi : i < n
  · rw [bsF_get hr i lb _ 0 h (by simp [hi])]
    simp [bsL, hi]
  · rw [List.getElem?_eq_none (by rw [bsF_len]; simp; omega), List.getElem?_eq_none (by rw [bsL_len]; omega)]
theorem bsL_succ (k : Nat) (lb : List Ctr) (hr : Int) : bsL (k + 1) lb hr = bsL k lb hr ++ [bkI k hr lb - bkO k hr lb] := by simp [bsL, List.range_succ]
noncomputable def bsR (N : Net) (lb : List Ctr) (hr : Int) : List Int × Int :=
  if bookC N lb ≠ 0 then ([], bookC N lb) else if inB hr 0 47 = false then ([], 2) else if supB N.nodes.length (bsL N.nodes.length lb hr) = false then ([], 5) else (bsL N.nodes.length lb hr, 0)
theorem bsR_len {N : Net} {lb : List Ctr} {hr : Int} : (bsR N lb hr).1.length ≤ 1048576 := by
  unfold bsR; split
  · simp
  · rename_i h
    have := (book_of (by simpa using h)).1.n2
    split
    · simp
    · split
      · simp
      · simp [bsL_len]; omega
theorem bkI_bd (nd hr : Int) : ∀ (lb : List Ctr), (∀ x ∈ lb, 1 ≤ x.am ∧ x.am ≤ 30000) → 0 ≤ bkI nd hr lb ∧ bkI nd hr lb ≤ lb.length * 30000
  | [], _ => by simp [bkI]
  | x :: l, h => by
    have h1 := h x (by simp)
    have h2 := bkI_bd nd hr l (fun y hy => h y (by simp [hy]))
    rw [bkI]
    split <;> simp <;> omega
theorem bkO_bd (nd hr : Int) : ∀ (lb : List Ctr), (∀ x ∈ lb, 1 ≤ x.am ∧ x.am ≤ 30000) → 0 ≤ bkO nd hr lb ∧ bkO nd hr lb ≤ lb.length * 30000
  | [], _ => by simp [bkO]
  | x :: l, h => by
    have h1 := h x (by simp)
    have h2 := bkO_bd nd hr l (fun y hy => h y (by simp [hy]))
    rw [bkO]
    split <;> simp <;> omega
set_option maxRecDepth 100000 in
set_option maxHeartbeats 4000000 in
theorem impl_BookedSupplies (A B C : Option Addr) (n c m d e : Nat) (N : Net) (lb : List Ctr) (hr : Int) (w : World) (hN : NetAt w A B N) (hn : n = N.nodes.length) (hm : m = N.pipes.length) (hc : n ≤ c) (h : Rd w C (lb.flatMap Ctr.cells)) (hl : lb.length ≤ 1048576) :
    Calls Try.prog 22 #[netV A B n c m d, .slice C lb.length e, .int .i64 hr] w (MadeR w 1 (bsR N lb hr).1.length ((bsR N lb hr).1.map iV) (bsR N lb hr).2) := by
  subst hn hm
  have HN := Lib.hid hN
  have HB := Lib.hid h
  have hln := hN.ln
  clear hN h
  by_cases h0 : bookC N lb = 0
  · have b0 : (bookC N lb != 0) = false := by simp [h0]
    have HO := Lib.hid (book_of h0)
    have h32 := (book_of h0).2.1
    have H0 := Lib.hid h0
    clear h0
    cases hs2 : inB hr 0 47
    · have HR := Lib.hid (show bsR N lb hr = ([], 2) by simp [bsR, H0.out, hs2])
      (go_enter Try.func22, Try.ntmps22; go_wp2_with (first | (go_at_call 36; ((with_reducible refine (impl_checkBook _ _ _ _ _ _ _ _ N lb _ (by exact HN.out.below (by (repeat' (first | (with_reducible exact Below.refl _ _) | (with_reducible assumption) | (with_reducible refine Below.alloc ?_ ?_ _) | (with_reducible refine Below.drew ?_) | (with_reducible refine Below.drewN' ?_ _) | (with_reducible refine Below.setCell ?_ ?_ _) | (refine Below.via ?_ (by with_reducible assumption) ?_) | (with_reducible refine Below.via ?_ (Wd.h _) ?_) | go_size)))) rfl rfl (by omega) (by exact HB.out.below (by (repeat' (first | (with_reducible exact Below.refl _ _) | (with_reducible assumption) | (with_reducible refine Below.alloc ?_ ?_ _) | (with_reducible refine Below.drew ?_) | (with_reducible refine Below.drewN' ?_ _) | (with_reducible refine Below.setCell ?_ ?_ _) | (refine Below.via ?_ (by with_reducible assumption) ?_) | (with_reducible refine Below.via ?_ (Wd.h _) ?_) | go_size)))) (by omega)).mono ?_)); rintro e wn ⟨rfl, hbn⟩; (obtain ⟨hcn, hfn⟩ := bcell hbn; have hzn := hbn.size; (try simp at hzn); have Ncw0_0 := hcn (w.heap.size) (0) (by first | omega | (simp; done) | (simp; omega)); have Nfw0_0 := hfn (w.heap.size) (0) (by first | omega | (simp; done) | (simp; omega)); have Nhy0 : w.heap.size < wn.heap.size := (by omega); have Ncw0_1 := hcn (w.heap.size) (1) (by first | omega | (simp; done) | (simp; omega)); have Nfw0_1 := hfn (w.heap.size) (1) (by first | omega | (simp; done) | (simp; omega)); (first | (simp [go_sem, cw0_0, fw0_0, cw0_1, fw0_1, hy0] at Ncw0_0 Nfw0_0 Ncw0_1 Nfw0_1; clear cw0_0 fw0_0 cw0_1 fw0_1) | (simp [go_sem] at Ncw0_0 Nfw0_0 Ncw0_1 Nfw0_1)); clear hcn hfn; have cw0_0 := Ncw0_0; have fw0_0 := Nfw0_0; have cw0_1 := Ncw0_1; have fw0_1 := Nfw0_1; have hy0 := Nhy0; clear Ncw0_0 Nfw0_0 Ncw0_1 Nfw0_1 Nhy0)) | (go_at_call 38; ((with_reducible refine (impl_isHour _ _).mono ?_)); rintro e wn ⟨rfl, rfl⟩)))
      go_ret2
      exact MadeR.nil HR.out rfl (by (repeat' (first | (with_reducible exact Below.refl _ _) | (with_reducible assumption) | (with_reducible refine Below.alloc ?_ ?_ _) | (with_reducible refine Below.drew ?_) | (with_reducible refine Below.drewN' ?_ _) | (with_reducible refine Below.setCell ?_ ?_ _) | (refine Below.via ?_ (by with_reducible assumption) ?_) | (with_reducible refine Below.via ?_ (Wd.h _) ?_) | go_size)))
    have hmk := make_i64 N.nodes.length (by omega)
    have HEQ := Lib.hid (bsF_eq (n := N.nodes.length) (lb := lb) (hr := hr) (fun x hx => by have := ctr_of (HO.out.2.2 x hx); omega))
    (go_enter Try.func22, Try.ntmps22; go_wp2_with (first | (go_at_call 36; ((with_reducible refine (impl_checkBook _ _ _ _ _ _ _ _ N lb _ (by exact HN.out.below (by (repeat' (first | (with_reducible exact Below.refl _ _) | (with_reducible assumption) | (with_reducible refine Below.alloc ?_ ?_ _) | (with_reducible refine Below.drew ?_) | (with_reducible refine Below.drewN' ?_ _) | (with_reducible refine Below.setCell ?_ ?_ _) | (refine Below.via ?_ (by with_reducible assumption) ?_) | (with_reducible refine Below.via ?_ (Wd.h _) ?_) | go_size)))) rfl rfl (by omega) (by exact HB.out.below (by (repeat' (first | (with_reducible exact Below.refl _ _) | (with_reducible assumption) | (with_reducible refine Below.alloc ?_ ?_ _) | (with_reducible refine Below.drew ?_) | (with_reducible refine Below.drewN' ?_ _) | (with_reducible refine Below.setCell ?_ ?_ _) | (refine Below.via ?_ (by with_reducible assumption) ?_) | (with_reducible refine Below.via ?_ (Wd.h _) ?_) | go_size)))) (by omega)).mono ?_)); rintro e wn ⟨rfl, hbn⟩; (obtain ⟨hcn, hfn⟩ := bcell hbn; have hzn := hbn.size; (try simp at hzn); have Ncw0_0 := hcn (w.heap.size) (0) (by first | omega | (simp; done) | (simp; omega)); have Nfw0_0 := hfn (w.heap.size) (0) (by first | omega | (simp; done) | (simp; omega)); have Nhy0 : w.heap.size < wn.heap.size := (by omega); have Ncw0_1 := hcn (w.heap.size) (1) (by first | omega | (simp; done) | (simp; omega)); have Nfw0_1 := hfn (w.heap.size) (1) (by first | omega | (simp; done) | (simp; omega)); (first | (simp [go_sem, cw0_0, fw0_0, cw0_1, fw0_1, hy0] at Ncw0_0 Nfw0_0 Ncw0_1 Nfw0_1; clear cw0_0 fw0_0 cw0_1 fw0_1) | (simp [go_sem] at Ncw0_0 Nfw0_0 Ncw0_1 Nfw0_1)); clear hcn hfn; have cw0_0 := Ncw0_0; have fw0_0 := Nfw0_0; have cw0_1 := Ncw0_1; have fw0_1 := Nfw0_1; have hy0 := Nhy0; clear Ncw0_0 Nfw0_0 Ncw0_1 Nfw0_1 Nhy0)) | (go_at_call 38; ((with_reducible refine (impl_isHour _ _).mono ?_)); rintro e wn ⟨rfl, rfl⟩)))
    have hbn1 : Below w.heap.size w wn := by (repeat' (first | (with_reducible exact Below.refl _ _) | (with_reducible assumption) | (with_reducible refine Below.alloc ?_ ?_ _) | (with_reducible refine Below.drew ?_) | (with_reducible refine Below.drewN' ?_ _) | (with_reducible refine Below.setCell ?_ ?_ _) | (refine Below.via ?_ (by with_reducible assumption) ?_) | (with_reducible refine Below.via ?_ (Wd.h _) ?_) | go_size))
    have HBN := Lib.hid hbn1
    have hzz : w.heap.size ≤ wn.heap.size := hbn1.size
    have HA0 := Lib.hid (Arr.madeI wn N.nodes.length 2)
    have HBX := Lib.hid (show Bx wn w.heap.size [.slice A N.nodes.length c, .slice B N.pipes.length d] from (bx2 (by first | exact hy0 | go_size) (by first | (with_reducible exact cw0_0) | go_cell_look | (simp [go_sem, hy0, cw0_0, fw0_0, cw0_1, fw0_1]; done) | (simp [go_sem]; done)) (by first | (with_reducible exact fw0_0) | (simp only [World.frozen?_setCell, fw0_0]; done) | (simp [go_sem, hy0, cw0_0, fw0_0, cw0_1, fw0_1]; done) | (simp [go_sem]; done)) (by first | (with_reducible exact cw0_1) | go_cell_look | (simp [go_sem, hy0, cw0_0, fw0_0, cw0_1, fw0_1]; done) | (simp [go_sem]; done)) (by first | (with_reducible exact fw0_1) | (simp only [World.frozen?_setCell, fw0_1]; done) | (simp [go_sem, hy0, cw0_0, fw0_0, cw0_1, fw0_1]; done) | (simp [go_sem]; done))))
    clear hy0 cw0_0 fw0_0 cw0_1 fw0_1
    clear hbn hbn1 hmk
    go_loopw [27] (fun v wr => ∃ (k : Nat) (acc : List Int), k ≤ lb.length ∧ v = .int .i64 k ∧ acc.length = N.nodes.length ∧ (∀ y ∈ acc, -(k * 60000 : Int) ≤ y ∧ y ≤ (k * 60000 : Int)) ∧ bsF hr acc (lb.drop k) = bsF hr (List.replicate N.nodes.length 0) lb ∧ Arr wr wn.heap.size N.nodes.length (acc.map iV) ∧ Bx wr w.heap.size [.slice A N.nodes.length c, .slice B N.pipes.length d] ∧ Below w.heap.size w wr) (fun v _ => lb.length - (intOf v).toNat)
    case atStart => exact ⟨0, List.replicate N.nodes.length 0, by omega, rfl, by simp, fun y hy => by have := (List.mem_replicate.1 hy).2; omega, by simp, HA0.out, HBX.out.below ((Below.refl _ _).alloc (Nat.le_refl _) _) (by omega), HBN.out.alloc hzz _⟩
    case round =>
      obtain ⟨k, acc, hk, rfl, hal, hbd, hF, hA, hB, hbw⟩ := hrel
      have hbH := Lib.hid hbw
      have HF := Lib.hid hF
      have HA := Lib.hid hA
      have HBD := Lib.hid hbd
      have HAL := Lib.hid hal
      have HBR := Lib.hid hB
      have hyA := hA.lt
      clear hF hA hbd hal
      by_cases hlt : k < lb.length
      · clear hB
        obtain ⟨x, hx⟩ := get_some hlt; obtain ⟨bx, offx, rfl, hbx, hat⟩ := HB.out.opened (k := k) (by rw [flat_len Ctr.len]; omega); have hat' := hat.below hbw hbx; have hybx : bx < wr.heap.size := Nat.lt_of_lt_of_le hbx hbw.size; have hzw := hbw.size; have t0 := hat'.elem0 Ctr.len hx rfl; have t1 := hat'.elem Ctr.len hx 1 rfl; have t2 := hat'.elem Ctr.len hx 2 rfl; have t3 := hat'.elem Ctr.len hx 3 rfl; have t4 := hat'.elem Ctr.len hx 4 rfl; have t5 := hat'.elem Ctr.len hx 5 rfl; have t6 := hat'.elem Ctr.len hx 6 rfl; have t7 := hat'.elem Ctr.len hx 7 rfl; have HX := Lib.hid hx; have HD := Lib.hid (drop_cons hx); have gx : (k : Int) < _ := Int.ofNat_lt.2 hlt; clear hx hat hat'
        have cc := ctr_of (HO.out.2.2 x (List.mem_of_getElem? HX.out))
        obtain ⟨_, ⟨p1, p2⟩, ⟨p3, p4⟩, _, ⟨p5, p6⟩, _, _⟩ := cc
        clear hbw
        cases hh : inB hr x.fr x.to
        · go_wp2_with ((go_at_call 39; refine (impl_holdsIn x _ _).mono ?_; rintro e wq ⟨rfl, hbq⟩))
          go_roundw
          case rel =>
            refine ⟨k + 1, acc, by omega, by go_num, HAL.out, fun y hy => by have := HBD.out y hy; omega, ?_, (HA.out.alloc _).below hbq (by simp; omega), (HBR.out.below ((Below.refl _ _).alloc (Nat.le_refl _) _) (by omega)).below hbq (by simp; omega), by have h1 := hbH.out; (repeat' (first | (with_reducible exact Below.refl _ _) | (with_reducible assumption) | (with_reducible refine Below.alloc ?_ ?_ _) | (with_reducible refine Below.drew ?_) | (with_reducible refine Below.drewN' ?_ _) | (with_reducible refine Below.setCell ?_ ?_ _) | (refine Below.via ?_ (by with_reducible assumption) ?_) | (with_reducible refine Below.via ?_ (Wd.h _) ?_) | go_size))⟩
            rw [← HF.out, HD.out, bsF, hh]; simp
          case measure => simp [intOf]; omega
        · obtain ⟨xsh, xen, xex, xam, xcl, xfr, xto, xpr⟩ := x
          dsimp only at t0 t1 t2 t3 t4 t5 t6 t7 hh p1 p2 p3 p4 p5 p6
          obtain ⟨q, rfl⟩ : ∃ q : Nat, xen = q := ⟨xen.toNat, by omega⟩
          obtain ⟨r, rfl⟩ : ∃ r : Nat, xex = r := ⟨xex.toNat, by omega⟩
          obtain ⟨y, hy⟩ := get_some (l := acc) (k := q) (by rw [HAL.out]; omega)
          obtain ⟨y1, y2⟩ := HBD.out y (List.mem_of_getElem? hy)
          have HBD1 := Lib.hid (addAt_bd (l := acc) (k := q) (x := xam) (a := -30000) (b := 30000) HBD.out (by omega) (by omega) (by omega) (by omega))
          have HBD2 := Lib.hid (addAt_bd (l := addAt acc q xam) (k := r) (x := -xam) (a := -30000) (b := 30000) HBD1.out (by omega) (by omega) (by omega) (by omega))
          obtain ⟨z, hz⟩ := get_some (l := addAt acc q xam) (k := r) (by rw [addAt_len, HAL.out]; omega)
          obtain ⟨z1, z2⟩ := HBD1.out z (List.mem_of_getElem? hz)
          have HY := Lib.hid hy
          have HZ := Lib.hid hz
          have g4 : (q : Int) < N.nodes.length := by omega
          have g5 : (r : Int) < N.nodes.length := by omega
          clear hy hz
          go_wp2_with fail
          refine (impl_holdsIn ⟨xsh, q, r, xam, xcl, xfr, xto, xpr⟩ _ _).mono ?_
          rintro e wq ⟨rfl, hbq⟩
          have hzq := hbq.size
          (try simp at hzq)
          have r1 : wq.cell? ⟨wr.heap.size, 1, none⟩ = some (.int .i64 q) := (hbq.cell (p := ⟨wr.heap.size, 1, none⟩) (by simp)).trans (by simp)
          have r2 : wq.cell? ⟨wr.heap.size, 2, none⟩ = some (.int .i64 r) := (hbq.cell (p := ⟨wr.heap.size, 2, none⟩) (by simp)).trans (by simp)
          have r3 : wq.cell? ⟨wr.heap.size, 3, none⟩ = some (.int .i64 xam) := (hbq.cell (p := ⟨wr.heap.size, 3, none⟩) (by simp)).trans (by simp)
          clear t0 t1 t2 t3 t4 t5 t6 t7
          have HAq := Lib.hid ((HA.out.alloc (.cells #[.int .i64 xsh, .int .i64 q, .int .i64 r, .int .i64 xam, .int .i64 xcl, .int .i64 xfr, .int .i64 xto, .int .i64 xpr] 41)).below hbq (by simp; omega))
          have HBQ := Lib.hid ((HBR.out.below ((Below.refl _ _).alloc (Nat.le_refl _) _) (by omega)).below hbq (by simp; omega))
          have s0' := ints_cell HAq.out HY.out
          go_wp2_with fail
          (have qk0 := Wd.cell (by first | assumption | omega | (simp; omega)) r1; have qk1 := Wd.cell (by first | assumption | omega | (simp; omega)) r2; have qk2 := Wd.cell (by first | assumption | omega | (simp; omega)) r3; have qk3 := Wd.cell (by first | assumption | omega | (simp; omega)) s0'; (refine wp_region_wd_tail 9 (by kernel_rfl) (by kernel_rfl) ?_; simp only [List.take_succ_cons, List.take_zero, List.drop_succ_cons, List.drop_zero]); (repeat (go_big_quiet_step ((first | fail)))); (refine wpQuiet_nil ?_); rintro wz ⟨⟨w'', hbwz⟩, hw''⟩; obtain rfl : wz = w'' := hw''; clear qk0 qk1 qk2 qk3; have hzwz := hbwz.size; (try simp at hzwz))
          have HAz := Lib.hid (HAq.out.below hbwz (by omega))
          have s0 := ints_cell HAz.out HY.out
          have s1 := HAz.out.free (j := q) (by omega)
          have v2 := bc hbwz (by omega) r2
          have v3 := bc hbwz (by omega) r3
          have HBZ := Lib.hid (HBQ.out.below hbwz (by omega))
          clear s0' r1 r2 r3
          go_wp2_with fail
          generalize hW : World.setCell wz _ _ = wy
          have HAy := Lib.hid (show Arr wy wn.heap.size N.nodes.length ((addAt acc q xam).map iV) from hW ▸ HAz.out.addAt HY.out (by omega))
          have hby : Below wn.heap.size wz wy := by rw [← hW]; exact (Below.refl wn.heap.size wz).setCell (show wn.heap.size ≤ wn.heap.size from Nat.le_refl _) _
          have hzy : wz.heap.size ≤ wy.heap.size := hby.size
          have u2 : wy.cell? ⟨wr.heap.size, 2, none⟩ = some (.int .i64 r) := by rw [← hW, World.cell?_setCell_other _ _ _ _ (by intro e; injection e; omega)]; exact v2
          have u3 : wy.cell? ⟨wr.heap.size, 3, none⟩ = some (.int .i64 xam) := by rw [← hW, World.cell?_setCell_other _ _ _ _ (by intro e; injection e; omega)]; exact v3
          have HBY := Lib.hid (HBZ.out.below hby (by omega))
          have s2' := ints_cell HAy.out HZ.out
          clear hW s0 s1 v2 v3
          (have qk0 := Wd.cell (by first | assumption | omega | (simp; omega)) u2; have qk1 := Wd.cell (by first | assumption | omega | (simp; omega)) u3; have qk2 := Wd.cell (by first | assumption | omega | (simp; omega)) s2'; (refine wp_region_wd_tail 9 (by kernel_rfl) (by kernel_rfl) ?_; simp only [List.take_succ_cons, List.take_zero, List.drop_succ_cons, List.drop_zero]); (repeat (go_big_quiet_step ((first | fail)))); (refine wpQuiet_nil ?_); rintro wx ⟨⟨w'', hbwx⟩, hw''⟩; obtain rfl : wx = w'' := hw''; clear qk0 qk1 qk2; have hzwx := hbwx.size; (try simp at hzwx))
          have HAx := Lib.hid (HAy.out.below hbwx (by omega))
          have s2 := ints_cell HAx.out HZ.out
          have s3 := HAx.out.free (j := r) (by omega)
          have HBXx := Lib.hid (HBY.out.below hbwx (by omega))
          clear s2' u2 u3
          go_wp2
          go_roundw
          case rel =>
            refine ⟨k + 1, addAt (addAt acc q xam) r (-xam), by omega, by go_num, by rw [addAt_len, addAt_len]; exact HAL.out, fun z hz => by have := HBD2.out z hz; omega, ?_, ?_, HBXx.out.below (B := w.heap.size + 1) ((Below.refl _ _).setCell (by simp; omega) _) (by omega), ?_⟩
            · rw [← HF.out, HD.out, bsF]; simp [hh]
            · have := HAx.out.addAt (x := -xam) HZ.out (by omega)
              rw [← Int.sub_eq_add_neg] at this
              exact this
            · have h1 := hbH.out
              have h2 : Below w.heap.size w wy := Below.via (show Below w.heap.size w wz by (repeat' (first | (with_reducible exact Below.refl _ _) | (with_reducible assumption) | (with_reducible refine Below.alloc ?_ ?_ _) | (with_reducible refine Below.drew ?_) | (with_reducible refine Below.drewN' ?_ _) | (with_reducible refine Below.setCell ?_ ?_ _) | (refine Below.via ?_ (by with_reducible assumption) ?_) | (with_reducible refine Below.via ?_ (Wd.h _) ?_) | go_size))) hby (by omega)
              exact (Below.via h2 hbwx (by omega)).setCell (by simp; omega) _
          case measure => simp [intOf]; omega
      · clear hbw
        have HE := Lib.hid (show acc = bsL N.nodes.length lb hr by rw [← HEQ.out, ← HF.out, drop_endI hlt, bsF])
        have hy0 := hB.lt; have cw0_0 := hB.cell 0 rfl; have fw0_0 := hB.frozen 0 rfl; have cw0_1 := hB.cell 1 rfl; have fw0_1 := hB.frozen 1 rfl
        clear hB
        cases hs : supB N.nodes.length acc
        · have HR := Lib.hid (show bsR N lb hr = ([], 5) by rw [bsR, if_neg (by simp [H0.out]), if_neg (by simp [hs2]), ← HE.out, if_pos hs])
          go_wp2_with fail
          refine (impl_areSupplies' _ _ _ _ _ _ _ _ _ acc _ hln (HA.out.rd) HAL.out hln).mono ?_
          rintro e wq ⟨rfl, hbq⟩
          go_wp2
          go_ret2
          exact MadeR.nil HR.out rfl (by have h1 := hbH.out; (repeat' (first | (with_reducible exact Below.refl _ _) | (with_reducible assumption) | (with_reducible refine Below.alloc ?_ ?_ _) | (with_reducible refine Below.drew ?_) | (with_reducible refine Below.drewN' ?_ _) | (with_reducible refine Below.setCell ?_ ?_ _) | (refine Below.via ?_ (by with_reducible assumption) ?_) | (with_reducible refine Below.via ?_ (Wd.h _) ?_) | go_size)))
        · have HR := Lib.hid (show bsR N lb hr = (acc, 0) by rw [bsR, if_neg (by simp [H0.out]), if_neg (by simp [hs2]), ← HE.out, if_neg (by simp [hs])])
          go_wp2_with fail
          refine (impl_areSupplies' _ _ _ _ _ _ _ _ _ acc _ hln (HA.out.rd) HAL.out hln).mono ?_
          rintro e wq ⟨rfl, hbq⟩
          go_wp2
          go_ret2
          exact MadeR.arr HR.out HAL.out (Nat.le_refl _) (HA.out.below hbq (by omega)) hzz (by have h1 := hbH.out; (repeat' (first | (with_reducible exact Below.refl _ _) | (with_reducible assumption) | (with_reducible refine Below.alloc ?_ ?_ _) | (with_reducible refine Below.drew ?_) | (with_reducible refine Below.drewN' ?_ _) | (with_reducible refine Below.setCell ?_ ?_ _) | (refine Below.via ?_ (by with_reducible assumption) ?_) | (with_reducible refine Below.via ?_ (Wd.h _) ?_) | go_size)))
  · have b0 : (bookC N lb != 0) = true := by simp [h0]
    have HR := Lib.hid (show bsR N lb hr = ([], bookC N lb) by simp [bsR, h0])
    (go_enter Try.func22, Try.ntmps22; go_wp2_with (first | (go_at_call 36; ((with_reducible refine (impl_checkBook _ _ _ _ _ _ _ _ N lb _ (by exact HN.out.below (by (repeat' (first | (with_reducible exact Below.refl _ _) | (with_reducible assumption) | (with_reducible refine Below.alloc ?_ ?_ _) | (with_reducible refine Below.drew ?_) | (with_reducible refine Below.drewN' ?_ _) | (with_reducible refine Below.setCell ?_ ?_ _) | (refine Below.via ?_ (by with_reducible assumption) ?_) | (with_reducible refine Below.via ?_ (Wd.h _) ?_) | go_size)))) rfl rfl (by omega) (by exact HB.out.below (by (repeat' (first | (with_reducible exact Below.refl _ _) | (with_reducible assumption) | (with_reducible refine Below.alloc ?_ ?_ _) | (with_reducible refine Below.drew ?_) | (with_reducible refine Below.drewN' ?_ _) | (with_reducible refine Below.setCell ?_ ?_ _) | (refine Below.via ?_ (by with_reducible assumption) ?_) | (with_reducible refine Below.via ?_ (Wd.h _) ?_) | go_size)))) (by omega)).mono ?_)); rintro e wn ⟨rfl, hbn⟩; (obtain ⟨hcn, hfn⟩ := bcell hbn; have hzn := hbn.size; (try simp at hzn); have Ncw0_0 := hcn (w.heap.size) (0) (by first | omega | (simp; done) | (simp; omega)); have Nfw0_0 := hfn (w.heap.size) (0) (by first | omega | (simp; done) | (simp; omega)); have Nhy0 : w.heap.size < wn.heap.size := (by omega); have Ncw0_1 := hcn (w.heap.size) (1) (by first | omega | (simp; done) | (simp; omega)); have Nfw0_1 := hfn (w.heap.size) (1) (by first | omega | (simp; done) | (simp; omega)); (first | (simp [go_sem, cw0_0, fw0_0, cw0_1, fw0_1, hy0] at Ncw0_0 Nfw0_0 Ncw0_1 Nfw0_1; clear cw0_0 fw0_0 cw0_1 fw0_1) | (simp [go_sem] at Ncw0_0 Nfw0_0 Ncw0_1 Nfw0_1)); clear hcn hfn; have cw0_0 := Ncw0_0; have fw0_0 := Nfw0_0; have cw0_1 := Ncw0_1; have fw0_1 := Nfw0_1; have hy0 := Nhy0; clear Ncw0_0 Nfw0_0 Ncw0_1 Nfw0_1 Nhy0)) | (go_at_call 38; ((with_reducible refine (impl_isHour _ _).mono ?_)); rintro e wn ⟨rfl, rfl⟩)))
    go_ret2
    exact MadeR.nil HR.out rfl (by (repeat' (first | (with_reducible exact Below.refl _ _) | (with_reducible assumption) | (with_reducible refine Below.alloc ?_ ?_ _) | (with_reducible refine Below.drew ?_) | (with_reducible refine Below.drewN' ?_ _) | (with_reducible refine Below.setCell ?_ ?_ _) | (refine Below.via ?_ (by with_reducible assumption) ?_) | (with_reducible refine Below.via ?_ (Wd.h _) ?_) | go_size)))
set_option maxRecDepth 100000 in
set_option maxHeartbeats 4000000 in
theorem spec_BookedSupplies (A B C : Option Addr) (n c m d e : Nat) (N : Net) (lb : List Ctr) (hr : Int) (w : World) (hN : NetAt w A B N) (hn : n = N.nodes.length) (hm : m = N.pipes.length) (h : Rd w C (lb.flatMap Ctr.cells)) (hl : lb.length ≤ 1048576) :
    Calls Try.prog 23 #[netV A B n c m d, .slice C lb.length e, .int .i64 hr] w (MadeR w 1 (bsR N lb hr).1.length ((bsR N lb hr).1.map iV) (bsR N lb hr).2) := by
  subst hn hm
  have HN := Lib.hid hN
  have HB := Lib.hid h
  have hln := hN.ln
  clear hN h
  by_cases h0 : bookC N lb = 0
  · have b0 : (bookC N lb != 0) = false := by simp [h0]
    have b1 : (bookC N lb == 0) = true := by simp [h0]
    have HO := Lib.hid (book_of h0)
    have HKK := Lib.hid (ctrsOk_of h0)
    have h32 := (book_of h0).2.1
    have h24 := (book_of h0).1.n2
    have H0 := Lib.hid h0
    clear h0
    cases hs2 : inB hr 0 47
    · have HR := Lib.hid (show bsR N lb hr = ([], 2) by simp [bsR, H0.out, hs2])
      (go_enter Try.func23, Try.ntmps23; go_wp2_with (first | (go_at_call 37; ((with_reducible refine (spec_l20Code _ _ _ _ _ _ _ _ N lb _ (by exact HN.out.below (by (repeat' (first | (with_reducible exact Below.refl _ _) | (with_reducible assumption) | (with_reducible refine Below.alloc ?_ ?_ _) | (with_reducible refine Below.drew ?_) | (with_reducible refine Below.drewN' ?_ _) | (with_reducible refine Below.setCell ?_ ?_ _) | (refine Below.via ?_ (by with_reducible assumption) ?_) | (with_reducible refine Below.via ?_ (Wd.h _) ?_) | go_size)))) rfl rfl (by exact HB.out.below (by (repeat' (first | (with_reducible exact Below.refl _ _) | (with_reducible assumption) | (with_reducible refine Below.alloc ?_ ?_ _) | (with_reducible refine Below.drew ?_) | (with_reducible refine Below.drewN' ?_ _) | (with_reducible refine Below.setCell ?_ ?_ _) | (refine Below.via ?_ (by with_reducible assumption) ?_) | (with_reducible refine Below.via ?_ (Wd.h _) ?_) | go_size)))) (by omega)).mono ?_)); rintro e wn ⟨rfl, hbn⟩; (obtain ⟨hcn, hfn⟩ := bcell hbn; have hzn := hbn.size; (try simp at hzn); have Ncw0_0 := hcn (w.heap.size) (0) (by first | omega | (simp; done) | (simp; omega)); have Nfw0_0 := hfn (w.heap.size) (0) (by first | omega | (simp; done) | (simp; omega)); have Nhy0 : w.heap.size < wn.heap.size := (by omega); have Ncw0_1 := hcn (w.heap.size) (1) (by first | omega | (simp; done) | (simp; omega)); have Nfw0_1 := hfn (w.heap.size) (1) (by first | omega | (simp; done) | (simp; omega)); (first | (simp [go_sem, cw0_0, fw0_0, cw0_1, fw0_1, hy0] at Ncw0_0 Nfw0_0 Ncw0_1 Nfw0_1; clear cw0_0 fw0_0 cw0_1 fw0_1) | (simp [go_sem] at Ncw0_0 Nfw0_0 Ncw0_1 Nfw0_1)); clear hcn hfn; have cw0_0 := Ncw0_0; have fw0_0 := Nfw0_0; have cw0_1 := Ncw0_1; have fw0_1 := Nfw0_1; have hy0 := Nhy0; clear Ncw0_0 Nfw0_0 Ncw0_1 Nfw0_1 Nhy0)) | (go_at_call 41; ((with_reducible refine (spec_l20Hour _ _).mono ?_)); rintro e wn ⟨rfl, rfl⟩)))
      go_ret2
      exact MadeR.nil HR.out rfl (by (repeat' (first | (with_reducible exact Below.refl _ _) | (with_reducible assumption) | (with_reducible refine Below.alloc ?_ ?_ _) | (with_reducible refine Below.drew ?_) | (with_reducible refine Below.drewN' ?_ _) | (with_reducible refine Below.setCell ?_ ?_ _) | (refine Below.via ?_ (by with_reducible assumption) ?_) | (with_reducible refine Below.via ?_ (Wd.h _) ?_) | go_size)))
    have HAM := Lib.hid (show ∀ x ∈ lb, 1 ≤ x.am ∧ x.am ≤ 30000 from fun x hx => by have := ctr_of (HO.out.2.2 x hx); omega)
    (go_enter Try.func23, Try.ntmps23; go_wp2_with (first | (go_at_call 37; ((with_reducible refine (spec_l20Code _ _ _ _ _ _ _ _ N lb _ (by exact HN.out.below (by (repeat' (first | (with_reducible exact Below.refl _ _) | (with_reducible assumption) | (with_reducible refine Below.alloc ?_ ?_ _) | (with_reducible refine Below.drew ?_) | (with_reducible refine Below.drewN' ?_ _) | (with_reducible refine Below.setCell ?_ ?_ _) | (refine Below.via ?_ (by with_reducible assumption) ?_) | (with_reducible refine Below.via ?_ (Wd.h _) ?_) | go_size)))) rfl rfl (by exact HB.out.below (by (repeat' (first | (with_reducible exact Below.refl _ _) | (with_reducible assumption) | (with_reducible refine Below.alloc ?_ ?_ _) | (with_reducible refine Below.drew ?_) | (with_reducible refine Below.drewN' ?_ _) | (with_reducible refine Below.setCell ?_ ?_ _) | (refine Below.via ?_ (by with_reducible assumption) ?_) | (with_reducible refine Below.via ?_ (Wd.h _) ?_) | go_size)))) (by omega)).mono ?_)); rintro e wn ⟨rfl, hbn⟩; (obtain ⟨hcn, hfn⟩ := bcell hbn; have hzn := hbn.size; (try simp at hzn); have Ncw0_0 := hcn (w.heap.size) (0) (by first | omega | (simp; done) | (simp; omega)); have Nfw0_0 := hfn (w.heap.size) (0) (by first | omega | (simp; done) | (simp; omega)); have Nhy0 : w.heap.size < wn.heap.size := (by omega); have Ncw0_1 := hcn (w.heap.size) (1) (by first | omega | (simp; done) | (simp; omega)); have Nfw0_1 := hfn (w.heap.size) (1) (by first | omega | (simp; done) | (simp; omega)); (first | (simp [go_sem, cw0_0, fw0_0, cw0_1, fw0_1, hy0] at Ncw0_0 Nfw0_0 Ncw0_1 Nfw0_1; clear cw0_0 fw0_0 cw0_1 fw0_1) | (simp [go_sem] at Ncw0_0 Nfw0_0 Ncw0_1 Nfw0_1)); clear hcn hfn; have cw0_0 := Ncw0_0; have fw0_0 := Nfw0_0; have cw0_1 := Ncw0_1; have fw0_1 := Nfw0_1; have hy0 := Nhy0; clear Ncw0_0 Nfw0_0 Ncw0_1 Nfw0_1 Nhy0)) | (go_at_call 41; ((with_reducible refine (spec_l20Hour _ _).mono ?_)); rintro e wn ⟨rfl, rfl⟩)))
    have hbn1 : Below w.heap.size w wn := by (repeat' (first | (with_reducible exact Below.refl _ _) | (with_reducible assumption) | (with_reducible refine Below.alloc ?_ ?_ _) | (with_reducible refine Below.drew ?_) | (with_reducible refine Below.drewN' ?_ _) | (with_reducible refine Below.setCell ?_ ?_ _) | (refine Below.via ?_ (by with_reducible assumption) ?_) | (with_reducible refine Below.via ?_ (Wd.h _) ?_) | go_size))
    have HBN := Lib.hid hbn1
    have hzz : w.heap.size + 1 ≤ wn.heap.size := by omega
    have HBX := Lib.hid (show Bx wn w.heap.size [.slice A N.nodes.length c, .slice B N.pipes.length d] from (bx2 (by first | exact hy0 | go_size) (by first | (with_reducible exact cw0_0) | go_cell_look | (simp [go_sem, hy0, cw0_0, fw0_0, cw0_1, fw0_1]; done) | (simp [go_sem]; done)) (by first | (with_reducible exact fw0_0) | (simp only [World.frozen?_setCell, fw0_0]; done) | (simp [go_sem, hy0, cw0_0, fw0_0, cw0_1, fw0_1]; done) | (simp [go_sem]; done)) (by first | (with_reducible exact cw0_1) | go_cell_look | (simp [go_sem, hy0, cw0_0, fw0_0, cw0_1, fw0_1]; done) | (simp [go_sem]; done)) (by first | (with_reducible exact fw0_1) | (simp only [World.frozen?_setCell, fw0_1]; done) | (simp [go_sem, hy0, cw0_0, fw0_0, cw0_1, fw0_1]; done) | (simp [go_sem]; done))))
    clear hy0 cw0_0 fw0_0 cw0_1 fw0_1
    clear hbn hbn1
    go_loopw [9, 10] (fun u v wr => ∃ (k : Nat), k ≤ N.nodes.length ∧ v = .int .i64 k ∧ Own wr (w.heap.size + 1) 2 1 u k ((bsL k lb hr).map iV) ∧ Bx wr w.heap.size [.slice A N.nodes.length c, .slice B N.pipes.length d] ∧ Below w.heap.size w wr) (fun _ v _ => N.nodes.length - (intOf v).toNat)
    case atStart => exact ⟨0, by omega, rfl, by simpa [bsL] using Own.lit0 wn (w.heap.size + 1) 2 1 hzz, HBX.out.below ((Below.refl _ _).alloc (Nat.le_refl _) _) (by omega), HBN.out.alloc (by omega) _⟩
    case round =>
      obtain ⟨k, hk, rfl, hO, hB, hbw⟩ := hrel
      have hbH := Lib.hid hbw
      have HOW := Lib.hid hO
      have HBR := Lib.hid hB
      have hzr := hbw.size
      have hy0 := hB.lt; have cw0_0 := hB.cell 0 rfl; have fw0_0 := hB.frozen 0 rfl; have cw0_1 := hB.cell 1 rfl; have fw0_1 := hB.frozen 1 rfl
      clear hO hB
      by_cases hlt : k < N.nodes.length
      · clear hbw
        have i1 := bkI_bd k hr lb HAM.out
        have i2 := bkO_bd k hr lb HAM.out
        obtain ⟨i3, i4⟩ := i1
        obtain ⟨i5, i6⟩ := i2
        go_wp2_with fail
        refine (spec_l20Booked _ _ lb k hr _ (HB.out.below hbH.out) (by omega) HKK.out).mono ?_
        rintro e wq ⟨rfl, hbq⟩
        have hzq := hbq.size
        have HOQ := Lib.hid (HOW.out.below hbq (Nat.le_refl _))
        have HBQ := Lib.hid (HBR.out.below hbq (by omega))
        have hyq : w.heap.size < wq.heap.size := by omega
        clear hy0 cw0_0 fw0_0 cw0_1 fw0_1
        go_wp2_with ((at_builtin; refine wp_app1 _ rfl (.tmp 41) (.tmp 45) 42 rfl (w.heap.size + 1) info_i64 Try.underlying42 rfl (by omega) (by omega) _ (k) _ rfl (HOQ.out.alloc _) wq.heap.size 1 1 [iV (bkI k hr lb - bkO k hr lb)] rfl rfl (by intro j u hu; match j, hu with | 0, hu => (simp at hu; subst hu; simp) | j + 1, hu => simp at hu) (by simp [Value.oneCell']) (by omega) (by simp; omega) ?_; intro v' wn hO' hbn))
        go_roundw
        case rel =>
          refine ⟨k + 1, by omega, by go_num, by rw [bsL_succ, List.map_append]; exact hO', (HBQ.out.below ((Below.refl _ _).alloc (Nat.le_refl _) _) (by omega)).below hbn (by omega), ?_⟩
          have h1 := hbH.out
          exact Below.via ((Below.via h1 hbq (by omega)).alloc (by omega) _) hbn (by omega)
        case measure => simp [intOf]; omega
      · obtain rfl : k = N.nodes.length := by omega
        clear hbw
        have hne : ¬ N.nodes.length < N.nodes.length := by omega
        obtain ⟨A1, c1, rfl, hc1, hW1⟩ := HOW.out.lt_
        have HW1 := Lib.hid hW1
        clear hW1
        cases hs : supB N.nodes.length (bsL N.nodes.length lb hr)
        · have HR := Lib.hid (show bsR N lb hr = ([], 5) by rw [bsR, if_neg (by simp [H0.out]), if_neg (by simp [hs2]), if_pos hs])
          go_wp2_with fail
          refine (spec_l06List' _ _ _ _ _ _ _ _ _ (bsL N.nodes.length lb hr) _ hln HW1.out.rd (bsL_len _ _ _) hln).mono ?_
          rintro e w2 ⟨rfl, hb2⟩
          go_wp2
          go_ret2
          exact MadeR.nil HR.out rfl (by have h1 := hbH.out; (repeat' (first | (with_reducible exact Below.refl _ _) | (with_reducible assumption) | (with_reducible refine Below.alloc ?_ ?_ _) | (with_reducible refine Below.drew ?_) | (with_reducible refine Below.drewN' ?_ _) | (with_reducible refine Below.setCell ?_ ?_ _) | (refine Below.via ?_ (by with_reducible assumption) ?_) | (with_reducible refine Below.via ?_ (Wd.h _) ?_) | go_size)))
        · have HR := Lib.hid (show bsR N lb hr = (bsL N.nodes.length lb hr, 0) by rw [bsR, if_neg (by simp [H0.out]), if_neg (by simp [hs2]), if_neg (by simp [hs])])
          go_wp2_with fail
          refine (spec_l06List' _ _ _ _ _ _ _ _ _ (bsL N.nodes.length lb hr) _ hln HW1.out.rd (bsL_len _ _ _) hln).mono ?_
          rintro e w2 ⟨rfl, hb2⟩
          go_wp2
          go_ret2
          exact MadeR.ofWr HR.out (bsL_len _ _ _) hc1 ((HW1.out.lower (by omega)).below hb2) (by have h1 := hbH.out; (repeat' (first | (with_reducible exact Below.refl _ _) | (with_reducible assumption) | (with_reducible refine Below.alloc ?_ ?_ _) | (with_reducible refine Below.drew ?_) | (with_reducible refine Below.drewN' ?_ _) | (with_reducible refine Below.setCell ?_ ?_ _) | (refine Below.via ?_ (by with_reducible assumption) ?_) | (with_reducible refine Below.via ?_ (Wd.h _) ?_) | go_size)))
  · have b0 : (bookC N lb != 0) = true := by simp [h0]
    have b1 : (bookC N lb == 0) = false := by simp [h0]
    have HR := Lib.hid (show bsR N lb hr = ([], bookC N lb) by simp [bsR, h0])
    (go_enter Try.func23, Try.ntmps23; go_wp2_with (first | (go_at_call 37; ((with_reducible refine (spec_l20Code _ _ _ _ _ _ _ _ N lb _ (by exact HN.out.below (by (repeat' (first | (with_reducible exact Below.refl _ _) | (with_reducible assumption) | (with_reducible refine Below.alloc ?_ ?_ _) | (with_reducible refine Below.drew ?_) | (with_reducible refine Below.drewN' ?_ _) | (with_reducible refine Below.setCell ?_ ?_ _) | (refine Below.via ?_ (by with_reducible assumption) ?_) | (with_reducible refine Below.via ?_ (Wd.h _) ?_) | go_size)))) rfl rfl (by exact HB.out.below (by (repeat' (first | (with_reducible exact Below.refl _ _) | (with_reducible assumption) | (with_reducible refine Below.alloc ?_ ?_ _) | (with_reducible refine Below.drew ?_) | (with_reducible refine Below.drewN' ?_ _) | (with_reducible refine Below.setCell ?_ ?_ _) | (refine Below.via ?_ (by with_reducible assumption) ?_) | (with_reducible refine Below.via ?_ (Wd.h _) ?_) | go_size)))) (by omega)).mono ?_)); rintro e wn ⟨rfl, hbn⟩; (obtain ⟨hcn, hfn⟩ := bcell hbn; have hzn := hbn.size; (try simp at hzn); have Ncw0_0 := hcn (w.heap.size) (0) (by first | omega | (simp; done) | (simp; omega)); have Nfw0_0 := hfn (w.heap.size) (0) (by first | omega | (simp; done) | (simp; omega)); have Nhy0 : w.heap.size < wn.heap.size := (by omega); have Ncw0_1 := hcn (w.heap.size) (1) (by first | omega | (simp; done) | (simp; omega)); have Nfw0_1 := hfn (w.heap.size) (1) (by first | omega | (simp; done) | (simp; omega)); (first | (simp [go_sem, cw0_0, fw0_0, cw0_1, fw0_1, hy0] at Ncw0_0 Nfw0_0 Ncw0_1 Nfw0_1; clear cw0_0 fw0_0 cw0_1 fw0_1) | (simp [go_sem] at Ncw0_0 Nfw0_0 Ncw0_1 Nfw0_1)); clear hcn hfn; have cw0_0 := Ncw0_0; have fw0_0 := Nfw0_0; have cw0_1 := Ncw0_1; have fw0_1 := Nfw0_1; have hy0 := Nhy0; clear Ncw0_0 Nfw0_0 Ncw0_1 Nfw0_1 Nhy0)) | (go_at_call 41; ((with_reducible refine (spec_l20Hour _ _).mono ?_)); rintro e wn ⟨rfl, rfl⟩)))
    go_ret2
    exact MadeR.nil HR.out rfl (by (repeat' (first | (with_reducible exact Below.refl _ _) | (with_reducible assumption) | (with_reducible refine Below.alloc ?_ ?_ _) | (with_reducible refine Below.drew ?_) | (with_reducible refine Below.drewN' ?_ _) | (with_reducible refine Below.setCell ?_ ?_ _) | (refine Below.via ?_ (by with_reducible assumption) ?_) | (with_reducible refine Below.via ?_ (Wd.h _) ?_) | go_size)))
end Go.Proofs.Ytmkecbnnanddkaa

/- OrderSupplies. -/
import Derived.Test.YtiedojolhfglnaaSp
import Derived.Test.YtiedojolhfglnaaOr
namespace Go.Proofs.Ytiedojolhfglnaa
set_option linter.unusedVariables false
set_option linter.unusedSimpArgs false
open Go.RowKit
def osF : List Int → List Ord → List Int
  | acc, [] => acc
  | acc, x :: l => osF (addAt acc x.nd.toNat x.am) l
theorem osF_len : ∀ (l : List Ord) (acc : List Int), (osF acc l).length = acc.length
  | [], acc => rfl
  | x :: l, acc => by rw [osF, osF_len l, addAt_len]
noncomputable def osR (N : Net) (lo : List Ord) : List Int × Int :=
  if ordC N lo ≠ 0 then ([], ordC N lo) else if supB N.nodes.length (osF (List.replicate N.nodes.length 0) lo) = false then ([], 7) else (osF (List.replicate N.nodes.length 0) lo, 0)
theorem osR_len {N : Net} {lo : List Ord} : (osR N lo).1.length ≤ 1048576 := by
  unfold osR; split
  · simp
  · rename_i h
    have := (ord_of (by simpa using h)).1.n2
    split
    · simp
    · simp [osF_len]; omega
theorem MadeL.arr {w w' : World} {g n c : Nat} {l : List Int} (hl : l.length = n) (hnc : n ≤ c) (h : Arr w' g n (l.map iV)) (hg : w.heap.size ≤ g) (hb : Below w.heap.size w w') : MadeL w 1 n (l.map iV) (.returned (.slice (some ⟨g, 0, none⟩) n c)) w' := by
  subst hl
  exact ⟨_, c, rfl, hnc, by simpa using Wr.of_arr hg h, hb⟩
theorem MadeR.ofWr {w w' : World} {A : Option Addr} {n c : Nat} {l : List Int} {p : List Int × Int} (hp : p = (l, 0)) (hl : l.length = n) (hnc : n ≤ c) (h : Wr w.heap.size w' A (n * 1) (l.map iV)) (hb : Below w.heap.size w w') : MadeR w 1 p.1.length (p.1.map iV) p.2 (.returned (.tuple #[.slice A n c, .int .i64 0])) w' := by
  subst hp; subst hl
  exact ⟨_, c, rfl, hnc, h, hb⟩
set_option maxRecDepth 100000 in
set_option maxHeartbeats 4000000 in
theorem impl_OrderSupplies (A B C : Option Addr) (n c m d e : Nat) (N : Net) (lo : List Ord) (w : World) (hN : NetAt w A B N) (hn : n = N.nodes.length) (hm : m = N.pipes.length) (hc : n ≤ c) (h : Rd w C (lo.flatMap Ord.cells)) (hl : lo.length ≤ 1048576) :
    Calls Try.prog 23 #[netV A B n c m d, .slice C lo.length e] w (MadeR w 1 (osR N lo).1.length ((osR N lo).1.map iV) (osR N lo).2) := by
  subst hn hm
  have HN := Lib.hid hN
  have HL := Lib.hid h
  have hln := hN.ln
  clear hN h
  by_cases h0 : ordC N lo = 0
  · have b0 : (ordC N lo != 0) = false := by simp [h0]
    have HO := Lib.hid (ord_of h0)
    have h40 := (ord_of h0).2.1
    have H0 := Lib.hid h0
    clear h0
    have hmk := make_i64 N.nodes.length (by omega)
    (go_enter Try.func23, Try.ntmps23; go_wp2_with (first | (go_at_call 83; ((with_reducible refine (impl_checkOrders _ _ _ _ _ _ _ _ N lo _ (by exact HN.out.below (by (repeat' (first | (with_reducible exact Below.refl _ _) | (with_reducible assumption) | (with_reducible refine Below.alloc ?_ ?_ _) | (with_reducible refine Below.drew ?_) | (with_reducible refine Below.drewN' ?_ _) | (with_reducible refine Below.setCell ?_ ?_ _) | (refine Below.via ?_ (by with_reducible assumption) ?_) | (with_reducible refine Below.via ?_ (Wd.h _) ?_) | go_size)))) rfl rfl (by omega) (by exact HL.out.below (by (repeat' (first | (with_reducible exact Below.refl _ _) | (with_reducible assumption) | (with_reducible refine Below.alloc ?_ ?_ _) | (with_reducible refine Below.drew ?_) | (with_reducible refine Below.drewN' ?_ _) | (with_reducible refine Below.setCell ?_ ?_ _) | (refine Below.via ?_ (by with_reducible assumption) ?_) | (with_reducible refine Below.via ?_ (Wd.h _) ?_) | go_size)))) (by omega)).mono ?_)); rintro e wn ⟨rfl, hbn⟩; (obtain ⟨hcn, hfn⟩ := bcell hbn; have hzn := hbn.size; (try simp at hzn); have Ncw0_0 := hcn (w.heap.size) (0) (by first | omega | (simp; done) | (simp; omega)); have Nfw0_0 := hfn (w.heap.size) (0) (by first | omega | (simp; done) | (simp; omega)); have Nhy0 : w.heap.size < wn.heap.size := (by omega); have Ncw0_1 := hcn (w.heap.size) (1) (by first | omega | (simp; done) | (simp; omega)); have Nfw0_1 := hfn (w.heap.size) (1) (by first | omega | (simp; done) | (simp; omega)); (first | (simp [go_sem, cw0_0, fw0_0, cw0_1, fw0_1, hy0] at Ncw0_0 Nfw0_0 Ncw0_1 Nfw0_1; clear cw0_0 fw0_0 cw0_1 fw0_1) | (simp [go_sem] at Ncw0_0 Nfw0_0 Ncw0_1 Nfw0_1)); clear hcn hfn; have cw0_0 := Ncw0_0; have fw0_0 := Nfw0_0; have cw0_1 := Ncw0_1; have fw0_1 := Nfw0_1; have hy0 := Nhy0; clear Ncw0_0 Nfw0_0 Ncw0_1 Nfw0_1 Nhy0))))
    have hbn1 : Below w.heap.size w wn := by (repeat' (first | (with_reducible exact Below.refl _ _) | (with_reducible assumption) | (with_reducible refine Below.alloc ?_ ?_ _) | (with_reducible refine Below.drew ?_) | (with_reducible refine Below.drewN' ?_ _) | (with_reducible refine Below.setCell ?_ ?_ _) | (refine Below.via ?_ (by with_reducible assumption) ?_) | (with_reducible refine Below.via ?_ (Wd.h _) ?_) | go_size))
    have HBN := Lib.hid hbn1
    have hzz : w.heap.size ≤ wn.heap.size := hbn1.size
    have HA0 := Lib.hid (Arr.madeI wn N.nodes.length 2)
    have HBX := Lib.hid (show Bx wn w.heap.size [.slice A N.nodes.length c, .slice B N.pipes.length d] from (bx2 (by first | exact hy0 | go_size) (by first | (with_reducible exact cw0_0) | go_cell_look | (simp [go_sem, hy0, cw0_0, fw0_0, cw0_1, fw0_1]; done) | (simp [go_sem]; done)) (by first | (with_reducible exact fw0_0) | (simp only [World.frozen?_setCell, fw0_0]; done) | (simp [go_sem, hy0, cw0_0, fw0_0, cw0_1, fw0_1]; done) | (simp [go_sem]; done)) (by first | (with_reducible exact cw0_1) | go_cell_look | (simp [go_sem, hy0, cw0_0, fw0_0, cw0_1, fw0_1]; done) | (simp [go_sem]; done)) (by first | (with_reducible exact fw0_1) | (simp only [World.frozen?_setCell, fw0_1]; done) | (simp [go_sem, hy0, cw0_0, fw0_0, cw0_1, fw0_1]; done) | (simp [go_sem]; done))))
    clear hy0 cw0_0 fw0_0 cw0_1 fw0_1
    clear hbn hbn1 hmk
    go_loopw [22] (fun v wr => ∃ (k : Nat) (acc : List Int), k ≤ lo.length ∧ v = .int .i64 k ∧ acc.length = N.nodes.length ∧ (∀ y ∈ acc, -(k * 30000 : Int) ≤ y ∧ y ≤ (k * 30000 : Int)) ∧ osF acc (lo.drop k) = osF (List.replicate N.nodes.length 0) lo ∧ Arr wr wn.heap.size N.nodes.length (acc.map iV) ∧ Bx wr w.heap.size [.slice A N.nodes.length c, .slice B N.pipes.length d] ∧ Below w.heap.size w wr) (fun v _ => lo.length - (intOf v).toNat)
    case atStart => exact ⟨0, List.replicate N.nodes.length 0, by omega, rfl, by simp, fun y hy => by have := (List.mem_replicate.1 hy).2; omega, by simp, HA0.out, HBX.out.below ((Below.refl _ _).alloc (Nat.le_refl _) _) (by omega), HBN.out.alloc hzz _⟩
    case round =>
      obtain ⟨k, acc, hk, rfl, hal, hbd, hF, hA, hB, hbw⟩ := hrel
      have hbH := Lib.hid hbw
      have HF := Lib.hid hF
      have HA := Lib.hid hA
      have HBD := Lib.hid hbd
      have HAL := Lib.hid hal
      have HBR := Lib.hid hB
      have hyA := hA.lt
      clear hF hA hbd hal
      by_cases hlt : k < lo.length
      · clear hB
        obtain ⟨x, hx⟩ := get_some hlt; obtain ⟨bx, offx, rfl, hbx, hat⟩ := HL.out.opened (k := k) (by rw [flat_len Ord.len]; omega); have hat' := hat.below hbw hbx; have hybx : bx < wr.heap.size := Nat.lt_of_lt_of_le hbx hbw.size; have hzw := hbw.size; have t0 := hat'.elem0 Ord.len hx rfl; have t1 := hat'.elem Ord.len hx 1 rfl; have t2 := hat'.elem Ord.len hx 2 rfl; have t3 := hat'.elem Ord.len hx 3 rfl; have HX := Lib.hid hx; have HD := Lib.hid (drop_cons hx); have gx : (k : Int) < _ := Int.ofNat_lt.2 hlt; clear hx hat hat'
        have cc := ordB_of (HO.out.2.2 x (List.mem_of_getElem? HX.out))
        obtain ⟨_, ⟨p5, p6⟩, ⟨p7, p8⟩, _⟩ := cc
        clear hbw
        obtain ⟨xsh, xnd, xam, xcl⟩ := x
        dsimp only at t0 t1 t2 t3 p5 p6 p7 p8
        obtain ⟨q, rfl⟩ : ∃ q : Nat, xnd = q := ⟨xnd.toNat, by omega⟩
        obtain ⟨y, hy⟩ := get_some (l := acc) (k := q) (by rw [HAL.out]; omega)
        obtain ⟨y1, y2⟩ := HBD.out y (List.mem_of_getElem? hy)
        have HY := Lib.hid hy
        have g4 : (q : Int) < N.nodes.length := by omega
        clear hy
        go_wp2_with fail
        generalize hW : World.alloc wr _ = wq
        have hbq : Below wr.heap.size wr wq := by rw [← hW]; (repeat' (first | (with_reducible exact Below.refl _ _) | (with_reducible assumption) | (with_reducible refine Below.alloc ?_ ?_ _) | (with_reducible refine Below.drew ?_) | (with_reducible refine Below.drewN' ?_ _) | (with_reducible refine Below.setCell ?_ ?_ _) | (refine Below.via ?_ (by with_reducible assumption) ?_) | (with_reducible refine Below.via ?_ (Wd.h _) ?_) | go_size))
        have hzq : wr.heap.size < wq.heap.size := by rw [← hW]; simp
        have r1 : wq.cell? ⟨wr.heap.size, 1, none⟩ = some (.int .i64 q) := by rw [← hW]; simp
        have r2 : wq.cell? ⟨wr.heap.size, 2, none⟩ = some (.int .i64 xam) := by rw [← hW]; simp
        have HAq := Lib.hid (HA.out.below hbq (by omega))
        have s0' := ints_cell HAq.out HY.out
        clear hW t0 t1 t2 t3
        (have qk0 := Wd.cell (by first | assumption | omega | (simp; omega)) r1; have qk1 := Wd.cell (by first | assumption | omega | (simp; omega)) r2; have qk2 := Wd.cell (by first | assumption | omega | (simp; omega)) s0'; (refine wp_region_wd_tail 9 (by kernel_rfl) (by kernel_rfl) ?_; simp only [List.take_succ_cons, List.take_zero, List.drop_succ_cons, List.drop_zero]); (repeat (go_big_quiet_step ((first | fail)))); (refine wpQuiet_nil ?_); rintro wz ⟨⟨w'', hbwz⟩, hw''⟩; obtain rfl : wz = w'' := hw''; clear qk0 qk1 qk2; have hzwz := hbwz.size; (try simp at hzwz))
        have HAz := Lib.hid (HAq.out.below hbwz (by omega))
        have HBZ := Lib.hid ((HBR.out.below hbq (by omega)).below hbwz (by omega))
        have s0 := ints_cell HAz.out HY.out
        have s1 := HAz.out.free (j := q) (by omega)
        clear s0' r1 r2
        go_wp2
        go_roundw
        case rel =>
          refine ⟨k + 1, addAt acc q xam, by omega, by go_num, by rw [addAt_len]; exact HAL.out, fun z hz => by have := addAt_bd (a := -30000) (b := 30000) HBD.out (by omega) (by omega) (by omega) (by omega) z hz; omega, ?_, HAz.out.addAt HY.out (by omega), HBZ.out.below (B := w.heap.size + 1) ((Below.refl _ _).setCell (by simp; omega) _) (by omega), by have h1 := hbH.out; (repeat' (first | (with_reducible exact Below.refl _ _) | (with_reducible assumption) | (with_reducible refine Below.alloc ?_ ?_ _) | (with_reducible refine Below.drew ?_) | (with_reducible refine Below.drewN' ?_ _) | (with_reducible refine Below.setCell ?_ ?_ _) | (refine Below.via ?_ (by with_reducible assumption) ?_) | (with_reducible refine Below.via ?_ (Wd.h _) ?_) | go_size))⟩
          rw [← HF.out, HD.out, osF]; simp
        case measure => simp [intOf]; omega
      · clear hbw
        have HE := Lib.hid (show acc = osF (List.replicate N.nodes.length 0) lo by rw [← HF.out, drop_endI hlt, osF])
        have hy0 := hB.lt; have cw0_0 := hB.cell 0 rfl; have fw0_0 := hB.frozen 0 rfl; have cw0_1 := hB.cell 1 rfl; have fw0_1 := hB.frozen 1 rfl
        clear hB
        cases hs : supB N.nodes.length acc
        · have HR := Lib.hid (show osR N lo = ([], 7) by rw [osR, if_neg (by simp [H0.out]), ← HE.out, if_pos hs])
          go_wp2_with fail
          refine (impl_areSupplies' _ _ _ _ _ _ _ _ _ acc _ hln (HA.out.rd) HAL.out hln).mono ?_
          rintro e wq ⟨rfl, hbq⟩
          go_wp2
          go_ret2
          exact MadeR.nil HR.out rfl (by have h1 := hbH.out; (repeat' (first | (with_reducible exact Below.refl _ _) | (with_reducible assumption) | (with_reducible refine Below.alloc ?_ ?_ _) | (with_reducible refine Below.drew ?_) | (with_reducible refine Below.drewN' ?_ _) | (with_reducible refine Below.setCell ?_ ?_ _) | (refine Below.via ?_ (by with_reducible assumption) ?_) | (with_reducible refine Below.via ?_ (Wd.h _) ?_) | go_size)))
        · have HR := Lib.hid (show osR N lo = (acc, 0) by rw [osR, if_neg (by simp [H0.out]), ← HE.out, if_neg (by simp [hs])])
          go_wp2_with fail
          refine (impl_areSupplies' _ _ _ _ _ _ _ _ _ acc _ hln (HA.out.rd) HAL.out hln).mono ?_
          rintro e wq ⟨rfl, hbq⟩
          go_wp2
          go_ret2
          exact MadeR.arr HR.out HAL.out (Nat.le_refl _) (HA.out.below hbq (by omega)) hzz (by have h1 := hbH.out; (repeat' (first | (with_reducible exact Below.refl _ _) | (with_reducible assumption) | (with_reducible refine Below.alloc ?_ ?_ _) | (with_reducible refine Below.drew ?_) | (with_reducible refine Below.drewN' ?_ _) | (with_reducible refine Below.setCell ?_ ?_ _) | (refine Below.via ?_ (by with_reducible assumption) ?_) | (with_reducible refine Below.via ?_ (Wd.h _) ?_) | go_size)))
  · have b0 : (ordC N lo != 0) = true := by simp [h0]
    have HR := Lib.hid (show osR N lo = ([], ordC N lo) by simp [osR, h0])
    (go_enter Try.func23, Try.ntmps23; go_wp2_with (first | (go_at_call 83; ((with_reducible refine (impl_checkOrders _ _ _ _ _ _ _ _ N lo _ (by exact HN.out.below (by (repeat' (first | (with_reducible exact Below.refl _ _) | (with_reducible assumption) | (with_reducible refine Below.alloc ?_ ?_ _) | (with_reducible refine Below.drew ?_) | (with_reducible refine Below.drewN' ?_ _) | (with_reducible refine Below.setCell ?_ ?_ _) | (refine Below.via ?_ (by with_reducible assumption) ?_) | (with_reducible refine Below.via ?_ (Wd.h _) ?_) | go_size)))) rfl rfl (by omega) (by exact HL.out.below (by (repeat' (first | (with_reducible exact Below.refl _ _) | (with_reducible assumption) | (with_reducible refine Below.alloc ?_ ?_ _) | (with_reducible refine Below.drew ?_) | (with_reducible refine Below.drewN' ?_ _) | (with_reducible refine Below.setCell ?_ ?_ _) | (refine Below.via ?_ (by with_reducible assumption) ?_) | (with_reducible refine Below.via ?_ (Wd.h _) ?_) | go_size)))) (by omega)).mono ?_)); rintro e wn ⟨rfl, hbn⟩; (obtain ⟨hcn, hfn⟩ := bcell hbn; have hzn := hbn.size; (try simp at hzn); have Ncw0_0 := hcn (w.heap.size) (0) (by first | omega | (simp; done) | (simp; omega)); have Nfw0_0 := hfn (w.heap.size) (0) (by first | omega | (simp; done) | (simp; omega)); have Nhy0 : w.heap.size < wn.heap.size := (by omega); have Ncw0_1 := hcn (w.heap.size) (1) (by first | omega | (simp; done) | (simp; omega)); have Nfw0_1 := hfn (w.heap.size) (1) (by first | omega | (simp; done) | (simp; omega)); (first | (simp [go_sem, cw0_0, fw0_0, cw0_1, fw0_1, hy0] at Ncw0_0 Nfw0_0 Ncw0_1 Nfw0_1; clear cw0_0 fw0_0 cw0_1 fw0_1) | (simp [go_sem] at Ncw0_0 Nfw0_0 Ncw0_1 Nfw0_1)); clear hcn hfn; have cw0_0 := Ncw0_0; have fw0_0 := Nfw0_0; have cw0_1 := Ncw0_1; have fw0_1 := Nfw0_1; have hy0 := Nhy0; clear Ncw0_0 Nfw0_0 Ncw0_1 Nfw0_1 Nhy0))))
    go_ret2
    exact MadeR.nil HR.out rfl (by (repeat' (first | (with_reducible exact Below.refl _ _) | (with_reducible assumption) | (with_reducible refine Below.alloc ?_ ?_ _) | (with_reducible refine Below.drew ?_) | (with_reducible refine Below.drewN' ?_ _) | (with_reducible refine Below.setCell ?_ ?_ _) | (refine Below.via ?_ (by with_reducible assumption) ?_) | (with_reducible refine Below.via ?_ (Wd.h _) ?_) | go_size)))
set_option maxRecDepth 100000 in
set_option maxHeartbeats 4000000 in
theorem spec_l22Supplies (A B C : Option Addr) (n c m d e : Nat) (N : Net) (lo : List Ord) (w : World) (hn : n = N.nodes.length) (hln : N.nodes.length ≤ 1048576) (h : Rd w C (lo.flatMap Ord.cells)) (h40 : lo.length ≤ 40) (ho : ∀ x ∈ lo, ordB x N.nodes.length = true) :
    Calls Try.prog 80 #[netV A B n c m d, .slice C lo.length e] w (MadeL w 1 N.nodes.length ((osF (List.replicate N.nodes.length 0) lo).map iV)) := by
  subst hn
  have HL := Lib.hid h
  have HO := Lib.hid ho
  clear h ho
  have hmk := make_i64 N.nodes.length (by omega)
  go_enter Try.func80, Try.ntmps80
  go_wp2
  have HA0 := Lib.hid (Arr.madeI (w.alloc (.cells #[.slice A N.nodes.length c, .slice B m d] 32)) N.nodes.length 2)
  clear hmk
  go_loopw [6] (fun v wr => ∃ (k : Nat) (acc : List Int), k ≤ lo.length ∧ v = .int .i64 k ∧ acc.length = N.nodes.length ∧ (∀ y ∈ acc, -(k * 30000 : Int) ≤ y ∧ y ≤ (k * 30000 : Int)) ∧ osF acc (lo.drop k) = osF (List.replicate N.nodes.length 0) lo ∧ Arr wr (w.heap.size + 1) N.nodes.length (acc.map iV) ∧ Below w.heap.size w wr) (fun v _ => lo.length - (intOf v).toNat)
  case atStart => exact ⟨0, List.replicate N.nodes.length 0, by omega, rfl, by simp, fun y hy => by have := (List.mem_replicate.1 hy).2; omega, by simp, by simpa using HA0.out, by (repeat' (first | (with_reducible exact Below.refl _ _) | (with_reducible assumption) | (with_reducible refine Below.alloc ?_ ?_ _) | (with_reducible refine Below.drew ?_) | (with_reducible refine Below.drewN' ?_ _) | (with_reducible refine Below.setCell ?_ ?_ _) | (refine Below.via ?_ (by with_reducible assumption) ?_) | (with_reducible refine Below.via ?_ (Wd.h _) ?_) | go_size))⟩
  case round =>
    obtain ⟨k, acc, hk, rfl, hal, hbd, hF, hA, hbw⟩ := hrel
    have hbH := Lib.hid hbw
    have HF := Lib.hid hF
    have HA := Lib.hid hA
    have HBD := Lib.hid hbd
    have HAL := Lib.hid hal
    have hyA := hA.lt
    clear hF hA hbd hal
    by_cases hlt : k < lo.length
    · obtain ⟨x, hx⟩ := get_some hlt; obtain ⟨bx, offx, rfl, hbx, hat⟩ := HL.out.opened (k := k) (by rw [flat_len Ord.len]; omega); have hat' := hat.below hbw hbx; have hybx : bx < wr.heap.size := Nat.lt_of_lt_of_le hbx hbw.size; have hzw := hbw.size; have t0 := hat'.elem0 Ord.len hx rfl; have t1 := hat'.elem Ord.len hx 1 rfl; have t2 := hat'.elem Ord.len hx 2 rfl; have t3 := hat'.elem Ord.len hx 3 rfl; have HX := Lib.hid hx; have HD := Lib.hid (drop_cons hx); have gx : (k : Int) < _ := Int.ofNat_lt.2 hlt; clear hx hat hat'
      have cc := ordB_of (HO.out x (List.mem_of_getElem? HX.out))
      obtain ⟨_, ⟨p5, p6⟩, ⟨p7, p8⟩, _⟩ := cc
      clear hbw
      obtain ⟨xsh, xnd, xam, xcl⟩ := x
      dsimp only at t0 t1 t2 t3 p5 p6 p7 p8
      obtain ⟨q, rfl⟩ : ∃ q : Nat, xnd = q := ⟨xnd.toNat, by omega⟩
      obtain ⟨y, hy⟩ := get_some (l := acc) (k := q) (by rw [HAL.out]; omega)
      obtain ⟨y1, y2⟩ := HBD.out y (List.mem_of_getElem? hy)
      have HY := Lib.hid hy
      have g4 : (q : Int) < N.nodes.length := by omega
      have s0' := ints_cell HA.out hy
      clear hy
      go_wp2_with fail
      (have qk0 := Wd.cell (by first | assumption | omega | (simp; omega)) t1; have qk1 := Wd.cell (by first | assumption | omega | (simp; omega)) t2; have qk2 := Wd.cell (by first | assumption | omega | (simp; omega)) s0'; (refine wp_region_wd_tail 21 (by kernel_rfl) (by kernel_rfl) ?_; simp only [List.take_succ_cons, List.take_zero, List.drop_succ_cons, List.drop_zero]); (repeat (go_big_quiet_step ((first | fail)))); (refine wpQuiet_nil ?_); rintro wz ⟨⟨w'', hbwz⟩, hw''⟩; obtain rfl : wz = w'' := hw''; clear qk0 qk1 qk2; have hzwz := hbwz.size; (try simp at hzwz))
      have HAz := Lib.hid (HA.out.below hbwz (by omega))
      have s0 := ints_cell HAz.out HY.out
      have s1 := HAz.out.free (j := q) (by omega)
      clear s0' t0 t1 t2 t3
      go_wp2
      go_roundw
      case rel =>
        refine ⟨k + 1, addAt acc q xam, by omega, by go_num, by rw [addAt_len]; exact HAL.out, fun z hz => by have := addAt_bd (a := -30000) (b := 30000) HBD.out (by omega) (by omega) (by omega) (by omega) z hz; omega, ?_, HAz.out.addAt HY.out (by omega), by have h1 := hbH.out; (repeat' (first | (with_reducible exact Below.refl _ _) | (with_reducible assumption) | (with_reducible refine Below.alloc ?_ ?_ _) | (with_reducible refine Below.drew ?_) | (with_reducible refine Below.drewN' ?_ _) | (with_reducible refine Below.setCell ?_ ?_ _) | (refine Below.via ?_ (by with_reducible assumption) ?_) | (with_reducible refine Below.via ?_ (Wd.h _) ?_) | go_size))⟩
        rw [← HF.out, HD.out, osF]; simp
      case measure => simp [intOf]; omega
    · clear hbw
      have HE := Lib.hid (show acc = osF (List.replicate N.nodes.length 0) lo by rw [← HF.out, drop_endI hlt, osF])
      go_wp2
      go_ret
      rw [← HE.out]
      exact MadeL.arr HAL.out (Nat.le_refl _) HA.out (by omega) hbH.out
set_option maxRecDepth 100000 in
set_option maxHeartbeats 4000000 in
theorem spec_OrderSupplies (A B C : Option Addr) (n c m d e : Nat) (N : Net) (lo : List Ord) (w : World) (hN : NetAt w A B N) (hn : n = N.nodes.length) (hm : m = N.pipes.length) (h : Rd w C (lo.flatMap Ord.cells)) (hl : lo.length ≤ 1048576) :
    Calls Try.prog 21 #[netV A B n c m d, .slice C lo.length e] w (MadeR w 1 (osR N lo).1.length ((osR N lo).1.map iV) (osR N lo).2) := by
  subst hn hm
  have HN := Lib.hid hN
  have HL := Lib.hid h
  have hln := hN.ln
  clear hN h
  by_cases h0 : ordC N lo = 0
  · have b0 : (ordC N lo != 0) = false := by simp [h0]
    have HO := Lib.hid (ord_of h0).2.2
    have h40 := (ord_of h0).2.1
    have H0 := Lib.hid h0
    clear h0
    obtain ⟨acc, hacc⟩ : ∃ acc, acc = osF (List.replicate N.nodes.length 0) lo := ⟨_, rfl⟩
    have HE := Lib.hid hacc
    have HAL := Lib.hid (show acc.length = N.nodes.length by rw [hacc, osF_len]; simp)
    clear hacc
    cases hs : supB N.nodes.length acc
    · have HR := Lib.hid (show osR N lo = ([], 7) by rw [osR, if_neg (by simp [H0.out]), ← HE.out, if_pos hs])
      (go_enter Try.func21, Try.ntmps21; go_wp2_with (first | (go_at_call 79; ((with_reducible refine (spec_l22Code _ _ _ _ _ _ _ _ N lo _ (by exact HN.out.below (by (repeat' (first | (with_reducible exact Below.refl _ _) | (with_reducible assumption) | (with_reducible refine Below.alloc ?_ ?_ _) | (with_reducible refine Below.drew ?_) | (with_reducible refine Below.drewN' ?_ _) | (with_reducible refine Below.setCell ?_ ?_ _) | (refine Below.via ?_ (by with_reducible assumption) ?_) | (with_reducible refine Below.via ?_ (Wd.h _) ?_) | go_size)))) rfl rfl (by exact HL.out.below (by (repeat' (first | (with_reducible exact Below.refl _ _) | (with_reducible assumption) | (with_reducible refine Below.alloc ?_ ?_ _) | (with_reducible refine Below.drew ?_) | (with_reducible refine Below.drewN' ?_ _) | (with_reducible refine Below.setCell ?_ ?_ _) | (refine Below.via ?_ (by with_reducible assumption) ?_) | (with_reducible refine Below.via ?_ (Wd.h _) ?_) | go_size)))) (by omega)).mono ?_)); rintro e wn ⟨rfl, hbn⟩; (obtain ⟨hcn, hfn⟩ := bcell hbn; have hzn := hbn.size; (try simp at hzn); have Ncw0_0 := hcn (w.heap.size) (0) (by first | omega | (simp; done) | (simp; omega)); have Nfw0_0 := hfn (w.heap.size) (0) (by first | omega | (simp; done) | (simp; omega)); have Nhy0 : w.heap.size < wn.heap.size := (by omega); have Ncw0_1 := hcn (w.heap.size) (1) (by first | omega | (simp; done) | (simp; omega)); have Nfw0_1 := hfn (w.heap.size) (1) (by first | omega | (simp; done) | (simp; omega)); (first | (simp [go_sem, cw0_0, fw0_0, cw0_1, fw0_1, hy0] at Ncw0_0 Nfw0_0 Ncw0_1 Nfw0_1; clear cw0_0 fw0_0 cw0_1 fw0_1) | (simp [go_sem] at Ncw0_0 Nfw0_0 Ncw0_1 Nfw0_1)); clear hcn hfn; have cw0_0 := Ncw0_0; have fw0_0 := Nfw0_0; have cw0_1 := Ncw0_1; have fw0_1 := Nfw0_1; have hy0 := Nhy0; clear Ncw0_0 Nfw0_0 Ncw0_1 Nfw0_1 Nhy0))))
      refine (spec_l22Supplies _ _ _ _ _ _ _ _ N lo _ rfl hln (HL.out.below (by (repeat' (first | (with_reducible exact Below.refl _ _) | (with_reducible assumption) | (with_reducible refine Below.alloc ?_ ?_ _) | (with_reducible refine Below.drew ?_) | (with_reducible refine Below.drewN' ?_ _) | (with_reducible refine Below.setCell ?_ ?_ _) | (refine Below.via ?_ (by with_reducible assumption) ?_) | (with_reducible refine Below.via ?_ (Wd.h _) ?_) | go_size)))) h40 HO.out).mono ?_
      rintro e w1 ⟨A1, c1, rfl, hc1, hW1, hb1⟩
      rw [← HE.out] at hW1
      have HW1 := Lib.hid hW1
      (obtain ⟨hcn, hfn⟩ := bcell hb1; have hz1 := hb1.size; (try simp at hz1); have Ncw0_0 := hcn (w.heap.size) (0) (by first | omega | (simp; done) | (simp; omega)); have Nfw0_0 := hfn (w.heap.size) (0) (by first | omega | (simp; done) | (simp; omega)); have Nhy0 : w.heap.size < w1.heap.size := (by omega); have Ncw0_1 := hcn (w.heap.size) (1) (by first | omega | (simp; done) | (simp; omega)); have Nfw0_1 := hfn (w.heap.size) (1) (by first | omega | (simp; done) | (simp; omega)); simp [go_sem, cw0_0, fw0_0, cw0_1, fw0_1, hy0] at Ncw0_0 Nfw0_0 Ncw0_1 Nfw0_1; clear cw0_0 fw0_0 cw0_1 fw0_1 hy0; clear hcn hfn; have cw0_0 := Ncw0_0; have fw0_0 := Nfw0_0; have cw0_1 := Ncw0_1; have fw0_1 := Nfw0_1; have hy0 := Nhy0; clear Ncw0_0 Nfw0_0 Ncw0_1 Nfw0_1 Nhy0)
      clear hW1
      go_wp2_with fail
      refine (spec_l06List' _ _ _ _ _ _ _ _ _ acc _ hln HW1.out.rd HAL.out hln).mono ?_
      rintro e w2 ⟨rfl, hb2⟩
      go_wp2
      go_ret2
      exact MadeR.nil HR.out rfl (by (repeat' (first | (with_reducible exact Below.refl _ _) | (with_reducible assumption) | (with_reducible refine Below.alloc ?_ ?_ _) | (with_reducible refine Below.drew ?_) | (with_reducible refine Below.drewN' ?_ _) | (with_reducible refine Below.setCell ?_ ?_ _) | (refine Below.via ?_ (by with_reducible assumption) ?_) | (with_reducible refine Below.via ?_ (Wd.h _) ?_) | go_size)))
    · have HR := Lib.hid (show osR N lo = (acc, 0) by rw [osR, if_neg (by simp [H0.out]), ← HE.out, if_neg (by simp [hs])])
      (go_enter Try.func21, Try.ntmps21; go_wp2_with (first | (go_at_call 79; ((with_reducible refine (spec_l22Code _ _ _ _ _ _ _ _ N lo _ (by exact HN.out.below (by (repeat' (first | (with_reducible exact Below.refl _ _) | (with_reducible assumption) | (with_reducible refine Below.alloc ?_ ?_ _) | (with_reducible refine Below.drew ?_) | (with_reducible refine Below.drewN' ?_ _) | (with_reducible refine Below.setCell ?_ ?_ _) | (refine Below.via ?_ (by with_reducible assumption) ?_) | (with_reducible refine Below.via ?_ (Wd.h _) ?_) | go_size)))) rfl rfl (by exact HL.out.below (by (repeat' (first | (with_reducible exact Below.refl _ _) | (with_reducible assumption) | (with_reducible refine Below.alloc ?_ ?_ _) | (with_reducible refine Below.drew ?_) | (with_reducible refine Below.drewN' ?_ _) | (with_reducible refine Below.setCell ?_ ?_ _) | (refine Below.via ?_ (by with_reducible assumption) ?_) | (with_reducible refine Below.via ?_ (Wd.h _) ?_) | go_size)))) (by omega)).mono ?_)); rintro e wn ⟨rfl, hbn⟩; (obtain ⟨hcn, hfn⟩ := bcell hbn; have hzn := hbn.size; (try simp at hzn); have Ncw0_0 := hcn (w.heap.size) (0) (by first | omega | (simp; done) | (simp; omega)); have Nfw0_0 := hfn (w.heap.size) (0) (by first | omega | (simp; done) | (simp; omega)); have Nhy0 : w.heap.size < wn.heap.size := (by omega); have Ncw0_1 := hcn (w.heap.size) (1) (by first | omega | (simp; done) | (simp; omega)); have Nfw0_1 := hfn (w.heap.size) (1) (by first | omega | (simp; done) | (simp; omega)); (first | (simp [go_sem, cw0_0, fw0_0, cw0_1, fw0_1, hy0] at Ncw0_0 Nfw0_0 Ncw0_1 Nfw0_1; clear cw0_0 fw0_0 cw0_1 fw0_1) | (simp [go_sem] at Ncw0_0 Nfw0_0 Ncw0_1 Nfw0_1)); clear hcn hfn; have cw0_0 := Ncw0_0; have fw0_0 := Nfw0_0; have cw0_1 := Ncw0_1; have fw0_1 := Nfw0_1; have hy0 := Nhy0; clear Ncw0_0 Nfw0_0 Ncw0_1 Nfw0_1 Nhy0))))
      refine (spec_l22Supplies _ _ _ _ _ _ _ _ N lo _ rfl hln (HL.out.below (by (repeat' (first | (with_reducible exact Below.refl _ _) | (with_reducible assumption) | (with_reducible refine Below.alloc ?_ ?_ _) | (with_reducible refine Below.drew ?_) | (with_reducible refine Below.drewN' ?_ _) | (with_reducible refine Below.setCell ?_ ?_ _) | (refine Below.via ?_ (by with_reducible assumption) ?_) | (with_reducible refine Below.via ?_ (Wd.h _) ?_) | go_size)))) h40 HO.out).mono ?_
      rintro e w1 ⟨A1, c1, rfl, hc1, hW1, hb1⟩
      rw [← HE.out] at hW1
      have HW1 := Lib.hid hW1
      (obtain ⟨hcn, hfn⟩ := bcell hb1; have hz1 := hb1.size; (try simp at hz1); have Ncw0_0 := hcn (w.heap.size) (0) (by first | omega | (simp; done) | (simp; omega)); have Nfw0_0 := hfn (w.heap.size) (0) (by first | omega | (simp; done) | (simp; omega)); have Nhy0 : w.heap.size < w1.heap.size := (by omega); have Ncw0_1 := hcn (w.heap.size) (1) (by first | omega | (simp; done) | (simp; omega)); have Nfw0_1 := hfn (w.heap.size) (1) (by first | omega | (simp; done) | (simp; omega)); simp [go_sem, cw0_0, fw0_0, cw0_1, fw0_1, hy0] at Ncw0_0 Nfw0_0 Ncw0_1 Nfw0_1; clear cw0_0 fw0_0 cw0_1 fw0_1 hy0; clear hcn hfn; have cw0_0 := Ncw0_0; have fw0_0 := Nfw0_0; have cw0_1 := Ncw0_1; have fw0_1 := Nfw0_1; have hy0 := Nhy0; clear Ncw0_0 Nfw0_0 Ncw0_1 Nfw0_1 Nhy0)
      clear hW1
      go_wp2_with fail
      refine (spec_l06List' _ _ _ _ _ _ _ _ _ acc _ hln HW1.out.rd HAL.out hln).mono ?_
      rintro e w2 ⟨rfl, hb2⟩
      go_wp2
      go_ret2
      exact MadeR.ofWr HR.out HAL.out hc1 ((HW1.out.lower (by omega)).below hb2) (by (repeat' (first | (with_reducible exact Below.refl _ _) | (with_reducible assumption) | (with_reducible refine Below.alloc ?_ ?_ _) | (with_reducible refine Below.drew ?_) | (with_reducible refine Below.drewN' ?_ _) | (with_reducible refine Below.setCell ?_ ?_ _) | (refine Below.via ?_ (by with_reducible assumption) ?_) | (with_reducible refine Below.via ?_ (Wd.h _) ?_) | go_size)))
  · have b0 : (ordC N lo != 0) = true := by simp [h0]
    have HR := Lib.hid (show osR N lo = ([], ordC N lo) by simp [osR, h0])
    (go_enter Try.func21, Try.ntmps21; go_wp2_with (first | (go_at_call 79; ((with_reducible refine (spec_l22Code _ _ _ _ _ _ _ _ N lo _ (by exact HN.out.below (by (repeat' (first | (with_reducible exact Below.refl _ _) | (with_reducible assumption) | (with_reducible refine Below.alloc ?_ ?_ _) | (with_reducible refine Below.drew ?_) | (with_reducible refine Below.drewN' ?_ _) | (with_reducible refine Below.setCell ?_ ?_ _) | (refine Below.via ?_ (by with_reducible assumption) ?_) | (with_reducible refine Below.via ?_ (Wd.h _) ?_) | go_size)))) rfl rfl (by exact HL.out.below (by (repeat' (first | (with_reducible exact Below.refl _ _) | (with_reducible assumption) | (with_reducible refine Below.alloc ?_ ?_ _) | (with_reducible refine Below.drew ?_) | (with_reducible refine Below.drewN' ?_ _) | (with_reducible refine Below.setCell ?_ ?_ _) | (refine Below.via ?_ (by with_reducible assumption) ?_) | (with_reducible refine Below.via ?_ (Wd.h _) ?_) | go_size)))) (by omega)).mono ?_)); rintro e wn ⟨rfl, hbn⟩; (obtain ⟨hcn, hfn⟩ := bcell hbn; have hzn := hbn.size; (try simp at hzn); have Ncw0_0 := hcn (w.heap.size) (0) (by first | omega | (simp; done) | (simp; omega)); have Nfw0_0 := hfn (w.heap.size) (0) (by first | omega | (simp; done) | (simp; omega)); have Nhy0 : w.heap.size < wn.heap.size := (by omega); have Ncw0_1 := hcn (w.heap.size) (1) (by first | omega | (simp; done) | (simp; omega)); have Nfw0_1 := hfn (w.heap.size) (1) (by first | omega | (simp; done) | (simp; omega)); (first | (simp [go_sem, cw0_0, fw0_0, cw0_1, fw0_1, hy0] at Ncw0_0 Nfw0_0 Ncw0_1 Nfw0_1; clear cw0_0 fw0_0 cw0_1 fw0_1) | (simp [go_sem] at Ncw0_0 Nfw0_0 Ncw0_1 Nfw0_1)); clear hcn hfn; have cw0_0 := Ncw0_0; have fw0_0 := Nfw0_0; have cw0_1 := Ncw0_1; have fw0_1 := Nfw0_1; have hy0 := Nhy0; clear Ncw0_0 Nfw0_0 Ncw0_1 Nfw0_1 Nhy0))))
    go_ret2
    exact MadeR.nil HR.out rfl (by (repeat' (first | (with_reducible exact Below.refl _ _) | (with_reducible assumption) | (with_reducible refine Below.alloc ?_ ?_ _) | (with_reducible refine Below.drew ?_) | (with_reducible refine Below.drewN' ?_ _) | (with_reducible refine Below.setCell ?_ ?_ _) | (refine Below.via ?_ (by with_reducible assumption) ?_) | (with_reducible refine Below.via ?_ (Wd.h _) ?_) | go_size)))
end Go.Proofs.Ytiedojolhfglnaa

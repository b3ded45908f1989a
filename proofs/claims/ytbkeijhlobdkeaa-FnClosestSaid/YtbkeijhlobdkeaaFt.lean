/- FirstTrouble. -/
import Derived.Test.YtbkeijhlobdkeaaCa
namespace Go.Proofs.Ytbkeijhlobdkeaa
set_option linter.unusedVariables false
set_option linter.unusedSimpArgs false
open Go.RowKit
def trB (nx ll lh : List Int) (k : Nat) : Bool := match nx[k]?, ll[k]?, lh[k]? with
  | some a, some l, some h => inB a l h
  | _, _, _ => true
def ftF (f : Nat → Bool) : Nat → Nat → Int
  | _, 0 => -1
  | k, m + 1 => if f k = false then (k : Int) else ftF f (k + 1) m
noncomputable def ftR (N : Net) (ll lh ln : List Int) (x : Hr) : Int × Int :=
  if hrC N ll lh ln x ≠ 0 then (0, hrC N ll lh ln x) else (ftF (trB (nextL N ln x.su x.fl) ll lh) 0 N.nodes.length, 0)
theorem trB_get {nx ll lh : List Int} {k : Nat} {a l h : Int} (h1 : nx[k]? = some a) (h2 : ll[k]? = some l) (h3 : lh[k]? = some h) : trB nx ll lh k = inB a l h := by simp [trB, h1, h2, h3]
theorem Rd.two {w : World} {t : TypeId} {a b : Value} {g : Nat} (hg : g = w.heap.size) : Rd (w.alloc (.cells #[a, b] t)) (some ⟨g, 0, none⟩) [a, b] := by
  subst hg
  refine Rd.mk (fun j v e => ?_) (by simp)
  rw [Nat.zero_add]
  have : (w.alloc (.cells #[a, b] t)).cell? ⟨w.heap.size, j, none⟩ = (#[a, b])[j]? := by simp
  rw [this]; simpa using e
def idxL (n : Nat) : List Int := (List.range n).map fun i : Nat => (i : Int)
theorem idxL_len (n : Nat) : (idxL n).length = n := by simp [idxL]
theorem idxL_get {n k : Nat} (h : k < n) : (idxL n)[k]? = some (k : Int) := by simp [idxL, h]
theorem idxL_succ (k : Nat) : idxL (k + 1) = idxL k ++ [(k : Int)] := by simp [idxL, List.range_succ]
set_option maxRecDepth 100000 in
set_option maxHeartbeats 4000000 in
theorem impl_indicesOf (A B : Option Addr) (n c m d : Nat) (w : World) (hn : n ≤ 1048576) :
    Calls Try.prog 57 #[netV A B n c m d] w (MadeL w 1 n ((idxL n).map iV)) := by
  have hmk := make_i64 n (by omega)
  go_enter Try.func57, Try.ntmps57
  go_wp2
  have HA0 := Lib.hid (Arr.madeI (w.alloc (.cells #[.slice A n c, .slice B m d] 27)) n 2).none_
  clear hmk
  go_loopw [11] (fun v wr => ∃ (k : Nat), k ≤ n ∧ v = .int .i64 k ∧ Arr wr (w.heap.size + 1) n ((idxL k).map iV) ∧ Below w.heap.size w wr) (fun v _ => n - (intOf v).toNat)
  case atStart => exact ⟨0, by omega, rfl, by simpa [idxL] using HA0.out, by (repeat' (first | (with_reducible exact Below.refl _ _) | (with_reducible assumption) | (with_reducible refine Below.alloc ?_ ?_ _) | (with_reducible refine Below.drew ?_) | (with_reducible refine Below.drewN' ?_ _) | (with_reducible refine Below.setCell ?_ ?_ _) | (refine Below.via ?_ (by with_reducible assumption) ?_) | (with_reducible refine Below.via ?_ (Wd.h _) ?_) | go_size))⟩
  case round =>
    obtain ⟨k, hk, rfl, hA, hbw⟩ := hrel
    have hbH := Lib.hid hbw
    have HA := Lib.hid hA
    by_cases hlt : k < n
    · obtain ⟨u, t0⟩ := hA.some_ (j := k) (by omega)
      have t1 := hA.free (j := k) (by omega)
      have g1 : (k : Int) < n := by omega
      clear hA hbw
      go_wp2
      go_roundw
      case rel =>
        refine ⟨k + 1, by omega, by go_num, ?_, hbH.out.setCell (by simp) _⟩
        rw [idxL_succ, List.map_append]
        exact HA.out.push k (by simp [idxL_len]) hlt _
      case measure => simp [intOf]; omega
    · obtain rfl : k = n := by omega
      clear hA hbw
      have hne : ¬ k < k := by omega
      go_wp2
      go_ret
      exact ⟨_, _, rfl, Nat.le_refl _, by simpa using Wr.of_arr (by omega) HA.out, hbH.out⟩
structure FtBox (w : World) (A B Al Ah An : Option Addr) (n c m d nl nh nn cl ch cn bn bb bh : Nat) (x : Hr) : Prop where
  n0 : w.cell? ⟨bn, 0, none⟩ = some (.slice A n c)
  n1 : w.cell? ⟨bn, 1, none⟩ = some (.slice B m d)
  b0 : w.cell? ⟨bb, 0, none⟩ = some (.slice Al nl cl)
  b1 : w.cell? ⟨bb, 1, none⟩ = some (.slice Ah nh ch)
  b2 : w.cell? ⟨bb, 2, none⟩ = some (.slice An nn cn)
  h0 : w.cell? ⟨bh, 0, none⟩ = some (.slice x.A x.fl.length x.c)
  h1 : w.cell? ⟨bh, 1, none⟩ = some (.slice x.B x.su.length x.d)
  ln : bn < w.heap.size
  lb : bb < w.heap.size
  lh : bh < w.heap.size
theorem FtBox.below {w w' : World} {A B Al Ah An : Option Addr} {n c m d nl nh nn cl ch cn bn bb bh : Nat} {x : Hr} (h : FtBox w A B Al Ah An n c m d nl nh nn cl ch cn bn bb bh x) (hb : Below w.heap.size w w') : FtBox w' A B Al Ah An n c m d nl nh nn cl ch cn bn bb bh x :=
  ⟨bc hb h.ln h.n0, bc hb h.ln h.n1, bc hb h.lb h.b0, bc hb h.lb h.b1, bc hb h.lb h.b2, bc hb h.lh h.h0, bc hb h.lh h.h1, by have := hb.size; have := h.ln; omega, by have := hb.size; have := h.lb; omega, by have := hb.size; have := h.lh; omega⟩
set_option maxRecDepth 100000 in
set_option maxHeartbeats 4000000 in
theorem impl_FirstTrouble1 (A B Al Ah An : Option Addr) (n c m d nl nh nn cl ch cn bn bb bh k : Nat) (N : Net) (ll lh ln : List Int) (x : Hr) (w : World) (hN : NetAt w A B N) (hn : n = N.nodes.length) (hm : m = N.pipes.length) (hO : N.Ok) (h : BufAt w Al Ah An ll lh ln) (e1 : nl = ll.length) (e2 : nh = lh.length) (e3 : nn = ln.length) (hat : HrAt w x) (hx : hrB N.pipes.length N.nodes.length x = true) (hbo : BufOk N.nodes.length ll lh ln) (hbx : FtBox w A B Al Ah An n c m d nl nh nn cl ch cn bn bb bh x) (hk : k < N.nodes.length) :
    Calls Try.prog 58 #[.int .i64 k, .pointer (some ⟨bn, 0, none⟩), .pointer (some ⟨bb, 0, none⟩), .pointer (some ⟨bh, 0, none⟩)] w fun e w' => e = .returned (.bool (!(trB (nextL N ln x.su x.fl) ll lh k))) ∧ Below w.heap.size w w' := by
  subst hn hm e1 e2 e3
  have HN := Lib.hid hN
  have HR := Lib.hid h
  have HA := Lib.hid hat
  have HX := Lib.hid hx
  have HO := Lib.hid hO
  have HBO := Lib.hid hbo
  have hl1 := hbo.l1
  have hl2 := hbo.l2
  have hl3 := hbo.l3
  have hnl := nextL_len (N := N) (now := ln) (su := x.su) (fl := x.fl) hl3 (hrB_of hx).2.1
  obtain ⟨nn_0, nn_1, bb_0, bb_1, bb_2, hh_0, hh_1, yn, yb, yh⟩ := hbx
  obtain ⟨a, ha⟩ := get_some (l := nextL N ln x.su x.fl) (k := k) (by omega)
  obtain ⟨l, hl⟩ := get_some (l := ll) (k := k) (by omega)
  obtain ⟨u, hu⟩ := get_some (l := lh) (k := k) (by omega)
  have HE := Lib.hid (trB_get ha hl hu)
  have HG := Lib.hid ha
  obtain ⟨bl, ol, rfl, hbl, hatl⟩ := h.r1.opened (k := k) (by simp; omega)
  obtain ⟨bu, ou, rfl, hbu, hatu⟩ := h.r2.opened (k := k) (by simp; omega)
  have tl_0 := ints_at hatl hl
  have tu_0 := ints_at hatu hu
  have g1 : (k : Int) < ll.length := by omega
  have g2 : (k : Int) < lh.length := by omega
  have g3 : (k : Int) < ln.length := by omega
  have HL1 := Lib.hid hl1
  have HL2 := Lib.hid hl2
  have HL3 := Lib.hid hl3
  have HNL := Lib.hid hnl
  clear hN h hat hx hO hbo ha hl hu hatl hatu hl1 hl2 hl3 hnl
  go_enter Try.func58, Try.ntmps58
  go_wp2_with fail
  (focus (refine wp_region_noPanic ?_; refine wp_region_held_drew (S := (fun w' => w'.cell? ⟨bn, 0, none⟩ = some (.slice A N.nodes.length c) ∧ w'.cell? ⟨bn, 1, none⟩ = some (.slice B N.pipes.length d) ∧ w'.cell? ⟨bb, 0, none⟩ = some (.slice (some ⟨bl, ol, none⟩) ll.length cl) ∧ w'.cell? ⟨bb, 1, none⟩ = some (.slice (some ⟨bu, ou, none⟩) lh.length ch) ∧ w'.cell? ⟨bb, 2, none⟩ = some (.slice An ln.length cn) ∧ w'.cell? ⟨bh, 0, none⟩ = some (.slice x.A x.fl.length x.c) ∧ w'.cell? ⟨bh, 1, none⟩ = some (.slice x.B x.su.length x.d) ∧ w'.cell? ⟨bl, ol + k, none⟩ = some (.int .i64 l) ∧ w'.cell? ⟨bu, ou + k, none⟩ = some (.int .i64 u))) (by kernel_rfl) ?hSz24 (fun hHeld => ?r0z24); (case hSz24 => ((try dsimp only); (first | exact ⟨nn_0, nn_1, bb_0, bb_1, bb_2, hh_0, hh_1, tl_0, tu_0⟩ | (simp [go_sem, nn_0, nn_1, bb_0, bb_1, bb_2, hh_0, hh_1, tl_0, tu_0]; done) | (simp [go_sem, nn_0, nn_1, bb_0, bb_1, bb_2, hh_0, hh_1, tl_0, tu_0, hy_nn, hy_bb, hy_hh, hy_tl, hy_tu]; done) | go_keep))); refine wpAnyH_take (i := 0) (oi := _) (v := ?vz23) rfl (by kernel_rfl) (by kernel_rfl) (by kernel_rfl) (fun _ _ _ h => h) (Or.inl ⟨by rfl, ?hyz23⟩) (by assumption) ?restz23; (case hyz23 => (intro w hSw; (try dsimp only at hSw); go_simp; (try with_reducible rfl))); (try simp only [Act.put, List.getElem_toArray, List.getElem_cons_succ, List.getElem_cons_zero, List.setIfInBounds_toArray, List.set_cons_zero, List.set_cons_succ]); refine wpAnyH_take (i := 1) (oi := _) (v := ?vz22) rfl (by kernel_rfl) (by kernel_rfl) (by kernel_rfl) (fun _ _ _ h => h) (Or.inl ⟨by rfl, ?hyz22⟩) (by assumption) ?restz22; (case hyz22 => (intro w hSw; (try dsimp only at hSw); go_simp; (try with_reducible rfl))); (try simp only [Act.put, List.getElem_toArray, List.getElem_cons_succ, List.getElem_cons_zero, List.setIfInBounds_toArray, List.set_cons_zero, List.set_cons_succ]); refine wpAnyH_take (i := 2) (oi := _) (v := ?vz21) rfl (by kernel_rfl) (by kernel_rfl) (by kernel_rfl) (fun _ _ _ h => h) (Or.inl ⟨by rfl, ?hyz21⟩) (by assumption) ?restz21; (case hyz21 => (intro w hSw; (try dsimp only at hSw); go_simp; (try with_reducible rfl))); (try simp only [Act.put, List.getElem_toArray, List.getElem_cons_succ, List.getElem_cons_zero, List.setIfInBounds_toArray, List.set_cons_zero, List.set_cons_succ]); refine wpAnyH_take (i := 4) (oi := _) (v := ?vz20) rfl (by kernel_rfl) (by kernel_rfl) (by kernel_rfl) (fun _ _ _ h => h) (Or.inl ⟨by rfl, ?hyz20⟩) (by assumption) ?restz20; (case hyz20 => (intro w hSw; (try dsimp only at hSw); go_simp; (try with_reducible rfl))); (try simp only [Act.put, List.getElem_toArray, List.getElem_cons_succ, List.getElem_cons_zero, List.setIfInBounds_toArray, List.set_cons_zero, List.set_cons_succ]); refine wpAnyH_take (i := 7) (oi := _) (v := ?vz19) rfl (by kernel_rfl) (by kernel_rfl) (by kernel_rfl) (fun _ _ _ h => h) (Or.inl ⟨by rfl, ?hyz19⟩) (by assumption) ?restz19; (case hyz19 => (intro w hSw; (try dsimp only at hSw); go_simp; (try with_reducible rfl))); (try simp only [Act.put, List.getElem_toArray, List.getElem_cons_succ, List.getElem_cons_zero, List.setIfInBounds_toArray, List.set_cons_zero, List.set_cons_succ]); refine wpAnyH_take (i := 8) (oi := _) (v := ?vz18) rfl (by kernel_rfl) (by kernel_rfl) (by kernel_rfl) (fun _ _ _ h => h) (Or.inl ⟨by rfl, ?hyz18⟩) (by assumption) ?restz18; (case hyz18 => (intro w hSw; (try dsimp only at hSw); go_simp; (try with_reducible rfl))); (try simp only [Act.put, List.getElem_toArray, List.getElem_cons_succ, List.getElem_cons_zero, List.setIfInBounds_toArray, List.set_cons_zero, List.set_cons_succ]); refine wpAnyH_take (i := 9) (oi := _) (v := ?vz17) rfl (by kernel_rfl) (by kernel_rfl) (by kernel_rfl) (fun _ _ _ h => h) (Or.inl ⟨by rfl, ?hyz17⟩) (by assumption) ?restz17; (case hyz17 => (intro w hSw; (try dsimp only at hSw); go_simp; (try with_reducible rfl))); (try simp only [Act.put, List.getElem_toArray, List.getElem_cons_succ, List.getElem_cons_zero, List.setIfInBounds_toArray, List.set_cons_zero, List.set_cons_succ]); refine wpAnyH_take (i := 10) (oi := _) (v := ?vz16) rfl (by kernel_rfl) (by kernel_rfl) (by kernel_rfl) (fun _ _ _ h => h) (Or.inl ⟨by rfl, ?hyz16⟩) (by assumption) ?restz16; (case hyz16 => (intro w hSw; (try dsimp only at hSw); go_simp; (try with_reducible rfl))); (try simp only [Act.put, List.getElem_toArray, List.getElem_cons_succ, List.getElem_cons_zero, List.setIfInBounds_toArray, List.set_cons_zero, List.set_cons_succ]); refine wpAnyH_take (i := 11) (oi := _) (v := ?vz15) rfl (by kernel_rfl) (by kernel_rfl) (by kernel_rfl) (fun _ _ _ h => h) (Or.inl ⟨by rfl, ?hyz15⟩) (by assumption) ?restz15; (case hyz15 => (intro w hSw; (try dsimp only at hSw); go_simp; (try with_reducible rfl))); (try simp only [Act.put, List.getElem_toArray, List.getElem_cons_succ, List.getElem_cons_zero, List.setIfInBounds_toArray, List.set_cons_zero, List.set_cons_succ]); refine wpAnyH_take (i := 12) (oi := _) (v := ?vz14) rfl (by kernel_rfl) (by kernel_rfl) (by kernel_rfl) (fun _ _ _ h => h) (Or.inl ⟨by rfl, ?hyz14⟩) (by assumption) ?restz14; (case hyz14 => (intro w hSw; (try dsimp only at hSw); go_simp; (try with_reducible rfl))); (try simp only [Act.put, List.getElem_toArray, List.getElem_cons_succ, List.getElem_cons_zero, List.setIfInBounds_toArray, List.set_cons_zero, List.set_cons_succ]); refine wpAnyH_take (i := 13) (oi := _) (v := ?vz13) rfl (by kernel_rfl) (by kernel_rfl) (by kernel_rfl) (fun _ _ _ h => h) (Or.inl ⟨by rfl, ?hyz13⟩) (by assumption) ?restz13; (case hyz13 => (intro w hSw; (try dsimp only at hSw); go_simp; (try with_reducible rfl))); (try simp only [Act.put, List.getElem_toArray, List.getElem_cons_succ, List.getElem_cons_zero, List.setIfInBounds_toArray, List.set_cons_zero, List.set_cons_succ]); refine wpAnyH_take (i := 14) (oi := _) (v := ?vz12) rfl (by kernel_rfl) (by kernel_rfl) (by kernel_rfl) (fun _ _ _ h => h) (Or.inl ⟨by rfl, ?hyz12⟩) (by assumption) ?restz12; (case hyz12 => (intro w hSw; (try dsimp only at hSw); go_simp; (try with_reducible rfl))); (try simp only [Act.put, List.getElem_toArray, List.getElem_cons_succ, List.getElem_cons_zero, List.setIfInBounds_toArray, List.set_cons_zero, List.set_cons_succ]); refine wpAnyH_take (i := 15) (oi := _) (v := ?vz11) rfl (by kernel_rfl) (by kernel_rfl) (by kernel_rfl) (fun _ _ _ h => h) (Or.inl ⟨by rfl, ?hyz11⟩) (by assumption) ?restz11; (case hyz11 => (intro w hSw; (try dsimp only at hSw); go_simp; (try with_reducible rfl))); (try simp only [Act.put, List.getElem_toArray, List.getElem_cons_succ, List.getElem_cons_zero, List.setIfInBounds_toArray, List.set_cons_zero, List.set_cons_succ]); refine wpAnyH_take (i := 16) (oi := _) (v := ?vz10) rfl (by kernel_rfl) (by kernel_rfl) (by kernel_rfl) (fun _ _ _ h => h) (Or.inl ⟨by rfl, ?hyz10⟩) (by assumption) ?restz10; (case hyz10 => (intro w hSw; (try dsimp only at hSw); go_simp; (try with_reducible rfl))); (try simp only [Act.put, List.getElem_toArray, List.getElem_cons_succ, List.getElem_cons_zero, List.setIfInBounds_toArray, List.set_cons_zero, List.set_cons_succ]); refine wpAnyH_ready (rs := [3]) (by kernel_rfl) (by simp) ?_; refine AllReadyH.cons (o := _) rfl (fun K hK => ?s0z1) AllReadyH.nil; (focus (go_simp; (first | (go_at_call 59; refine (within_any _ _ _ _).mono ?_; rintro e wn ⟨rfl, rfl⟩) | (go_at_call 52; ((with_reducible refine (impl_contentAfter _ _ _ _ _ _ _ _ _ _ _ _ _ _ _ N ln x _ (by exact HN.out.below (by (repeat' (first | (with_reducible exact Below.refl _ _) | (with_reducible assumption) | (with_reducible refine Below.alloc ?_ ?_ _) | (with_reducible refine Below.drew ?_) | (with_reducible refine Below.drewN' ?_ _) | (with_reducible refine Below.setCell ?_ ?_ _) | (refine Below.via ?_ (by with_reducible assumption) ?_) | (with_reducible refine Below.via ?_ (Wd.h _) ?_) | go_size)))) rfl rfl HO.out (by exact HR.out.r3.below (by (repeat' (first | (with_reducible exact Below.refl _ _) | (with_reducible assumption) | (with_reducible refine Below.alloc ?_ ?_ _) | (with_reducible refine Below.drew ?_) | (with_reducible refine Below.drewN' ?_ _) | (with_reducible refine Below.setCell ?_ ?_ _) | (refine Below.via ?_ (by with_reducible assumption) ?_) | (with_reducible refine Below.via ?_ (Wd.h _) ?_) | go_size)))) rfl (by exact HA.out.below (by (repeat' (first | (with_reducible exact Below.refl _ _) | (with_reducible assumption) | (with_reducible refine Below.alloc ?_ ?_ _) | (with_reducible refine Below.drew ?_) | (with_reducible refine Below.drewN' ?_ _) | (with_reducible refine Below.setCell ?_ ?_ _) | (refine Below.via ?_ (by with_reducible assumption) ?_) | (with_reducible refine Below.via ?_ (Wd.h _) ?_) | go_size)))) HX.out HL3.out (buf_now HBO.out)).mono ?_)); rintro e w1 ⟨G, c1, rfl, hc1, hW1, hb1⟩; have hz1 := hb1.size; (try simp at hz1); obtain ⟨g, rfl, hg, hga⟩ := hW1.2.1 (by omega); have tg := ints_cell hga HG.out; replace nn_0 := bc hb1 (by first | omega | (simp; omega)) nn_0; replace nn_1 := bc hb1 (by first | omega | (simp; omega)) nn_1; replace bb_0 := bc hb1 (by first | omega | (simp; omega)) bb_0; replace bb_1 := bc hb1 (by first | omega | (simp; omega)) bb_1; replace bb_2 := bc hb1 (by first | omega | (simp; omega)) bb_2; replace hh_0 := bc hb1 (by first | omega | (simp; omega)) hh_0; replace hh_1 := bc hb1 (by first | omega | (simp; omega)) hh_1; replace tl_0 := bc hb1 (by first | omega | (simp; omega)) tl_0; replace tu_0 := bc hb1 (by first | omega | (simp; omega)) tu_0; clear hW1 hga)); (first | (refine hK.out _ _ ?hSz9 (fun hHeldN => ?rez9)) | (go_wp2_with fail; refine hK.out _ _ ?hTz9 (fun hHeldN => ?rfz9))); (first | (case hSz9 => ((try dsimp only); (first | exact ⟨nn_0, nn_1, bb_0, bb_1, bb_2, hh_0, hh_1, tl_0, tu_0⟩ | (simp [go_sem, nn_0, nn_1, bb_0, bb_1, bb_2, hh_0, hh_1, tl_0, tu_0]; done) | (simp [go_sem, nn_0, nn_1, bb_0, bb_1, bb_2, hh_0, hh_1, tl_0, tu_0, hy_nn, hy_bb, hy_hh, hy_tl, hy_tu]; done) | go_keep))) | (case hTz9 => ((try dsimp only); (first | exact ⟨nn_0, nn_1, bb_0, bb_1, bb_2, hh_0, hh_1, tl_0, tu_0⟩ | (simp [go_sem, nn_0, nn_1, bb_0, bb_1, bb_2, hh_0, hh_1, tl_0, tu_0]; done) | (simp [go_sem, nn_0, nn_1, bb_0, bb_1, bb_2, hh_0, hh_1, tl_0, tu_0, hy_nn, hy_bb, hy_hh, hy_tl, hy_tu]; done) | go_keep)))); clear hHeld hK K; have hHeld := hHeldN; clear hHeldN; (try simp only [Act.put, List.getElem_toArray, List.getElem_cons_succ, List.getElem_cons_zero, List.setIfInBounds_toArray, List.set_cons_zero, List.set_cons_succ]); refine wpAnyH_take (i := 5) (oi := _) (v := ?vz8) rfl (by kernel_rfl) (by kernel_rfl) (by kernel_rfl) (fun _ _ _ h => h) (Or.inl ⟨by rfl, ?hyz8⟩) (by assumption) ?restz8; (case hyz8 => (intro w hSw; (try dsimp only at hSw); go_simp; (try with_reducible rfl))); (try simp only [Act.put, List.getElem_toArray, List.getElem_cons_succ, List.getElem_cons_zero, List.setIfInBounds_toArray, List.set_cons_zero, List.set_cons_succ]); refine wpAnyH_ready (rs := [6]) (by kernel_rfl) (by simp) ?_; refine AllReadyH.cons (o := _) rfl (fun K hK => ?s0z2) AllReadyH.nil; (focus (go_simp; (first | (refine hK.out _ _ ?hSz7 (fun hHeldN => ?rez7)) | (go_wp2_with fail; refine hK.out _ _ ?hTz7 (fun hHeldN => ?rfz7))); (first | (case hSz7 => ((try dsimp only); (first | exact ⟨nn_0, nn_1, bb_0, bb_1, bb_2, hh_0, hh_1, tl_0, tu_0⟩ | (simp [go_sem, nn_0, nn_1, bb_0, bb_1, bb_2, hh_0, hh_1, tl_0, tu_0]; done) | (simp [go_sem, nn_0, nn_1, bb_0, bb_1, bb_2, hh_0, hh_1, tl_0, tu_0, hy_nn, hy_bb, hy_hh, hy_tl, hy_tu]; done) | go_keep))) | (case hTz7 => ((try dsimp only); (first | exact ⟨nn_0, nn_1, bb_0, bb_1, bb_2, hh_0, hh_1, tl_0, tu_0⟩ | (simp [go_sem, nn_0, nn_1, bb_0, bb_1, bb_2, hh_0, hh_1, tl_0, tu_0]; done) | (simp [go_sem, nn_0, nn_1, bb_0, bb_1, bb_2, hh_0, hh_1, tl_0, tu_0, hy_nn, hy_bb, hy_hh, hy_tl, hy_tu]; done) | go_keep)))); clear hHeld hK K; have hHeld := hHeldN; clear hHeldN; (try simp only [Act.put, List.getElem_toArray, List.getElem_cons_succ, List.getElem_cons_zero, List.setIfInBounds_toArray, List.set_cons_zero, List.set_cons_succ]); refine wpAnyH_ready (rs := [17]) (by kernel_rfl) (by simp) ?_; refine AllReadyH.cons (o := _) rfl (fun K hK => ?s0z3) AllReadyH.nil; (focus (go_simp; (first | (go_at_call 59; refine (within_any _ _ _ _).mono ?_; rintro e wn ⟨rfl, rfl⟩) | (go_at_call 52; ((with_reducible refine (impl_contentAfter _ _ _ _ _ _ _ _ _ _ _ _ _ _ _ N ln x _ (by exact HN.out.below (by (repeat' (first | (with_reducible exact Below.refl _ _) | (with_reducible assumption) | (with_reducible refine Below.alloc ?_ ?_ _) | (with_reducible refine Below.drew ?_) | (with_reducible refine Below.drewN' ?_ _) | (with_reducible refine Below.setCell ?_ ?_ _) | (refine Below.via ?_ (by with_reducible assumption) ?_) | (with_reducible refine Below.via ?_ (Wd.h _) ?_) | go_size)))) rfl rfl HO.out (by exact HR.out.r3.below (by (repeat' (first | (with_reducible exact Below.refl _ _) | (with_reducible assumption) | (with_reducible refine Below.alloc ?_ ?_ _) | (with_reducible refine Below.drew ?_) | (with_reducible refine Below.drewN' ?_ _) | (with_reducible refine Below.setCell ?_ ?_ _) | (refine Below.via ?_ (by with_reducible assumption) ?_) | (with_reducible refine Below.via ?_ (Wd.h _) ?_) | go_size)))) rfl (by exact HA.out.below (by (repeat' (first | (with_reducible exact Below.refl _ _) | (with_reducible assumption) | (with_reducible refine Below.alloc ?_ ?_ _) | (with_reducible refine Below.drew ?_) | (with_reducible refine Below.drewN' ?_ _) | (with_reducible refine Below.setCell ?_ ?_ _) | (refine Below.via ?_ (by with_reducible assumption) ?_) | (with_reducible refine Below.via ?_ (Wd.h _) ?_) | go_size)))) HX.out HL3.out (buf_now HBO.out)).mono ?_)); rintro e w1 ⟨G, c1, rfl, hc1, hW1, hb1⟩; have hz1 := hb1.size; (try simp at hz1); obtain ⟨g, rfl, hg, hga⟩ := hW1.2.1 (by omega); have tg := ints_cell hga HG.out; replace nn_0 := bc hb1 (by first | omega | (simp; omega)) nn_0; replace nn_1 := bc hb1 (by first | omega | (simp; omega)) nn_1; replace bb_0 := bc hb1 (by first | omega | (simp; omega)) bb_0; replace bb_1 := bc hb1 (by first | omega | (simp; omega)) bb_1; replace bb_2 := bc hb1 (by first | omega | (simp; omega)) bb_2; replace hh_0 := bc hb1 (by first | omega | (simp; omega)) hh_0; replace hh_1 := bc hb1 (by first | omega | (simp; omega)) hh_1; replace tl_0 := bc hb1 (by first | omega | (simp; omega)) tl_0; replace tu_0 := bc hb1 (by first | omega | (simp; omega)) tu_0; clear hW1 hga)); (first | (refine hK.out _ _ ?hSz6 (fun hHeldN => ?rez6)) | (go_wp2_with fail; refine hK.out _ _ ?hTz6 (fun hHeldN => ?rfz6))); (first | (case hSz6 => ((try dsimp only); (first | exact ⟨nn_0, nn_1, bb_0, bb_1, bb_2, hh_0, hh_1, tl_0, tu_0⟩ | (simp [go_sem, nn_0, nn_1, bb_0, bb_1, bb_2, hh_0, hh_1, tl_0, tu_0]; done) | (simp [go_sem, nn_0, nn_1, bb_0, bb_1, bb_2, hh_0, hh_1, tl_0, tu_0, hy_nn, hy_bb, hy_hh, hy_tl, hy_tu]; done) | go_keep))) | (case hTz6 => ((try dsimp only); (first | exact ⟨nn_0, nn_1, bb_0, bb_1, bb_2, hh_0, hh_1, tl_0, tu_0⟩ | (simp [go_sem, nn_0, nn_1, bb_0, bb_1, bb_2, hh_0, hh_1, tl_0, tu_0]; done) | (simp [go_sem, nn_0, nn_1, bb_0, bb_1, bb_2, hh_0, hh_1, tl_0, tu_0, hy_nn, hy_bb, hy_hh, hy_tl, hy_tu]; done) | go_keep)))); clear hHeld hK K; have hHeld := hHeldN; clear hHeldN; (try simp only [Act.put, List.getElem_toArray, List.getElem_cons_succ, List.getElem_cons_zero, List.setIfInBounds_toArray, List.set_cons_zero, List.set_cons_succ]); refine wpAnyH_take (i := 18) (oi := _) (v := ?vz5) rfl (by kernel_rfl) (by kernel_rfl) (by kernel_rfl) (fun _ _ _ h => h) (Or.inl ⟨by rfl, ?hyz5⟩) (by assumption) ?restz5; (case hyz5 => (intro w hSw; (try dsimp only at hSw); go_simp; (try with_reducible rfl))); (try simp only [Act.put, List.getElem_toArray, List.getElem_cons_succ, List.getElem_cons_zero, List.setIfInBounds_toArray, List.set_cons_zero, List.set_cons_succ]); refine wpAnyH_take (i := 19) (oi := _) (v := ?vz4) rfl (by kernel_rfl) (by kernel_rfl) (by kernel_rfl) (fun _ _ _ h => h) (Or.inl ⟨by rfl, ?hyz4⟩) (by assumption) ?restz4; (case hyz4 => (intro w hSw; (try dsimp only at hSw); go_simp; (try with_reducible rfl))); (try simp only [Act.put, List.getElem_toArray, List.getElem_cons_succ, List.getElem_cons_zero, List.setIfInBounds_toArray, List.set_cons_zero, List.set_cons_succ]); refine wpAnyH_done (by kernel_rfl) ?_ _; refine NoPanic.normal ?_))))))))
  all_goals
    go_wp2
    go_ret
    exact ⟨by rw [HE.out]; rfl, by (repeat' (first | (with_reducible exact Below.refl _ _) | (with_reducible assumption) | (with_reducible refine Below.alloc ?_ ?_ _) | (with_reducible refine Below.drew ?_) | (with_reducible refine Below.drewN' ?_ _) | (with_reducible refine Below.setCell ?_ ?_ _) | (refine Below.via ?_ (by with_reducible assumption) ?_) | (with_reducible refine Below.via ?_ (Wd.h _) ?_) | go_size))⟩
set_option maxRecDepth 100000 in
set_option maxHeartbeats 4000000 in
theorem slices_IndexFuncFt (G A B Al Ah An : Option Addr) (cg n c m d nl nh nn cl ch cn bn bb bh ng : Nat) (N : Net) (ll lh ln : List Int) (x : Hr) (w : World) (hG : Rd w G ((idxL ng).map iV)) (hng : ng = N.nodes.length) (hN : NetAt w A B N) (hn : n = N.nodes.length) (hm : m = N.pipes.length) (hO : N.Ok) (h : BufAt w Al Ah An ll lh ln) (e1 : nl = ll.length) (e2 : nh = lh.length) (e3 : nn = ln.length) (hat : HrAt w x) (hx : hrB N.pipes.length N.nodes.length x = true) (hbo : BufOk N.nodes.length ll lh ln) (hbx : FtBox w A B Al Ah An n c m d nl nh nn cl ch cn bn bb bh x) :
    Calls Try.prog 56 #[.slice G ng cg, .func (.func 58) #[] #[.pointer (some ⟨bn, 0, none⟩), .pointer (some ⟨bb, 0, none⟩), .pointer (some ⟨bh, 0, none⟩)]] w fun e w' => e = .returned (.int .i64 (ftF (trB (nextL N ln x.su x.fl) ll lh) 0 N.nodes.length)) ∧ Below w.heap.size w w' := by
  subst hng hn hm e1 e2 e3
  have HG := Lib.hid hG
  have HN := Lib.hid hN
  have HR := Lib.hid h
  have HA := Lib.hid hat
  have HX := Lib.hid hx
  have HO := Lib.hid hO
  have HBO := Lib.hid hbo
  have HBX := Lib.hid hbx
  have h24 := hO.n2
  clear hG hN h hat hx hO hbo hbx
  go_enter Try.func56, Try.ntmps56
  go_wp2
  go_loopw [8] (fun v wr => ∃ k : Nat, k ≤ N.nodes.length ∧ v = .int .i64 k ∧ ftF (trB (nextL N ln x.su x.fl) ll lh) k (N.nodes.length - k) = ftF (trB (nextL N ln x.su x.fl) ll lh) 0 N.nodes.length ∧ Below w.heap.size w wr) (fun v _ => N.nodes.length - (intOf v).toNat)
  case atStart => exact ⟨0, by omega, rfl, by simp, by (repeat' (first | (with_reducible exact Below.refl _ _) | (with_reducible assumption) | (with_reducible refine Below.alloc ?_ ?_ _) | (with_reducible refine Below.drew ?_) | (with_reducible refine Below.drewN' ?_ _) | (with_reducible refine Below.setCell ?_ ?_ _) | (refine Below.via ?_ (by with_reducible assumption) ?_) | (with_reducible refine Below.via ?_ (Wd.h _) ?_) | go_size))⟩
  case round =>
    obtain ⟨k, hk, rfl, hF, hbw⟩ := hrel
    have hbH := Lib.hid hbw
    have HF := Lib.hid hF
    have hzr := hbw.size
    clear hF
    by_cases hlt : k < N.nodes.length
    · obtain ⟨b, off, rfl, hb, hatg⟩ := HG.out.opened (k := k) (by simp [idxL_len]; omega)
      have t0 := ints_at (hatg.below hbw hb) (idxL_get hlt)
      have g1 : (k : Int) < N.nodes.length := by omega
      have hNk := Lib.hid (show N.nodes.length - k = (N.nodes.length - (k + 1)) + 1 by omega)
      clear hatg hbw
      cases hb2 : trB (nextL N ln x.su x.fl) ll lh k
      · have HB2 := Lib.hid hb2
        go_wp2_with fail
        refine (impl_FirstTrouble1 _ _ _ _ _ _ _ _ _ _ _ _ _ _ _ _ _ _ k N ll lh ln x _ (HN.out.below hbH.out) rfl rfl HO.out (HR.out.below hbH.out) rfl rfl rfl (HA.out.below hbH.out) HX.out HBO.out (HBX.out.below hbH.out) hlt).mono ?_
        rintro e w1 ⟨rfl, hb1⟩
        rw [HB2.out]
        clear hb2
        go_wp2
        go_ret
        refine ⟨ri ?_, by have h1 := hbH.out; (repeat' (first | (with_reducible exact Below.refl _ _) | (with_reducible assumption) | (with_reducible refine Below.alloc ?_ ?_ _) | (with_reducible refine Below.drew ?_) | (with_reducible refine Below.drewN' ?_ _) | (with_reducible refine Below.setCell ?_ ?_ _) | (refine Below.via ?_ (by with_reducible assumption) ?_) | (with_reducible refine Below.via ?_ (Wd.h _) ?_) | go_size))⟩
        rw [← HF.out, hNk.out, ftF, if_pos HB2.out]
      · have HB2 := Lib.hid hb2
        go_wp2_with fail
        refine (impl_FirstTrouble1 _ _ _ _ _ _ _ _ _ _ _ _ _ _ _ _ _ _ k N ll lh ln x _ (HN.out.below hbH.out) rfl rfl HO.out (HR.out.below hbH.out) rfl rfl rfl (HA.out.below hbH.out) HX.out HBO.out (HBX.out.below hbH.out) hlt).mono ?_
        rintro e w1 ⟨rfl, hb1⟩
        rw [HB2.out]
        clear hb2
        go_wp2
        go_roundw
        case rel =>
          refine ⟨k + 1, by omega, by go_num, ?_, by have h1 := hbH.out; (repeat' (first | (with_reducible exact Below.refl _ _) | (with_reducible assumption) | (with_reducible refine Below.alloc ?_ ?_ _) | (with_reducible refine Below.drew ?_) | (with_reducible refine Below.drewN' ?_ _) | (with_reducible refine Below.setCell ?_ ?_ _) | (refine Below.via ?_ (by with_reducible assumption) ?_) | (with_reducible refine Below.via ?_ (Wd.h _) ?_) | go_size))⟩
          rw [← HF.out, hNk.out, ftF, if_neg (by rw [HB2.out]; simp)]
        case measure => simp [intOf]; omega
    · clear hbw
      go_wp2
      go_ret
      refine ⟨ri ?_, hbH.out⟩
      rw [← HF.out, show N.nodes.length - k = 0 by omega, ftF]
set_option maxRecDepth 100000 in
set_option maxHeartbeats 4000000 in
theorem impl_FirstTrouble (A B Al Ah An : Option Addr) (n c m d nl nh nn cl ch cn : Nat) (N : Net) (ll lh ln : List Int) (x : Hr) (w : World) (hN : NetAt w A B N) (hn : n = N.nodes.length) (hm : m = N.pipes.length) (hc : n ≤ c) (h : BufAt w Al Ah An ll lh ln) (e1 : nl = ll.length) (e2 : nh = lh.length) (e3 : nn = ln.length) (hat : HrAt w x) :
    Calls Try.prog 18 #[netV A B n c m d, bufV Al Ah An nl nh nn cl ch cn, x.val] w fun e w' => e = .returned (.tuple #[.int .i64 (ftR N ll lh ln x).1, .int .i64 (ftR N ll lh ln x).2]) ∧ Below w.heap.size w w' := by
  subst hn hm e1 e2 e3
  have HN := Lib.hid hN
  have HR := Lib.hid h
  have HA := Lib.hid hat
  have hln := hN.ln
  clear hN h hat
  have HC1 := Lib.hid (hrsC_one N ll lh ln x)
  go_enter Try.func18, Try.ntmps18
  go_wp2_with fail
  
  refine (impl_checkBuffers _ _ _ _ _ _ _ _ _ _ _ _ _ _ _ _ _ N ll lh ln [x] _ (HN.out.below (by (repeat' (first | (with_reducible exact Below.refl _ _) | (with_reducible assumption) | (with_reducible refine Below.alloc ?_ ?_ _) | (with_reducible refine Below.drew ?_) | (with_reducible refine Below.drewN' ?_ _) | (with_reducible refine Below.setCell ?_ ?_ _) | (refine Below.via ?_ (by with_reducible assumption) ?_) | (with_reducible refine Below.via ?_ (Wd.h _) ?_) | go_size)))) rfl rfl hc (HR.out.below (by (repeat' (first | (with_reducible exact Below.refl _ _) | (with_reducible assumption) | (with_reducible refine Below.alloc ?_ ?_ _) | (with_reducible refine Below.drew ?_) | (with_reducible refine Below.drewN' ?_ _) | (with_reducible refine Below.setCell ?_ ?_ _) | (refine Below.via ?_ (by with_reducible assumption) ?_) | (with_reducible refine Below.via ?_ (Wd.h _) ?_) | go_size)))) rfl rfl rfl ?hH ?hA (by simp)).mono ?_
  case hH => exact Rd.two (by simp)
  case hA => exact fun y hy => by obtain rfl : y = x := by simpa using hy
                                  exact HA.out.below (by (repeat' (first | (with_reducible exact Below.refl _ _) | (with_reducible assumption) | (with_reducible refine Below.alloc ?_ ?_ _) | (with_reducible refine Below.drew ?_) | (with_reducible refine Below.drewN' ?_ _) | (with_reducible refine Below.setCell ?_ ?_ _) | (refine Below.via ?_ (by with_reducible assumption) ?_) | (with_reducible refine Below.via ?_ (Wd.h _) ?_) | go_size)))
  rintro e w1 ⟨rfl, hb1⟩
  rw [HC1.out]
  (obtain ⟨hcn, hfn⟩ := bcell hb1; have hz1 := hb1.size; (try simp at hz1); have Ncw0_0 := hcn (w.heap.size) (0) (by first | omega | (simp; done) | (simp; omega)); have Nfw0_0 := hfn (w.heap.size) (0) (by first | omega | (simp; done) | (simp; omega)); have Nhy0 : w.heap.size < w1.heap.size := (by omega); have Ncw0_1 := hcn (w.heap.size) (1) (by first | omega | (simp; done) | (simp; omega)); have Nfw0_1 := hfn (w.heap.size) (1) (by first | omega | (simp; done) | (simp; omega)); have Ncw1_0 := hcn (w.heap.size + 1) (0) (by first | omega | (simp; done) | (simp; omega)); have Nfw1_0 := hfn (w.heap.size + 1) (0) (by first | omega | (simp; done) | (simp; omega)); have Nhy1 : w.heap.size + 1 < w1.heap.size := (by omega); have Ncw1_1 := hcn (w.heap.size + 1) (1) (by first | omega | (simp; done) | (simp; omega)); have Nfw1_1 := hfn (w.heap.size + 1) (1) (by first | omega | (simp; done) | (simp; omega)); have Ncw1_2 := hcn (w.heap.size + 1) (2) (by first | omega | (simp; done) | (simp; omega)); have Nfw1_2 := hfn (w.heap.size + 1) (2) (by first | omega | (simp; done) | (simp; omega)); have Ncw2_0 := hcn (w.heap.size + 2) (0) (by first | omega | (simp; done) | (simp; omega)); have Nfw2_0 := hfn (w.heap.size + 2) (0) (by first | omega | (simp; done) | (simp; omega)); have Nhy2 : w.heap.size + 2 < w1.heap.size := (by omega); have Ncw2_1 := hcn (w.heap.size + 2) (1) (by first | omega | (simp; done) | (simp; omega)); have Nfw2_1 := hfn (w.heap.size + 2) (1) (by first | omega | (simp; done) | (simp; omega)); simp [go_sem] at Ncw0_0 Nfw0_0 Ncw0_1 Nfw0_1 Ncw1_0 Nfw1_0 Ncw1_1 Nfw1_1 Ncw1_2 Nfw1_2 Ncw2_0 Nfw2_0 Ncw2_1 Nfw2_1; clear hcn hfn; have cw0_0 := Ncw0_0; have fw0_0 := Nfw0_0; have cw0_1 := Ncw0_1; have fw0_1 := Nfw0_1; have cw1_0 := Ncw1_0; have fw1_0 := Nfw1_0; have cw1_1 := Ncw1_1; have fw1_1 := Nfw1_1; have cw1_2 := Ncw1_2; have fw1_2 := Nfw1_2; have cw2_0 := Ncw2_0; have fw2_0 := Nfw2_0; have cw2_1 := Ncw2_1; have fw2_1 := Nfw2_1; have hy0 := Nhy0; have hy1 := Nhy1; have hy2 := Nhy2; clear Ncw0_0 Nfw0_0 Ncw0_1 Nfw0_1 Ncw1_0 Nfw1_0 Ncw1_1 Nfw1_1 Ncw1_2 Nfw1_2 Ncw2_0 Nfw2_0 Ncw2_1 Nfw2_1 Nhy0 Nhy1 Nhy2)
  by_cases h0 : hrC N ll lh ln x = 0
  · have b0 : (hrC N ll lh ln x != 0) = false := by simp [h0]
    have HH := Lib.hid (hrC_of h0)
    have HBK := Lib.hid (bufC_of (hrC_of h0).1)
    have HRR := Lib.hid (show ftR N ll lh ln x = (ftF (trB (nextL N ln x.su x.fl) ll lh) 0 N.nodes.length, 0) by simp [ftR, h0])
    clear h0
    go_wp2_with fail
    refine (impl_indicesOf _ _ _ _ _ _ _ hln).mono ?_
    rintro e w2 ⟨G, cg, rfl, hcg, hW2, hb2⟩
    have HW2 := Lib.hid hW2
    clear hW2
    (obtain ⟨hcn, hfn⟩ := bcell hb2; have hz2 := hb2.size; (try simp at hz2); have Ncw0_0 := hcn (w.heap.size) (0) (by first | omega | (simp; done) | (simp; omega)); have Nfw0_0 := hfn (w.heap.size) (0) (by first | omega | (simp; done) | (simp; omega)); have Nhy0 : w.heap.size < w2.heap.size := (by omega); have Ncw0_1 := hcn (w.heap.size) (1) (by first | omega | (simp; done) | (simp; omega)); have Nfw0_1 := hfn (w.heap.size) (1) (by first | omega | (simp; done) | (simp; omega)); have Ncw1_0 := hcn (w.heap.size + 1) (0) (by first | omega | (simp; done) | (simp; omega)); have Nfw1_0 := hfn (w.heap.size + 1) (0) (by first | omega | (simp; done) | (simp; omega)); have Nhy1 : w.heap.size + 1 < w2.heap.size := (by omega); have Ncw1_1 := hcn (w.heap.size + 1) (1) (by first | omega | (simp; done) | (simp; omega)); have Nfw1_1 := hfn (w.heap.size + 1) (1) (by first | omega | (simp; done) | (simp; omega)); have Ncw1_2 := hcn (w.heap.size + 1) (2) (by first | omega | (simp; done) | (simp; omega)); have Nfw1_2 := hfn (w.heap.size + 1) (2) (by first | omega | (simp; done) | (simp; omega)); have Ncw2_0 := hcn (w.heap.size + 2) (0) (by first | omega | (simp; done) | (simp; omega)); have Nfw2_0 := hfn (w.heap.size + 2) (0) (by first | omega | (simp; done) | (simp; omega)); have Nhy2 : w.heap.size + 2 < w2.heap.size := (by omega); have Ncw2_1 := hcn (w.heap.size + 2) (1) (by first | omega | (simp; done) | (simp; omega)); have Nfw2_1 := hfn (w.heap.size + 2) (1) (by first | omega | (simp; done) | (simp; omega)); simp [go_sem, cw0_0, fw0_0, cw0_1, fw0_1, cw1_0, fw1_0, cw1_1, fw1_1, cw1_2, fw1_2, cw2_0, fw2_0, cw2_1, fw2_1, hy0, hy1, hy2] at Ncw0_0 Nfw0_0 Ncw0_1 Nfw0_1 Ncw1_0 Nfw1_0 Ncw1_1 Nfw1_1 Ncw1_2 Nfw1_2 Ncw2_0 Nfw2_0 Ncw2_1 Nfw2_1; clear cw0_0 fw0_0 cw0_1 fw0_1 cw1_0 fw1_0 cw1_1 fw1_1 cw1_2 fw1_2 cw2_0 fw2_0 cw2_1 fw2_1 hy0 hy1 hy2; clear hcn hfn; have cw0_0 := Ncw0_0; have fw0_0 := Nfw0_0; have cw0_1 := Ncw0_1; have fw0_1 := Nfw0_1; have cw1_0 := Ncw1_0; have fw1_0 := Nfw1_0; have cw1_1 := Ncw1_1; have fw1_1 := Nfw1_1; have cw1_2 := Ncw1_2; have fw1_2 := Nfw1_2; have cw2_0 := Ncw2_0; have fw2_0 := Nfw2_0; have cw2_1 := Ncw2_1; have fw2_1 := Nfw2_1; have hy0 := Nhy0; have hy1 := Nhy1; have hy2 := Nhy2; clear Ncw0_0 Nfw0_0 Ncw0_1 Nfw0_1 Ncw1_0 Nfw1_0 Ncw1_1 Nfw1_1 Ncw1_2 Nfw1_2 Ncw2_0 Nfw2_0 Ncw2_1 Nfw2_1 Nhy0 Nhy1 Nhy2)
    have HBX := Lib.hid (show FtBox w2 A B Al Ah An N.nodes.length c N.pipes.length d ll.length lh.length ln.length cl ch cn w.heap.size (w.heap.size + 1) (w.heap.size + 2) x from ⟨cw0_0, cw0_1, cw1_0, cw1_1, cw1_2, cw2_0, cw2_1, by omega, by omega, by omega⟩)
    go_wp2_with fail
    refine (slices_IndexFuncFt _ _ _ _ _ _ _ _ _ _ _ _ _ _ _ _ _ _ _ _ _ N ll lh ln x _ HW2.out.rd rfl (HN.out.below (by (repeat' (first | (with_reducible exact Below.refl _ _) | (with_reducible assumption) | (with_reducible refine Below.alloc ?_ ?_ _) | (with_reducible refine Below.drew ?_) | (with_reducible refine Below.drewN' ?_ _) | (with_reducible refine Below.setCell ?_ ?_ _) | (refine Below.via ?_ (by with_reducible assumption) ?_) | (with_reducible refine Below.via ?_ (Wd.h _) ?_) | go_size)))) rfl rfl HBK.out.1 (HR.out.below (by (repeat' (first | (with_reducible exact Below.refl _ _) | (with_reducible assumption) | (with_reducible refine Below.alloc ?_ ?_ _) | (with_reducible refine Below.drew ?_) | (with_reducible refine Below.drewN' ?_ _) | (with_reducible refine Below.setCell ?_ ?_ _) | (refine Below.via ?_ (by with_reducible assumption) ?_) | (with_reducible refine Below.via ?_ (Wd.h _) ?_) | go_size)))) rfl rfl rfl (HA.out.below (by (repeat' (first | (with_reducible exact Below.refl _ _) | (with_reducible assumption) | (with_reducible refine Below.alloc ?_ ?_ _) | (with_reducible refine Below.drew ?_) | (with_reducible refine Below.drewN' ?_ _) | (with_reducible refine Below.setCell ?_ ?_ _) | (refine Below.via ?_ (by with_reducible assumption) ?_) | (with_reducible refine Below.via ?_ (Wd.h _) ?_) | go_size)))) HH.out.2 HBK.out.2 HBX.out).mono ?_
    rintro e w3 ⟨rfl, hb3⟩
    go_wp2
    go_ret2
    exact ⟨ri2 (by rw [HRR.out]) (by rw [HRR.out]), by (repeat' (first | (with_reducible exact Below.refl _ _) | (with_reducible assumption) | (with_reducible refine Below.alloc ?_ ?_ _) | (with_reducible refine Below.drew ?_) | (with_reducible refine Below.drewN' ?_ _) | (with_reducible refine Below.setCell ?_ ?_ _) | (refine Below.via ?_ (by with_reducible assumption) ?_) | (with_reducible refine Below.via ?_ (Wd.h _) ?_) | go_size))⟩
  · have b0 : (hrC N ll lh ln x != 0) = true := by simp [h0]
    have HRR := Lib.hid (show ftR N ll lh ln x = (0, hrC N ll lh ln x) by simp [ftR, h0])
    clear h0
    go_wp2
    go_ret2
    exact ⟨ri2 (by rw [HRR.out]) (by rw [HRR.out]), by (repeat' (first | (with_reducible exact Below.refl _ _) | (with_reducible assumption) | (with_reducible refine Below.alloc ?_ ?_ _) | (with_reducible refine Below.drew ?_) | (with_reducible refine Below.drewN' ?_ _) | (with_reducible refine Below.setCell ?_ ?_ _) | (refine Below.via ?_ (by with_reducible assumption) ?_) | (with_reducible refine Below.via ?_ (Wd.h _) ?_) | go_size))⟩
end Go.Proofs.Ytbkeijhlobdkeaa

/- The bounds of the linepack. -/
import Derived.Test.YtkagnkecgkmpcaaLv
import Derived.Test.YtkagnkecgkmpcaaAp2
import Derived.Deep.RegionHeld3
namespace Go.Proofs.Ytkagnkecgkmpcaa
set_option linter.unusedVariables false
set_option linter.unusedSimpArgs false
open Go.RowKit
noncomputable def bndR (N : Net) : Int × Int × Int := if netB N = false then (0, 0, 1) else (lineF (N.nodes.map Nd.lo) N.pipes, lineF (N.nodes.map Nd.hi) N.pipes, 0)
theorem node_lh {N : Net} (h : N.Ok) {x : Nd} (hx : x ∈ N.nodes) : 0 ≤ x.lo ∧ x.lo ≤ x.hi ∧ x.hi ≤ 100000000 := by
  obtain ⟨i, hi⟩ := List.getElem?_of_mem hx
  obtain ⟨hlt, e⟩ := List.getElem?_eq_some_iff.1 hi
  have := h.nodes i hlt x hi
  have h1 := this.1
  simp [nodeB] at h1
  omega
theorem lv_lo {N : Net} (h : N.Ok) : LvOk (N.nodes.map Nd.lo) N.nodes.length := ⟨by simp, fun y hy => by
  obtain ⟨x, hx, rfl⟩ := List.mem_map.1 hy
  have := node_lh h hx; omega⟩
theorem lv_hi {N : Net} (h : N.Ok) : LvOk (N.nodes.map Nd.hi) N.nodes.length := ⟨by simp, fun y hy => by
  obtain ⟨x, hx, rfl⟩ := List.mem_map.1 hy
  have := node_lh h hx; omega⟩
theorem ri3' {a b c : Int} {p : Int × Int × Int} (h : p = (a, b, c)) : Ending.returned (.tuple #[.int .i64 a, .int .i64 b, .int .i64 c]) = .returned (.tuple #[.int .i64 p.1, .int .i64 p.2.1, .int .i64 p.2.2]) := by rw [h]
theorem spec_l18Total' (A B C : Option Addr) (n c m d e nl : Nat) (N : Net) (lv : List Int) (w : World) (hN : NetAt w A B N) (hn : n = N.nodes.length) (hm : m = N.pipes.length) (hO : N.Ok) (hv : LvOk lv N.nodes.length) (h : Rd w C (lv.map iV)) (hl : nl = N.nodes.length) :
    Calls Try.prog 28 #[netV A B n c m d, .slice C nl e] w fun e w' => e = .returned (.int .i64 (lineF lv N.pipes)) ∧ Below w.heap.size w w' := by
  obtain rfl : nl = lv.length := by rw [hl, hv.1]
  exact spec_l18Total A B C n c m d e N lv w hN hn hm hO hv h (by have := hN.ln; omega)
theorem impl_linepackOf' (A B C : Option Addr) (n c m d e nl : Nat) (N : Net) (lv : List Int) (w : World) (hN : NetAt w A B N) (hn : n = N.nodes.length) (hm : m = N.pipes.length) (hO : N.Ok) (hv : LvOk lv N.nodes.length) (h : Rd w C (lv.map iV)) (hl : nl = N.nodes.length) :
    Calls Try.prog 26 #[netV A B n c m d, .slice C nl e] w fun e w' => e = .returned (.int .i64 (lineF lv N.pipes)) ∧ Below w.heap.size w w' := by
  obtain rfl : nl = lv.length := by rw [hl, hv.1]
  exact impl_linepackOf A B C n c m d e N lv w hN hn hm hO hv h (by have := hN.ln; omega)
set_option maxRecDepth 100000 in
set_option maxHeartbeats 4000000 in
theorem impl_PackBounds (A B : Option Addr) (n c m d : Nat) (N : Net) (w : World) (hN : NetAt w A B N) (hn : n = N.nodes.length) (hm : m = N.pipes.length) (hc : n ≤ c) :
    Calls Try.prog 17 #[netV A B n c m d] w fun e w' => e = .returned (.tuple #[.int .i64 (bndR N).1, .int .i64 (bndR N).2.1, .int .i64 (bndR N).2.2]) ∧ Below w.heap.size w w' := by
  subst hn hm
  have HN := Lib.hid hN
  have hln := hN.ln
  have hlp := hN.lp
  clear hN
  cases hb : netB N
  · (go_enter Try.func17, Try.ntmps17; go_wp2_with (first | (go_at_call 31; ((with_reducible refine (impl_IsNetwork _ _ _ _ _ _ N _ (by exact HN.out.below (by (repeat' (first | (with_reducible exact Below.refl _ _) | (with_reducible assumption) | (with_reducible refine Below.alloc ?_ ?_ _) | (with_reducible refine Below.drew ?_) | (with_reducible refine Below.drewN' ?_ _) | (with_reducible refine Below.setCell ?_ ?_ _) | (refine Below.via ?_ (by with_reducible assumption) ?_) | (with_reducible refine Below.via ?_ (Wd.h _) ?_) | go_size)))) rfl rfl (by omega)).mono ?_)); rintro e wn ⟨rfl, hbn⟩; (obtain ⟨hcn, hfn⟩ := bcell hbn; have hzn := hbn.size; (try simp at hzn); have Ncw0_0 := hcn (w.heap.size) (0) (by first | omega | (simp; done) | (simp; omega)); have Nfw0_0 := hfn (w.heap.size) (0) (by first | omega | (simp; done) | (simp; omega)); have Nhy0 : w.heap.size < wn.heap.size := (by omega); have Ncw0_1 := hcn (w.heap.size) (1) (by first | omega | (simp; done) | (simp; omega)); have Nfw0_1 := hfn (w.heap.size) (1) (by first | omega | (simp; done) | (simp; omega)); (first | (simp [go_sem, cw0_0, fw0_0, cw0_1, fw0_1, hy0] at Ncw0_0 Nfw0_0 Ncw0_1 Nfw0_1; clear cw0_0 fw0_0 cw0_1 fw0_1) | (simp [go_sem] at Ncw0_0 Nfw0_0 Ncw0_1 Nfw0_1)); clear hcn hfn; have cw0_0 := Ncw0_0; have fw0_0 := Nfw0_0; have cw0_1 := Ncw0_1; have fw0_1 := Nfw0_1; have hy0 := Nhy0; clear Ncw0_0 Nfw0_0 Ncw0_1 Nfw0_1 Nhy0))))
    go_ret3
    exact ⟨ri3' (by simp [bndR, hb]), by (repeat' (first | (with_reducible exact Below.refl _ _) | (with_reducible assumption) | (with_reducible refine Below.alloc ?_ ?_ _) | (with_reducible refine Below.drew ?_) | (with_reducible refine Below.drewN' ?_ _) | (with_reducible refine Below.setCell ?_ ?_ _) | (refine Below.via ?_ (by with_reducible assumption) ?_) | (with_reducible refine Below.via ?_ (Wd.h _) ?_) | go_size))⟩
  have HR := Lib.hid (show bndR N = (lineF (N.nodes.map Nd.lo) N.pipes, lineF (N.nodes.map Nd.hi) N.pipes, 0) by simp [bndR, hb])
  have HO := Lib.hid (netB_ok hb)
  have h24 := HO.out.n2
  (go_enter Try.func17, Try.ntmps17; go_wp2_with (first | (go_at_call 31; ((with_reducible refine (impl_IsNetwork _ _ _ _ _ _ N _ (by exact HN.out.below (by (repeat' (first | (with_reducible exact Below.refl _ _) | (with_reducible assumption) | (with_reducible refine Below.alloc ?_ ?_ _) | (with_reducible refine Below.drew ?_) | (with_reducible refine Below.drewN' ?_ _) | (with_reducible refine Below.setCell ?_ ?_ _) | (refine Below.via ?_ (by with_reducible assumption) ?_) | (with_reducible refine Below.via ?_ (Wd.h _) ?_) | go_size)))) rfl rfl (by omega)).mono ?_)); rintro e wn ⟨rfl, hbn⟩; (obtain ⟨hcn, hfn⟩ := bcell hbn; have hzn := hbn.size; (try simp at hzn); have Ncw0_0 := hcn (w.heap.size) (0) (by first | omega | (simp; done) | (simp; omega)); have Nfw0_0 := hfn (w.heap.size) (0) (by first | omega | (simp; done) | (simp; omega)); have Nhy0 : w.heap.size < wn.heap.size := (by omega); have Ncw0_1 := hcn (w.heap.size) (1) (by first | omega | (simp; done) | (simp; omega)); have Nfw0_1 := hfn (w.heap.size) (1) (by first | omega | (simp; done) | (simp; omega)); (first | (simp [go_sem, cw0_0, fw0_0, cw0_1, fw0_1, hy0] at Ncw0_0 Nfw0_0 Ncw0_1 Nfw0_1; clear cw0_0 fw0_0 cw0_1 fw0_1) | (simp [go_sem] at Ncw0_0 Nfw0_0 Ncw0_1 Nfw0_1)); clear hcn hfn; have cw0_0 := Ncw0_0; have fw0_0 := Nfw0_0; have cw0_1 := Ncw0_1; have fw0_1 := Nfw0_1; have hy0 := Nhy0; clear Ncw0_0 Nfw0_0 Ncw0_1 Nfw0_1 Nhy0))))
  go_loopw [5, 6, 15] (fun u v i wr => ∃ k : Nat, k ≤ N.nodes.length ∧ i = .int .i64 k ∧ Own wr (w.heap.size + 1) 2 1 u k (((N.nodes.take k).map Nd.lo).map iV) ∧ Own wr (w.heap.size + 1) 2 1 v k (((N.nodes.take k).map Nd.hi).map iV) ∧ Apart u v ∧ Bx wr w.heap.size [.slice A N.nodes.length c, .slice B N.pipes.length d] ∧ Below w.heap.size w wr) (fun _ _ i _ => N.nodes.length - (intOf i).toNat)
  case atStart =>
    exact ⟨0, by omega, rfl, by simpa using Own.nil wn (w.heap.size + 1) 2 1, by simpa using Own.nil wn (w.heap.size + 1) 2 1, Apart.nil_l _, (bx2 (by first | exact hy0 | go_size) (by first | (with_reducible exact cw0_0) | go_cell_look | (simp [go_sem, hy0, cw0_0, fw0_0, cw0_1, fw0_1]; done) | (simp [go_sem]; done)) (by first | (with_reducible exact fw0_0) | (simp only [World.frozen?_setCell, fw0_0]; done) | (simp [go_sem, hy0, cw0_0, fw0_0, cw0_1, fw0_1]; done) | (simp [go_sem]; done)) (by first | (with_reducible exact cw0_1) | go_cell_look | (simp [go_sem, hy0, cw0_0, fw0_0, cw0_1, fw0_1]; done) | (simp [go_sem]; done)) (by first | (with_reducible exact fw0_1) | (simp only [World.frozen?_setCell, fw0_1]; done) | (simp [go_sem, hy0, cw0_0, fw0_0, cw0_1, fw0_1]; done) | (simp [go_sem]; done))), by (repeat' (first | (with_reducible exact Below.refl _ _) | (with_reducible assumption) | (with_reducible refine Below.alloc ?_ ?_ _) | (with_reducible refine Below.drew ?_) | (with_reducible refine Below.drewN' ?_ _) | (with_reducible refine Below.setCell ?_ ?_ _) | (refine Below.via ?_ (by with_reducible assumption) ?_) | (with_reducible refine Below.via ?_ (Wd.h _) ?_) | go_size))⟩
  case round =>
    obtain ⟨k, hk, rfl, hO1, hO2, hap, hB, hbw⟩ := hrel
    clear hbn hzn
    clear hy0 cw0_0 fw0_0 cw0_1 fw0_1
    have hbH := Lib.hid hbw
    have HO1 := Lib.hid hO1
    have HO2 := Lib.hid hO2
    have HAP := Lib.hid hap
    have hy0 := hB.lt; have cw0_0 := hB.cell 0 rfl; have fw0_0 := hB.frozen 0 rfl; have cw0_1 := hB.cell 1 rfl; have fw0_1 := hB.frozen 1 rfl
    have HBX := Lib.hid hB
    clear hO1 hO2 hap hB
    by_cases hlt : k < N.nodes.length
    · have HP := Lib.hid HN.out.nodes
      obtain ⟨x, hx⟩ := get_some hlt; obtain ⟨bx, offx, rfl, hbx, hat⟩ := HP.out.opened (k := k) (by rw [flat_len Nd.len]; omega); have hat' := hat.below hbw hbx; have hybx : bx < wr.heap.size := Nat.lt_of_lt_of_le hbx hbw.size; have hzw := hbw.size; have t0 := hat'.elem0 Nd.len hx rfl; have t1 := hat'.elem Nd.len hx 1 rfl; have t2 := hat'.elem Nd.len hx 2 rfl; have HX := Lib.hid hx; have HD := Lib.hid (drop_cons hx); have gx : (k : Int) < _ := Int.ofNat_lt.2 hlt; clear hx hat hat'
      clear hbw
      have hnb := hbx
      go_wp2_with fail
      generalize hW : wr.alloc _ = W0
      have c1 : W0.cell? ⟨wr.heap.size, 1, none⟩ = some (.int .i64 x.lo) := by rw [← hW]; simp
      have c2 : W0.cell? ⟨wr.heap.size, 2, none⟩ = some (.int .i64 x.hi) := by rw [← hW]; simp
      have K1 := Lib.hid (show Own W0 (w.heap.size + 1) 2 1 u5 k _ from hW ▸ HO1.out.alloc _)
      have K2 := Lib.hid (show Own W0 (w.heap.size + 1) 2 1 u6 k _ from hW ▸ HO2.out.alloc _)
      have hz0 : W0.heap.size = wr.heap.size + 1 := by rw [← hW]; simp
      have hbW := Lib.hid (show Below w.heap.size w W0 from hW ▸ (hbH.out.alloc hbH.out.size _))
      have BXW := Lib.hid (show Bx W0 w.heap.size _ from HBX.out.below (show Below wr.heap.size wr W0 from hW ▸ ((Below.refl _ _).alloc (Nat.le_refl _) _)) (by omega))
      have n1 := HO1.out.ne (b := wr.heap.size) (.inr (Nat.le_refl _))
      have n2 := HO2.out.ne (b := wr.heap.size) (.inr (Nat.le_refl _))
      have HAPa := HAP
      have HAPb := Lib.hid HAP.out.symm
      have hz1a : wr.heap.size < W0.heap.size := by omega
      have HZ0 := Lib.hid hz0
      clear hW hz0 cw0_0 cw0_1 fw0_0 fw0_1
      go_region_held3 (fun w' => w'.cell? ⟨wr.heap.size, 1, none⟩ = some (.int .i64 x.lo) ∧ w'.cell? ⟨wr.heap.size, 2, none⟩ = some (.int .i64 x.hi))
        (first
          | go_keep
          | (go_split_ands; refine ⟨?_, ?_⟩ <;> first | (rw [hF1.cell (by first | omega | (simp; omega)) n1]; first | assumption | (go_keep; done)) | (rw [hF2.cell (by first | omega | (simp; omega)) n2]; first | assumption | (go_keep; done))))
        (first
          | (apply step_of rfl; apply app1x (s := .tmp 19) (x := .tmp 22) (t := 28) (base := w.heap.size + 1) (hinfo := info_i64) (v := u5) (n := k) (xs := ((N.nodes.take k).map Nd.lo).map iV) (news := [iV x.lo]) (m := 1) (c := 1); (case ho => exact rfl); (case ht => exact Try.underlying28); (case hzs => exact rfl); (case hsz => omega); (case hby => omega); (case hs => exact rfl); (case hown => repeat' (first | (with_reducible exact K1.out) | (with_reducible refine Own.alloc ?_ _) | (with_reducible refine Own.drew ?_))); (case hx => exact rfl); (case hl => exact rfl); (case hnews => (intro j u hu; match j, hu with | 0, hu => (simp at hu; subst hu; simp) | j + 1, hu => simp at hu)); (case h1 => simp [Value.oneCell']); (case hm => omega); (case hn => omega); (case hbase => first | omega | (simp; omega)); intro v1 w1 hO1 hb1 hF1; have hz1 := hb1.size; (try simp at hz1); have HD1 := Lib.hid hO1; have HX2 := Lib.hid (hF1.own (show Own _ (w.heap.size + 1) 2 1 u6 k (((N.nodes.take k).map Nd.hi).map iV) from (by repeat' (first | (with_reducible exact K2.out) | (with_reducible refine Own.alloc ?_ _) | (with_reducible refine Own.drew ?_)))) HAPa.out); have HAP1 := Lib.hid (hF1.apart (show Own _ (w.heap.size + 1) 2 1 u6 k (((N.nodes.take k).map Nd.hi).map iV) from (by repeat' (first | (with_reducible exact K2.out) | (with_reducible refine Own.alloc ?_ _) | (with_reducible refine Own.drew ?_)))) HAPa.out); clear hO1)
          | (apply step_of rfl; apply app1x (s := .tmp 24) (x := .tmp 27) (t := 28) (base := w.heap.size + 1) (hinfo := info_i64) (v := u6) (n := k) (xs := ((N.nodes.take k).map Nd.hi).map iV) (news := [iV x.hi]) (m := 1) (c := 1); (case ho => exact rfl); (case ht => exact Try.underlying28); (case hzs => exact rfl); (case hsz => omega); (case hby => omega); (case hs => exact rfl); (case hown => repeat' (first | (with_reducible exact HX2.out) | (with_reducible refine Own.alloc ?_ _) | (with_reducible refine Own.drew ?_))); (case hx => exact rfl); (case hl => exact rfl); (case hnews => (intro j u hu; match j, hu with | 0, hu => (simp at hu; subst hu; first | (simp; done) | (rw [hF1.cell (by first | (simp; done) | (simp; omega)) (K1.out.ne (.inr (by first | (simp; done) | (simp; omega))))]; simp; done)) | j + 1, hu => simp at hu)); (case h1 => simp [Value.oneCell']); (case hm => omega); (case hn => omega); (case hbase => first | omega | (simp; omega)); intro v2 w2 hO2 hb2 hF2; have hz2 := hb2.size; (try simp at hz2); have FO2 := Lib.hid hO2; have FO1 := Lib.hid (hF2.own (show Own _ (w.heap.size + 1) 2 1 v1 (k + 1) (((N.nodes.take k).map Nd.lo).map iV ++ [iV x.lo]) from (by repeat' (first | (with_reducible exact HD1.out) | (with_reducible refine Own.alloc ?_ _) | (with_reducible refine Own.drew ?_)))) HAP1.out.symm); have FAP := Lib.hid (hF2.apart (show Own _ (w.heap.size + 1) 2 1 v1 (k + 1) (((N.nodes.take k).map Nd.lo).map iV ++ [iV x.lo]) from (by repeat' (first | (with_reducible exact HD1.out) | (with_reducible refine Own.alloc ?_ _) | (with_reducible refine Own.drew ?_)))) HAP1.out.symm).symm; clear hO2))
      all_goals
        go_wp2
        go_roundw
        case rel =>
          refine ⟨k + 1, by omega, by go_num, ?_, ?_, FAP.out, ?_, ?_⟩
          · rw [map_snoc HX.out, List.map_append]; exact FO1.out
          · rw [map_snoc HX.out, List.map_append]; exact FO2.out
          · have hb1' := hb1
            have hb2' := hb2
            exact BXW.out.below (B := w.heap.size + 1) (by (repeat' (first | (with_reducible exact Below.refl _ _) | (with_reducible assumption) | (with_reducible refine Below.alloc ?_ ?_ _) | (with_reducible refine Below.drew ?_) | (with_reducible refine Below.drewN' ?_ _) | (with_reducible refine Below.setCell ?_ ?_ _) | (refine Below.via ?_ (by with_reducible assumption) ?_) | (with_reducible refine Below.via ?_ (Wd.h _) ?_) | go_size))) (by omega)
          · exact (show Below w.heap.size w _ by have h1 := hbW.out; (repeat' (first | (with_reducible exact Below.refl _ _) | (with_reducible assumption) | (with_reducible refine Below.alloc ?_ ?_ _) | (with_reducible refine Below.drew ?_) | (with_reducible refine Below.drewN' ?_ _) | (with_reducible refine Below.setCell ?_ ?_ _) | (refine Below.via ?_ (by with_reducible assumption) ?_) | (with_reducible refine Below.via ?_ (Wd.h _) ?_) | go_size)))
        case measure => simp [intOf]; omega
    · obtain rfl : k = N.nodes.length := by omega
      obtain ⟨C1, e1, rfl, hn1, hr1, _⟩ := HO1.out.val
      obtain ⟨C2, e2, rfl, hn2, hr2, _⟩ := HO2.out.val
      rw [List.take_length] at hr1 hr2
      have HR1 := Lib.hid hr1
      have HR2 := Lib.hid hr2
      have HV1 := Lib.hid (lv_lo HO.out)
      have HV2 := Lib.hid (lv_hi HO.out)
      have HNr := Lib.hid (HN.out.below hbw)
      have hne : ¬ N.nodes.length < N.nodes.length := by omega
      clear hr1 hr2 hbw
      go_wp2_with fail
      (have qcw0_0 := Wd.cell hy0 cw0_0; have qcw0_1 := Wd.cell hy0 cw0_1; (refine wp_region_wd (by kernel_rfl) (by kernel_rfl) ?_); (repeat (go_big_quiet_step ((first | fail | (go_at_call 26; exact wd_below (impl_linepackOf' _ _ _ _ _ _ _ _ _ N (N.nodes.map Nd.lo) _ (HNr.out.below (Wd.h _)) rfl rfl HO.out HV1.out (HR1.out.below (Wd.h _)) rfl)) | (go_at_call 26; exact wd_below (impl_linepackOf' _ _ _ _ _ _ _ _ _ N (N.nodes.map Nd.hi) _ (HNr.out.below (Wd.h _)) rfl rfl HO.out HV2.out (HR2.out.below (Wd.h _)) rfl)) | (go_at_call 31; apply wd_below; with_reducible exact (impl_IsNetwork _ _ _ _ _ _ N _ (by exact HN.out.below (by (repeat' (first | (with_reducible exact Below.refl _ _) | (with_reducible assumption) | (with_reducible refine Below.alloc ?_ ?_ _) | (with_reducible refine Below.drew ?_) | (with_reducible refine Below.drewN' ?_ _) | (with_reducible refine Below.setCell ?_ ?_ _) | (refine Below.via ?_ (by with_reducible assumption) ?_) | (with_reducible refine Below.via ?_ (Wd.h _) ?_) | go_size)))) rfl rfl (by omega))) | (go_at_call 26; apply wd_below; with_reducible exact (impl_linepackOf _ _ _ _ _ _ _ _ N lv _ (by exact HN.out.below (by (repeat' (first | (with_reducible exact Below.refl _ _) | (with_reducible assumption) | (with_reducible refine Below.alloc ?_ ?_ _) | (with_reducible refine Below.drew ?_) | (with_reducible refine Below.drewN' ?_ _) | (with_reducible refine Below.setCell ?_ ?_ _) | (refine Below.via ?_ (by with_reducible assumption) ?_) | (with_reducible refine Below.via ?_ (Wd.h _) ?_) | go_size)))) rfl rfl HO.out HLV.out (by exact HL.out.below (by (repeat' (first | (with_reducible exact Below.refl _ _) | (with_reducible assumption) | (with_reducible refine Below.alloc ?_ ?_ _) | (with_reducible refine Below.drew ?_) | (with_reducible refine Below.drewN' ?_ _) | (with_reducible refine Below.setCell ?_ ?_ _) | (refine Below.via ?_ (by with_reducible assumption) ?_) | (with_reducible refine Below.via ?_ (Wd.h _) ?_) | go_size)))) (by omega))) | (go_at_call 26; apply wd_below; with_reducible exact (impl_linepackOf _ _ _ _ _ _ _ _ N lv2 _ (by exact HN.out.below (by (repeat' (first | (with_reducible exact Below.refl _ _) | (with_reducible assumption) | (with_reducible refine Below.alloc ?_ ?_ _) | (with_reducible refine Below.drew ?_) | (with_reducible refine Below.drewN' ?_ _) | (with_reducible refine Below.setCell ?_ ?_ _) | (refine Below.via ?_ (by with_reducible assumption) ?_) | (with_reducible refine Below.via ?_ (Wd.h _) ?_) | go_size)))) rfl rfl HO.out HLV2.out (by exact HL2.out.below (by (repeat' (first | (with_reducible exact Below.refl _ _) | (with_reducible assumption) | (with_reducible refine Below.alloc ?_ ?_ _) | (with_reducible refine Below.drew ?_) | (with_reducible refine Below.drewN' ?_ _) | (with_reducible refine Below.setCell ?_ ?_ _) | (refine Below.via ?_ (by with_reducible assumption) ?_) | (with_reducible refine Below.via ?_ (Wd.h _) ?_) | go_size)))) (by omega))) | (go_at_call 31; exact wd_below (impl_IsNetwork _ _ _ _ _ _ N _ (by exact HN.out.below (by (repeat' (first | (with_reducible exact Below.refl _ _) | (with_reducible assumption) | (with_reducible refine Below.alloc ?_ ?_ _) | (with_reducible refine Below.drew ?_) | (with_reducible refine Below.drewN' ?_ _) | (with_reducible refine Below.setCell ?_ ?_ _) | (refine Below.via ?_ (by with_reducible assumption) ?_) | (with_reducible refine Below.via ?_ (Wd.h _) ?_) | go_size)))) rfl rfl (by omega))))))); (refine wpQuiet_nil ?_); rintro wn ⟨⟨w'', hbn⟩, hw''⟩; obtain rfl : wn = w'' := hw''; clear qcw0_0 qcw0_1; (obtain ⟨hcn, hfn⟩ := bcell hbn; have hzn := hbn.size; (try simp at hzn); have Ncw0_0 := hcn (w.heap.size) (0) (by first | omega | (simp; done) | (simp; omega)); have Nfw0_0 := hfn (w.heap.size) (0) (by first | omega | (simp; done) | (simp; omega)); have Nhy0 : w.heap.size < wn.heap.size := (by omega); have Ncw0_1 := hcn (w.heap.size) (1) (by first | omega | (simp; done) | (simp; omega)); have Nfw0_1 := hfn (w.heap.size) (1) (by first | omega | (simp; done) | (simp; omega)); (first | (simp [go_sem, cw0_0, fw0_0, cw0_1, fw0_1, hy0] at Ncw0_0 Nfw0_0 Ncw0_1 Nfw0_1; clear cw0_0 fw0_0 cw0_1 fw0_1) | (simp [go_sem] at Ncw0_0 Nfw0_0 Ncw0_1 Nfw0_1)); clear hcn hfn; have cw0_0 := Ncw0_0; have fw0_0 := Nfw0_0; have cw0_1 := Ncw0_1; have fw0_1 := Nfw0_1; have hy0 := Nhy0; clear Ncw0_0 Nfw0_0 Ncw0_1 Nfw0_1 Nhy0))
      go_wp2
      go_ret3
      exact ⟨ri3' HR.out, by have h1 := hbH.out; (repeat' (first | (with_reducible exact Below.refl _ _) | (with_reducible assumption) | (with_reducible refine Below.alloc ?_ ?_ _) | (with_reducible refine Below.drew ?_) | (with_reducible refine Below.drewN' ?_ _) | (with_reducible refine Below.setCell ?_ ?_ _) | (refine Below.via ?_ (by with_reducible assumption) ?_) | (with_reducible refine Below.via ?_ (Wd.h _) ?_) | go_size))⟩
end Go.Proofs.Ytkagnkecgkmpcaa

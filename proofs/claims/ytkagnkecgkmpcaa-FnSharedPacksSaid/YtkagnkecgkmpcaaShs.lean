/- Shares by greatest rests: the walk of sharesOf. -/
import Derived.Test.YtkagnkecgkmpcaaShw
import Derived.Test.YtkagnkecgkmpcaaCa
import Derived.IntWalk
namespace Go.Proofs.Ytkagnkecgkmpcaa
set_option linter.unusedVariables false
set_option linter.unusedSimpArgs false
open Go.RowKit
theorem sumF_take {l : List Int} (h : ∀ x ∈ l, 0 ≤ x) (k : Nat) : 0 ≤ sumF (l.take k) ∧ sumF (l.take k) ≤ sumF l := by
  have e : sumF l = sumF (l.take k) + sumF (l.drop k) := by rw [← sumF_append, List.take_append_drop]
  have h1 := sumF_nonneg (l := l.take k) (fun x hx => h x (List.mem_of_mem_take hx))
  have h2 := sumF_nonneg (l := l.drop k) (fun x hx => h x (List.mem_of_mem_drop hx))
  omega
theorem sumF_snoc {l : List Int} {k : Nat} {x : Int} (h : l[k]? = some x) : sumF (l.take (k + 1)) = sumF (l.take k) + x := by
  rw [take_snocI h, sumF_append]; simp [sumF]
theorem ShOk.sml {total : Int} {ws : List Int} (h : ShOk total ws) : Sml ws := by
  refine fun x hx => ?_
  have := h.w0 x hx
  omega
theorem share_at {total s : Int} {ws : List Int} {k : Nat} {x : Int} (h : ws[k]? = some x) : (shareF total s ws)[k]? = some (total * x / s) := by simp [shareF, h]
theorem rest_at {total s : Int} {ws : List Int} {k : Nat} {x : Int} (h : ws[k]? = some x) : (restF total s ws)[k]? = some (total * x % s) := by simp [restF, h]
theorem two_made (w : World) (n : Nat) (e : TypeId) : Arr ((w.alloc (.cells (madeCells #[Value.int .i64 0] n) e)).alloc (.cells (madeCells #[Value.int .i64 0] n) e)).drew w.heap.size n ((List.replicate n (0 : Int)).map iV) ∧ Arr ((w.alloc (.cells (madeCells #[Value.int .i64 0] n) e)).alloc (.cells (madeCells #[Value.int .i64 0] n) e)).drew (w.heap.size + 1) n ((List.replicate n (0 : Int)).map iV) := by
  refine ⟨((Arr.madeI w n e).alloc _).drew, ?_⟩
  have := (Arr.madeI (w.alloc (.cells (madeCells #[Value.int .i64 0] n) e)) n e).drew
  rw [World.size_alloc] at this
  exact this
theorem slices_MaxI' (A : Option Addr) (c n : Nat) (l : List Int) (w : World) (h : Rd w A (l.map iV)) (hn : l.length = n) (hl : n ≤ 1048576) (h1 : 1 ≤ n) :
    Calls Try.prog 52 #[.slice A n c] w fun e w' => e = .returned (.int .i64 (maxL l)) ∧ w = w' := by
  subst hn
  exact slices_MaxI A c l w h hl h1
theorem slices_IndexB (A : Option Addr) (c n : Nat) (l : List Int) (w : World) (h : Rd w A (l.map iV)) (hn : l.length = n) (hl : n ≤ 1048576) (h1 : 1 ≤ n) :
    Calls Try.prog 51 #[.slice A n c, .int .i64 (maxL l)] w fun e w' => e = .returned (.int .i64 (best l : Nat)) ∧ w = w' := by
  subst hn
  have := slices_IndexI A c l (maxL l) w h hl
  rw [idx_best h1] at this
  exact this
set_option maxRecDepth 100000 in
set_option maxHeartbeats 8000000 in
theorem impl_sharesOf (A : Option Addr) (c : Nat) (total : Int) (ws : List Int) (w : World) (hk : ShOk total ws) (h : Rd w A (ws.map iV)) :
    Calls Try.prog 39 #[.int .i64 total, .slice A ws.length c] w (MadeL w 1 ws.length ((sharesF total ws).map iV)) := by
  have H := Lib.hid h
  have HK := Lib.hid hk
  have n64 := hk.n
  have n1 := hk.pos
  have t0 := hk.t0
  have t1 := hk.t1
  obtain ⟨s, hs⟩ : ∃ s, s = sumF ws := ⟨_, rfl⟩
  have s0 : 0 < s := by rw [hs]; exact hk.s
  have s1 : s ≤ 64000000000 := by rw [hs]; exact hk.sum
  have HS := Lib.hid hs
  have hsum := impl_sumOf A c ws w h (by omega) hk.sml
  rw [← hs] at hsum
  have HSM := Lib.hid hsum
  obtain ⟨nsh, hnsh⟩ : ∃ nsh, nsh = shareF total s ws := ⟨_, rfl⟩
  obtain ⟨nrs, hnrs⟩ : ∃ nrs, nrs = restF total s ws := ⟨_, rfl⟩
  have HNS := Lib.hid hnsh
  have HNR := Lib.hid hnrs
  clear h hk hs hsum hnsh hnrs
  have hmk := make_i64 ws.length (by omega)
  go_enter Try.func39, Try.ntmps39
  go_wp2_with (go_at_call 38; refine HSM.out.mono ?_; rintro e w' ⟨rfl, rfl⟩)
  go_cut [6, 7] (fun s6 s7 wx => ∃ g h : Nat, s6 = .slice (some ⟨g, 0, none⟩) ws.length ws.length ∧ s7 = .slice (some ⟨h, 0, none⟩) ws.length ws.length ∧ g ≠ h ∧ w.heap.size ≤ g ∧ w.heap.size ≤ h ∧ Arr wx g ws.length ((List.replicate ws.length 0).map iV) ∧ Arr wx h ws.length ((List.replicate ws.length 0).map iV) ∧ Below w.heap.size w wx)
  case first =>
    go_region
    · go_wp2
      go_meet
      exact ⟨w.heap.size, w.heap.size + 1, rfl, rfl, by omega, by omega, by omega, (two_made w _ _).1, (two_made w _ _).2, by (repeat' (first | (with_reducible exact Below.refl _ _) | (with_reducible assumption) | (with_reducible refine Below.alloc ?_ ?_ _) | (with_reducible refine Below.drew ?_) | (with_reducible refine Below.drewN' ?_ _) | (with_reducible refine Below.setCell ?_ ?_ _) | (refine Below.via ?_ (by with_reducible assumption) ?_) | (with_reducible refine Below.via ?_ (Wd.h _) ?_) | go_size))⟩
    · go_wp2
      go_meet
      exact ⟨w.heap.size + 1, w.heap.size, rfl, rfl, by omega, by omega, by omega, (two_made w _ _).2, (two_made w _ _).1, by (repeat' (first | (with_reducible exact Below.refl _ _) | (with_reducible assumption) | (with_reducible refine Below.alloc ?_ ?_ _) | (with_reducible refine Below.drew ?_) | (with_reducible refine Below.drewN' ?_ _) | (with_reducible refine Below.setCell ?_ ?_ _) | (refine Below.via ?_ (by with_reducible assumption) ?_) | (with_reducible refine Below.via ?_ (Wd.h _) ?_) | go_size))⟩
  case rest =>
    obtain ⟨g, h, rfl, rfl, hgh, hg, hh, ag, ah, hb⟩ := hcut
    have HAG := Lib.hid ag
    have HAH := Lib.hid ah
    have HB := Lib.hid hb
    have hnl : nsh.length = ws.length := by rw [HNS.out]; simp [shareF]
    have hnr : nrs.length = ws.length := by rw [HNR.out]; simp [restF]
    have k1 : nsh.length ≤ ws.length := by omega
    have k2 : ws.length ≤ nsh.length := by omega
    have k3 : nrs.length ≤ ws.length := by omega
    have k4 : ws.length ≤ nrs.length := by omega
    have hnn : ∀ x ∈ nsh, 0 ≤ x := fun x hx => by
      rw [HNS.out] at hx
      obtain ⟨y, hy, rfl⟩ := List.mem_map.1 hx
      rw [HS.out]
      exact (HK.out.quo hy).1
    have hlf := left_bd (total := total) HK.out.s
    rw [← HS.out, ← HNS.out] at hlf
    have HNN := Lib.hid hnn
    have HLF := Lib.hid hlf
    clear ag ah hb hnl hnr hnn hlf hmk
    go_wp2_with fail
    go_loopw [23, 8] (fun u v wr => ∃ (k : Nat) (lf : Int), k ≤ ws.length ∧ u = .int .i64 k ∧ v = .int .i64 lf ∧ 0 ≤ lf ∧ lf ≤ total ∧ Hid (lf = total - sumF (nsh.take k)) ∧ Arr wr g ws.length ((nsh.take k ++ (List.replicate ws.length 0).drop k).map iV) ∧ Arr wr h ws.length ((nrs.take k ++ (List.replicate ws.length 0).drop k).map iV) ∧ Below w.heap.size w wr) (fun u _ _ => ws.length - (intOf u).toNat)
    case atStart => exact ⟨0, total, by omega, rfl, rfl, t0, by omega, Lib.hid (by simp [sumF]), by simpa using HAG.out, by simpa using HAH.out, HB.out⟩
    case round =>
      obtain ⟨k, lf, hk, rfl, rfl, l0, l1, HL, ag, ah, hbw⟩ := hrel
      have HAG2 := Lib.hid ag
      have HAH2 := Lib.hid ah
      have hbH := Lib.hid hbw
      have hgl := ag.lt
      have hhl := ah.lt
      clear ag ah
      by_cases hlt : k < ws.length
      · obtain ⟨x, hx⟩ := get_some hlt
        obtain ⟨b, off, rfl, hb, hat⟩ := H.out.opened (k := k) (by simpa using hlt)
        have q0 := ints_at (hat.below hbw hb) hx
        have hyb : b < wr.heap.size := Nat.lt_of_lt_of_le hb hbw.size
        have hgb : g ≠ b := by omega
        have hhb : h ≠ b := by omega
        obtain ⟨m0, m1⟩ := HK.out.mul (List.mem_of_getElem? hx)
        obtain ⟨p, hp⟩ : ∃ p, p = total * x := ⟨_, rfl⟩
        rw [← hp] at m0 m1
        obtain ⟨q, hq⟩ : ∃ q, q = p / s := ⟨_, rfl⟩
        obtain ⟨r, hr⟩ : ∃ r, r = p % s := ⟨_, rfl⟩
        have q1 : 0 ≤ q := by rw [hq]; exact Int.ediv_nonneg m0 (by omega)
        have q2 : q ≤ 1000000000000000000 := by rw [hq]; exact Int.le_trans (Int.ediv_le_self _ m0) m1
        have r1 : 0 ≤ r := by rw [hr]; exact Int.emod_nonneg p (by omega)
        have r2 : r < s := by rw [hr]; exact Int.emod_lt_of_pos p s0
        have HSH := Lib.hid (show nsh[k]? = some q by rw [HNS.out, share_at hx, hq, hp])
        have HRS := Lib.hid (show nrs[k]? = some r by rw [HNR.out, rest_at hx, hr, hp])
        have hst := sumF_take HNN.out (k + 1)
        rw [sumF_snoc HSH.out] at hst
        have lb := HLF.out.1
        have hlq : q ≤ lf := by have := HL.out; omega
        have z1 : total * x = p := hp.symm
        have z2 : IntKind.i64.wrap p = p := IntWalk.i64_in _ (by omega)
        have z3 : p.tdiv s = q := by rw [hq]; exact Int.tdiv_eq_ediv_of_nonneg m0
        have z4 : p.tmod s = r := by rw [hr]; exact Int.tmod_eq_emod_of_nonneg m0
        have z5 : p / s = q := hq.symm
        have z6 : p % s = r := hr.symm
        have z7 : IntKind.i64.wrap q = q := IntWalk.i64_in _ (by omega)
        have z8 : IntKind.i64.wrap r = r := IntWalk.i64_in _ (by omega)
        obtain ⟨x1, c1⟩ := HAG2.out.some_ (j := k) hlt
        obtain ⟨x2, c2⟩ := HAH2.out.some_ (j := k) hlt
        have f1 := HAG2.out.free (j := k) hlt
        have f2 := HAH2.out.free (j := k) hlt
        have g1 : (k : Int) < ws.length := by omega
        clear hx hat hbw hst lb hp hq hr
        go_wp2_with fail
        have hl0 : nsh.length = (List.replicate ws.length (0 : Int)).length := by simp; omega
        have hl1 : nrs.length = (List.replicate ws.length (0 : Int)).length := by simp; omega
        have A1 := Lib.hid (show Arr (wr.setCell ⟨g, k, none⟩ (.int .i64 q)) g ws.length ((nsh.take (k + 1) ++ (List.replicate ws.length 0).drop (k + 1)).map iV) by rw [← cur_step (by omega) hl0 HSH.out, map_set_iV]; exact HAG2.out.setAt hlt _)
        have A2 := Lib.hid (show Arr (wr.setCell ⟨h, k, none⟩ (.int .i64 r)) h ws.length ((nrs.take (k + 1) ++ (List.replicate ws.length 0).drop (k + 1)).map iV) by rw [← cur_step (by omega) hl1 HRS.out, map_set_iV]; exact HAH2.out.setAt hlt _)
        have A3 := Lib.hid (show Arr ((wr.setCell ⟨g, k, none⟩ (.int .i64 q)).setCell ⟨h, k, none⟩ (.int .i64 r)) h ws.length ((nrs.take (k + 1) ++ (List.replicate ws.length 0).drop (k + 1)).map iV) by rw [← cur_step (by omega) hl1 HRS.out, map_set_iV]; exact (HAH2.out.far (by simp; omega) _).setAt hlt _)
        clear hl0 hl1
        go_cut [] (fun wx => Arr wx g ws.length ((nsh.take (k + 1) ++ (List.replicate ws.length 0).drop (k + 1)).map iV) ∧ Arr wx h ws.length ((nrs.take (k + 1) ++ (List.replicate ws.length 0).drop (k + 1)).map iV) ∧ Below w.heap.size w wx)
        case first =>
          go_region
          all_goals
            go_wp2_with fail
            go_meet
            exact ⟨A1.out.far (by simp; omega) _, A3.out, by have h1 := hbH.out; (repeat' (first | (with_reducible exact Below.refl _ _) | (with_reducible assumption) | (with_reducible refine Below.alloc ?_ ?_ _) | (with_reducible refine Below.drew ?_) | (with_reducible refine Below.drewN' ?_ _) | (with_reducible refine Below.setCell ?_ ?_ _) | (refine Below.via ?_ (by with_reducible assumption) ?_) | (with_reducible refine Below.via ?_ (Wd.h _) ?_) | go_size))⟩
        case rest =>
          obtain ⟨a1, a2, hbc⟩ := hcut
          have A4 := Lib.hid a1
          have A5 := Lib.hid a2
          have HBC := Lib.hid hbc
          have q9 : wc.cell? ⟨g, k, none⟩ = some (.int .i64 q) := ints_cell a1 (by rw [List.getElem?_append_left (by simp; omega), List.getElem?_take]; simp; exact HSH.out)
          have zz : IntKind.i64.wrap (lf - q) = lf - q := IntWalk.i64_in _ (by omega)
          clear a1 a2 hbc z1 z2 z3 z4 z5 z6 z7 z8
          go_wp2
          go_roundw
          case rel =>
            exact ⟨k + 1, lf - q, by omega, by go_num, rfl, by omega, by omega, Lib.hid (by rw [sumF_snoc HSH.out]; have := HL.out; omega), A4.out, A5.out, HBC.out⟩
          case measure => simp [intOf]; omega
      · obtain rfl : k = ws.length := by omega
        have hSpr := Spr.init HK.out
        rw [← HS.out, ← HNS.out, ← HNR.out] at hSpr
        have e1 : nsh.take ws.length ++ (List.replicate ws.length (0 : Int)).drop ws.length = nsh := by rw [List.take_of_length_le (by omega), List.drop_of_length_le (by simp), List.append_nil]
        have e2 : nrs.take ws.length ++ (List.replicate ws.length (0 : Int)).drop ws.length = nrs := by rw [List.take_of_length_le (by omega), List.drop_of_length_le (by simp), List.append_nil]
        have ag2 := HAG2.out
        have ah2 := HAH2.out
        rw [e1] at ag2
        rw [e2] at ah2
        obtain ⟨j, hj⟩ : ∃ j : Nat, lf = j := ⟨lf.toNat, by omega⟩
        have hj2 : (total - sumF nsh).toNat = j := by have := HL.out; rw [List.take_of_length_le (by omega)] at this; omega
        rw [hj2] at hSpr
        subst hj
        have HSP := Lib.hid hSpr
        have HA6 := Lib.hid ag2
        have HA7 := Lib.hid ah2
        clear hSpr e1 e2 ag2 ah2 hj2 hbw
        go_wp2_with fail
        go_loopw [8] (fun v wr => ∃ (j : Nat) (sh rs : List Int), v = .int .i64 j ∧ Hid (Spr total ws j sh rs) ∧ Arr wr g ws.length (sh.map iV) ∧ Arr wr h ws.length (rs.map iV) ∧ Below w.heap.size w wr) (fun v _ => (intOf v).toNat)
        case atStart => exact ⟨j, nsh, nrs, rfl, HSP, HA6.out, HA7.out, hbH.out⟩
        case round =>
          clear HAG2 HAH2 hbH HA6 HA7 HSP HL
          obtain ⟨j, sh, rs, rfl, HP, ag, ah, hbw⟩ := hrel
          have HA1 := Lib.hid ag
          have HA2 := Lib.hid ah
          have hbH := Lib.hid hbw
          have hgl2 := ag.lt
          have hhl2 := ah.lt
          clear ag ah hbw
          cases j with
          | zero =>
            have e0 : sh = sharesF total ws := by have := HP.out.sp; simpa [spread] using this
            have hl1 := HP.out.l1
            have HE := Lib.hid e0
            clear e0 hl1
            go_wp2
            go_ret
            refine ⟨some ⟨g, 0, none⟩, ws.length, rfl, Nat.le_refl _, ?_, hbH.out⟩
            rw [Nat.mul_one, ← HE.out]
            exact Wr.of_arr hg HA1.out
          | succ j =>
            obtain ⟨x, y, hx, hy, hbl, x0, x1, hnx⟩ := HP.out.next n1 n64
            obtain ⟨bs, hbs⟩ : ∃ bs, bs = best rs := ⟨_, rfl⟩
            rw [← hbs] at hx hy hbl hnx
            have HBS := Lib.hid hbs
            have HNX := Lib.hid hnx
            have q1 := ints_cell HA1.out hx
            have q2 := ints_cell HA2.out hy
            have f1 := HA1.out.free (j := bs) hbl
            have f2 := HA2.out.free (j := bs) hbl
            have hl2 := HP.out.l2
            have HL2 := Lib.hid hl2
            have g1 : (bs : Int) < ws.length := by omega
            have z1 : IntKind.i64.wrap (x + 1) = x + 1 := IntWalk.i64_in _ (by omega)
            have HB2 := Lib.hid (show Arr (wr.setCell ⟨g, bs, none⟩ (.int .i64 (x + 1))) g ws.length ((sh.set bs (x + 1)).map iV) by rw [map_set_iV]; exact HA1.out.setAt hbl _)
            have HB3 := Lib.hid (show Arr ((wr.setCell ⟨g, bs, none⟩ (.int .i64 (x + 1))).setCell ⟨h, bs, none⟩ (.int .i64 (-1))) h ws.length ((rs.set bs (-1)).map iV) by rw [map_set_iV]; exact (HA2.out.far (by simp; omega) _).setAt hbl _)
            clear hx hy hbs hnx hl2
            have hgj : (0 : Int) < ((j + 1 : Nat) : Int) := by omega
            have hjl : j + 1 ≤ ws.length := HP.out.jl
            go_wp2_with (first
              | (go_at_call 52; refine (slices_MaxI' _ _ _ rs _ HA2.out.rd HL2.out (by omega) n1).mono ?_; rintro e w' ⟨rfl, rfl⟩)
              | (go_at_call 51; refine (slices_IndexB _ _ _ rs _ HA2.out.rd HL2.out (by omega) n1).mono ?_; rw [← HBS.out]; rintro e w' ⟨rfl, rfl⟩))
            go_roundw
            case rel =>
              exact ⟨j, _, _, by go_num, Lib.hid HNX.out, HB2.out.far (by simp; omega) _, HB3.out, by have h1 := hbH.out; (repeat' (first | (with_reducible exact Below.refl _ _) | (with_reducible assumption) | (with_reducible refine Below.alloc ?_ ?_ _) | (with_reducible refine Below.drew ?_) | (with_reducible refine Below.drewN' ?_ _) | (with_reducible refine Below.setCell ?_ ?_ _) | (refine Below.via ?_ (by with_reducible assumption) ?_) | (with_reducible refine Below.via ?_ (Wd.h _) ?_) | go_size))⟩
            case measure => (simp [intOf]; try omega)
end Go.Proofs.Ytkagnkecgkmpcaa

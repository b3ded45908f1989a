/- Shares by greatest rests: the walk of l01Shares. -/
import Derived.Test.YtkagnkecgkmpcaaShs
import Derived.Test.YtkagnkecgkmpcaaAp2
namespace Go.Proofs.Ytkagnkecgkmpcaa
set_option linter.unusedVariables false
set_option linter.unusedSimpArgs false
open Go.RowKit
theorem best_step {l : List Int} {b i : Nat} {x y : Int} (h : l[i]? = some y) : bestF b x i (l.drop i) = if x < y then bestF i y (i + 1) (l.drop (i + 1)) else bestF b x (i + 1) (l.drop (i + 1)) := by
  rw [drop_consI h, bestF]
theorem best_one {l : List Int} {x : Int} (h : l[0]? = some x) : bestF 0 x 1 (l.drop 1) = best l := by
  cases l with
  | nil => simp at h
  | cons y l => simp at h; subst h; rfl
set_option maxRecDepth 100000 in
set_option maxHeartbeats 8000000 in
theorem spec_l01Shares (A : Option Addr) (c : Nat) (total : Int) (ws : List Int) (w : World) (hk : ShOk total ws) (h : Rd w A (ws.map iV)) :
    Calls Try.prog 55 #[.int .i64 total, .slice A ws.length c] w (MadeL w 1 ws.length ((sharesF total ws).map iV)) := by
  have H := Lib.hid h
  have HK := Lib.hid hk
  have n64 := hk.n
  have n1 := hk.pos
  have t0 := hk.t0
  have t1 := hk.t1
  obtain ⟨s, hs⟩ : ∃ s, s = sumF ws := ⟨_, rfl⟩
  have s0 : 0 < s := by rw [hs]; exact hk.s
  have s1 : s ≤ 64000000000 := by rw [hs]; exact hk.sum
  have HS := Lib.hid hs
  have hsum := spec_l01Sum A c ws w h (by omega) hk.sml
  rw [← hs] at hsum
  have HSM := Lib.hid hsum
  obtain ⟨nsh, hnsh⟩ : ∃ nsh, nsh = shareF total s ws := ⟨_, rfl⟩
  obtain ⟨nrs, hnrs⟩ : ∃ nrs, nrs = restF total s ws := ⟨_, rfl⟩
  have HNS := Lib.hid hnsh
  have HNR := Lib.hid hnrs
  have hnl : nsh.length = ws.length := by rw [hnsh]; simp [shareF]
  have hnr : nrs.length = ws.length := by rw [hnrs]; simp [restF]
  have k1 : nsh.length ≤ ws.length := by omega
  have k2 : ws.length ≤ nsh.length := by omega
  have k3 : nrs.length ≤ ws.length := by omega
  have k4 : ws.length ≤ nrs.length := by omega
  have hnn : ∀ x ∈ nsh, 0 ≤ x := fun x hx => by
    rw [hnsh] at hx
    obtain ⟨y, hy, rfl⟩ := List.mem_map.1 hx
    rw [hs]
    exact (hk.quo hy).1
  have hlf := left_bd (total := total) hk.s
  rw [← hs, ← hnsh] at hlf
  have HNN := Lib.hid hnn
  have HLF := Lib.hid hlf
  clear h hk hs hsum hnsh hnrs hnl hnr hnn hlf
  go_enter Try.func55, Try.ntmps55
  go_wp2_with (go_at_call 54; refine HSM.out.mono ?_; rintro e w' ⟨rfl, rfl⟩)
  go_loopw [6, 7, 8, 9] (fun u v l i wr => ∃ (k : Nat) (lf : Int), k ≤ ws.length ∧ i = .int .i64 k ∧ l = .int .i64 lf ∧ 0 ≤ lf ∧ lf ≤ total ∧ Hid (lf = total - sumF (nsh.take k)) ∧ Own wr w.heap.size 2 1 u k ((nsh.take k).map iV) ∧ Own wr w.heap.size 2 1 v k ((nrs.take k).map iV) ∧ Apart u v ∧ Below w.heap.size w wr) (fun _ _ _ i _ => ws.length - (intOf i).toNat)
  case atStart =>
    refine ⟨0, total, by omega, rfl, rfl, t0, by omega, Lib.hid (by simp [sumF]), ?_, ?_, ?_, by (repeat' (first | (with_reducible exact Below.refl _ _) | (with_reducible assumption) | (with_reducible refine Below.alloc ?_ ?_ _) | (with_reducible refine Below.drew ?_) | (with_reducible refine Below.drewN' ?_ _) | (with_reducible refine Below.setCell ?_ ?_ _) | (refine Below.via ?_ (by with_reducible assumption) ?_) | (with_reducible refine Below.via ?_ (Wd.h _) ?_) | go_size))⟩
    · simpa using (Own.lit0 w w.heap.size 2 1 (Nat.le_refl _)).alloc _
    · simpa using Own.lit0 (w.alloc (.cells #[] 2)) w.heap.size 2 1 (by simp)
    · intro g h1 h2; simp [Value.ownBlock] at h1 h2; omega
  case round =>
    obtain ⟨k, lf, hk, rfl, rfl, l0, l1, HL, ho1, ho2, hap, hbw⟩ := hrel
    have HO1 := Lib.hid ho1
    have HO2 := Lib.hid ho2
    have HAP := Lib.hid hap
    have hbH := Lib.hid hbw
    have hzr := hbw.size
    clear ho1 ho2 hap
    by_cases hlt : k < ws.length
    · obtain ⟨x, hx⟩ := get_some hlt
      obtain ⟨b, off, rfl, hb, hat⟩ := H.out.opened (k := k) (by simpa using hlt)
      have t_0 := ints_at (hat.below hbw hb) hx
      have hnb := hb
      have hy_t : b < wr.heap.size := Nat.lt_of_lt_of_le hb hbw.size
      
      
      obtain ⟨m0, m1⟩ := HK.out.mul (List.mem_of_getElem? hx)
      obtain ⟨p, hp⟩ : ∃ p, p = total * x := ⟨_, rfl⟩
      rw [← hp] at m0 m1
      obtain ⟨q, hq⟩ : ∃ q, q = p / s := ⟨_, rfl⟩
      obtain ⟨r, hr⟩ : ∃ r, r = p % s := ⟨_, rfl⟩
      have q1 : 0 ≤ q := by rw [hq]; exact Int.ediv_nonneg m0 (by omega)
      have q2 : q ≤ 1000000000000000000 := by rw [hq]; exact Int.le_trans (Int.ediv_le_self _ m0) m1
      have r1 : 0 ≤ r := by rw [hr]; exact Int.emod_nonneg p (by omega)
      have r2 : r < s := by rw [hr]; exact Int.emod_lt_of_pos p s0
      have HSH := Lib.hid (show nsh[k]? = some q by rw [HNS.out, share_at hx, hq, hp])
      have HRS := Lib.hid (show nrs[k]? = some r by rw [HNR.out, rest_at hx, hr, hp])
      have hst := sumF_take HNN.out (k + 1)
      rw [sumF_snoc HSH.out] at hst
      have lb := HLF.out.1
      have hlq : q ≤ lf := by have := HL.out; omega
      have z1 : total * x = p := hp.symm
      have z3 : p.tdiv s = q := by rw [hq]; exact Int.tdiv_eq_ediv_of_nonneg m0
      have z4 : p.tmod s = r := by rw [hr]; exact Int.tmod_eq_emod_of_nonneg m0
      have z5 : p / s = q := hq.symm
      have z6 : p % s = r := hr.symm
      have g1 : (k : Int) < ws.length := by omega
      clear hx hat hbw hst lb hp hq hr
      go_wp2_with (first
        | (at_builtin; refine wp_app1x _ rfl (.tmp 32) (.tmp 34) 28 rfl (w.heap.size) info_i64 Try.underlying28 rfl (by omega) (by omega) (u6) (k) _ rfl (HO1.out.alloc _) (wr.heap.size) 1 1 [iV (q)] rfl rfl (by intro j u hu; match j, hu with | 0, hu => (simp at hu; subst hu; simp) | j + 1, hu => simp at hu) (by simp [Value.oneCell']) (by omega) (by omega) (by simp; omega) ?_; intro v1 w1 hO1 hb1 hF1; (obtain ⟨hcn, hfn⟩ := bcellB hb1; have hz1 := hb1.size; (try simp at hz1); have Nt_0 := hcn (b) (off + k) (by first | omega | (simp; done) | (simp; omega)); have Nhy_t : b < w1.heap.size := (by omega); simp [go_sem, t_0, hy_t] at Nt_0; clear t_0 hy_t; clear hcn hfn; have t_0 := Nt_0; have hy_t := Nhy_t; clear Nt_0 Nhy_t); have HO1' := Lib.hid hO1; have HO2' := Lib.hid (hF1.own (HO2.out.alloc _) HAP.out); have HAP' := Lib.hid (hF1.apart (HO2.out.alloc _) HAP.out); clear hO1)
        | (at_builtin; refine wp_app1x _ rfl (.tmp 36) (.tmp 45) 28 rfl (w.heap.size) info_i64 Try.underlying28 rfl (by omega) (by omega) (u7) (k) _ rfl (HO2'.out.alloc _) (w1.heap.size) 1 1 [iV (r)] rfl rfl (by intro j u hu; match j, hu with | 0, hu => (simp at hu; subst hu; simp) | j + 1, hu => simp at hu) (by simp [Value.oneCell']) (by omega) (by omega) (by simp; omega) ?_; intro v2 w2 hO2 hb2 hF2; (obtain ⟨hcn, hfn⟩ := bcellB hb2; have hz2 := hb2.size; (try simp at hz2); have Nt_0 := hcn (b) (off + k) (by first | omega | (simp; done) | (simp; omega)); have Nhy_t : b < w2.heap.size := (by omega); simp [go_sem, t_0, hy_t] at Nt_0; clear t_0 hy_t; clear hcn hfn; have t_0 := Nt_0; have hy_t := Nhy_t; clear Nt_0 Nhy_t); have HO2'' := Lib.hid hO2; have HO1'' := Lib.hid (hF2.own (HO1'.out.alloc _) HAP'.out.symm); have HAP'' := Lib.hid (hF2.apart (HO1'.out.alloc _) HAP'.out.symm).symm; clear hO2))
      go_roundw
      case rel =>
        refine ⟨k + 1, lf - q, by omega, by go_num, rfl, by omega, by omega, Lib.hid (by rw [sumF_snoc HSH.out]; have := HL.out; omega), ?_, ?_, HAP''.out, ?_⟩
        · rw [take_snocI HSH.out, List.map_append]; exact HO1''.out
        · rw [take_snocI HRS.out, List.map_append]; exact HO2''.out
        · exact Below.via (Below.via (hbH.out.alloc hbH.out.size _) hb1 (by omega) |>.alloc (by omega) _) hb2 (by omega)
      case measure => simp [intOf]; omega
    · obtain rfl : k = ws.length := by omega
      
      have hSpr := Spr.init HK.out
      rw [← HS.out, ← HNS.out, ← HNR.out] at hSpr
      have e1 : nsh.take ws.length = nsh := List.take_of_length_le (by omega)
      have e2 : nrs.take ws.length = nrs := List.take_of_length_le (by omega)
      obtain ⟨g, cg, rfl, hg, hcg, ag⟩ := HO1.out.arr (by omega)
      obtain ⟨h, ch, rfl, hh, hch, ah⟩ := HO2.out.arr (by omega)
      have hgh : g ≠ h := fun e => HAP.out g rfl (by rw [e]; rfl)
      rw [e1, Nat.mul_one] at ag
      rw [e2, Nat.mul_one] at ah
      obtain ⟨j, hj⟩ : ∃ j : Nat, lf = j := ⟨lf.toNat, by omega⟩
      have hj2 : (total - sumF nsh).toNat = j := by have := HL.out; rw [e1] at this; omega
      rw [hj2] at hSpr
      subst hj
      have HSP := Lib.hid hSpr
      have HA6 := Lib.hid ag
      have HA7 := Lib.hid ah
      clear hSpr e1 e2 ag ah hj2 hbw
      go_wp2_with fail
      go_loopw [8] (fun v wr => ∃ (j : Nat) (sh rs : List Int), v = .int .i64 j ∧ Hid (Spr total ws j sh rs) ∧ Arr wr g ws.length (sh.map iV) ∧ Arr wr h ws.length (rs.map iV) ∧ Below w.heap.size w wr) (fun v _ => (intOf v).toNat)
      case atStart => exact ⟨j, nsh, nrs, rfl, HSP, HA6.out, HA7.out, hbH.out⟩
      case round =>
        clear HO1 HO2 HAP hbH HA6 HA7 HSP HL
        obtain ⟨wo, rfl⟩ : ∃ wo : World, wo = wr := ⟨_, rfl⟩
        obtain ⟨j, sh, rs, rfl, HP, ag, ah, hbw⟩ := hrel
        have HA1 := Lib.hid ag
        have HA2 := Lib.hid ah
        have hbH := Lib.hid hbw
        clear ag ah hbw
        cases j with
        | zero =>
          have e0 : sh = sharesF total ws := by have := HP.out.sp; simpa [spread] using this
          have HE := Lib.hid e0
          clear e0
          go_wp2
          go_ret
          refine ⟨some ⟨g, 0, none⟩, cg, rfl, hcg, ?_, hbH.out⟩
          rw [Nat.mul_one, ← HE.out]
          exact Wr.of_arr hg HA1.out
        | succ j =>
          have hl2 := HP.out.l2
          have r1 : rs.length ≤ ws.length := by omega
          have r2 : ws.length ≤ rs.length := by omega
          obtain ⟨y0, hy0⟩ := get_some (show 0 < rs.length by omega)
          have HY0 := Lib.hid hy0
          have hgj : (0 : Int) < ((j + 1 : Nat) : Int) := by omega
          have hjl : j + 1 ≤ ws.length := HP.out.jl
          clear hl2 hy0
          go_wp2_with fail
          go_loopw [11, 12] (fun u v wr => ∃ (b i : Nat) (x : Int), u = .int .i64 b ∧ v = .int .i64 i ∧ 1 ≤ i ∧ i ≤ ws.length ∧ b < ws.length ∧ Hid (rs[b]? = some x) ∧ Hid (bestF b x i (rs.drop i) = best rs) ∧ Arr wr g ws.length (sh.map iV) ∧ Arr wr h ws.length (rs.map iV) ∧ Below w.heap.size w wr) (fun _ v _ => ws.length - (intOf v).toNat)
          case atStart => exact ⟨0, 1, y0, rfl, rfl, by omega, by omega, by omega, HY0, Lib.hid (best_one HY0.out), HA1.out, HA2.out, hbH.out⟩
          case round =>
            clear HA1 HA2 hbH HY0
            obtain ⟨b, i, x, rfl, rfl, i1, i2, b2, HX, HBF, ag, ah, hbw⟩ := hrel
            have HA1 := Lib.hid ag
            have HA2 := Lib.hid ah
            have hbH := Lib.hid hbw
            have hgl2 := ag.lt
            have hhl2 := ah.lt
            clear ag ah hbw
            by_cases hlt : i < ws.length
            · obtain ⟨y, hy⟩ := get_some (show i < rs.length by omega)
              have q5 := Wd.cell hhl2 (ints_cell HA2.out hy)
              have q6 := Wd.cell hhl2 (ints_cell HA2.out HX.out)
              have g1 : (i : Int) < ws.length := by omega
              have g2 : (b : Int) < ws.length := by omega
              have HY := Lib.hid hy
              have HST := Lib.hid (best_step (b := b) (x := x) hy)
              clear hy
              cases hc : decide (x < y)
              · have hc2 := hc
                clear hc2
                go_wp2_with fail
                refine wp_region_wd (by kernel_rfl) (by kernel_rfl) ?_
                repeat (go_big_quiet_step (fail))
                refine wpQuiet_nil ?_
                rintro w2 ⟨⟨w'', hbn⟩, hw''⟩
                obtain rfl : w2 = w'' := hw''
                clear q5 q6
                have HC := Lib.hid hc
                clear hc
                go_wp2
                go_roundw
                case rel =>
                  refine ⟨b, i + 1, x, rfl, by go_num, by omega, by omega, by omega, Lib.hid HX.out, Lib.hid ?_, HA1.out.below hbn hgl2, HA2.out.below hbn hhl2, hbH.out.trans (hbn.mono hbH.out.size)⟩
                  have h1 := HBF.out
                  rw [HST.out] at h1
                  have h2 := HC.out
                  simp at h2
                  rw [if_neg (by omega)] at h1
                  exact h1
                case measure => simp [intOf]; omega
              · have hc2 := hc
                clear hc2
                go_wp2_with fail
                refine wp_region_wd (by kernel_rfl) (by kernel_rfl) ?_
                repeat (go_big_quiet_step (fail))
                refine wpQuiet_nil ?_
                rintro w2 ⟨⟨w'', hbn⟩, hw''⟩
                obtain rfl : w2 = w'' := hw''
                clear q5 q6
                have HC := Lib.hid hc
                clear hc
                go_wp2
                go_roundw
                case rel =>
                  refine ⟨i, i + 1, y, rfl, by go_num, by omega, by omega, by omega, Lib.hid HY.out, Lib.hid ?_, HA1.out.below hbn hgl2, HA2.out.below hbn hhl2, hbH.out.trans (hbn.mono hbH.out.size)⟩
                  have h1 := HBF.out
                  rw [HST.out] at h1
                  have h2 := HC.out
                  simp at h2
                  rw [if_pos h2] at h1
                  exact h1
                case measure => simp [intOf]; omega
            · obtain rfl : i = ws.length := by omega
              have hbb : b = best rs := by
                have h1 := HBF.out
                rw [List.drop_of_length_le (by omega)] at h1
                exact h1
              obtain ⟨xs, ys, hxs, hys, hbl, x0, x1, hnx⟩ := HP.out.next n1 n64
              rw [← hbb] at hxs hys hbl hnx
              have HNX := Lib.hid hnx
              have q1 := ints_cell HA1.out hxs
              have q2 := ints_cell HA2.out hys
              have f1 := HA1.out.free (j := b) hbl
              have f2 := HA2.out.free (j := b) hbl
              have g1 : (b : Int) < ws.length := by omega
              have HB2 := Lib.hid (show Arr (wr.setCell ⟨g, b, none⟩ (.int .i64 (xs + 1))) g ws.length ((sh.set b (xs + 1)).map iV) by rw [map_set_iV]; exact HA1.out.setAt hbl _)
              have HB3 := Lib.hid (show Arr ((wr.setCell ⟨g, b, none⟩ (.int .i64 (xs + 1))).setCell ⟨h, b, none⟩ (.int .i64 (-1))) h ws.length ((rs.set b (-1)).map iV) by rw [map_set_iV]; exact (HA2.out.far (by simp; omega) _).setAt hbl _)
              have hne : ¬ ws.length < ws.length := by omega
              clear hxs hys hbb hnx
              go_wp2
              go_roundw
              case rel =>
                exact ⟨j, _, _, by go_num, Lib.hid HNX.out, HB2.out.far (by simp; omega) _, HB3.out, by have h1 := hbH.out; (repeat' (first | (with_reducible exact Below.refl _ _) | (with_reducible assumption) | (with_reducible refine Below.alloc ?_ ?_ _) | (with_reducible refine Below.drew ?_) | (with_reducible refine Below.drewN' ?_ _) | (with_reducible refine Below.setCell ?_ ?_ _) | (refine Below.via ?_ (by with_reducible assumption) ?_) | (with_reducible refine Below.via ?_ (Wd.h _) ?_) | go_size))⟩
              case measure => (simp [intOf]; try omega)
theorem impl_sharesOf' (A : Option Addr) (c n : Nat) (total : Int) (ws : List Int) (w : World) (hk : ShOk total ws) (hn : ws.length = n) (h : Rd w A (ws.map iV)) :
    Calls Try.prog 39 #[.int .i64 total, .slice A n c] w (MadeL w 1 n ((sharesF total ws).map iV)) := by
  subst hn
  exact impl_sharesOf A c total ws w hk h
theorem spec_l01Shares' (A : Option Addr) (c n : Nat) (total : Int) (ws : List Int) (w : World) (hk : ShOk total ws) (hn : ws.length = n) (h : Rd w A (ws.map iV)) :
    Calls Try.prog 55 #[.int .i64 total, .slice A n c] w (MadeL w 1 n ((sharesF total ws).map iV)) := by
  subst hn
  exact spec_l01Shares A c total ws w hk h
theorem MadeR.of {w w0 w' : World} {A : Option Addr} {n c : Nat} {l : List Int} {p : List Int × Int} (hp : p = (l, 0)) (hl : l.length = n) (hnc : n ≤ c) (h : Wr w0.heap.size w' A (n * 1) (l.map iV)) (hb0 : w.heap.size ≤ w0.heap.size) (hb : Below w.heap.size w w') : MadeR w 1 p.1.length (p.1.map iV) p.2 (.returned (.tuple #[.slice A n c, .int .i64 0])) w' := by
  subst hp; subst hl
  exact ⟨A, c, rfl, hnc, h.lower hb0, hb⟩
end Go.Proofs.Ytkagnkecgkmpcaa

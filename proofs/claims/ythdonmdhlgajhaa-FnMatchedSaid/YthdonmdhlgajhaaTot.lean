/- Totals of orders. -/
import Derived.Test.YthdonmdhlgajhaaOr
namespace Go.Proofs.Ythdonmdhlgajhaa
set_option linter.unusedVariables false
set_option linter.unusedSimpArgs false
open Go.RowKit

def part1 (sh sg : Int) (x : Ord) : Int := if x.sh = sh then (if 0 < sg * x.am then sg * x.am else 0) else 0
def totF (sh sg : Int) : List Ord → Int
  | [] => 0
  | x :: l => part1 sh sg x + totF sh sg l
def AmOk (l : List Ord) : Prop := ∀ x ∈ l, -30000 ≤ x.am ∧ x.am ≤ 30000
theorem part1_bd {sh sg : Int} {x : Ord} (hs : sg = 1 ∨ sg = -1) (h : -30000 ≤ x.am ∧ x.am ≤ 30000) : 0 ≤ part1 sh sg x ∧ part1 sh sg x ≤ 30000 := by
  unfold part1; rcases hs with rfl | rfl <;> (split <;> (try split) <;> omega)
theorem sum_parts (sh sg : Int) : ∀ l : List Ord, sumF (l.map (part1 sh sg)) = totF sh sg l
  | [] => rfl
  | x :: l => by simp only [List.map_cons, sumF, totF, sum_parts sh sg l]
theorem parts_sml {sh sg : Int} {l : List Ord} (hs : sg = 1 ∨ sg = -1) (h : AmOk l) : Sml (l.map (part1 sh sg)) := by
  intro y hy
  obtain ⟨x, hx, rfl⟩ := List.mem_map.1 hy
  have := part1_bd (sh := sh) hs (h x hx)
  omega
theorem tot_bd {sh sg : Int} (hs : sg = 1 ∨ sg = -1) : ∀ {l : List Ord}, AmOk l → 0 ≤ totF sh sg l ∧ totF sh sg l ≤ l.length * 30000
  | [], _ => by simp [totF]
  | x :: l, h => by
    have h1 := part1_bd (sh := sh) hs (h x (by simp))
    have h2 := tot_bd (sh := sh) hs (l := l) (fun y hy => h y (by simp [hy]))
    simp only [totF, List.length_cons]
    omega

set_option maxRecDepth 100000 in
set_option maxHeartbeats 4000000 in
theorem impl_totalsOf (C : Option Addr) (e : Nat) (lo : List Ord) (sh : Int) (w : World) (h : Rd w C (lo.flatMap Ord.cells)) (hl : lo.length ≤ 1048576) (ha : AmOk lo) :
    Calls Try.prog 29 #[.slice C lo.length e, .int .i64 sh] w fun e w' => e = .returned (.tuple #[.int .i64 (totF sh 1 lo), .int .i64 (totF sh (-1) lo)]) ∧ Below w.heap.size w w' := by
  have HL := Lib.hid h
  have HA := Lib.hid ha
  clear h ha
  go_enter Try.func29, Try.ntmps29
  go_wp2
  go_loopw [6, 7, 12] (fun u u' v wr => ∃ (k : Nat) (r r' : Int), k ≤ lo.length ∧ v = .int .i64 k ∧ u = .int .i64 r ∧ u' = .int .i64 r' ∧ (0 ≤ r ∧ r ≤ k * 30000) ∧ (0 ≤ r' ∧ r' ≤ k * 30000) ∧ r + totF sh 1 (lo.drop k) = totF sh 1 lo ∧ r' + totF sh (-1) (lo.drop k) = totF sh (-1) lo ∧ Below w.heap.size w wr) (fun _ _ v _ => lo.length - (intOf v).toNat)
  case atStart => exact ⟨0, 0, 0, by omega, rfl, rfl, rfl, by omega, by omega, by simp, by simp, Below.refl _ _⟩
  case round =>
    obtain ⟨k, r, r', hk, rfl, rfl, rfl, ⟨hr0, hr1⟩, ⟨hr0', hr1'⟩, hF, hF', hbw⟩ := hrel
    have hbH := Lib.hid hbw
    have HF := Lib.hid hF
    have HF' := Lib.hid hF'
    clear hF hF'
    by_cases hlt : k < lo.length
    · obtain ⟨x, hx⟩ := get_some hlt; obtain ⟨bx, offx, rfl, hbx, hat⟩ := HL.out.opened (k := k) (by rw [flat_len Ord.len]; omega); have hat' := hat.below hbw hbx; have hybx : bx < wr.heap.size := Nat.lt_of_lt_of_le hbx hbw.size; have hzw := hbw.size; have t0 := hat'.elem0 Ord.len hx rfl; have t1 := hat'.elem Ord.len hx 1 rfl; have t2 := hat'.elem Ord.len hx 2 rfl; have t3 := hat'.elem Ord.len hx 3 rfl; have HX := Lib.hid hx; have HD := Lib.hid (drop_cons hx); have gx : (k : Int) < _ := Int.ofNat_lt.2 hlt; clear hx hat hat'
      obtain ⟨a1, a2⟩ := HA.out x (List.mem_of_getElem? HX.out)
      clear hbw
      by_cases hsh : x.sh = sh
      · have e1 : (x.sh == sh) = true := by simpa using hsh
        have HS := Lib.hid hsh
        clear hsh
        by_cases hp : 0 < x.am
        · have HP1 := Lib.hid (show part1 sh 1 x = x.am by unfold part1; rw [if_pos HS.out, if_pos (by omega)]; omega)
          have HP2 := Lib.hid (show part1 sh (-1) x = 0 by unfold part1; rw [if_pos HS.out, if_neg (by omega)])
          go_wp2
          all_goals first | (exfalso; omega) | skip
          all_goals
            go_roundw
            case rel =>
              refine ⟨k + 1, r + x.am, r', by omega, by go_num, by first | rfl | (congr 1; omega), by first | rfl | (congr 1; omega), by omega, by omega, ?_, ?_, by have h1 := hbH.out; (repeat' (first | (with_reducible exact Below.refl _ _) | (with_reducible assumption) | (with_reducible refine Below.alloc ?_ ?_ _) | (with_reducible refine Below.drew ?_) | (with_reducible refine Below.drewN' ?_ _) | (with_reducible refine Below.setCell ?_ ?_ _) | (refine Below.via ?_ (by with_reducible assumption) ?_) | (with_reducible refine Below.via ?_ (Wd.h _) ?_) | go_size))⟩
              · rw [← HF.out, HD.out, totF, HP1.out]; omega
              · rw [← HF'.out, HD.out, totF, HP2.out]; omega
            case measure => simp [intOf]; omega
        · have HP1 := Lib.hid (show part1 sh 1 x = 0 by unfold part1; rw [if_pos HS.out, if_neg (by omega)])
          have HP2 := Lib.hid (show part1 sh (-1) x = -x.am by unfold part1; rw [if_pos HS.out]; split <;> omega)
          go_wp2
          all_goals first | (exfalso; omega) | skip
          all_goals
            go_roundw
            case rel =>
              refine ⟨k + 1, r, r' - x.am, by omega, by go_num, by first | rfl | (congr 1; omega), by first | rfl | (congr 1; omega), by omega, by omega, ?_, ?_, by have h1 := hbH.out; (repeat' (first | (with_reducible exact Below.refl _ _) | (with_reducible assumption) | (with_reducible refine Below.alloc ?_ ?_ _) | (with_reducible refine Below.drew ?_) | (with_reducible refine Below.drewN' ?_ _) | (with_reducible refine Below.setCell ?_ ?_ _) | (refine Below.via ?_ (by with_reducible assumption) ?_) | (with_reducible refine Below.via ?_ (Wd.h _) ?_) | go_size))⟩
              · rw [← HF.out, HD.out, totF, HP1.out]; omega
              · rw [← HF'.out, HD.out, totF, HP2.out]; omega
            case measure => simp [intOf]; omega
      · have e1 : (x.sh == sh) = false := by simpa using hsh
        have HS := Lib.hid hsh
        clear hsh
        go_wp2
        go_roundw
        case rel =>
          refine ⟨k + 1, r, r', by omega, by go_num, rfl, rfl, by omega, by omega, ?_, ?_, by have h1 := hbH.out; (repeat' (first | (with_reducible exact Below.refl _ _) | (with_reducible assumption) | (with_reducible refine Below.alloc ?_ ?_ _) | (with_reducible refine Below.drew ?_) | (with_reducible refine Below.drewN' ?_ _) | (with_reducible refine Below.setCell ?_ ?_ _) | (refine Below.via ?_ (by with_reducible assumption) ?_) | (with_reducible refine Below.via ?_ (Wd.h _) ?_) | go_size))⟩
          · rw [← HF.out, HD.out, totF, part1, if_neg HS.out]; omega
          · rw [← HF'.out, HD.out, totF, part1, if_neg HS.out]; omega
        case measure => simp [intOf]; omega
    · clear hbw
      go_wp2
      go_ret2
      have h1 := HF.out
      have h2 := HF'.out
      rw [drop_endI hlt, totF] at h1 h2
      exact ⟨ri2 (by omega) (by omega), hbH.out⟩
set_option maxRecDepth 100000 in
set_option maxHeartbeats 4000000 in
theorem spec_l22Parts (C : Option Addr) (e : Nat) (lo : List Ord) (sh sg : Int) (w : World) (hs : sg = 1 ∨ sg = -1) (h : Rd w C (lo.flatMap Ord.cells)) (hl : lo.length ≤ 1048576) (ha : AmOk lo) :
    Calls Try.prog 37 #[.slice C lo.length e, .int .i64 sh, .int .i64 sg] w (MadeO w 2 1 lo.length ((lo.map (part1 sh sg)).map iV)) := by
  have HL := Lib.hid h
  have HA := Lib.hid ha
  have HS := Lib.hid hs
  clear h ha hs
  go_enter Try.func37, Try.ntmps37
  go_wp2
  go_loopw [7, 8] (fun u v wr => ∃ (k : Nat), k ≤ lo.length ∧ v = .int .i64 k ∧ Own wr w.heap.size 2 1 u k (((lo.take k).map (part1 sh sg)).map iV) ∧ Below w.heap.size w wr) (fun _ v _ => lo.length - (intOf v).toNat)
  case atStart => exact ⟨0, by omega, rfl, by simpa using Own.lit0 w w.heap.size 2 1 (Nat.le_refl _), by (repeat' (first | (with_reducible exact Below.refl _ _) | (with_reducible assumption) | (with_reducible refine Below.alloc ?_ ?_ _) | (with_reducible refine Below.drew ?_) | (with_reducible refine Below.drewN' ?_ _) | (with_reducible refine Below.setCell ?_ ?_ _) | (refine Below.via ?_ (by with_reducible assumption) ?_) | (with_reducible refine Below.via ?_ (Wd.h _) ?_) | go_size))⟩
  case round =>
    obtain ⟨k, hk, rfl, hO, hbw⟩ := hrel
    have hbH := Lib.hid hbw
    have HO := Lib.hid hO
    clear hO
    by_cases hlt : k < lo.length
    · obtain ⟨x, hx⟩ := get_some hlt; obtain ⟨bx, offx, rfl, hbx, hat⟩ := HL.out.opened (k := k) (by rw [flat_len Ord.len]; omega); have hat' := hat.below hbw hbx; have hybx : bx < wr.heap.size := Nat.lt_of_lt_of_le hbx hbw.size; have hzw := hbw.size; have t0 := hat'.elem0 Ord.len hx rfl; have t1 := hat'.elem Ord.len hx 1 rfl; have t2 := hat'.elem Ord.len hx 2 rfl; have t3 := hat'.elem Ord.len hx 3 rfl; have HX := Lib.hid hx; have HD := Lib.hid (drop_cons hx); have gx : (k : Int) < _ := Int.ofNat_lt.2 hlt; clear hx hat hat'
      obtain ⟨a1, a2⟩ := HA.out x (List.mem_of_getElem? HX.out)
      have a3 : -30000 ≤ sg * x.am ∧ sg * x.am ≤ 30000 := by rcases HS.out with rfl | rfl <;> omega
      obtain ⟨a4, a5⟩ := a3
      clear hbw
      by_cases hsh : x.sh = sh
      · have e1 : (x.sh == sh) = true := by simpa using hsh
        have HSH := Lib.hid hsh
        clear hsh
        by_cases hp : 0 < sg * x.am
        · have HP1 := Lib.hid (show part1 sh sg x = sg * x.am by unfold part1; rw [if_pos HSH.out, if_pos hp])
          go_wp2_with ((at_builtin; refine wp_app1 _ rfl (.tmp 32) (.tmp 34) 33 rfl (w.heap.size) info_i64 Try.underlying33 rfl (by omega) (by omega) _ (k) _ rfl (HO.out.alloc _) wr.heap.size 1 1 [iV (sg * x.am)] rfl rfl (by intro j u hu; match j, hu with | 0, hu => (simp at hu; subst hu; simp) | j + 1, hu => simp at hu) (by simp [Value.oneCell']) (by omega) (by simp; omega) ?_; intro v' wn hO' hbn))
          go_roundw
          case rel =>
            refine ⟨k + 1, by omega, by go_num, ?_, Below.via (hbH.out.alloc (by omega) _) hbn (Nat.le_refl _)⟩
            rw [map_snoc HX.out, HP1.out, List.map_append]; exact hO'
          case measure => simp [intOf]; omega
        · have HP1 := Lib.hid (show part1 sh sg x = 0 by unfold part1; rw [if_pos HSH.out, if_neg hp])
          go_wp2_with ((at_builtin; refine wp_app1 _ rfl (.tmp 32) (.tmp 34) 33 rfl (w.heap.size) info_i64 Try.underlying33 rfl (by omega) (by omega) _ (k) _ rfl (HO.out.alloc _) wr.heap.size 1 1 [iV (0)] rfl rfl (by intro j u hu; match j, hu with | 0, hu => (simp at hu; subst hu; simp) | j + 1, hu => simp at hu) (by simp [Value.oneCell']) (by omega) (by simp; omega) ?_; intro v' wn hO' hbn))
          go_roundw
          case rel =>
            refine ⟨k + 1, by omega, by go_num, ?_, Below.via (hbH.out.alloc (by omega) _) hbn (Nat.le_refl _)⟩
            rw [map_snoc HX.out, HP1.out, List.map_append]; exact hO'
          case measure => simp [intOf]; omega
      · have e1 : (x.sh == sh) = false := by simpa using hsh
        have HP1 := Lib.hid (show part1 sh sg x = 0 by unfold part1; rw [if_neg hsh])
        clear hsh
        go_wp2_with ((at_builtin; refine wp_app1 _ rfl (.tmp 32) (.tmp 34) 33 rfl (w.heap.size) info_i64 Try.underlying33 rfl (by omega) (by omega) _ (k) _ rfl (HO.out.alloc _) wr.heap.size 1 1 [iV (0)] rfl rfl (by intro j u hu; match j, hu with | 0, hu => (simp at hu; subst hu; simp) | j + 1, hu => simp at hu) (by simp [Value.oneCell']) (by omega) (by simp; omega) ?_; intro v' wn hO' hbn))
        go_roundw
        case rel =>
          refine ⟨k + 1, by omega, by go_num, ?_, Below.via (hbH.out.alloc (by omega) _) hbn (Nat.le_refl _)⟩
          rw [map_snoc HX.out, HP1.out, List.map_append]; exact hO'
        case measure => simp [intOf]; omega
    · clear hbw
      go_wp2
      go_ret
      refine ⟨_, rfl, ?_, hbH.out⟩
      have := HO.out
      rw [show k = lo.length by omega, List.take_length] at this
      exact this
noncomputable def totR (N : Net) (l : List Ord) (sh : Int) : Int × Int × Int :=
  if ordC N l ≠ 0 then (0, 0, ordC N l) else if inB sh 0 15 = false then (0, 0, 2) else (totF sh 1 l, totF sh (-1) l, 0)
theorem amOk_of {N : Net} {l : List Ord} (h : ordC N l = 0) : AmOk l := fun x hx => (ordB_of ((ord_of h).2.2 x hx)).2.2.1
set_option maxRecDepth 100000 in
set_option maxHeartbeats 4000000 in
theorem impl_TotalsOf (A B C : Option Addr) (n c m d e : Nat) (N : Net) (lo : List Ord) (sh : Int) (w : World) (hN : NetAt w A B N) (hn : n = N.nodes.length) (hm : m = N.pipes.length) (hc : n ≤ c) (h : Rd w C (lo.flatMap Ord.cells)) (hl : lo.length ≤ 1048576) :
    Calls Try.prog 15 #[netV A B n c m d, .slice C lo.length e, .int .i64 sh] w fun e w' => e = .returned (.tuple #[.int .i64 (totR N lo sh).1, .int .i64 (totR N lo sh).2.1, .int .i64 (totR N lo sh).2.2]) ∧ Below w.heap.size w w' := by
  subst hn hm
  have HN := Lib.hid hN
  have HL := Lib.hid h
  have hln := hN.ln
  clear hN h
  by_cases h0 : ordC N lo = 0
  · have b0 : (ordC N lo != 0) = false := by simp [h0]
    have HA := Lib.hid (amOk_of h0)
    have H0 := Lib.hid h0
    clear h0
    cases hs : inB sh 0 15
    · (go_enter Try.func15, Try.ntmps15; go_wp2_with (first | (go_at_call 21; ((with_reducible refine (impl_checkOrders _ _ _ _ _ _ _ _ N lo _ (by exact HN.out.below (by (repeat' (first | (with_reducible exact Below.refl _ _) | (with_reducible assumption) | (with_reducible refine Below.alloc ?_ ?_ _) | (with_reducible refine Below.drew ?_) | (with_reducible refine Below.drewN' ?_ _) | (with_reducible refine Below.setCell ?_ ?_ _) | (refine Below.via ?_ (by with_reducible assumption) ?_) | (with_reducible refine Below.via ?_ (Wd.h _) ?_) | go_size)))) rfl rfl (by omega) (by exact HL.out.below (by (repeat' (first | (with_reducible exact Below.refl _ _) | (with_reducible assumption) | (with_reducible refine Below.alloc ?_ ?_ _) | (with_reducible refine Below.drew ?_) | (with_reducible refine Below.drewN' ?_ _) | (with_reducible refine Below.setCell ?_ ?_ _) | (refine Below.via ?_ (by with_reducible assumption) ?_) | (with_reducible refine Below.via ?_ (Wd.h _) ?_) | go_size)))) (by omega)).mono ?_)); rintro e wn ⟨rfl, hbn⟩; (obtain ⟨hcn, hfn⟩ := bcell hbn; have hzn := hbn.size; (try simp at hzn); have Ncw0_0 := hcn (w.heap.size) (0) (by first | omega | (simp; done) | (simp; omega)); have Nfw0_0 := hfn (w.heap.size) (0) (by first | omega | (simp; done) | (simp; omega)); have Nhy0 : w.heap.size < wn.heap.size := (by omega); have Ncw0_1 := hcn (w.heap.size) (1) (by first | omega | (simp; done) | (simp; omega)); have Nfw0_1 := hfn (w.heap.size) (1) (by first | omega | (simp; done) | (simp; omega)); (first | (simp [go_sem, cw0_0, fw0_0, cw0_1, fw0_1, hy0] at Ncw0_0 Nfw0_0 Ncw0_1 Nfw0_1; clear cw0_0 fw0_0 cw0_1 fw0_1) | (simp [go_sem] at Ncw0_0 Nfw0_0 Ncw0_1 Nfw0_1)); clear hcn hfn; have cw0_0 := Ncw0_0; have fw0_0 := Nfw0_0; have cw0_1 := Ncw0_1; have fw0_1 := Nfw0_1; have hy0 := Nhy0; clear Ncw0_0 Nfw0_0 Ncw0_1 Nfw0_1 Nhy0)) | (go_at_call 28; ((with_reducible refine (impl_isShipper _ _).mono ?_)); rintro e wn ⟨rfl, rfl⟩) | (go_at_call 29; ((with_reducible refine (impl_totalsOf _ _ lo _ _ (by exact HL.out.below (by (repeat' (first | (with_reducible exact Below.refl _ _) | (with_reducible assumption) | (with_reducible refine Below.alloc ?_ ?_ _) | (with_reducible refine Below.drew ?_) | (with_reducible refine Below.drewN' ?_ _) | (with_reducible refine Below.setCell ?_ ?_ _) | (refine Below.via ?_ (by with_reducible assumption) ?_) | (with_reducible refine Below.via ?_ (Wd.h _) ?_) | go_size)))) (by omega) HA.out).mono ?_)); rintro e wn ⟨rfl, hbn⟩; (obtain ⟨hcn, hfn⟩ := bcell hbn; have hzn := hbn.size; (try simp at hzn); have Ncw0_0 := hcn (w.heap.size) (0) (by first | omega | (simp; done) | (simp; omega)); have Nfw0_0 := hfn (w.heap.size) (0) (by first | omega | (simp; done) | (simp; omega)); have Nhy0 : w.heap.size < wn.heap.size := (by omega); have Ncw0_1 := hcn (w.heap.size) (1) (by first | omega | (simp; done) | (simp; omega)); have Nfw0_1 := hfn (w.heap.size) (1) (by first | omega | (simp; done) | (simp; omega)); (first | (simp [go_sem, cw0_0, fw0_0, cw0_1, fw0_1, hy0] at Ncw0_0 Nfw0_0 Ncw0_1 Nfw0_1; clear cw0_0 fw0_0 cw0_1 fw0_1) | (simp [go_sem] at Ncw0_0 Nfw0_0 Ncw0_1 Nfw0_1)); clear hcn hfn; have cw0_0 := Ncw0_0; have fw0_0 := Nfw0_0; have cw0_1 := Ncw0_1; have fw0_1 := Nfw0_1; have hy0 := Nhy0; clear Ncw0_0 Nfw0_0 Ncw0_1 Nfw0_1 Nhy0))))
      go_ret3
      exact ⟨ri3 (by simp [totR, H0.out, hs]) (by simp [totR, H0.out, hs]) (by simp [totR, H0.out, hs]), by (repeat' (first | (with_reducible exact Below.refl _ _) | (with_reducible assumption) | (with_reducible refine Below.alloc ?_ ?_ _) | (with_reducible refine Below.drew ?_) | (with_reducible refine Below.drewN' ?_ _) | (with_reducible refine Below.setCell ?_ ?_ _) | (refine Below.via ?_ (by with_reducible assumption) ?_) | (with_reducible refine Below.via ?_ (Wd.h _) ?_) | go_size))⟩
    · (go_enter Try.func15, Try.ntmps15; go_wp2_with (first | (go_at_call 21; ((with_reducible refine (impl_checkOrders _ _ _ _ _ _ _ _ N lo _ (by exact HN.out.below (by (repeat' (first | (with_reducible exact Below.refl _ _) | (with_reducible assumption) | (with_reducible refine Below.alloc ?_ ?_ _) | (with_reducible refine Below.drew ?_) | (with_reducible refine Below.drewN' ?_ _) | (with_reducible refine Below.setCell ?_ ?_ _) | (refine Below.via ?_ (by with_reducible assumption) ?_) | (with_reducible refine Below.via ?_ (Wd.h _) ?_) | go_size)))) rfl rfl (by omega) (by exact HL.out.below (by (repeat' (first | (with_reducible exact Below.refl _ _) | (with_reducible assumption) | (with_reducible refine Below.alloc ?_ ?_ _) | (with_reducible refine Below.drew ?_) | (with_reducible refine Below.drewN' ?_ _) | (with_reducible refine Below.setCell ?_ ?_ _) | (refine Below.via ?_ (by with_reducible assumption) ?_) | (with_reducible refine Below.via ?_ (Wd.h _) ?_) | go_size)))) (by omega)).mono ?_)); rintro e wn ⟨rfl, hbn⟩; (obtain ⟨hcn, hfn⟩ := bcell hbn; have hzn := hbn.size; (try simp at hzn); have Ncw0_0 := hcn (w.heap.size) (0) (by first | omega | (simp; done) | (simp; omega)); have Nfw0_0 := hfn (w.heap.size) (0) (by first | omega | (simp; done) | (simp; omega)); have Nhy0 : w.heap.size < wn.heap.size := (by omega); have Ncw0_1 := hcn (w.heap.size) (1) (by first | omega | (simp; done) | (simp; omega)); have Nfw0_1 := hfn (w.heap.size) (1) (by first | omega | (simp; done) | (simp; omega)); (first | (simp [go_sem, cw0_0, fw0_0, cw0_1, fw0_1, hy0] at Ncw0_0 Nfw0_0 Ncw0_1 Nfw0_1; clear cw0_0 fw0_0 cw0_1 fw0_1) | (simp [go_sem] at Ncw0_0 Nfw0_0 Ncw0_1 Nfw0_1)); clear hcn hfn; have cw0_0 := Ncw0_0; have fw0_0 := Nfw0_0; have cw0_1 := Ncw0_1; have fw0_1 := Nfw0_1; have hy0 := Nhy0; clear Ncw0_0 Nfw0_0 Ncw0_1 Nfw0_1 Nhy0)) | (go_at_call 28; ((with_reducible refine (impl_isShipper _ _).mono ?_)); rintro e wn ⟨rfl, rfl⟩) | (go_at_call 29; ((with_reducible refine (impl_totalsOf _ _ lo _ _ (by exact HL.out.below (by (repeat' (first | (with_reducible exact Below.refl _ _) | (with_reducible assumption) | (with_reducible refine Below.alloc ?_ ?_ _) | (with_reducible refine Below.drew ?_) | (with_reducible refine Below.drewN' ?_ _) | (with_reducible refine Below.setCell ?_ ?_ _) | (refine Below.via ?_ (by with_reducible assumption) ?_) | (with_reducible refine Below.via ?_ (Wd.h _) ?_) | go_size)))) (by omega) HA.out).mono ?_)); rintro e wn ⟨rfl, hbn⟩; (obtain ⟨hcn, hfn⟩ := bcell hbn; have hzn := hbn.size; (try simp at hzn); have Ncw0_0 := hcn (w.heap.size) (0) (by first | omega | (simp; done) | (simp; omega)); have Nfw0_0 := hfn (w.heap.size) (0) (by first | omega | (simp; done) | (simp; omega)); have Nhy0 : w.heap.size < wn.heap.size := (by omega); have Ncw0_1 := hcn (w.heap.size) (1) (by first | omega | (simp; done) | (simp; omega)); have Nfw0_1 := hfn (w.heap.size) (1) (by first | omega | (simp; done) | (simp; omega)); (first | (simp [go_sem, cw0_0, fw0_0, cw0_1, fw0_1, hy0] at Ncw0_0 Nfw0_0 Ncw0_1 Nfw0_1; clear cw0_0 fw0_0 cw0_1 fw0_1) | (simp [go_sem] at Ncw0_0 Nfw0_0 Ncw0_1 Nfw0_1)); clear hcn hfn; have cw0_0 := Ncw0_0; have fw0_0 := Nfw0_0; have cw0_1 := Ncw0_1; have fw0_1 := Nfw0_1; have hy0 := Nhy0; clear Ncw0_0 Nfw0_0 Ncw0_1 Nfw0_1 Nhy0))))
      go_ret3
      exact ⟨ri3 (by simp [totR, H0.out, hs]) (by simp [totR, H0.out, hs]) (by simp [totR, H0.out, hs]), by (repeat' (first | (with_reducible exact Below.refl _ _) | (with_reducible assumption) | (with_reducible refine Below.alloc ?_ ?_ _) | (with_reducible refine Below.drew ?_) | (with_reducible refine Below.drewN' ?_ _) | (with_reducible refine Below.setCell ?_ ?_ _) | (refine Below.via ?_ (by with_reducible assumption) ?_) | (with_reducible refine Below.via ?_ (Wd.h _) ?_) | go_size))⟩
  · have b0 : (ordC N lo != 0) = true := by simp [h0]
    (go_enter Try.func15, Try.ntmps15; go_wp2_with (first | (go_at_call 21; ((with_reducible refine (impl_checkOrders _ _ _ _ _ _ _ _ N lo _ (by exact HN.out.below (by (repeat' (first | (with_reducible exact Below.refl _ _) | (with_reducible assumption) | (with_reducible refine Below.alloc ?_ ?_ _) | (with_reducible refine Below.drew ?_) | (with_reducible refine Below.drewN' ?_ _) | (with_reducible refine Below.setCell ?_ ?_ _) | (refine Below.via ?_ (by with_reducible assumption) ?_) | (with_reducible refine Below.via ?_ (Wd.h _) ?_) | go_size)))) rfl rfl (by omega) (by exact HL.out.below (by (repeat' (first | (with_reducible exact Below.refl _ _) | (with_reducible assumption) | (with_reducible refine Below.alloc ?_ ?_ _) | (with_reducible refine Below.drew ?_) | (with_reducible refine Below.drewN' ?_ _) | (with_reducible refine Below.setCell ?_ ?_ _) | (refine Below.via ?_ (by with_reducible assumption) ?_) | (with_reducible refine Below.via ?_ (Wd.h _) ?_) | go_size)))) (by omega)).mono ?_)); rintro e wn ⟨rfl, hbn⟩; (obtain ⟨hcn, hfn⟩ := bcell hbn; have hzn := hbn.size; (try simp at hzn); have Ncw0_0 := hcn (w.heap.size) (0) (by first | omega | (simp; done) | (simp; omega)); have Nfw0_0 := hfn (w.heap.size) (0) (by first | omega | (simp; done) | (simp; omega)); have Nhy0 : w.heap.size < wn.heap.size := (by omega); have Ncw0_1 := hcn (w.heap.size) (1) (by first | omega | (simp; done) | (simp; omega)); have Nfw0_1 := hfn (w.heap.size) (1) (by first | omega | (simp; done) | (simp; omega)); (first | (simp [go_sem, cw0_0, fw0_0, cw0_1, fw0_1, hy0] at Ncw0_0 Nfw0_0 Ncw0_1 Nfw0_1; clear cw0_0 fw0_0 cw0_1 fw0_1) | (simp [go_sem] at Ncw0_0 Nfw0_0 Ncw0_1 Nfw0_1)); clear hcn hfn; have cw0_0 := Ncw0_0; have fw0_0 := Nfw0_0; have cw0_1 := Ncw0_1; have fw0_1 := Nfw0_1; have hy0 := Nhy0; clear Ncw0_0 Nfw0_0 Ncw0_1 Nfw0_1 Nhy0)) | (go_at_call 28; ((with_reducible refine (impl_isShipper _ _).mono ?_)); rintro e wn ⟨rfl, rfl⟩) | (go_at_call 29; ((with_reducible refine (impl_totalsOf _ _ lo _ _ (by exact HL.out.below (by (repeat' (first | (with_reducible exact Below.refl _ _) | (with_reducible assumption) | (with_reducible refine Below.alloc ?_ ?_ _) | (with_reducible refine Below.drew ?_) | (with_reducible refine Below.drewN' ?_ _) | (with_reducible refine Below.setCell ?_ ?_ _) | (refine Below.via ?_ (by with_reducible assumption) ?_) | (with_reducible refine Below.via ?_ (Wd.h _) ?_) | go_size)))) (by omega) HA.out).mono ?_)); rintro e wn ⟨rfl, hbn⟩; (obtain ⟨hcn, hfn⟩ := bcell hbn; have hzn := hbn.size; (try simp at hzn); have Ncw0_0 := hcn (w.heap.size) (0) (by first | omega | (simp; done) | (simp; omega)); have Nfw0_0 := hfn (w.heap.size) (0) (by first | omega | (simp; done) | (simp; omega)); have Nhy0 : w.heap.size < wn.heap.size := (by omega); have Ncw0_1 := hcn (w.heap.size) (1) (by first | omega | (simp; done) | (simp; omega)); have Nfw0_1 := hfn (w.heap.size) (1) (by first | omega | (simp; done) | (simp; omega)); (first | (simp [go_sem, cw0_0, fw0_0, cw0_1, fw0_1, hy0] at Ncw0_0 Nfw0_0 Ncw0_1 Nfw0_1; clear cw0_0 fw0_0 cw0_1 fw0_1) | (simp [go_sem] at Ncw0_0 Nfw0_0 Ncw0_1 Nfw0_1)); clear hcn hfn; have cw0_0 := Ncw0_0; have fw0_0 := Nfw0_0; have cw0_1 := Ncw0_1; have fw0_1 := Nfw0_1; have hy0 := Nhy0; clear Ncw0_0 Nfw0_0 Ncw0_1 Nfw0_1 Nhy0))))
    go_ret3
    exact ⟨ri3 (by simp [totR, h0]) (by simp [totR, h0]) (by simp [totR, h0]), by (repeat' (first | (with_reducible exact Below.refl _ _) | (with_reducible assumption) | (with_reducible refine Below.alloc ?_ ?_ _) | (with_reducible refine Below.drew ?_) | (with_reducible refine Below.drewN' ?_ _) | (with_reducible refine Below.setCell ?_ ?_ _) | (refine Below.via ?_ (by with_reducible assumption) ?_) | (with_reducible refine Below.via ?_ (Wd.h _) ?_) | go_size))⟩
noncomputable def matB (N : Net) (l : List Ord) : Bool := (ordC N l == 0) && (List.range 16).all (fun i => totF (i : Int) 1 l == totF (i : Int) (-1) l)
theorem matB_f {N : Net} {l : List Ord} {k : Nat} (hk : k < 16) (h : totF (k : Int) 1 l ≠ totF (k : Int) (-1) l) : matB N l = false := by
  unfold matB
  have : ((List.range 16).all fun i => totF (i : Int) 1 l == totF (i : Int) (-1) l) = false := by
    rw [List.all_eq_false]; exact ⟨k, List.mem_range.2 hk, by simpa using h⟩
  rw [this, Bool.and_false]
theorem matB_t {N : Net} {l : List Ord} (h0 : ordC N l = 0) (h : ∀ k : Nat, k < 16 → totF (k : Int) 1 l = totF (k : Int) (-1) l) : matB N l = true := by
  unfold matB
  simp only [h0, Bool.and_eq_true, List.all_eq_true, List.mem_range, beq_iff_eq]
  exact ⟨by simp, h⟩
set_option maxRecDepth 100000 in
set_option maxHeartbeats 4000000 in
theorem impl_IsMatched (A B C : Option Addr) (n c m d e : Nat) (N : Net) (lo : List Ord) (w : World) (hN : NetAt w A B N) (hn : n = N.nodes.length) (hm : m = N.pipes.length) (hc : n ≤ c) (h : Rd w C (lo.flatMap Ord.cells)) (hl : lo.length ≤ 1048576) :
    Calls Try.prog 18 #[netV A B n c m d, .slice C lo.length e] w fun e w' => e = .returned (.bool (matB N lo)) ∧ Below w.heap.size w w' := by
  subst hn hm
  have HN := Lib.hid hN
  have HL := Lib.hid h
  have hln := hN.ln
  clear hN h
  by_cases h0 : ordC N lo = 0
  · have b0 : (ordC N lo != 0) = false := by simp [h0]
    have HA := Lib.hid (amOk_of h0)
    have H0 := Lib.hid h0
    clear h0
    (go_enter Try.func18, Try.ntmps18; go_wp2_with (first | (go_at_call 21; ((with_reducible refine (impl_checkOrders _ _ _ _ _ _ _ _ N lo _ (by exact HN.out.below (by (repeat' (first | (with_reducible exact Below.refl _ _) | (with_reducible assumption) | (with_reducible refine Below.alloc ?_ ?_ _) | (with_reducible refine Below.drew ?_) | (with_reducible refine Below.drewN' ?_ _) | (with_reducible refine Below.setCell ?_ ?_ _) | (refine Below.via ?_ (by with_reducible assumption) ?_) | (with_reducible refine Below.via ?_ (Wd.h _) ?_) | go_size)))) rfl rfl (by omega) (by exact HL.out.below (by (repeat' (first | (with_reducible exact Below.refl _ _) | (with_reducible assumption) | (with_reducible refine Below.alloc ?_ ?_ _) | (with_reducible refine Below.drew ?_) | (with_reducible refine Below.drewN' ?_ _) | (with_reducible refine Below.setCell ?_ ?_ _) | (refine Below.via ?_ (by with_reducible assumption) ?_) | (with_reducible refine Below.via ?_ (Wd.h _) ?_) | go_size)))) (by omega)).mono ?_)); rintro e wn ⟨rfl, hbn⟩; (obtain ⟨hcn, hfn⟩ := bcell hbn; have hzn := hbn.size; (try simp at hzn); have Ncw0_0 := hcn (w.heap.size) (0) (by first | omega | (simp; done) | (simp; omega)); have Nfw0_0 := hfn (w.heap.size) (0) (by first | omega | (simp; done) | (simp; omega)); have Nhy0 : w.heap.size < wn.heap.size := (by omega); have Ncw0_1 := hcn (w.heap.size) (1) (by first | omega | (simp; done) | (simp; omega)); have Nfw0_1 := hfn (w.heap.size) (1) (by first | omega | (simp; done) | (simp; omega)); (first | (simp [go_sem, cw0_0, fw0_0, cw0_1, fw0_1, hy0] at Ncw0_0 Nfw0_0 Ncw0_1 Nfw0_1; clear cw0_0 fw0_0 cw0_1 fw0_1) | (simp [go_sem] at Ncw0_0 Nfw0_0 Ncw0_1 Nfw0_1)); clear hcn hfn; have cw0_0 := Ncw0_0; have fw0_0 := Nfw0_0; have cw0_1 := Ncw0_1; have fw0_1 := Nfw0_1; have hy0 := Nhy0; clear Ncw0_0 Nfw0_0 Ncw0_1 Nfw0_1 Nhy0)) | (go_at_call 29; ((with_reducible refine (impl_totalsOf _ _ lo _ _ (by exact HL.out.below (by (repeat' (first | (with_reducible exact Below.refl _ _) | (with_reducible assumption) | (with_reducible refine Below.alloc ?_ ?_ _) | (with_reducible refine Below.drew ?_) | (with_reducible refine Below.drewN' ?_ _) | (with_reducible refine Below.setCell ?_ ?_ _) | (refine Below.via ?_ (by with_reducible assumption) ?_) | (with_reducible refine Below.via ?_ (Wd.h _) ?_) | go_size)))) (by omega) HA.out).mono ?_)); rintro e wn ⟨rfl, hbn⟩; (obtain ⟨hcn, hfn⟩ := bcell hbn; have hzn := hbn.size; (try simp at hzn); have Ncw0_0 := hcn (w.heap.size) (0) (by first | omega | (simp; done) | (simp; omega)); have Nfw0_0 := hfn (w.heap.size) (0) (by first | omega | (simp; done) | (simp; omega)); have Nhy0 : w.heap.size < wn.heap.size := (by omega); have Ncw0_1 := hcn (w.heap.size) (1) (by first | omega | (simp; done) | (simp; omega)); have Nfw0_1 := hfn (w.heap.size) (1) (by first | omega | (simp; done) | (simp; omega)); (first | (simp [go_sem, cw0_0, fw0_0, cw0_1, fw0_1, hy0] at Ncw0_0 Nfw0_0 Ncw0_1 Nfw0_1; clear cw0_0 fw0_0 cw0_1 fw0_1) | (simp [go_sem] at Ncw0_0 Nfw0_0 Ncw0_1 Nfw0_1)); clear hcn hfn; have cw0_0 := Ncw0_0; have fw0_0 := Nfw0_0; have cw0_1 := Ncw0_1; have fw0_1 := Nfw0_1; have hy0 := Nhy0; clear Ncw0_0 Nfw0_0 Ncw0_1 Nfw0_1 Nhy0))))
    have hbn1 : Below w.heap.size w wn := by (repeat' (first | (with_reducible exact Below.refl _ _) | (with_reducible assumption) | (with_reducible refine Below.alloc ?_ ?_ _) | (with_reducible refine Below.drew ?_) | (with_reducible refine Below.drewN' ?_ _) | (with_reducible refine Below.setCell ?_ ?_ _) | (refine Below.via ?_ (by with_reducible assumption) ?_) | (with_reducible refine Below.via ?_ (Wd.h _) ?_) | go_size))
    have HBN := Lib.hid hbn1
    clear hy0 cw0_0 fw0_0 cw0_1 fw0_1
    clear hbn hbn1
    go_loopw [12] (fun v wr => ∃ (k : Nat), k ≤ 16 ∧ v = .int .i64 k ∧ (∀ i : Nat, i < k → totF (i : Int) 1 lo = totF (i : Int) (-1) lo) ∧ Below w.heap.size w wr) (fun v _ => 16 - (intOf v).toNat)
    case atStart => exact ⟨0, by omega, rfl, fun i h => by omega, HBN.out⟩
    case round =>
      obtain ⟨k, hk, rfl, hall, hbw⟩ := hrel
      have hbH := Lib.hid hbw
      have HK := Lib.hid hall
      have hzw := hbw.size
      clear hall
      by_cases hlt : k < 16
      · clear hbw
        by_cases he : totF (k : Int) 1 lo = totF (k : Int) (-1) lo
        · have b1 : (totF (k : Int) 1 lo != totF (k : Int) (-1) lo) = false := by simp [he]
          have HE := Lib.hid he
          clear he
          go_wp2_with ((go_at_call 29; refine (impl_totalsOf _ _ lo _ _ (HL.out.below hbH.out) (by omega) HA.out).mono ?_; rintro e wn ⟨rfl, hbn⟩))
          go_roundw
          case rel =>
            refine ⟨k + 1, by omega, by go_num, fun i hi => ?_, Below.via hbH.out hbn hbH.out.size⟩
            by_cases e : i = k
            · subst e; exact HE.out
            · exact HK.out i (by omega)
          case measure => simp [intOf]; omega
        · have b1 : (totF (k : Int) 1 lo != totF (k : Int) (-1) lo) = true := by simpa using he
          go_wp2_with ((go_at_call 29; refine (impl_totalsOf _ _ lo _ _ (HL.out.below hbH.out) (by omega) HA.out).mono ?_; rintro e wn ⟨rfl, hbn⟩))
          go_ret
          exact ⟨rbf (matB_f hlt he), Below.via hbH.out hbn hbH.out.size⟩
      · clear hbw
        go_wp2
        go_ret
        exact ⟨rbt (matB_t H0.out (fun i hi => HK.out i (by omega))), hbH.out⟩
  · have b0 : (ordC N lo != 0) = true := by simp [h0]
    (go_enter Try.func18, Try.ntmps18; go_wp2_with (first | (go_at_call 21; ((with_reducible refine (impl_checkOrders _ _ _ _ _ _ _ _ N lo _ (by exact HN.out.below (by (repeat' (first | (with_reducible exact Below.refl _ _) | (with_reducible assumption) | (with_reducible refine Below.alloc ?_ ?_ _) | (with_reducible refine Below.drew ?_) | (with_reducible refine Below.drewN' ?_ _) | (with_reducible refine Below.setCell ?_ ?_ _) | (refine Below.via ?_ (by with_reducible assumption) ?_) | (with_reducible refine Below.via ?_ (Wd.h _) ?_) | go_size)))) rfl rfl (by omega) (by exact HL.out.below (by (repeat' (first | (with_reducible exact Below.refl _ _) | (with_reducible assumption) | (with_reducible refine Below.alloc ?_ ?_ _) | (with_reducible refine Below.drew ?_) | (with_reducible refine Below.drewN' ?_ _) | (with_reducible refine Below.setCell ?_ ?_ _) | (refine Below.via ?_ (by with_reducible assumption) ?_) | (with_reducible refine Below.via ?_ (Wd.h _) ?_) | go_size)))) (by omega)).mono ?_)); rintro e wn ⟨rfl, hbn⟩; (obtain ⟨hcn, hfn⟩ := bcell hbn; have hzn := hbn.size; (try simp at hzn); have Ncw0_0 := hcn (w.heap.size) (0) (by first | omega | (simp; done) | (simp; omega)); have Nfw0_0 := hfn (w.heap.size) (0) (by first | omega | (simp; done) | (simp; omega)); have Nhy0 : w.heap.size < wn.heap.size := (by omega); have Ncw0_1 := hcn (w.heap.size) (1) (by first | omega | (simp; done) | (simp; omega)); have Nfw0_1 := hfn (w.heap.size) (1) (by first | omega | (simp; done) | (simp; omega)); (first | (simp [go_sem, cw0_0, fw0_0, cw0_1, fw0_1, hy0] at Ncw0_0 Nfw0_0 Ncw0_1 Nfw0_1; clear cw0_0 fw0_0 cw0_1 fw0_1) | (simp [go_sem] at Ncw0_0 Nfw0_0 Ncw0_1 Nfw0_1)); clear hcn hfn; have cw0_0 := Ncw0_0; have fw0_0 := Nfw0_0; have cw0_1 := Ncw0_1; have fw0_1 := Nfw0_1; have hy0 := Nhy0; clear Ncw0_0 Nfw0_0 Ncw0_1 Nfw0_1 Nhy0)) | (go_at_call 29; ((with_reducible refine (impl_totalsOf _ _ lo _ _ (by exact HL.out.below (by (repeat' (first | (with_reducible exact Below.refl _ _) | (with_reducible assumption) | (with_reducible refine Below.alloc ?_ ?_ _) | (with_reducible refine Below.drew ?_) | (with_reducible refine Below.drewN' ?_ _) | (with_reducible refine Below.setCell ?_ ?_ _) | (refine Below.via ?_ (by with_reducible assumption) ?_) | (with_reducible refine Below.via ?_ (Wd.h _) ?_) | go_size)))) (by omega) HA.out).mono ?_)); rintro e wn ⟨rfl, hbn⟩; (obtain ⟨hcn, hfn⟩ := bcell hbn; have hzn := hbn.size; (try simp at hzn); have Ncw0_0 := hcn (w.heap.size) (0) (by first | omega | (simp; done) | (simp; omega)); have Nfw0_0 := hfn (w.heap.size) (0) (by first | omega | (simp; done) | (simp; omega)); have Nhy0 : w.heap.size < wn.heap.size := (by omega); have Ncw0_1 := hcn (w.heap.size) (1) (by first | omega | (simp; done) | (simp; omega)); have Nfw0_1 := hfn (w.heap.size) (1) (by first | omega | (simp; done) | (simp; omega)); (first | (simp [go_sem, cw0_0, fw0_0, cw0_1, fw0_1, hy0] at Ncw0_0 Nfw0_0 Ncw0_1 Nfw0_1; clear cw0_0 fw0_0 cw0_1 fw0_1) | (simp [go_sem] at Ncw0_0 Nfw0_0 Ncw0_1 Nfw0_1)); clear hcn hfn; have cw0_0 := Ncw0_0; have fw0_0 := Nfw0_0; have cw0_1 := Ncw0_1; have fw0_1 := Nfw0_1; have hy0 := Nhy0; clear Ncw0_0 Nfw0_0 Ncw0_1 Nfw0_1 Nhy0))))
    go_ret
    exact ⟨rbf (by simp [matB, h0]), by (repeat' (first | (with_reducible exact Below.refl _ _) | (with_reducible assumption) | (with_reducible refine Below.alloc ?_ ?_ _) | (with_reducible refine Below.drew ?_) | (with_reducible refine Below.drewN' ?_ _) | (with_reducible refine Below.setCell ?_ ?_ _) | (refine Below.via ?_ (by with_reducible assumption) ?_) | (with_reducible refine Below.via ?_ (Wd.h _) ?_) | go_size))⟩
end Go.Proofs.Ythdonmdhlgajhaa

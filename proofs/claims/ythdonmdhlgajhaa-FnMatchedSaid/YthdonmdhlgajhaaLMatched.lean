/- The walk of the law FnMatched: for all bytes it returns true and writes nothing that was there. -/
import Derived.Test.YthdonmdhlgajhaaMxA
import Derived.Deep.RegionHeld3
import Derived.Test.YthdonmdhlgajhaaOr
import Derived.Test.YthdonmdhlgajhaaAb
import Derived.Test.YthdonmdhlgajhaaAQ
import Derived.Lib.MinMax
import Derived.Test.YthdonmdhlgajhaaSu
import Derived.Test.YthdonmdhlgajhaaDor
import Derived.Test.YthdonmdhlgajhaaDr
import Derived.Test.YthdonmdhlgajhaaZw
namespace Go.Proofs.Ythdonmdhlgajhaa
set_option linter.unusedVariables false
set_option linter.unusedSimpArgs false
open Go.RowKit
theorem shares_bd3 {s sg : Int} {l : List Ord} (hs : sg = 1 ∨ sg = -1) (ha : AmOk l) (hl : l.length ≤ 40) (hp : 0 < sumF (partsF s sg l)) : ∀ x ∈ sharesF (totM s l) (partsF s sg l), 0 ≤ x ∧ x ≤ 1300000 := fun x hx => by
  have hb := totM_bd (s := s) ha hl
  have := shares_bd (t := totM s l) (ws := partsF s sg l) (parts_nn s sg l) hp hb.1 x hx
  rw [partsF_len] at this
  omega
theorem mt_ok3 {s sg : Int} {l : List Ord} (hs : sg = 1 ∨ sg = -1) (ha : AmOk l) (hl : l.length ≤ 40) (hp : 0 < sumF (partsF s sg l)) : ShOk (totM s l) (partsF s sg l) := by
  have hb := totM_bd (s := s) ha hl
  exact ⟨by rw [partsF_len]; omega, fun x hx => by have := parts_bd hs ha x hx; omega, hb.1, by omega, hp⟩
theorem addV_bd {s sg : Int} {l : List Ord} {out : List Int} {b : Int} (hs : sg = 1 ∨ sg = -1) (ha : AmOk l) (hl : l.length ≤ 40) (h : ∀ x ∈ out, -b ≤ x ∧ x ≤ b) : ∀ x ∈ addV sg (totM s l) (partsF s sg l) out, -(b + 1300000) ≤ x ∧ x ≤ b + 1300000 := by
  unfold addV
  split
  · rename_i hp
    intro y hy
    have h2 := shares_bd3 hs ha hl hp
    have := addS_bd (s := sg) (la := -b) (ha := b) (lb := 1300000) (hb := 1300000) hs h (fun x hx => by have := h2 x hx; omega) rfl y hy
    omega
  · intro y hy
    have := h y hy; omega
theorem foldS_bd {l : List Ord} (ha : AmOk l) (hl : l.length ≤ 40) : ∀ n : Nat, ∀ x ∈ foldS l n, -((n : Int) * 2600000) ≤ x ∧ x ≤ (n : Int) * 2600000
  | 0 => fun x hx => by have := List.eq_of_mem_replicate hx; omega
  | n + 1 => fun x hx => by
    have ih := foldS_bd ha hl n
    have h1 := addV_bd (s := (n : Int)) (.inl rfl) ha hl ih
    have h2 := addV_bd (s := (n : Int)) (sg := -1) (.inr rfl) ha hl h1 x hx
    omega
theorem l01Shares_tm (A : Option Addr) (c n : Nat) (total tm : Int) (ws : List Int) (w : World) (hk : ShOk tm ws) (hn : ws.length = n) (h : Rd w A (ws.map iV)) (ht : total = tm) :
    Calls Try.prog 40 #[.int .i64 total, .slice A n c] w (MadeL w 1 n ((sharesF tm ws).map iV)) := by
  subst ht
  exact spec_l01Shares' A c n total ws w hk hn h
theorem spec_l01Sum' (A : Option Addr) (c n : Nat) (l : List Int) (s : Int) (w : World) (h : Rd w A (l.map iV)) (hn : l.length = n) (hl : n ≤ 1048576) (hs : Sml l) (he : sumF l = s) :
    Calls Try.prog 38 #[.slice A n c] w fun e w' => e = .returned (.int .i64 s) ∧ w = w' := by
  subst hn; subst he
  exact spec_l01Sum A c l w h hl hs
set_option maxRecDepth 100000 in
set_option maxHeartbeats 16000000 in
theorem spec_l22Match (C : Option Addr) (e : Nat) (l : List Ord) (w : World) (h : Rd w C (l.flatMap Ord.cells)) (hl : l.length ≤ 40) (ha : AmOk l) :
    Calls Try.prog 25 #[.slice C l.length e] w (MadeL w 1 l.length ((mtL l).map iV)) := by
  have HL := Lib.hid h
  have HA := Lib.hid ha
  clear h ha
  have hmk := make_i64 l.length (by omega)
  go_enter Try.func25, Try.ntmps25
  go_wp2_with fail
  go_loopw [3, 4] (fun u v wr => ∃ (k : Nat) (G : Option Addr) (c : Nat), k ≤ 16 ∧ v = .int .i64 k ∧ u = .slice G l.length c ∧ l.length ≤ c ∧ Wr w.heap.size wr G l.length ((foldS l k).map iV) ∧ Below w.heap.size w wr) (fun _ v _ => 16 - (intOf v).toNat)
  case atStart => exact ⟨0, _, l.length, by omega, rfl, rfl, Nat.le_refl _, Wr.of_arr (Nat.le_refl _) (Arr.madeI w l.length 2), by (repeat' (first | (with_reducible exact Below.refl _ _) | (with_reducible assumption) | (with_reducible refine Below.alloc ?_ ?_ _) | (with_reducible refine Below.drew ?_) | (with_reducible refine Below.drewN' ?_ _) | (with_reducible refine Below.setCell ?_ ?_ _) | (refine Below.via ?_ (by with_reducible assumption) ?_) | (with_reducible refine Below.via ?_ (Wd.h _) ?_) | go_size))⟩
  case round =>
    obtain ⟨k, G, c, hk, rfl, rfl, hc, hW, hbw⟩ := hrel
    have HW := Lib.hid hW
    have hbH := Lib.hid hbw
    clear hW hmk
    by_cases hlt : k < 16
    · have g1 : (k : Int) < 16 := by omega
      have HRD := Lib.hid (HL.out.below hbw)
      have hz0 := hbw.size
      obtain ⟨tm, htm⟩ : ∃ tm, tm = totM k l := ⟨_, rfl⟩
      have HTM := Lib.hid (show min (totF k 1 l) (totF k (-1) l) = tm from htm.symm)
      obtain ⟨pi, hpi⟩ : ∃ pi, pi = partsF k 1 l := ⟨_, rfl⟩
      obtain ⟨pw, hpw⟩ : ∃ pw, pw = partsF k (-1) l := ⟨_, rfl⟩
      have hpl : pi.length = l.length := by rw [hpi, partsF_len]
      have hwl : pw.length = l.length := by rw [hpw, partsF_len]
      have HPL := Lib.hid hpl
      have HWL := Lib.hid hwl
      have HSI := Lib.hid (show Sml pi by rw [hpi]; exact parts_sml (.inl rfl) HA.out)
      have HSW := Lib.hid (show Sml pw by rw [hpw]; exact parts_sml (.inr rfl) HA.out)
      have HTI := Lib.hid (show sumF pi = totF k 1 l by rw [hpi]; exact parts_sum _ _ _)
      have HTW := Lib.hid (show sumF pw = totF k (-1) l by rw [hpw]; exact parts_sum _ _ _)
      obtain ⟨o0, ho0⟩ : ∃ o0, o0 = foldS l k := ⟨_, rfl⟩
      rw [← ho0] at HW
      have ol0 : o0.length = l.length := by rw [ho0, foldS_len]
      have HOL := Lib.hid ol0
      have hob : ∀ x ∈ o0, -((k : Int) * 2600000) ≤ x ∧ x ≤ (k : Int) * 2600000 := by rw [ho0]; exact foldS_bd HA.out hl k
      have HOB := Lib.hid (show ∀ x ∈ o0, -1000000000000 ≤ x ∧ x ≤ 1000000000000 from fun x hx => by have := hob x hx; omega)
      have HO1B := Lib.hid (show ∀ x ∈ addV 1 tm pi o0, -1000000000000 ≤ x ∧ x ≤ 1000000000000 from fun x hx => by
        rw [htm, hpi] at hx
        have := addV_bd (.inl rfl) HA.out hl hob x hx
        omega)
      have HST := Lib.hid (show foldS l (k + 1) = addV (-1) tm pw (addV 1 tm pi o0) by rw [htm, hpi, hpw, ho0]; rfl)
      have HKI := Lib.hid (show 0 < sumF pi → ShOk tm pi by rw [htm, hpi]; exact mt_ok3 (.inl rfl) HA.out hl)
      have HKW := Lib.hid (show 0 < sumF pw → ShOk tm pw by rw [htm, hpw]; exact mt_ok3 (.inr rfl) HA.out hl)
      have HBI := Lib.hid (show 0 < sumF pi → ∀ x ∈ sharesF tm pi, 0 ≤ x ∧ x ≤ 1300000 by rw [htm, hpi]; exact shares_bd3 (.inl rfl) HA.out hl)
      have HBW := Lib.hid (show 0 < sumF pw → ∀ x ∈ sharesF tm pw, 0 ≤ x ∧ x ≤ 1300000 by rw [htm, hpw]; exact shares_bd3 (.inr rfl) HA.out hl)
      have ht1 := tot_bd (sh := (k : Int)) (sg := 1) (.inl rfl) HA.out
      have ht2 := tot_bd (sh := (k : Int)) (sg := -1) (.inr rfl) HA.out
      have HPI := Lib.hid hpi
      have HPW := Lib.hid hpw
      clear htm hpl hwl ol0 hob ho0 hbw hpi hpw
      go_wp2_with fail
      refine (spec_l22Parts _ _ l k 1 _ (.inl rfl) HRD.out (by omega) HA.out).mono ?_
      rintro e w1 ⟨v1, rfl, hO1, hb1⟩
      obtain ⟨G1, c1, rfl, hc1, hW1⟩ := hO1.lt_
      have HR1 := Lib.hid (show Rd w1 G1 (pi.map iV) by rw [HPI.out]; exact hW1.rd)
      have HB1 := Lib.hid hb1
      clear hO1 hW1 hb1
      have hz1 := HB1.out.size
      go_wp2_with fail
      refine (spec_l22Parts _ _ l k (-1) _ (.inr rfl) (HRD.out.below HB1.out) (by omega) HA.out).mono ?_
      rintro e w2 ⟨v2, rfl, hO2, hb2⟩
      obtain ⟨G2, c2, rfl, hc2, hW2⟩ := hO2.lt_
      have HR2 := Lib.hid (show Rd w2 G2 (pw.map iV) by rw [HPW.out]; exact hW2.rd)
      have HR1 := Lib.hid (HR1.out.below hb2)
      have HB2 := Lib.hid (HB1.out.trans (hb2.mono hz1))
      clear hO2 hW2 hb2
      have hz2 := HB2.out.size
      have HW2 := Lib.hid (HW.out.below HB2.out)
      by_cases hp0 : 0 < totF k 1 l <;> by_cases hp1 : 0 < totF k (-1) l
      · have h0 :  0 < totF k 1 l := by assumption
        have h1 :  0 < totF k (-1) l := by assumption
        have hki := HKI.out (by rw [HTI.out]; exact h0)
        have HK1 := Lib.hid hki
        have HV1 := Lib.hid (show addV 1 tm pi o0 = addS 1 o0 (sharesF tm pi) by rw [addV, if_pos hki.s])
        have HD1 := Lib.hid (HBI.out hki.s)
        clear hki
        have hkw := HKW.out (by rw [HTW.out]; exact h1)
        have HK2 := Lib.hid hkw
        have HV2 := Lib.hid (show addV (-1) tm pw (addV 1 tm pi o0) = addS (-1) (addV 1 tm pi o0) (sharesF tm pw) by rw [addV, if_pos hkw.s])
        have HD2 := Lib.hid (HBW.out hkw.s)
        clear hkw
        go_wp2_with (first
          | (go_at_call 38; ((with_reducible refine (spec_l01Sum' _ _ _ pi _ _ (HR1.out.below (by first | exact Below.refl _ _ | exact HB4.out)) HPL.out (by omega) HSI.out HTI.out).mono ?_)); rintro e w' ⟨rfl, rfl⟩)
          | (go_at_call 38; ((with_reducible refine (spec_l01Sum' _ _ _ pw _ _ (HR2.out.below (by first | exact Below.refl _ _ | exact HB4.out)) HWL.out (by omega) HSW.out HTW.out).mono ?_)); rintro e w' ⟨rfl, rfl⟩)
          | (go_at_call 40; ((with_reducible refine (l01Shares_tm _ _ _ _ tm pi _ HK1.out HPL.out (HR1.out.below (Below.refl _ _)) (by have := HTM.out; omega)).mono ?_)); rintro e w3 ⟨G3, c3, rfl, hc3, hW3, hb3⟩; have HW3 := Lib.hid hW3; have HB3 := Lib.hid hb3; have hz3 := hb3.size; clear hW3 hb3)
          | (go_at_call 39; ((with_reducible refine (spec_l05Add' _ _ _ _ _ _ o0 (sharesF tm pi) 1 _ (HW2.out.rd.below HB3.out) HW3.out.rd HOL.out ((sharesF_len _ _).trans HPL.out) (Nat.le_refl _) (by omega) HOB.out (fun x hx => by have := HD1.out x hx; omega)).mono ?_)); rintro e w4 ⟨G4, c4, rfl, hc4, hW4, hb4⟩; rw [← HV1.out, Nat.mul_one] at hW4; have HW4 := Lib.hid (hW4.lower (base' := w.heap.size) (by omega)); have HB4 := Lib.hid (HB3.out.trans (hb4.mono hz3)); have hz4 := hb4.size; clear hW4 hb4)
          | (go_at_call 40; ((with_reducible refine (l01Shares_tm _ _ _ _ tm pw _ HK2.out HWL.out (HR2.out.below HB4.out) (by have := HTM.out; omega)).mono ?_)); rintro e w5 ⟨G5, c5, rfl, hc5, hW5, hb5⟩; have HW5 := Lib.hid hW5; have HB5 := Lib.hid hb5; have hz5 := hb5.size; clear hW5 hb5)
          | (go_at_call 39; ((with_reducible refine (spec_l05Add' _ _ _ _ _ _ (addV 1 tm pi o0) (sharesF tm pw) (-1) _ (HW4.out.rd.below HB5.out) HW5.out.rd ((addV_len (HOL.out.trans HPL.out.symm)).trans HOL.out) ((sharesF_len _ _).trans HWL.out) (Nat.le_refl _) (by omega) HO1B.out (fun x hx => by have := HD2.out x hx; omega)).mono ?_)); rintro e w6 ⟨G6, c6, rfl, hc6, hW6, hb6⟩; rw [← HV2.out, Nat.mul_one] at hW6; have HW6 := Lib.hid (hW6.lower (base' := w.heap.size) (by omega)); have HB6 := Lib.hid (HB4.out.trans ((HB5.out.trans (hb6.mono hz5)).mono (by omega))); clear hW6 hb6))
        all_goals
          go_roundw
          case rel =>
            exact ⟨k + 1, _, _, by omega, by go_num, rfl, hc6, by rw [HST.out]; exact HW6.out, hbH.out.trans ((HB2.out.trans (HB6.out.mono (by omega))).mono (by omega))⟩
          case measure => simp [intOf]; omega
      · have h0 :  0 < totF k 1 l := by assumption
        have h1 : ¬ 0 < totF k (-1) l := by assumption
        have hki := HKI.out (by rw [HTI.out]; exact h0)
        have HK1 := Lib.hid hki
        have HV1 := Lib.hid (show addV 1 tm pi o0 = addS 1 o0 (sharesF tm pi) by rw [addV, if_pos hki.s])
        have HD1 := Lib.hid (HBI.out hki.s)
        clear hki
        have HV2 := Lib.hid (show addV (-1) tm pw (addV 1 tm pi o0) = addV 1 tm pi o0 by rw [addV, if_neg (by rw [HTW.out]; exact h1)])
        go_wp2_with (first
          | (go_at_call 38; ((with_reducible refine (spec_l01Sum' _ _ _ pi _ _ (HR1.out.below (by first | exact Below.refl _ _ | exact HB4.out)) HPL.out (by omega) HSI.out HTI.out).mono ?_)); rintro e w' ⟨rfl, rfl⟩)
          | (go_at_call 38; ((with_reducible refine (spec_l01Sum' _ _ _ pw _ _ (HR2.out.below (by first | exact Below.refl _ _ | exact HB4.out)) HWL.out (by omega) HSW.out HTW.out).mono ?_)); rintro e w' ⟨rfl, rfl⟩)
          | (go_at_call 40; ((with_reducible refine (l01Shares_tm _ _ _ _ tm pi _ HK1.out HPL.out (HR1.out.below (Below.refl _ _)) (by have := HTM.out; omega)).mono ?_)); rintro e w3 ⟨G3, c3, rfl, hc3, hW3, hb3⟩; have HW3 := Lib.hid hW3; have HB3 := Lib.hid hb3; have hz3 := hb3.size; clear hW3 hb3)
          | (go_at_call 39; ((with_reducible refine (spec_l05Add' _ _ _ _ _ _ o0 (sharesF tm pi) 1 _ (HW2.out.rd.below HB3.out) HW3.out.rd HOL.out ((sharesF_len _ _).trans HPL.out) (Nat.le_refl _) (by omega) HOB.out (fun x hx => by have := HD1.out x hx; omega)).mono ?_)); rintro e w4 ⟨G4, c4, rfl, hc4, hW4, hb4⟩; rw [← HV1.out, Nat.mul_one] at hW4; have HW4 := Lib.hid (hW4.lower (base' := w.heap.size) (by omega)); have HB4 := Lib.hid (HB3.out.trans (hb4.mono hz3)); have hz4 := hb4.size; clear hW4 hb4))
        all_goals
          go_roundw
          case rel =>
            exact ⟨k + 1, _, _, by omega, by go_num, rfl, hc4, by rw [HST.out, HV2.out]; exact HW4.out, hbH.out.trans ((HB2.out.trans (HB4.out.mono (by omega))).mono (by omega))⟩
          case measure => simp [intOf]; omega
      · have h0 : ¬ 0 < totF k 1 l := by assumption
        have h1 :  0 < totF k (-1) l := by assumption
        have HV1 := Lib.hid (show addV 1 tm pi o0 = o0 by rw [addV, if_neg (by rw [HTI.out]; exact h0)])
        have hkw := HKW.out (by rw [HTW.out]; exact h1)
        have HK2 := Lib.hid hkw
        have HV2 := Lib.hid (show addV (-1) tm pw (addV 1 tm pi o0) = addS (-1) (addV 1 tm pi o0) (sharesF tm pw) by rw [addV, if_pos hkw.s])
        have HD2 := Lib.hid (HBW.out hkw.s)
        clear hkw
        have HW2x := Lib.hid (show Wr w.heap.size w2 G l.length ((addV 1 tm pi o0).map iV) by rw [HV1.out]; exact HW2.out)
        go_wp2_with (first
          | (go_at_call 38; ((with_reducible refine (spec_l01Sum' _ _ _ pi _ _ (HR1.out.below (by first | exact Below.refl _ _ | exact HB4.out)) HPL.out (by omega) HSI.out HTI.out).mono ?_)); rintro e w' ⟨rfl, rfl⟩)
          | (go_at_call 38; ((with_reducible refine (spec_l01Sum' _ _ _ pw _ _ (HR2.out.below (by first | exact Below.refl _ _ | exact HB4.out)) HWL.out (by omega) HSW.out HTW.out).mono ?_)); rintro e w' ⟨rfl, rfl⟩)
          | (go_at_call 40; ((with_reducible refine (l01Shares_tm _ _ _ _ tm pw _ HK2.out HWL.out (HR2.out.below (Below.refl _ _)) (by have := HTM.out; omega)).mono ?_)); rintro e w5 ⟨G5, c5, rfl, hc5, hW5, hb5⟩; have HW5 := Lib.hid hW5; have HB5 := Lib.hid hb5; have hz5 := hb5.size; clear hW5 hb5)
          | (go_at_call 39; ((with_reducible refine (spec_l05Add' _ _ _ _ _ _ (addV 1 tm pi o0) (sharesF tm pw) (-1) _ (HW2x.out.rd.below HB5.out) HW5.out.rd ((addV_len (HOL.out.trans HPL.out.symm)).trans HOL.out) ((sharesF_len _ _).trans HWL.out) (Nat.le_refl _) (by omega) HO1B.out (fun x hx => by have := HD2.out x hx; omega)).mono ?_)); rintro e w6 ⟨G6, c6, rfl, hc6, hW6, hb6⟩; rw [← HV2.out, Nat.mul_one] at hW6; have HW6 := Lib.hid (hW6.lower (base' := w.heap.size) (by omega)); have HB6 := Lib.hid ((Below.refl _ _).trans ((HB5.out.trans (hb6.mono hz5)).mono (by omega))); clear hW6 hb6))
        all_goals
          go_roundw
          case rel =>
            exact ⟨k + 1, _, _, by omega, by go_num, rfl, hc6, by rw [HST.out]; exact HW6.out, hbH.out.trans ((HB2.out.trans (HB6.out.mono (by omega))).mono (by omega))⟩
          case measure => simp [intOf]; omega
      · have h0 : ¬ 0 < totF k 1 l := by assumption
        have h1 : ¬ 0 < totF k (-1) l := by assumption
        have HV1 := Lib.hid (show addV 1 tm pi o0 = o0 by rw [addV, if_neg (by rw [HTI.out]; exact h0)])
        have HV2 := Lib.hid (show addV (-1) tm pw (addV 1 tm pi o0) = addV 1 tm pi o0 by rw [addV, if_neg (by rw [HTW.out]; exact h1)])
        have HW2x := Lib.hid (show Wr w.heap.size w2 G l.length ((addV 1 tm pi o0).map iV) by rw [HV1.out]; exact HW2.out)
        go_wp2_with (first
          | (go_at_call 38; ((with_reducible refine (spec_l01Sum' _ _ _ pi _ _ (HR1.out.below (by first | exact Below.refl _ _ | exact HB4.out)) HPL.out (by omega) HSI.out HTI.out).mono ?_)); rintro e w' ⟨rfl, rfl⟩)
          | (go_at_call 38; ((with_reducible refine (spec_l01Sum' _ _ _ pw _ _ (HR2.out.below (by first | exact Below.refl _ _ | exact HB4.out)) HWL.out (by omega) HSW.out HTW.out).mono ?_)); rintro e w' ⟨rfl, rfl⟩))
        all_goals
          go_roundw
          case rel =>
            exact ⟨k + 1, _, _, by omega, by go_num, rfl, hc, by rw [HST.out, HV2.out]; exact HW2x.out, hbH.out.trans ((HB2.out.trans ((Below.refl _ _).mono (by omega))).mono (by omega))⟩
          case measure => simp [intOf]; omega
    · obtain rfl : k = 16 := by omega
      clear hbw
      go_wp2
      go_ret
      exact ⟨G, c, rfl, hc, by rw [Nat.mul_one]; exact HW.out, hbH.out⟩
end Go.Proofs.Ythdonmdhlgajhaa
namespace Go.Proofs.Ythdonmdhlgajhaa
set_option linter.unusedVariables false
set_option linter.unusedSimpArgs false
open Go.RowKit
theorem _root_.Go.Calls.madeOx {P : Program} {f : FuncId} {args : Array Value} {w : World} {s : Nat} {p : List Ord × Int} {RL : List Ord} {RC : Int} (h : Calls P f args w (MadeR w s p.1.length (p.1.flatMap Ord.cells) p.2)) (hp : p = (RL, RC)) : Calls P f args w (MadeR w s RL.length (RL.flatMap Ord.cells) RC) := by subst hp; exact h
theorem MadeR.nilOx {w w' : World} {code c : Int} {s : Nat} {p : List Ord × Int} (hp : p = ([], c)) (hc : code = c) (hb : Below w.heap.size w w') : MadeR w s p.1.length (p.1.flatMap Ord.cells) p.2 (.returned (.tuple #[.slice none 0 0, .int .i64 code])) w' := by
  subst hp; subst hc
  exact ⟨none, 0, rfl, Nat.le_refl _, by simpa using Wr.nil w.heap.size w', hb⟩
theorem MadeR.ofO {w w0 w' : World} {A : Option Addr} {n c : Nat} {l : List Ord} {p : List Ord × Int} (hp : p = (l, 0)) (hl : l.length = n) (hnc : n ≤ c) (h : Wr w0.heap.size w' A (n * 4) (l.flatMap Ord.cells)) (hb0 : w.heap.size ≤ w0.heap.size) (hb : Below w.heap.size w w') : MadeR w 4 p.1.length (p.1.flatMap Ord.cells) p.2 (.returned (.tuple #[.slice A n c, .int .i64 0])) w' := by
  subst hp; subst hl
  exact ⟨A, c, rfl, hnc, h.lower hb0, hb⟩
noncomputable def mtR (N : Net) (l : List Ord) : List Ord × Int := if ordC N l ≠ 0 then ([], ordC N l) else (waF l (mtL l), 0)
theorem mtR_no {N : Net} {l : List Ord} (h : ordC N l ≠ 0) : mtR N l = ([], ordC N l) := by simp [mtR, h]
theorem mtR_yes {N : Net} {l : List Ord} (h : ordC N l = 0) : mtR N l = (waF l (mtL l), 0) := by simp [mtR, h]
theorem mtR_len {N : Net} {l : List Ord} : (mtR N l).1.length ≤ 1048576 := by
  unfold mtR
  split
  · simp
  · rename_i h
    have := (ord_of (show ordC N l = 0 by simpa using h)).2.1
    simp only [waF_len (mtL_len l)]; omega
def loF : List Ord → List Int → List Int
  | x :: l, a :: am => (x.am - a) :: loF l am
  | _, _ => []
theorem loF_len : ∀ {l : List Ord} {am : List Int}, am.length = l.length → (loF l am).length = l.length
  | [], am, h => by cases am <;> simp [loF]
  | x :: l, [], h => by simp at h
  | x :: l, a :: am, h => by simp only [loF, List.length_cons]; rw [loF_len (by simpa using h)]
theorem loF_get : ∀ {l : List Ord} {am : List Int} {k : Nat} {x : Ord} {a : Int}, l[k]? = some x → am[k]? = some a → (loF l am)[k]? = some (x.am - a)
  | x' :: l, a' :: am, 0, x, a, h1, h2 => by simp at h1 h2; subst h1 h2; simp [loF]
  | x' :: l, a' :: am, k + 1, x, a, h1, h2 => by
    simp only [loF, List.getElem?_cons_succ] at h1 h2 ⊢
    exact loF_get h1 h2
noncomputable def loR (N : Net) (l : List Ord) : List Int × Int := if ordC N l ≠ 0 then ([], ordC N l) else (loF l (mtL l), 0)
theorem loR_no {N : Net} {l : List Ord} (h : ordC N l ≠ 0) : loR N l = ([], ordC N l) := by simp [loR, h]
theorem loR_yes {N : Net} {l : List Ord} (h : ordC N l = 0) : loR N l = (loF l (mtL l), 0) := by simp [loR, h]
theorem loR_len {N : Net} {l : List Ord} : (loR N l).1.length ≤ 1048576 := by
  unfold loR
  split
  · simp
  · rename_i h
    have := (ord_of (show ordC N l = 0 by simpa using h)).2.1
    simp only [loF_len (mtL_len l)]; omega
theorem shOk_of {N : Net} {l : List Ord} (h : ordC N l = 0) : ∀ x ∈ l, 0 ≤ x.sh ∧ x.sh ≤ 15 := fun x hx => (ordB_of ((ord_of h).2.2 x hx)).1
theorem impl_matched' (C : Option Addr) (e : Nat) (l : List Ord) (w : World) (h : Rd w C (l.flatMap Ord.cells)) (hl : l.length ≤ 40) (ha : AmOk l) (hs : ∀ x ∈ l, 0 ≤ x.sh ∧ x.sh ≤ 15) :
    Calls Try.prog 22 #[.slice C l.length e] w (MadeL w 4 l.length ((waF l (mtL l)).flatMap Ord.cells)) := by
  have := impl_matched C e l w h hl ha
  rwa [fold_eq hs] at this
set_option maxRecDepth 100000 in
set_option maxHeartbeats 4000000 in
theorem spec_l22With (C D : Option Addr) (e f : Nat) (l : List Ord) (am : List Int) (w : World) (h : Rd w C (l.flatMap Ord.cells)) (hl : l.length ≤ 40) (h' : Rd w D (am.map iV)) (hm : am.length = l.length) :
    Calls Try.prog 24 #[.slice C l.length e, .slice D l.length f] w (MadeL w 4 l.length ((waF l am).flatMap Ord.cells)) := by
  have HL := Lib.hid h
  have HD0 := Lib.hid h'
  have HM := Lib.hid hm
  clear h h' hm
  go_enter Try.func24, Try.ntmps24
  go_wp2
  go_loopw [5, 6] (fun u v wr => ∃ (k : Nat), k ≤ l.length ∧ v = .int .i64 k ∧ Own wr w.heap.size 41 4 u k (((waF l am).take k).flatMap Ord.cells) ∧ Below w.heap.size w wr) (fun _ v _ => l.length - (intOf v).toNat)
  case atStart => exact ⟨0, by omega, rfl, by simpa using Own.lit0 w w.heap.size 41 4 (Nat.le_refl _), by (repeat' (first | (with_reducible exact Below.refl _ _) | (with_reducible assumption) | (with_reducible refine Below.alloc ?_ ?_ _) | (with_reducible refine Below.drew ?_) | (with_reducible refine Below.drewN' ?_ _) | (with_reducible refine Below.setCell ?_ ?_ _) | (refine Below.via ?_ (by with_reducible assumption) ?_) | (with_reducible refine Below.via ?_ (Wd.h _) ?_) | go_size))⟩
  case round =>
    obtain ⟨k, hk, rfl, hO, hbw⟩ := hrel
    have hbH := Lib.hid hbw
    have HOW := Lib.hid hO
    have hzw := hbw.size
    clear hO
    by_cases hlt : k < l.length
    · obtain ⟨a, ha⟩ := get_some (show k < am.length by rw [HM.out]; exact hlt)
      obtain ⟨bb, ob, rfl, hbb, hatb⟩ := HD0.out.opened (k := k) (by rw [List.length_map, HM.out]; exact hlt)
      obtain ⟨x, hx⟩ := get_some hlt; obtain ⟨bx, offx, rfl, hbx, hat⟩ := HL.out.opened (k := k) (by rw [flat_len Ord.len]; omega); have hat' := hat.below hbw hbx; have hybx : bx < wr.heap.size := Nat.lt_of_lt_of_le hbx hbw.size; have hzw := hbw.size; have t0 := hat'.elem0 Ord.len hx rfl; have t1 := hat'.elem Ord.len hx 1 rfl; have t2 := hat'.elem Ord.len hx 2 rfl; have t3 := hat'.elem Ord.len hx 3 rfl; have HX := Lib.hid hx; have HD := Lib.hid (drop_cons hx); have gx : (k : Int) < _ := Int.ofNat_lt.2 hlt; clear hx hat hat'
      have t9 := ints_at (hatb.below hbw hbb) ha
      have hyb : bb < wr.heap.size := by omega
      have HG := Lib.hid (waF_get HX.out ha)
      clear ha hatb hbw t2
      go_wp2_with fail
      go_region_held3 (fun w' => w'.cell? ⟨bx, offx + k * 4, none⟩ = some (.int .i64 x.sh) ∧ w'.cell? ⟨bx, offx + k * 4 + 1, none⟩ = some (.int .i64 x.nd) ∧ w'.cell? ⟨bx, offx + k * 4 + 3, none⟩ = some (.int .i64 x.cl) ∧ w'.cell? ⟨bb, ob + k, none⟩ = some (.int .i64 a))
        (first | exact ⟨t0, t1, t3, t9⟩ | go_keep | exact ⟨bc hb1 hbx (by simp [go_sem, t0, hybx]), bc hb1 hbx (by simp [go_sem, t1, hybx]), bc hb1 hbx (by simp [go_sem, t3, hybx]), bc hb1 hbb (by simp [go_sem, t9, hyb])⟩)
        (first
          | (apply step_of rfl; refine app1x _ (.tmp 14) (.tmp 35) 28 rfl w.heap.size info_OrdC Try.underlying28 rfl (by decide) (by decide) u5 k (((waF l am).take k).flatMap Ord.cells) rfl ?ownB _ 1 1 ((⟨x.sh, x.nd, a, x.cl⟩ : Ord).cells) rfl rfl ?hnewsB ?h1B (by decide) ?hnB ?hbaseB ?hfinB; (case ownB => (repeat' (first | (with_reducible exact HOW.out) | (with_reducible refine Own.alloc ?_ _) | (with_reducible refine Own.drew ?_)))); (case hnewsB => (intro j u hu; match j, hu with | 0, hu => (simp [Ord.cells] at hu; subst hu; first | done | simp) | 1, hu => (simp [Ord.cells] at hu; subst hu; first | done | simp) | 2, hu => (simp [Ord.cells] at hu; subst hu; first | done | simp) | 3, hu => (simp [Ord.cells] at hu; subst hu; first | done | simp) | j + 4, hu => simp [Ord.cells] at hu)); (case h1B => (simp [Ord.cells, Value.oneCell'])); (case hnB => omega); (case hbaseB => (first | omega | (simp <;> omega))); intro v1 w1 hO1 hb1 hF1; have HO1 := Lib.hid hO1; clear hO1))
      all_goals
        go_wp2
        go_roundw
        case rel =>
          refine ⟨k + 1, by omega, by go_num, by rw [flat_snoc _ _ _ HG.out]; exact HO1.out, ?_⟩
          have h1 := hbH.out
          (repeat' (first | (with_reducible exact Below.refl _ _) | (with_reducible assumption) | (with_reducible refine Below.alloc ?_ ?_ _) | (with_reducible refine Below.drew ?_) | (with_reducible refine Below.drewN' ?_ _) | (with_reducible refine Below.setCell ?_ ?_ _) | (refine Below.via ?_ (by with_reducible assumption) ?_) | (with_reducible refine Below.via ?_ (Wd.h _) ?_) | go_size))
        case measure => simp [intOf]; omega
    · obtain rfl : k = l.length := by omega
      have hne : ¬ l.length < l.length := by omega
      clear hbw
      go_wp2
      go_ret
      obtain ⟨B1, cc, rfl, hnc, hw⟩ := HOW.out.lt_
      rw [List.take_of_length_le (by rw [waF_len HM.out]; omega)] at hw
      exact ⟨B1, cc, rfl, hnc, hw, hbH.out⟩
set_option maxRecDepth 100000 in
set_option maxHeartbeats 4000000 in
theorem impl_MatchOrders (A B C : Option Addr) (n c m d e : Nat) (N : Net) (lo : List Ord) (w : World) (hN : NetAt w A B N) (hn : n = N.nodes.length) (hm : m = N.pipes.length) (hc : n ≤ c) (h : Rd w C (lo.flatMap Ord.cells)) (hl : lo.length ≤ 1048576) :
    Calls Try.prog 6 #[netV A B n c m d, .slice C lo.length e] w (MadeR w 4 (mtR N lo).1.length ((mtR N lo).1.flatMap Ord.cells) (mtR N lo).2) := by
  subst hn hm
  have HN := Lib.hid hN
  have HL := Lib.hid h
  have hln := hN.ln
  clear hN h
  by_cases h0 : ordC N lo = 0
  · have b0 : (ordC N lo != 0) = false := by simp [h0]
    have HA := Lib.hid (amOk_of h0)
    have HS := Lib.hid (shOk_of h0)
    have h40 := (ord_of h0).2.1
    have HR := Lib.hid (mtR_yes h0)
    clear h0
    (go_enter Try.func6, Try.ntmps6; go_wp2_with (first | (go_at_call 21; ((with_reducible refine (impl_checkOrders _ _ _ _ _ _ _ _ N lo _ (by exact HN.out.below (by (repeat' (first | (with_reducible exact Below.refl _ _) | (with_reducible assumption) | (with_reducible refine Below.alloc ?_ ?_ _) | (with_reducible refine Below.drew ?_) | (with_reducible refine Below.drewN' ?_ _) | (with_reducible refine Below.setCell ?_ ?_ _) | (refine Below.via ?_ (by with_reducible assumption) ?_) | (with_reducible refine Below.via ?_ (Wd.h _) ?_) | go_size)))) rfl rfl (by omega) (by exact HL.out.below (by (repeat' (first | (with_reducible exact Below.refl _ _) | (with_reducible assumption) | (with_reducible refine Below.alloc ?_ ?_ _) | (with_reducible refine Below.drew ?_) | (with_reducible refine Below.drewN' ?_ _) | (with_reducible refine Below.setCell ?_ ?_ _) | (refine Below.via ?_ (by with_reducible assumption) ?_) | (with_reducible refine Below.via ?_ (Wd.h _) ?_) | go_size)))) (by omega)).mono ?_)); rintro e wn ⟨rfl, hbn⟩; (obtain ⟨hcn, hfn⟩ := bcell hbn; have hzn := hbn.size; (try simp at hzn); have Ncw0_0 := hcn (w.heap.size) (0) (by first | omega | (simp; done) | (simp; omega)); have Nfw0_0 := hfn (w.heap.size) (0) (by first | omega | (simp; done) | (simp; omega)); have Nhy0 : w.heap.size < wn.heap.size := (by omega); have Ncw0_1 := hcn (w.heap.size) (1) (by first | omega | (simp; done) | (simp; omega)); have Nfw0_1 := hfn (w.heap.size) (1) (by first | omega | (simp; done) | (simp; omega)); (first | (simp [go_sem, cw0_0, fw0_0, cw0_1, fw0_1, hy0] at Ncw0_0 Nfw0_0 Ncw0_1 Nfw0_1; clear cw0_0 fw0_0 cw0_1 fw0_1) | (simp [go_sem] at Ncw0_0 Nfw0_0 Ncw0_1 Nfw0_1)); clear hcn hfn; have cw0_0 := Ncw0_0; have fw0_0 := Nfw0_0; have cw0_1 := Ncw0_1; have fw0_1 := Nfw0_1; have hy0 := Nhy0; clear Ncw0_0 Nfw0_0 Ncw0_1 Nfw0_1 Nhy0))))
    refine (impl_matched' _ _ lo _ (HL.out.below (by (repeat' (first | (with_reducible exact Below.refl _ _) | (with_reducible assumption) | (with_reducible refine Below.alloc ?_ ?_ _) | (with_reducible refine Below.drew ?_) | (with_reducible refine Below.drewN' ?_ _) | (with_reducible refine Below.setCell ?_ ?_ _) | (refine Below.via ?_ (by with_reducible assumption) ?_) | (with_reducible refine Below.via ?_ (Wd.h _) ?_) | go_size)))) h40 HA.out HS.out).mono ?_
    rintro e w5 ⟨G5, c5, rfl, hc5, hW5, hb5⟩
    have HW5 := Lib.hid hW5
    clear hW5
    go_wp2
    go_ret2
    exact MadeR.ofO HR.out (waF_len (mtL_len lo)) hc5 HW5.out (by omega) (by (repeat' (first | (with_reducible exact Below.refl _ _) | (with_reducible assumption) | (with_reducible refine Below.alloc ?_ ?_ _) | (with_reducible refine Below.drew ?_) | (with_reducible refine Below.drewN' ?_ _) | (with_reducible refine Below.setCell ?_ ?_ _) | (refine Below.via ?_ (by with_reducible assumption) ?_) | (with_reducible refine Below.via ?_ (Wd.h _) ?_) | go_size)))
  · have b0 : (ordC N lo != 0) = true := by simp [h0]
    have HR := Lib.hid (mtR_no h0)
    (go_enter Try.func6, Try.ntmps6; go_wp2_with (first | (go_at_call 21; ((with_reducible refine (impl_checkOrders _ _ _ _ _ _ _ _ N lo _ (by exact HN.out.below (by (repeat' (first | (with_reducible exact Below.refl _ _) | (with_reducible assumption) | (with_reducible refine Below.alloc ?_ ?_ _) | (with_reducible refine Below.drew ?_) | (with_reducible refine Below.drewN' ?_ _) | (with_reducible refine Below.setCell ?_ ?_ _) | (refine Below.via ?_ (by with_reducible assumption) ?_) | (with_reducible refine Below.via ?_ (Wd.h _) ?_) | go_size)))) rfl rfl (by omega) (by exact HL.out.below (by (repeat' (first | (with_reducible exact Below.refl _ _) | (with_reducible assumption) | (with_reducible refine Below.alloc ?_ ?_ _) | (with_reducible refine Below.drew ?_) | (with_reducible refine Below.drewN' ?_ _) | (with_reducible refine Below.setCell ?_ ?_ _) | (refine Below.via ?_ (by with_reducible assumption) ?_) | (with_reducible refine Below.via ?_ (Wd.h _) ?_) | go_size)))) (by omega)).mono ?_)); rintro e wn ⟨rfl, hbn⟩; (obtain ⟨hcn, hfn⟩ := bcell hbn; have hzn := hbn.size; (try simp at hzn); have Ncw0_0 := hcn (w.heap.size) (0) (by first | omega | (simp; done) | (simp; omega)); have Nfw0_0 := hfn (w.heap.size) (0) (by first | omega | (simp; done) | (simp; omega)); have Nhy0 : w.heap.size < wn.heap.size := (by omega); have Ncw0_1 := hcn (w.heap.size) (1) (by first | omega | (simp; done) | (simp; omega)); have Nfw0_1 := hfn (w.heap.size) (1) (by first | omega | (simp; done) | (simp; omega)); (first | (simp [go_sem, cw0_0, fw0_0, cw0_1, fw0_1, hy0] at Ncw0_0 Nfw0_0 Ncw0_1 Nfw0_1; clear cw0_0 fw0_0 cw0_1 fw0_1) | (simp [go_sem] at Ncw0_0 Nfw0_0 Ncw0_1 Nfw0_1)); clear hcn hfn; have cw0_0 := Ncw0_0; have fw0_0 := Nfw0_0; have cw0_1 := Ncw0_1; have fw0_1 := Nfw0_1; have hy0 := Nhy0; clear Ncw0_0 Nfw0_0 Ncw0_1 Nfw0_1 Nhy0))))
    go_ret2
    exact MadeR.nilOx HR.out rfl (by (repeat' (first | (with_reducible exact Below.refl _ _) | (with_reducible assumption) | (with_reducible refine Below.alloc ?_ ?_ _) | (with_reducible refine Below.drew ?_) | (with_reducible refine Below.drewN' ?_ _) | (with_reducible refine Below.setCell ?_ ?_ _) | (refine Below.via ?_ (by with_reducible assumption) ?_) | (with_reducible refine Below.via ?_ (Wd.h _) ?_) | go_size)))
set_option maxRecDepth 100000 in
set_option maxHeartbeats 4000000 in
theorem spec_MatchOrders (A B C : Option Addr) (n c m d e : Nat) (N : Net) (lo : List Ord) (w : World) (hN : NetAt w A B N) (hn : n = N.nodes.length) (hm : m = N.pipes.length) (h : Rd w C (lo.flatMap Ord.cells)) (hl : lo.length ≤ 1048576) :
    Calls Try.prog 7 #[netV A B n c m d, .slice C lo.length e] w (MadeR w 4 (mtR N lo).1.length ((mtR N lo).1.flatMap Ord.cells) (mtR N lo).2) := by
  subst hn hm
  have HN := Lib.hid hN
  have HL := Lib.hid h
  have hln := hN.ln
  clear hN h
  by_cases h0 : ordC N lo = 0
  · have b0 : (ordC N lo != 0) = false := by simp [h0]
    have HA := Lib.hid (amOk_of h0)
    have h40 := (ord_of h0).2.1
    have HR := Lib.hid (mtR_yes h0)
    clear h0
    (go_enter Try.func7, Try.ntmps7; go_wp2_with (first | (go_at_call 23; ((with_reducible refine (spec_l22Code _ _ _ _ _ _ _ _ N lo _ (by exact HN.out.below (by (repeat' (first | (with_reducible exact Below.refl _ _) | (with_reducible assumption) | (with_reducible refine Below.alloc ?_ ?_ _) | (with_reducible refine Below.drew ?_) | (with_reducible refine Below.drewN' ?_ _) | (with_reducible refine Below.setCell ?_ ?_ _) | (refine Below.via ?_ (by with_reducible assumption) ?_) | (with_reducible refine Below.via ?_ (Wd.h _) ?_) | go_size)))) rfl rfl (by exact HL.out.below (by (repeat' (first | (with_reducible exact Below.refl _ _) | (with_reducible assumption) | (with_reducible refine Below.alloc ?_ ?_ _) | (with_reducible refine Below.drew ?_) | (with_reducible refine Below.drewN' ?_ _) | (with_reducible refine Below.setCell ?_ ?_ _) | (refine Below.via ?_ (by with_reducible assumption) ?_) | (with_reducible refine Below.via ?_ (Wd.h _) ?_) | go_size)))) (by omega)).mono ?_)); rintro e wn ⟨rfl, hbn⟩; (obtain ⟨hcn, hfn⟩ := bcell hbn; have hzn := hbn.size; (try simp at hzn); have Ncw0_0 := hcn (w.heap.size) (0) (by first | omega | (simp; done) | (simp; omega)); have Nfw0_0 := hfn (w.heap.size) (0) (by first | omega | (simp; done) | (simp; omega)); have Nhy0 : w.heap.size < wn.heap.size := (by omega); have Ncw0_1 := hcn (w.heap.size) (1) (by first | omega | (simp; done) | (simp; omega)); have Nfw0_1 := hfn (w.heap.size) (1) (by first | omega | (simp; done) | (simp; omega)); (first | (simp [go_sem, cw0_0, fw0_0, cw0_1, fw0_1, hy0] at Ncw0_0 Nfw0_0 Ncw0_1 Nfw0_1; clear cw0_0 fw0_0 cw0_1 fw0_1) | (simp [go_sem] at Ncw0_0 Nfw0_0 Ncw0_1 Nfw0_1)); clear hcn hfn; have cw0_0 := Ncw0_0; have fw0_0 := Nfw0_0; have cw0_1 := Ncw0_1; have fw0_1 := Nfw0_1; have hy0 := Nhy0; clear Ncw0_0 Nfw0_0 Ncw0_1 Nfw0_1 Nhy0))))
    refine (spec_l22Match _ _ lo _ (HL.out.below (by (repeat' (first | (with_reducible exact Below.refl _ _) | (with_reducible assumption) | (with_reducible refine Below.alloc ?_ ?_ _) | (with_reducible refine Below.drew ?_) | (with_reducible refine Below.drewN' ?_ _) | (with_reducible refine Below.setCell ?_ ?_ _) | (refine Below.via ?_ (by with_reducible assumption) ?_) | (with_reducible refine Below.via ?_ (Wd.h _) ?_) | go_size)))) h40 HA.out).mono ?_
    rintro e w5 ⟨G5, c5, rfl, hc5, hW5, hb5⟩
    have HW5 := Lib.hid hW5
    clear hW5
    have hz5 := hb5.size
    go_wp2_with fail
    refine (spec_l22With _ _ _ _ lo (mtL lo) _ (HL.out.below (by (repeat' (first | (with_reducible exact Below.refl _ _) | (with_reducible assumption) | (with_reducible refine Below.alloc ?_ ?_ _) | (with_reducible refine Below.drew ?_) | (with_reducible refine Below.drewN' ?_ _) | (with_reducible refine Below.setCell ?_ ?_ _) | (refine Below.via ?_ (by with_reducible assumption) ?_) | (with_reducible refine Below.via ?_ (Wd.h _) ?_) | go_size)))) h40 HW5.out.rd (mtL_len lo)).mono ?_
    rintro e w6 ⟨G6, c6, rfl, hc6, hW6, hb6⟩
    have HW6 := Lib.hid hW6
    clear hW6
    go_wp2
    go_ret2
    exact MadeR.ofO HR.out (waF_len (mtL_len lo)) hc6 HW6.out (by omega) (by (repeat' (first | (with_reducible exact Below.refl _ _) | (with_reducible assumption) | (with_reducible refine Below.alloc ?_ ?_ _) | (with_reducible refine Below.drew ?_) | (with_reducible refine Below.drewN' ?_ _) | (with_reducible refine Below.setCell ?_ ?_ _) | (refine Below.via ?_ (by with_reducible assumption) ?_) | (with_reducible refine Below.via ?_ (Wd.h _) ?_) | go_size)))
  · have b0 : (ordC N lo != 0) = true := by simp [h0]
    have HR := Lib.hid (mtR_no h0)
    (go_enter Try.func7, Try.ntmps7; go_wp2_with (first | (go_at_call 23; ((with_reducible refine (spec_l22Code _ _ _ _ _ _ _ _ N lo _ (by exact HN.out.below (by (repeat' (first | (with_reducible exact Below.refl _ _) | (with_reducible assumption) | (with_reducible refine Below.alloc ?_ ?_ _) | (with_reducible refine Below.drew ?_) | (with_reducible refine Below.drewN' ?_ _) | (with_reducible refine Below.setCell ?_ ?_ _) | (refine Below.via ?_ (by with_reducible assumption) ?_) | (with_reducible refine Below.via ?_ (Wd.h _) ?_) | go_size)))) rfl rfl (by exact HL.out.below (by (repeat' (first | (with_reducible exact Below.refl _ _) | (with_reducible assumption) | (with_reducible refine Below.alloc ?_ ?_ _) | (with_reducible refine Below.drew ?_) | (with_reducible refine Below.drewN' ?_ _) | (with_reducible refine Below.setCell ?_ ?_ _) | (refine Below.via ?_ (by with_reducible assumption) ?_) | (with_reducible refine Below.via ?_ (Wd.h _) ?_) | go_size)))) (by omega)).mono ?_)); rintro e wn ⟨rfl, hbn⟩; (obtain ⟨hcn, hfn⟩ := bcell hbn; have hzn := hbn.size; (try simp at hzn); have Ncw0_0 := hcn (w.heap.size) (0) (by first | omega | (simp; done) | (simp; omega)); have Nfw0_0 := hfn (w.heap.size) (0) (by first | omega | (simp; done) | (simp; omega)); have Nhy0 : w.heap.size < wn.heap.size := (by omega); have Ncw0_1 := hcn (w.heap.size) (1) (by first | omega | (simp; done) | (simp; omega)); have Nfw0_1 := hfn (w.heap.size) (1) (by first | omega | (simp; done) | (simp; omega)); (first | (simp [go_sem, cw0_0, fw0_0, cw0_1, fw0_1, hy0] at Ncw0_0 Nfw0_0 Ncw0_1 Nfw0_1; clear cw0_0 fw0_0 cw0_1 fw0_1) | (simp [go_sem] at Ncw0_0 Nfw0_0 Ncw0_1 Nfw0_1)); clear hcn hfn; have cw0_0 := Ncw0_0; have fw0_0 := Nfw0_0; have cw0_1 := Ncw0_1; have fw0_1 := Nfw0_1; have hy0 := Nhy0; clear Ncw0_0 Nfw0_0 Ncw0_1 Nfw0_1 Nhy0))))
    go_ret2
    exact MadeR.nilOx HR.out rfl (by (repeat' (first | (with_reducible exact Below.refl _ _) | (with_reducible assumption) | (with_reducible refine Below.alloc ?_ ?_ _) | (with_reducible refine Below.drew ?_) | (with_reducible refine Below.drewN' ?_ _) | (with_reducible refine Below.setCell ?_ ?_ _) | (refine Below.via ?_ (by with_reducible assumption) ?_) | (with_reducible refine Below.via ?_ (Wd.h _) ?_) | go_size)))
end Go.Proofs.Ythdonmdhlgajhaa
namespace Go.Proofs.Ythdonmdhlgajhaa
set_option linter.unusedVariables false
set_option linter.unusedSimpArgs false
open Go.RowKit
theorem mtL_bd {l : List Ord} (ha : AmOk l) (hl : l.length ≤ 40) : ∀ x ∈ mtL l, -100000000 ≤ x ∧ x ≤ 100000000 := fun x hx => by
  have := foldS_bd ha hl 16 x hx
  omega
set_option maxRecDepth 100000 in
set_option maxHeartbeats 8000000 in
theorem impl_LostAmounts (A B C : Option Addr) (n c m d e : Nat) (N : Net) (lo : List Ord) (w : World) (hN : NetAt w A B N) (hn : n = N.nodes.length) (hm : m = N.pipes.length) (hc : n ≤ c) (h : Rd w C (lo.flatMap Ord.cells)) (hl : lo.length ≤ 1048576) :
    Calls Try.prog 8 #[netV A B n c m d, .slice C lo.length e] w (MadeR w 1 (loR N lo).1.length ((loR N lo).1.map iV) (loR N lo).2) := by
  subst hn hm
  have HN := Lib.hid hN
  have HL := Lib.hid h
  have hln := hN.ln
  clear hN h
  by_cases h0 : ordC N lo = 0
  case neg =>
    have b0 : (ordC N lo != 0) = true := by simp [h0]
    have HR := Lib.hid (loR_no h0)
    (go_enter Try.func8, Try.ntmps8; go_wp2_with (first | (go_at_call 21; ((with_reducible refine (impl_checkOrders _ _ _ _ _ _ _ _ N lo _ (by exact HN.out.below (by (repeat' (first | (with_reducible exact Below.refl _ _) | (with_reducible assumption) | (with_reducible refine Below.alloc ?_ ?_ _) | (with_reducible refine Below.drew ?_) | (with_reducible refine Below.drewN' ?_ _) | (with_reducible refine Below.setCell ?_ ?_ _) | (refine Below.via ?_ (by with_reducible assumption) ?_) | (with_reducible refine Below.via ?_ (Wd.h _) ?_) | go_size)))) rfl rfl (by omega) (by exact HL.out.below (by (repeat' (first | (with_reducible exact Below.refl _ _) | (with_reducible assumption) | (with_reducible refine Below.alloc ?_ ?_ _) | (with_reducible refine Below.drew ?_) | (with_reducible refine Below.drewN' ?_ _) | (with_reducible refine Below.setCell ?_ ?_ _) | (refine Below.via ?_ (by with_reducible assumption) ?_) | (with_reducible refine Below.via ?_ (Wd.h _) ?_) | go_size)))) (by omega)).mono ?_)); rintro e wn ⟨rfl, hbn⟩; (obtain ⟨hcn, hfn⟩ := bcell hbn; have hzn := hbn.size; (try simp at hzn); have Ncw0_0 := hcn (w.heap.size) (0) (by first | omega | (simp; done) | (simp; omega)); have Nfw0_0 := hfn (w.heap.size) (0) (by first | omega | (simp; done) | (simp; omega)); have Nhy0 : w.heap.size < wn.heap.size := (by omega); have Ncw0_1 := hcn (w.heap.size) (1) (by first | omega | (simp; done) | (simp; omega)); have Nfw0_1 := hfn (w.heap.size) (1) (by first | omega | (simp; done) | (simp; omega)); (first | (simp [go_sem, cw0_0, fw0_0, cw0_1, fw0_1, hy0] at Ncw0_0 Nfw0_0 Ncw0_1 Nfw0_1; clear cw0_0 fw0_0 cw0_1 fw0_1) | (simp [go_sem] at Ncw0_0 Nfw0_0 Ncw0_1 Nfw0_1)); clear hcn hfn; have cw0_0 := Ncw0_0; have fw0_0 := Nfw0_0; have cw0_1 := Ncw0_1; have fw0_1 := Nfw0_1; have hy0 := Nhy0; clear Ncw0_0 Nfw0_0 Ncw0_1 Nfw0_1 Nhy0))))
    go_ret2
    exact MadeR.nil HR.out rfl (by (repeat' (first | (with_reducible exact Below.refl _ _) | (with_reducible assumption) | (with_reducible refine Below.alloc ?_ ?_ _) | (with_reducible refine Below.drew ?_) | (with_reducible refine Below.drewN' ?_ _) | (with_reducible refine Below.setCell ?_ ?_ _) | (refine Below.via ?_ (by with_reducible assumption) ?_) | (with_reducible refine Below.via ?_ (Wd.h _) ?_) | go_size)))
  have b0 : (ordC N lo != 0) = false := by simp [h0]
  have HA := Lib.hid (amOk_of h0)
  have HS := Lib.hid (shOk_of h0)
  have h40 := (ord_of h0).2.1
  have HR := Lib.hid (loR_yes h0)
  clear h0
  have hmk := make_i64 lo.length (by omega)
  obtain ⟨am, ham⟩ : ∃ am, am = mtL lo := ⟨_, rfl⟩
  have HAM := Lib.hid (show am.length = lo.length by rw [ham]; exact mtL_len lo)
  have HAB := Lib.hid (show ∀ x ∈ am, -100000000 ≤ x ∧ x ≤ 100000000 by rw [ham]; exact mtL_bd HA.out h40)
  have HMT := Lib.hid (fun C e w h => impl_matched' C e lo w h h40 HA.out HS.out)
  rw [← ham] at HR HMT
  have HLL := Lib.hid (loF_len HAM.out)
  clear ham
  (go_enter Try.func8, Try.ntmps8; go_wp2_with (first | (go_at_call 21; ((with_reducible refine (impl_checkOrders _ _ _ _ _ _ _ _ N lo _ (by exact HN.out.below (by (repeat' (first | (with_reducible exact Below.refl _ _) | (with_reducible assumption) | (with_reducible refine Below.alloc ?_ ?_ _) | (with_reducible refine Below.drew ?_) | (with_reducible refine Below.drewN' ?_ _) | (with_reducible refine Below.setCell ?_ ?_ _) | (refine Below.via ?_ (by with_reducible assumption) ?_) | (with_reducible refine Below.via ?_ (Wd.h _) ?_) | go_size)))) rfl rfl (by omega) (by exact HL.out.below (by (repeat' (first | (with_reducible exact Below.refl _ _) | (with_reducible assumption) | (with_reducible refine Below.alloc ?_ ?_ _) | (with_reducible refine Below.drew ?_) | (with_reducible refine Below.drewN' ?_ _) | (with_reducible refine Below.setCell ?_ ?_ _) | (refine Below.via ?_ (by with_reducible assumption) ?_) | (with_reducible refine Below.via ?_ (Wd.h _) ?_) | go_size)))) (by omega)).mono ?_)); rintro e wn ⟨rfl, hbn⟩; (obtain ⟨hcn, hfn⟩ := bcell hbn; have hzn := hbn.size; (try simp at hzn); have Ncw0_0 := hcn (w.heap.size) (0) (by first | omega | (simp; done) | (simp; omega)); have Nfw0_0 := hfn (w.heap.size) (0) (by first | omega | (simp; done) | (simp; omega)); have Nhy0 : w.heap.size < wn.heap.size := (by omega); have Ncw0_1 := hcn (w.heap.size) (1) (by first | omega | (simp; done) | (simp; omega)); have Nfw0_1 := hfn (w.heap.size) (1) (by first | omega | (simp; done) | (simp; omega)); (first | (simp [go_sem, cw0_0, fw0_0, cw0_1, fw0_1, hy0] at Ncw0_0 Nfw0_0 Ncw0_1 Nfw0_1; clear cw0_0 fw0_0 cw0_1 fw0_1) | (simp [go_sem] at Ncw0_0 Nfw0_0 Ncw0_1 Nfw0_1)); clear hcn hfn; have cw0_0 := Ncw0_0; have fw0_0 := Nfw0_0; have cw0_1 := Ncw0_1; have fw0_1 := Nfw0_1; have hy0 := Nhy0; clear Ncw0_0 Nfw0_0 Ncw0_1 Nfw0_1 Nhy0))))
  have HBn : Hid (Below w.heap.size w wn) := Lib.hid (by (repeat' (first | (with_reducible exact Below.refl _ _) | (with_reducible assumption) | (with_reducible refine Below.alloc ?_ ?_ _) | (with_reducible refine Below.drew ?_) | (with_reducible refine Below.drewN' ?_ _) | (with_reducible refine Below.setCell ?_ ?_ _) | (refine Below.via ?_ (by with_reducible assumption) ?_) | (with_reducible refine Below.via ?_ (Wd.h _) ?_) | go_size)))
  have hzw : w.heap.size + 1 ≤ wn.heap.size := by omega
  have HA0 := Lib.hid (Arr.madeI wn lo.length 2)
  clear hbn
  refine (HMT.out _ _ _ (HL.out.below (by have h1 := HBn.out; (repeat' (first | (with_reducible exact Below.refl _ _) | (with_reducible assumption) | (with_reducible refine Below.alloc ?_ ?_ _) | (with_reducible refine Below.drew ?_) | (with_reducible refine Below.drewN' ?_ _) | (with_reducible refine Below.setCell ?_ ?_ _) | (refine Below.via ?_ (by with_reducible assumption) ?_) | (with_reducible refine Below.via ?_ (Wd.h _) ?_) | go_size))))).mono ?_
  rintro e w5 ⟨G5, c5, rfl, hc5, hW5, hb5⟩
  have HW5 := Lib.hid hW5
  have hz5 := hb5.size
  simp at hz5
  have HA5 := Lib.hid (HA0.out.below hb5 (by simp))
  have HB5 := Lib.hid (show Below w.heap.size w w5 by have h1 := HBn.out; (repeat' (first | (with_reducible exact Below.refl _ _) | (with_reducible assumption) | (with_reducible refine Below.alloc ?_ ?_ _) | (with_reducible refine Below.drew ?_) | (with_reducible refine Below.drewN' ?_ _) | (with_reducible refine Below.setCell ?_ ?_ _) | (refine Below.via ?_ (by with_reducible assumption) ?_) | (with_reducible refine Below.via ?_ (Wd.h _) ?_) | go_size)))
  have hg0 : w.heap.size ≤ wn.heap.size := by omega
  clear hW5 hb5 hmk
  go_wp2_with fail
  go_loopw [22] (fun v wr => ∃ (k : Nat), k ≤ lo.length ∧ v = .int .i64 k ∧ Arr wr wn.heap.size lo.length (((loF lo am).take k ++ (List.replicate lo.length 0).drop k).map iV) ∧ Keep (· = wn.heap.size) w5 wr) (fun v _ => lo.length - (intOf v).toNat)
  case atStart => exact ⟨0, by omega, rfl, by simpa using HA5.out, Keep.refl _ _⟩
  case round =>
    obtain ⟨k, hk, rfl, ha, hkp⟩ := hrel
    have HAr := Lib.hid ha
    have HK := Lib.hid hkp
    have hzr := hkp.size
    have hgr := ha.lt
    clear ha hkp
    by_cases hlt : k < lo.length
    · obtain ⟨x, hx⟩ := get_some hlt
      obtain ⟨a, hav⟩ := get_some (show k < am.length by rw [HAM.out]; exact hlt)
      obtain ⟨b, off, rfl, hb, hat⟩ := HL.out.opened (k := k) (by rw [flat_len Ord.len]; omega)
      obtain ⟨bm, om, rfl, hbm, hatm⟩ := HW5.out.rd.opened (k := k) (by rw [flat_len Ord.len, waF_len HAM.out]; omega)
      have hlm := HW5.out.lo bm ⟨om, rfl⟩
      simp at hlm
      have hzb := HB5.out.size
      have s2 := (HK.out.cell b (off + k * 4 + 2) (by omega) (by omega)).trans (bc HB5.out hb (hat.elem Ord.len hx 2 rfl))
      have hwg := waF_get hx hav
      have t0 := (HK.out.cell bm (om + k * 4) hbm (by omega)).trans (hatm.elem0 Ord.len hwg rfl)
      have t1 := (HK.out.cell bm (om + k * 4 + 1) hbm (by omega)).trans (hatm.elem Ord.len hwg 1 rfl)
      have t2 := (HK.out.cell bm (om + k * 4 + 2) hbm (by omega)).trans (hatm.elem Ord.len hwg 2 rfl)
      have t3 := (HK.out.cell bm (om + k * 4 + 3) hbm (by omega)).trans (hatm.elem Ord.len hwg 3 rfl)
      have yb : b < wr.heap.size := by omega
      have ym : bm < wr.heap.size := by omega
      obtain ⟨x1, x2⟩ := HA.out x (List.mem_of_getElem? hx)
      obtain ⟨a1, a2⟩ := HAB.out a (List.mem_of_getElem? hav)
      have HG := Lib.hid (loF_get hx hav)
      have g1 : (k : Int) < lo.length := by omega
      have hl0 : (loF lo am).length = (List.replicate lo.length (0 : Int)).length := by rw [HLL.out]; simp
      have HL0 := Lib.hid hl0
      clear hx hav hat hatm hwg hl0
      go_wp2_with fail
      generalize hW : World.alloc wr _ = wq
      have hbn0 : Below wr.heap.size wr wq := by rw [← hW]; (repeat' (first | (with_reducible exact Below.refl _ _) | (with_reducible assumption) | (with_reducible refine Below.alloc ?_ ?_ _) | (with_reducible refine Below.drew ?_) | (with_reducible refine Below.drewN' ?_ _) | (with_reducible refine Below.setCell ?_ ?_ _) | (refine Below.via ?_ (by with_reducible assumption) ?_) | (with_reducible refine Below.via ?_ (Wd.h _) ?_) | go_size))
      have hzn := hbn0.size
      have hy_cx : wr.heap.size < wq.heap.size := by have := congrArg (fun W => W.heap.size) hW; simp at this; omega
      have q4 := Wd.cell (w0 := wq) (b := wr.heap.size) (o := 2) (v := .int .i64 a) hy_cx (by rw [← hW]; simp)
      have q5 := Wd.cell (w0 := wq) (b := b) (o := off + k * 4 + 2) (v := .int .i64 x.am) (by omega) ((hbn0.cell (p := ⟨b, off + k * 4 + 2, none⟩) yb).trans s2)
      have z1 : IntKind.i64.wrap (x.am - a) = x.am - a := IntWalk.i64_in _ (by omega)
      clear hW t0 t1 t2 t3 s2
      refine wp_region_wd_tail 11 (by kernel_rfl) (by kernel_rfl) ?_
      simp only [List.take_succ_cons, List.take_zero, List.drop_succ_cons, List.drop_zero]
      repeat (go_big_quiet_step (fail))
      refine wpQuiet_nil ?_
      rintro wz ⟨⟨w'', hbz⟩, hw''⟩
      obtain rfl : wz = w'' := hw''
      clear q4 q5 z1
      have hbz2 : Below wr.heap.size wr wz := by (repeat' (first | (with_reducible exact Below.refl _ _) | (with_reducible assumption) | (with_reducible refine Below.alloc ?_ ?_ _) | (with_reducible refine Below.drew ?_) | (with_reducible refine Below.drewN' ?_ _) | (with_reducible refine Below.setCell ?_ ?_ _) | (refine Below.via ?_ (by with_reducible assumption) ?_) | (with_reducible refine Below.via ?_ (Wd.h _) ?_) | go_size))
      have HAz := Lib.hid (HAr.out.below hbz2 hgr)
      obtain ⟨u0, s0⟩ := HAz.out.some_ (j := k) hlt
      have s1 := HAz.out.free (j := k) hlt
      go_wp2
      go_roundw
      case rel =>
        refine ⟨k + 1, by omega, by go_num, ?_, (HK.out.via hbz2).setCell rfl _⟩
        rw [← cur_step (by rw [HLL.out]; omega) HL0.out HG.out, map_set_iV]
        exact HAz.out.setAt hlt _
      case measure => simp [intOf]; omega
    · obtain rfl : k = lo.length := by omega
      have hne : ¬ lo.length < lo.length := by omega
      go_wp2
      go_ret2
      have hf := HAr.out
      rw [List.take_of_length_le (by rw [HLL.out]; omega), List.drop_of_length_le (by simp), List.append_nil] at hf
      exact MadeR.arr HR.out HLL.out (Nat.le_refl _) hf hg0 (HK.out.below HB5.out (by have := HB5.out.size; omega) (fun z hz => by omega))
set_option maxRecDepth 100000 in
set_option maxHeartbeats 8000000 in
theorem spec_LostAmounts (A B C : Option Addr) (n c m d e : Nat) (N : Net) (lo : List Ord) (w : World) (hN : NetAt w A B N) (hn : n = N.nodes.length) (hm : m = N.pipes.length) (h : Rd w C (lo.flatMap Ord.cells)) (hl : lo.length ≤ 1048576) :
    Calls Try.prog 9 #[netV A B n c m d, .slice C lo.length e] w (MadeR w 1 (loR N lo).1.length ((loR N lo).1.map iV) (loR N lo).2) := by
  subst hn hm
  have HN := Lib.hid hN
  have HL := Lib.hid h
  have hln := hN.ln
  clear hN h
  by_cases h0 : ordC N lo = 0
  case neg =>
    have b0 : (ordC N lo != 0) = true := by simp [h0]
    have HR := Lib.hid (loR_no h0)
    (go_enter Try.func9, Try.ntmps9; go_wp2_with (first | (go_at_call 23; ((with_reducible refine (spec_l22Code _ _ _ _ _ _ _ _ N lo _ (by exact HN.out.below (by (repeat' (first | (with_reducible exact Below.refl _ _) | (with_reducible assumption) | (with_reducible refine Below.alloc ?_ ?_ _) | (with_reducible refine Below.drew ?_) | (with_reducible refine Below.drewN' ?_ _) | (with_reducible refine Below.setCell ?_ ?_ _) | (refine Below.via ?_ (by with_reducible assumption) ?_) | (with_reducible refine Below.via ?_ (Wd.h _) ?_) | go_size)))) rfl rfl (by exact HL.out.below (by (repeat' (first | (with_reducible exact Below.refl _ _) | (with_reducible assumption) | (with_reducible refine Below.alloc ?_ ?_ _) | (with_reducible refine Below.drew ?_) | (with_reducible refine Below.drewN' ?_ _) | (with_reducible refine Below.setCell ?_ ?_ _) | (refine Below.via ?_ (by with_reducible assumption) ?_) | (with_reducible refine Below.via ?_ (Wd.h _) ?_) | go_size)))) (by omega)).mono ?_)); rintro e wn ⟨rfl, hbn⟩; (obtain ⟨hcn, hfn⟩ := bcell hbn; have hzn := hbn.size; (try simp at hzn); have Ncw0_0 := hcn (w.heap.size) (0) (by first | omega | (simp; done) | (simp; omega)); have Nfw0_0 := hfn (w.heap.size) (0) (by first | omega | (simp; done) | (simp; omega)); have Nhy0 : w.heap.size < wn.heap.size := (by omega); have Ncw0_1 := hcn (w.heap.size) (1) (by first | omega | (simp; done) | (simp; omega)); have Nfw0_1 := hfn (w.heap.size) (1) (by first | omega | (simp; done) | (simp; omega)); (first | (simp [go_sem, cw0_0, fw0_0, cw0_1, fw0_1, hy0] at Ncw0_0 Nfw0_0 Ncw0_1 Nfw0_1; clear cw0_0 fw0_0 cw0_1 fw0_1) | (simp [go_sem] at Ncw0_0 Nfw0_0 Ncw0_1 Nfw0_1)); clear hcn hfn; have cw0_0 := Ncw0_0; have fw0_0 := Nfw0_0; have cw0_1 := Ncw0_1; have fw0_1 := Nfw0_1; have hy0 := Nhy0; clear Ncw0_0 Nfw0_0 Ncw0_1 Nfw0_1 Nhy0))))
    go_ret2
    exact MadeR.nil HR.out rfl (by (repeat' (first | (with_reducible exact Below.refl _ _) | (with_reducible assumption) | (with_reducible refine Below.alloc ?_ ?_ _) | (with_reducible refine Below.drew ?_) | (with_reducible refine Below.drewN' ?_ _) | (with_reducible refine Below.setCell ?_ ?_ _) | (refine Below.via ?_ (by with_reducible assumption) ?_) | (with_reducible refine Below.via ?_ (Wd.h _) ?_) | go_size)))
  have b0 : (ordC N lo != 0) = false := by simp [h0]
  have HA := Lib.hid (amOk_of h0)
  have h40 := (ord_of h0).2.1
  have HR := Lib.hid (loR_yes h0)
  clear h0
  obtain ⟨am, ham⟩ : ∃ am, am = mtL lo := ⟨_, rfl⟩
  have HAM := Lib.hid (show am.length = lo.length by rw [ham]; exact mtL_len lo)
  have HAB := Lib.hid (show ∀ x ∈ am, -100000000 ≤ x ∧ x ≤ 100000000 by rw [ham]; exact mtL_bd HA.out h40)
  have HMT := Lib.hid (fun C e w h => spec_l22Match C e lo w h h40 HA.out)
  rw [← ham] at HR HMT
  have HLL := Lib.hid (loF_len HAM.out)
  clear ham
  (go_enter Try.func9, Try.ntmps9; go_wp2_with (first | (go_at_call 23; ((with_reducible refine (spec_l22Code _ _ _ _ _ _ _ _ N lo _ (by exact HN.out.below (by (repeat' (first | (with_reducible exact Below.refl _ _) | (with_reducible assumption) | (with_reducible refine Below.alloc ?_ ?_ _) | (with_reducible refine Below.drew ?_) | (with_reducible refine Below.drewN' ?_ _) | (with_reducible refine Below.setCell ?_ ?_ _) | (refine Below.via ?_ (by with_reducible assumption) ?_) | (with_reducible refine Below.via ?_ (Wd.h _) ?_) | go_size)))) rfl rfl (by exact HL.out.below (by (repeat' (first | (with_reducible exact Below.refl _ _) | (with_reducible assumption) | (with_reducible refine Below.alloc ?_ ?_ _) | (with_reducible refine Below.drew ?_) | (with_reducible refine Below.drewN' ?_ _) | (with_reducible refine Below.setCell ?_ ?_ _) | (refine Below.via ?_ (by with_reducible assumption) ?_) | (with_reducible refine Below.via ?_ (Wd.h _) ?_) | go_size)))) (by omega)).mono ?_)); rintro e wn ⟨rfl, hbn⟩; (obtain ⟨hcn, hfn⟩ := bcell hbn; have hzn := hbn.size; (try simp at hzn); have Ncw0_0 := hcn (w.heap.size) (0) (by first | omega | (simp; done) | (simp; omega)); have Nfw0_0 := hfn (w.heap.size) (0) (by first | omega | (simp; done) | (simp; omega)); have Nhy0 : w.heap.size < wn.heap.size := (by omega); have Ncw0_1 := hcn (w.heap.size) (1) (by first | omega | (simp; done) | (simp; omega)); have Nfw0_1 := hfn (w.heap.size) (1) (by first | omega | (simp; done) | (simp; omega)); (first | (simp [go_sem, cw0_0, fw0_0, cw0_1, fw0_1, hy0] at Ncw0_0 Nfw0_0 Ncw0_1 Nfw0_1; clear cw0_0 fw0_0 cw0_1 fw0_1) | (simp [go_sem] at Ncw0_0 Nfw0_0 Ncw0_1 Nfw0_1)); clear hcn hfn; have cw0_0 := Ncw0_0; have fw0_0 := Nfw0_0; have cw0_1 := Ncw0_1; have fw0_1 := Nfw0_1; have hy0 := Nhy0; clear Ncw0_0 Nfw0_0 Ncw0_1 Nfw0_1 Nhy0))))
  have HBn : Hid (Below w.heap.size w wn) := Lib.hid (by (repeat' (first | (with_reducible exact Below.refl _ _) | (with_reducible assumption) | (with_reducible refine Below.alloc ?_ ?_ _) | (with_reducible refine Below.drew ?_) | (with_reducible refine Below.drewN' ?_ _) | (with_reducible refine Below.setCell ?_ ?_ _) | (refine Below.via ?_ (by with_reducible assumption) ?_) | (with_reducible refine Below.via ?_ (Wd.h _) ?_) | go_size)))
  have hzw : w.heap.size + 1 ≤ wn.heap.size := by omega
  clear hbn
  refine (HMT.out _ _ _ (HL.out.below (by have h1 := HBn.out; (repeat' (first | (with_reducible exact Below.refl _ _) | (with_reducible assumption) | (with_reducible refine Below.alloc ?_ ?_ _) | (with_reducible refine Below.drew ?_) | (with_reducible refine Below.drewN' ?_ _) | (with_reducible refine Below.setCell ?_ ?_ _) | (refine Below.via ?_ (by with_reducible assumption) ?_) | (with_reducible refine Below.via ?_ (Wd.h _) ?_) | go_size))))).mono ?_
  rintro e w5 ⟨G5, c5, rfl, hc5, hW5, hb5⟩
  have HW5 := Lib.hid hW5.rd
  have hz5 := hb5.size
  have HB5 := Lib.hid (show Below w.heap.size w w5 by have h1 := HBn.out; (repeat' (first | (with_reducible exact Below.refl _ _) | (with_reducible assumption) | (with_reducible refine Below.alloc ?_ ?_ _) | (with_reducible refine Below.drew ?_) | (with_reducible refine Below.drewN' ?_ _) | (with_reducible refine Below.setCell ?_ ?_ _) | (refine Below.via ?_ (by with_reducible assumption) ?_) | (with_reducible refine Below.via ?_ (Wd.h _) ?_) | go_size)))
  clear hW5 hb5
  go_wp2_with fail
  go_loopw [8, 9] (fun u v wr => ∃ (k : Nat), k ≤ lo.length ∧ v = .int .i64 k ∧ Own wr w5.heap.size 2 1 u k (((loF lo am).take k).map iV) ∧ Below w5.heap.size w5 wr) (fun _ v _ => lo.length - (intOf v).toNat)
  case atStart => exact ⟨0, by omega, rfl, by simpa using Own.lit0 w5 w5.heap.size 2 1 (Nat.le_refl _), by (repeat' (first | (with_reducible exact Below.refl _ _) | (with_reducible assumption) | (with_reducible refine Below.alloc ?_ ?_ _) | (with_reducible refine Below.drew ?_) | (with_reducible refine Below.drewN' ?_ _) | (with_reducible refine Below.setCell ?_ ?_ _) | (refine Below.via ?_ (by with_reducible assumption) ?_) | (with_reducible refine Below.via ?_ (Wd.h _) ?_) | go_size))⟩
  case round =>
    obtain ⟨k, hk, rfl, hO, hbw⟩ := hrel
    have hbH := Lib.hid hbw
    have HOW := Lib.hid hO
    have hzw2 := hbw.size
    clear hO
    by_cases hlt : k < lo.length
    · obtain ⟨x, hx⟩ := get_some hlt
      obtain ⟨a, hav⟩ := get_some (show k < am.length by rw [HAM.out]; exact hlt)
      obtain ⟨ba, oa, rfl, hba, hata⟩ := HL.out.opened (k := k) (by rw [flat_len Ord.len]; omega)
      obtain ⟨bb, ob, rfl, hbb, hatb⟩ := HW5.out.opened (k := k) (by rw [List.length_map, HAM.out]; omega)
      have hzb := HB5.out.size
      have t0 := bc hbw (show ba < w5.heap.size by omega) (bc HB5.out hba (hata.elem Ord.len hx 2 rfl))
      have t1 := ints_at (hatb.below hbw hbb) hav
      have hya : ba < wr.heap.size := by omega
      have hyb : bb < wr.heap.size := by omega
      have hya5 : ba < w5.heap.size := by omega
      obtain ⟨x1, x2⟩ := HA.out x (List.mem_of_getElem? hx)
      obtain ⟨a1, a2⟩ := HAB.out a (List.mem_of_getElem? hav)
      have HG := Lib.hid (loF_get hx hav)
      have g1 : (k : Int) < lo.length := by omega
      clear hx hav hata hatb hbw
      go_wp2_with fail
      have z2 : IntKind.i64.wrap (x.am - a) = x.am - a := IntWalk.i64_in _ (by omega)
      go_region_held3 (fun w' => w'.cell? ⟨ba, oa + k * 4 + 2, none⟩ = some (.int .i64 x.am) ∧ w'.cell? ⟨bb, ob + k, none⟩ = some (.int .i64 a))
        (first | exact ⟨t0, t1⟩ | go_keep | exact ⟨bc hb1 hya5 (by simp [go_sem, t0, hya]), bc hb1 hbb (by simp [go_sem, t1, hyb])⟩)
        (first
          | (apply step_of rfl; apply app1x (s := .tmp 25) (x := .tmp 36) (t := 33) (base := w5.heap.size) (hinfo := info_i64) (v := u8) (n := k) (xs := ((loF lo am).take k).map iV) (news := [iV (x.am - a)]) (m := 1) (c := 1); (case ho => exact rfl); (case ht => exact Try.underlying33); (case hzs => exact rfl); (case hsz => decide); (case hby => decide); (case hs => exact rfl); (case hown => repeat' (first | (with_reducible exact HOW.out) | (with_reducible refine Own.alloc ?_ _) | (with_reducible refine Own.drew ?_))); (case hx => exact rfl); (case hl => exact rfl); (case hnews => (intro j u hu; match j, hu with | 0, hu => (simp at hu; subst hu; simp) | j + 1, hu => simp at hu)); (case h1 => simp [Value.oneCell']); (case hm => decide); (case hn => (clear z2; omega)); (case hbase => (clear z2; first | omega | (simp; omega))); intro v1 w1 hO1 hb1 hF1; have HO1 := Lib.hid hO1; clear hO1))
      all_goals
        clear z2
        go_wp2
        go_roundw
        case rel =>
          refine ⟨k + 1, by omega, by go_num, by rw [ints_snoc HG.out]; exact HO1.out, ?_⟩
          have h1 := hbH.out
          (repeat' (first | (with_reducible exact Below.refl _ _) | (with_reducible assumption) | (with_reducible refine Below.alloc ?_ ?_ _) | (with_reducible refine Below.drew ?_) | (with_reducible refine Below.drewN' ?_ _) | (with_reducible refine Below.setCell ?_ ?_ _) | (refine Below.via ?_ (by with_reducible assumption) ?_) | (with_reducible refine Below.via ?_ (Wd.h _) ?_) | go_size))
        case measure => simp [intOf]; omega
    · obtain rfl : k = lo.length := by omega
      clear hbw
      have hne : ¬ lo.length < lo.length := by omega
      go_wp2
      go_ret2
      obtain ⟨B1, cc, rfl, hnc, hw⟩ := HOW.out.lt_
      rw [List.take_of_length_le (by rw [HLL.out]; omega)] at hw
      exact MadeR.of HR.out HLL.out hnc hw HB5.out.size (HB5.out.trans (hbH.out.mono HB5.out.size))
end Go.Proofs.Ythdonmdhlgajhaa
namespace Go.Proofs.Ythdonmdhlgajhaa
set_option linter.unusedVariables false
set_option linter.unusedSimpArgs false
open Go.RowKit
theorem inc_get (l : List Int) (k j : Nat) : (inc l k)[j]? = if k = j then (l[j]?).map (· + 1) else l[j]? := by
  unfold inc
  by_cases h : k = j
  · subst h
    rw [if_pos rfl]
    cases hx : l[k]? with
    | none => simp [hx]
    | some x =>
      have := (List.getElem?_eq_some_iff.1 hx).1
      simp [this]
  · rw [if_neg h]
    cases hx : l[k]? with
    | none => rfl
    | some x => simp [List.getElem?_set_ne h]
theorem spread_le : ∀ (n : Nat) {sh rs ws : List Int}, n ≤ cntP rs → (∀ (j : Nat) (s r w : Int), sh[j]? = some s → rs[j]? = some r → ws[j]? = some w → s ≤ w ∧ (0 < r → s < w)) → rs.length = sh.length → ∀ (j : Nat) (s w : Int), (spread n sh rs)[j]? = some s → ws[j]? = some w → s ≤ w
  | 0, sh, rs, ws, _, h, hl, j, s, w, hs, hw => by
    rw [spread] at hs
    have hj := (List.getElem?_eq_some_iff.1 hs).1
    obtain ⟨r, hr⟩ := get_some (show j < rs.length by omega)
    exact (h j s r w hs hr hw).1
  | n + 1, sh, rs, ws, hn, h, hl, j, s, w, hs, hw => by
    have hne : rs ≠ [] := by rintro rfl; simp [cntP] at hn
    obtain ⟨p, hp, hpp⟩ := List.countP_pos_iff.1 (show 0 < List.countP (fun x => decide (0 < x)) rs from Nat.lt_of_lt_of_le (Nat.succ_pos n) hn)
    have hpp' : 0 < p := by simpa using hpp
    obtain ⟨x, h1, h2, h3⟩ := best_is hne
    have hx : 0 < x := by have := h2 p hp; omega
    rw [spread] at hs
    generalize best rs = b at *
    have hb := (List.getElem?_eq_some_iff.1 h1).1
    refine spread_le n (ws := ws) (by have := cntP_set h1 hx; omega) (fun j s r w e1 e2 e3 => ?_) (by simp [inc_len, hl]) j s w hs hw
    rw [inc_get] at e1
    by_cases hjb : b = j
    · subst hjb
      rw [if_pos rfl] at e1
      obtain ⟨y, hy⟩ := get_some (show b < sh.length by omega)
      rw [hy] at e1
      simp at e1
      have h4 := h b y x w hy h1 e3
      rw [List.getElem?_set_self hb] at e2
      have e2 : -1 = r := by simpa using e2
      omega
    · rw [if_neg hjb] at e1
      rw [List.getElem?_set_ne hjb] at e2
      exact h j s r w e1 e2 e3
theorem shares_le {t : Int} {ws : List Int} (h : ∀ x ∈ ws, 0 ≤ x) (hs : 0 < sumF ws) (ht : t ≤ sumF ws) {j : Nat} {s w : Int} (h1 : (sharesF t ws)[j]? = some s) (h2 : ws[j]? = some w) : s ≤ w := by
  refine spread_le _ (ws := ws) (left_cnt (total := t) hs) (fun j s r w e1 e2 e3 => ?_) (by simp [shareF, restF]) j s w h1 h2
  simp only [shareF, restF, List.getElem?_map, e3, Option.map_some] at e1 e2
  injection e1 with e1
  injection e2 with e2
  have hw := h w (List.mem_of_getElem? e3)
  have h3 : t * w ≤ sumF ws * w := Int.mul_le_mul_of_nonneg_right ht hw
  have h4 := Int.mul_ediv_add_emod (t * w) (sumF ws)
  have h5 := Int.emod_nonneg (t * w) (show sumF ws ≠ 0 by omega)
  rw [e1, e2] at h4
  rw [e2] at h5
  have h6 : sumF ws * s ≤ sumF ws * w := by omega
  refine ⟨Int.le_of_mul_le_mul_left h6 hs, fun hr => ?_⟩
  have h7 : sumF ws * s < sumF ws * w := by omega
  exact Int.lt_of_mul_lt_mul_left h7 (by omega)
theorem vec_le {t : Int} {ps : List Int} (h : ∀ x ∈ ps, 0 ≤ x) (h0 : 0 ≤ t) (ht : t ≤ sumF ps) {j : Nat} {v p : Int} (h1 : (vecF t ps)[j]? = some v) (h2 : ps[j]? = some p) : 0 ≤ v ∧ v ≤ p := by
  have hp := h p (List.mem_of_getElem? h2)
  unfold vecF at h1
  split at h1
  · rename_i hs
    exact ⟨(shares_bd (t := t) h hs h0 v (List.mem_of_getElem? h1)).1, shares_le h hs ht h1 h2⟩
  · rw [List.getElem?_replicate] at h1
    split at h1 <;> simp at h1
    omega
theorem sumF_zero : ∀ n : Nat, sumF (List.replicate n 0) = 0
  | 0 => rfl
  | n + 1 => by rw [List.replicate_succ, sumF, sumF_zero n]; rfl
theorem vec_sum {t : Int} {ps : List Int} (h0 : 0 ≤ t) (ht : t ≤ sumF ps) : sumF (vecF t ps) = t := by
  unfold vecF
  split
  · rename_i hs; exact shares_sum hs
  · rw [sumF_zero]; omega
theorem all_zero : ∀ {ps : List Int}, (∀ x ∈ ps, 0 ≤ x) → sumF ps ≤ 0 → ps = List.replicate ps.length 0
  | [], _, _ => rfl
  | x :: l, h, hs => by
    have h1 := h x (by simp)
    have h2 := sumF_nonneg (l := l) (fun y hy => h y (by simp [hy]))
    simp only [sumF] at hs
    have h3 := all_zero (ps := l) (fun y hy => h y (by simp [hy])) (by omega)
    obtain rfl : x = 0 := by omega
    rw [List.length_cons, List.replicate_succ, ← h3]
theorem vec_id {ps : List Int} (h : ∀ x ∈ ps, 0 ≤ x) : vecF (sumF ps) ps = ps := by
  unfold vecF
  split
  · rename_i hs
    have e1 : shareF (sumF ps) (sumF ps) ps = ps := by
      rw [shareF]
      conv => rhs; rw [← List.map_id ps]
      exact List.map_congr_left fun x _ => by rw [Int.mul_ediv_cancel_left _ (by omega)]; rfl
    rw [sharesF, e1]
    have : (sumF ps - sumF ps).toNat = 0 := by omega
    rw [this, spread]
  · rename_i hs
    exact (all_zero h (by omega)).symm
theorem fold_at (l : List Ord) : ∀ (n j : Nat) (x : Ord) (o v1 v2 : Int), l[j]? = some x → 0 ≤ x.sh → (foldS l n)[j]? = some o → (vecF (totM x.sh l) (partsF x.sh 1 l))[j]? = some v1 → (vecF (totM x.sh l) (partsF x.sh (-1) l))[j]? = some v2 → o = if x.sh < n then v1 - v2 else 0
  | 0, j, x, o, v1, v2, hx, h0, ho, _, _ => by
    rw [foldS, List.getElem?_replicate] at ho
    split at ho
    · simp at ho
      rw [if_neg (by omega)]; exact ho.symm
    · simp at ho
  | n + 1, j, x, o, v1, v2, hx, h0, ho, e1, e2 => by
    have hlt := (List.getElem?_eq_some_iff.1 hx).1
    obtain ⟨o0, ho0⟩ := get_some (show j < (foldS l n).length by rw [foldS_len]; exact hlt)
    have ih := fold_at l n j x o0 v1 v2 hx h0 ho0 e1 e2
    obtain ⟨u1, hu1⟩ := get_some (show j < (vecF (totM n l) (partsF n 1 l)).length by rw [vecF_len, partsF_len]; exact hlt)
    obtain ⟨u2, hu2⟩ := get_some (show j < (vecF (totM n l) (partsF n (-1) l)).length by rw [vecF_len, partsF_len]; exact hlt)
    have hl0 : (foldS l n).length = (partsF n 1 l).length := by rw [foldS_len, partsF_len]
    have hl1 : (addV 1 (totM n l) (partsF n 1 l) (foldS l n)).length = (partsF n (-1) l).length := by rw [addV_len hl0, foldS_len, partsF_len]
    rw [foldS, stepS, addV_get hl1 (addV_get hl0 ho0 hu1) hu2] at ho
    injection ho with ho
    by_cases hs : x.sh = n
    · rw [hs] at e1 e2
      rw [hu1] at e1
      rw [hu2] at e2
      injection e1 with e1
      injection e2 with e2
      rw [if_neg (by omega)] at ih
      rw [if_pos (by omega)]
      omega
    · have q1 : (partsF n 1 l)[j]? = some 0 := by simp [partsF, hx, part1, hs]
      have q2 : (partsF n (-1) l)[j]? = some 0 := by simp [partsF, hx, part1, hs]
      have z1 := vecF_zero (parts_nn n 1 l) q1 hu1
      have z2 := vecF_zero (parts_nn n (-1) l) q2 hu2
      by_cases hq : x.sh < n
      · rw [if_pos hq] at ih; rw [if_pos (by omega)]; omega
      · rw [if_neg hq] at ih; rw [if_neg (by omega)]; omega
def ShB (l : List Ord) : Prop := ∀ x ∈ l, 0 ≤ x.sh ∧ x.sh ≤ 15
theorem totM_le (s : Int) (l : List Ord) : 0 ≤ totM s l ∧ totM s l ≤ sumF (partsF s 1 l) ∧ totM s l ≤ sumF (partsF s (-1) l) := by
  have h1 := sumF_nonneg (parts_nn s 1 l)
  have h2 := sumF_nonneg (parts_nn s (-1) l)
  rw [parts_sum] at h1 h2 ⊢
  rw [parts_sum]
  unfold totM
  omega
/-- an order's amount after matching, by the shares of its shipper -/
theorem mt_at {l : List Ord} (hb : ShB l) {j : Nat} {x : Ord} (hx : l[j]? = some x) : ∃ o v1 v2, (mtL l)[j]? = some o ∧ (vecF (totM x.sh l) (partsF x.sh 1 l))[j]? = some v1 ∧ (vecF (totM x.sh l) (partsF x.sh (-1) l))[j]? = some v2 ∧ o = v1 - v2 ∧ (0 ≤ v1 ∧ v1 ≤ part1 x.sh 1 x) ∧ (0 ≤ v2 ∧ v2 ≤ part1 x.sh (-1) x) := by
  have hlt := (List.getElem?_eq_some_iff.1 hx).1
  obtain ⟨o, ho⟩ := get_some (show j < (mtL l).length by rw [mtL_len]; exact hlt)
  obtain ⟨v1, h1⟩ := get_some (show j < (vecF (totM x.sh l) (partsF x.sh 1 l)).length by rw [vecF_len, partsF_len]; exact hlt)
  obtain ⟨v2, h2⟩ := get_some (show j < (vecF (totM x.sh l) (partsF x.sh (-1) l)).length by rw [vecF_len, partsF_len]; exact hlt)
  have hs := hb x (List.mem_of_getElem? hx)
  have := fold_at l 16 j x o v1 v2 hx hs.1 ho h1 h2
  rw [if_pos (by omega)] at this
  have ht := totM_le x.sh l
  exact ⟨o, v1, v2, ho, h1, h2, this, vec_le (parts_nn _ _ _) ht.1 ht.2.1 h1 (parts_at hx), vec_le (parts_nn _ _ _) ht.1 ht.2.2 h2 (parts_at hx)⟩
/-- what matching makes of an amount -/
theorem mt_am {l : List Ord} (hb : ShB l) {j : Nat} {x : Ord} (hx : l[j]? = some x) : ∃ o, (mtL l)[j]? = some o ∧ ((0 ≤ o ∧ o ≤ x.am) ∨ (x.am ≤ o ∧ o ≤ 0)) := by
  obtain ⟨o, v1, v2, ho, _, _, e, ⟨a1, a2⟩, b1, b2⟩ := mt_at hb hx
  refine ⟨o, ho, ?_⟩
  have q1 : part1 x.sh 1 x = if 0 < 1 * x.am then 1 * x.am else 0 := by rw [part1, if_pos rfl]
  have q2 : part1 x.sh (-1) x = if 0 < -1 * x.am then -1 * x.am else 0 := by rw [part1, if_pos rfl]
  rw [q1] at a2
  rw [q2] at b2
  split at a2 <;> split at b2 <;> omega
theorem wa_at {l : List Ord} (hb : ShB l) {j : Nat} {x : Ord} (hx : l[j]? = some x) : ∃ o, (mtL l)[j]? = some o ∧ (waF l (mtL l))[j]? = some ⟨x.sh, x.nd, o, x.cl⟩ ∧ ((0 ≤ o ∧ o ≤ x.am) ∨ (x.am ≤ o ∧ o ≤ 0)) := by
  obtain ⟨o, ho, h⟩ := mt_am hb hx
  exact ⟨o, ho, waF_get hx ho, h⟩
/-- the parts of the matched orders are the shares -/
theorem wa_parts {l : List Ord} (hb : ShB l) {s sg : Int} (hsg : sg = 1 ∨ sg = -1) : partsF s sg (waF l (mtL l)) = vecF (totM s l) (partsF s sg l) := by
  refine List.ext_getElem? fun j => ?_
  by_cases hj : j < l.length
  · obtain ⟨x, hx⟩ := get_some hj
    obtain ⟨o, v1, v2, ho, h1, h2, e, ⟨a1, a2⟩, b1, b2⟩ := mt_at hb hx
    rw [parts_at (waF_get hx ho)]
    by_cases hs : x.sh = s
    · subst hs
      have q1 : part1 x.sh 1 x = if 0 < 1 * x.am then 1 * x.am else 0 := by rw [part1, if_pos rfl]
      have q2 : part1 x.sh (-1) x = if 0 < -1 * x.am then -1 * x.am else 0 := by rw [part1, if_pos rfl]
      rw [q1] at a2
      rw [q2] at b2
      rcases hsg with rfl | rfl
      · rw [h1, part1, if_pos rfl]
        congr 1
        dsimp only
        split at a2 <;> split at b2 <;> split <;> omega
      · rw [h2, part1, if_pos rfl]
        congr 1
        dsimp only
        split at a2 <;> split at b2 <;> split <;> omega
    · obtain ⟨u, hu⟩ := get_some (show j < (vecF (totM s l) (partsF s sg l)).length by rw [vecF_len, partsF_len]; exact hj)
      have q1 : (partsF s sg l)[j]? = some 0 := by simp [partsF, hx, part1, hs]
      rw [hu, vecF_zero (parts_nn s sg l) q1 hu, part1, if_neg hs]
  · rw [List.getElem?_eq_none (by rw [partsF_len, waF_len (mtL_len l)]; omega), List.getElem?_eq_none (by rw [vecF_len, partsF_len]; omega)]
theorem wa_tot {l : List Ord} (hb : ShB l) {s sg : Int} (hsg : sg = 1 ∨ sg = -1) : totF s sg (waF l (mtL l)) = totM s l := by
  have ht := totM_le s l
  rw [← parts_sum, wa_parts hb hsg]
  rcases hsg with rfl | rfl
  · exact vec_sum ht.1 ht.2.1
  · exact vec_sum ht.1 ht.2.2
theorem wa_totM {l : List Ord} (hb : ShB l) (s : Int) : totM s (waF l (mtL l)) = totM s l := by
  rw [totM, wa_tot hb (.inl rfl), wa_tot hb (.inr rfl)]; omega
theorem wa_shb {l : List Ord} (hb : ShB l) : ShB (waF l (mtL l)) := fun y hy => by
  obtain ⟨j, hj⟩ := List.getElem?_of_mem hy
  have hlt := (List.getElem?_eq_some_iff.1 hj).1
  rw [waF_len (mtL_len l)] at hlt
  obtain ⟨x, hx⟩ := get_some hlt
  obtain ⟨o, _, h2, _⟩ := wa_at hb hx
  rw [h2] at hj
  injection hj with hj
  subst hj
  exact hb x (List.mem_of_getElem? hx)
theorem mt_again {l : List Ord} (hb : ShB l) : mtL (waF l (mtL l)) = (waF l (mtL l)).map (fun x => x.am) := by
  have hl : (waF l (mtL l)).length = l.length := waF_len (mtL_len l)
  refine List.ext_getElem? fun j => ?_
  by_cases hj : j < l.length
  · obtain ⟨y, hy⟩ := get_some (show j < (waF l (mtL l)).length by omega)
    obtain ⟨o, v1, v2, ho, h1, h2, e, _, _⟩ := mt_at (wa_shb hb) hy
    have t1 : totM y.sh (waF l (mtL l)) = sumF (partsF y.sh 1 (waF l (mtL l))) := by rw [wa_totM hb, parts_sum, wa_tot hb (.inl rfl)]
    have t2 : totM y.sh (waF l (mtL l)) = sumF (partsF y.sh (-1) (waF l (mtL l))) := by rw [wa_totM hb, parts_sum, wa_tot hb (.inr rfl)]
    rw [t1, vec_id (parts_nn _ _ _), parts_at hy] at h1
    rw [t2, vec_id (parts_nn _ _ _), parts_at hy] at h2
    injection h1 with h1
    injection h2 with h2
    rw [ho, List.getElem?_map, hy, Option.map_some]
    congr 1
    have q1 : part1 y.sh 1 y = if 0 < 1 * y.am then 1 * y.am else 0 := by rw [part1, if_pos rfl]
    have q2 : part1 y.sh (-1) y = if 0 < -1 * y.am then -1 * y.am else 0 := by rw [part1, if_pos rfl]
    rw [q1] at h1
    rw [q2] at h2
    split at h1 <;> split at h2 <;> omega
  · rw [List.getElem?_eq_none (by rw [mtL_len]; omega), List.getElem?_eq_none (by rw [List.length_map]; omega)]
/-- matching again changes nothing -/
theorem wa_again {l : List Ord} (hb : ShB l) : waF (waF l (mtL l)) (mtL (waF l (mtL l))) = waF l (mtL l) := by
  rw [mt_again hb]; exact waF_self _
end Go.Proofs.Ythdonmdhlgajhaa
namespace Go.Proofs.Ythdonmdhlgajhaa
set_option linter.unusedVariables false
set_option linter.unusedSimpArgs false
open Go.RowKit
set_option maxRecDepth 100000 in
set_option maxHeartbeats 1000000 in
theorem laws_likeOrders (A B : Option Addr) (c d n m : Nat) (l : List Ord) (w : World) (h : Rd w A (l.flatMap Ord.cells)) (h' : Rd w B (l.flatMap Ord.cells)) (hn : n = l.length) (hm : m = l.length) (hl : l.length ≤ 1048576) :
    Calls Try.prog 10 #[.slice A n c, .slice B m d] w fun e w' => e = .returned (.bool true) ∧ Below w.heap.size w w' := by
  subst hn hm
  have H := Lib.hid h
  have H' := Lib.hid h'
  clear h h'
  go_enter Try.func10, Try.ntmps10
  go_wp2
  go_loopw [5] (fun v wr => ∃ k : Nat, k ≤ l.length ∧ v = .int .i64 k ∧ Below w.heap.size w wr) (fun v _ => l.length - (intOf v).toNat)
  case atStart => exact ⟨0, by omega, rfl, Below.refl _ _⟩
  case round =>
    obtain ⟨k, hk, rfl, hbw⟩ := hrel
    have hbH := Lib.hid hbw
    by_cases hlt : k < l.length
    · obtain ⟨x, hx⟩ := get_some hlt
      obtain ⟨b, off, rfl, hb, hat⟩ := H.out.opened (k := k) (by rw [flat_len Ord.len]; omega)
      obtain ⟨b', off', rfl, hb', hat'⟩ := H'.out.opened (k := k) (by rw [flat_len Ord.len]; omega)
      have hat2 := hat.below hbw hb
      have hat2' := hat'.below hbw hb'
      have hbr : b < wr.heap.size := Nat.lt_of_lt_of_le hb hbw.size
      have hbr' : b' < wr.heap.size := Nat.lt_of_lt_of_le hb' hbw.size
      have q0_0 := Wd.cell hbr (hat2.elem0 Ord.len hx rfl)
      have q0_1 := Wd.cell hbr' (hat2'.elem0 Ord.len hx rfl)
      have q1_0 := Wd.cell hbr (hat2.elem Ord.len hx 1 rfl)
      have q1_1 := Wd.cell hbr' (hat2'.elem Ord.len hx 1 rfl)
      have q2_0 := Wd.cell hbr (hat2.elem Ord.len hx 2 rfl)
      have q2_1 := Wd.cell hbr' (hat2'.elem Ord.len hx 2 rfl)
      have q3_0 := Wd.cell hbr (hat2.elem Ord.len hx 3 rfl)
      have q3_1 := Wd.cell hbr' (hat2'.elem Ord.len hx 3 rfl)
      clear hx hat hat' hat2 hat2' hbw hbr hbr'
      go_wp2_with fail
      ((refine wp_region_wd (by kernel_rfl) (by kernel_rfl) ?_); (repeat (go_big_quiet_step ((first | fail)))); (refine wpQuiet_nil ?_); rintro wn ⟨⟨w'', hbn⟩, hw''⟩; obtain rfl : wn = w'' := hw''; (obtain ⟨hcn, hfn⟩ := bcell hbn; have hzn := hbn.size; (try simp at hzn); clear hcn hfn))
      go_wp2
      go_roundw
      case rel => exact ⟨k + 1, by omega, by go_num, Below.via hbH.out hbn hbH.out.size⟩
      case measure => simp [intOf]; omega
    · clear hbw
      go_wp2
      go_ret
      exact ⟨rfl, hbH.out⟩
set_option maxRecDepth 100000 in
theorem laws_size (x z : Int) (w : World) (h : -1000000000000 ≤ x ∧ x ≤ 1000000000000) (hz : z = max x (-x)) :
    Calls Try.prog 14 #[.int .i64 x] w fun e w' => e = .returned (.int .i64 z) ∧ w = w' := by
  go_enter Try.func14, Try.ntmps14
  go_wp2
  go_ret
  exact ⟨ri (by omega), rfl⟩
end Go.Proofs.Ythdonmdhlgajhaa
namespace Go.Proofs.Ythdonmdhlgajhaa
set_option linter.unusedVariables false
set_option linter.unusedSimpArgs false
open Go.RowKit
set_option maxRecDepth 100000 in
set_option maxHeartbeats 1000000 in
theorem laws_likeInts (A B : Option Addr) (c d n m : Nat) (l : List Int) (w : World) (h : Rd w A (l.map iV)) (h' : Rd w B (l.map iV)) (hn : n = l.length) (hm : m = l.length) (hl : l.length ≤ 1048576) :
    Calls Try.prog 11 #[.slice A n c, .slice B m d] w fun e w' => e = .returned (.bool true) ∧ Below w.heap.size w w' := by
  subst hn hm
  have H := Lib.hid h
  have H' := Lib.hid h'
  clear h h'
  go_enter Try.func11, Try.ntmps11
  go_wp2
  go_loopw [5] (fun v wr => ∃ k : Nat, k ≤ l.length ∧ v = .int .i64 k ∧ Below w.heap.size w wr) (fun v _ => l.length - (intOf v).toNat)
  case atStart => exact ⟨0, by omega, rfl, Below.refl _ _⟩
  case round =>
    obtain ⟨k, hk, rfl, hbw⟩ := hrel
    have hbH := Lib.hid hbw
    by_cases hlt : k < l.length
    · obtain ⟨n, hn⟩ := get_some hlt
      obtain ⟨b, off, rfl, hb, hat⟩ := H.out.opened (k := k) (by simpa using hlt)
      obtain ⟨b', off', rfl, hb', hat'⟩ := H'.out.opened (k := k) (by simpa using hlt)
      have t0 := ints_at (hat.below hbw hb) hn
      have t1 := ints_at (hat'.below hbw hb') hn
      clear hn hat hat' hbw
      go_wp2
      go_quiet (fail)
      go_wp2
      go_roundw
      case rel => exact ⟨k + 1, by omega, by go_num, Below.drewN' hbH.out _⟩
      case measure => simp [intOf]; omega
    · clear hbw
      go_wp2
      go_ret
      exact ⟨rfl, hbH.out⟩
end Go.Proofs.Ythdonmdhlgajhaa
namespace Go.Proofs.Ythdonmdhlgajhaa
set_option linter.unusedVariables false
set_option linter.unusedSimpArgs false
open Go.RowKit
set_option maxRecDepth 100000 in
set_option maxHeartbeats 8000000 in
theorem spec_DrawMatchOrders (A0 : Option Addr) (c0 : Nat) (l0 : List Int) (w : World) (h : BytesIn w A0 l0) (hl : l0.length ≤ 4096) :
    Calls Try.prog 5 #[.slice A0 l0.length c0] w fun e w' => ∃ (A Bq Al : Option Addr) (c d cl : Nat) (N : Net) (l : List Ord), e = .returned (.tuple #[netV A Bq N.nodes.length c N.pipes.length d, .slice Al l.length cl]) ∧ N.nodes.length ≤ c ∧ NetAt w' A Bq N ∧ Rd w' Al (l.flatMap Ord.cells) ∧ l.length ≤ 128 ∧ Below w.heap.size w w' := by
  have HI := Lib.hid h
  clear h
  go_enter Try.func5, Try.ntmps5
  go_wp2_with fail
  refine (spec_l01From A0 c0 l0 _ (HI.out.below (by (repeat' (first | (with_reducible exact Below.refl _ _) | (with_reducible assumption) | (with_reducible refine Below.alloc ?_ ?_ _) | (with_reducible refine Below.drew ?_) | (with_reducible refine Below.drewN' ?_ _) | (with_reducible refine Below.setCell ?_ ?_ _) | (refine Below.via ?_ (by with_reducible assumption) ?_) | (with_reducible refine Below.via ?_ (Wd.h _) ?_) | go_size)))) hl).mono ?_
  rintro e w1 ⟨rfl, hs1, hb1⟩
  have hs1 : Src w1 (w.heap.size + 1) := by simpa using hs1
  have HS1 := Lib.hid hs1
  have hp1 := hs1.lt
  clear hs1
  (obtain ⟨hcn, hfn⟩ := bcell hb1; have hz1 := hb1.size; (try simp at hz1); have Ncw0_0 := hcn (w.heap.size) (0) (by first | omega | (simp; done) | (simp; omega)); have Nfw0_0 := hfn (w.heap.size) (0) (by first | omega | (simp; done) | (simp; omega)); have Nhy0 : w.heap.size < w1.heap.size := (by omega); have Ncw0_1 := hcn (w.heap.size) (1) (by first | omega | (simp; done) | (simp; omega)); have Nfw0_1 := hfn (w.heap.size) (1) (by first | omega | (simp; done) | (simp; omega)); simp [go_sem] at Ncw0_0 Nfw0_0 Ncw0_1 Nfw0_1; clear hcn hfn; have cw0_0 := Ncw0_0; have fw0_0 := Nfw0_0; have cw0_1 := Ncw0_1; have fw0_1 := Nfw0_1; have hy0 := Nhy0; clear Ncw0_0 Nfw0_0 Ncw0_1 Nfw0_1 Nhy0)
  go_wp2_with fail
  refine (spec_l22Draw (w.heap.size + 1) _ (HS1.out.below (by (repeat' (first | (with_reducible exact Below.refl _ _) | (with_reducible assumption) | (with_reducible refine Below.alloc ?_ ?_ _) | (with_reducible refine Below.drew ?_) | (with_reducible refine Below.drewN' ?_ _) | (with_reducible refine Below.setCell ?_ ?_ _) | (refine Below.via ?_ (by with_reducible assumption) ?_) | (with_reducible refine Below.via ?_ (Wd.h _) ?_) | go_size))))).mono ?_
  rintro e w2 ⟨A, Bq, Al, c, d, cl, n2, N, xs, rfl, ⟨l, rfl, rfl⟩, hnc, hN, hL, hl8, hs2, hk2, hA, hB, hAl⟩
  have HN := Lib.hid hN
  have HL := Lib.hid hL
  have HB2 := Lib.hid (show Below w.heap.size w w2 from hk2.below (by (repeat' (first | (with_reducible exact Below.refl _ _) | (with_reducible assumption) | (with_reducible refine Below.alloc ?_ ?_ _) | (with_reducible refine Below.drew ?_) | (with_reducible refine Below.drewN' ?_ _) | (with_reducible refine Below.setCell ?_ ?_ _) | (refine Below.via ?_ (by with_reducible assumption) ?_) | (with_reducible refine Below.via ?_ (Wd.h _) ?_) | go_size))) (by go_size) (by intro k hq; (try simp only at hq); omega))
  (have hz2 := hk2.size; (try simp at hz2); have Ncw0_0 := hk2.cell (w.heap.size) (0) (by first | omega | (simp; done) | (simp; omega)) (by intro hq; (try simp only at hq); omega); have Nfw0_0 := hk2.frozen (w.heap.size) (0) (by first | omega | (simp; done) | (simp; omega)) (by intro hq; (try simp only at hq); omega); have Nhy0 : w.heap.size < w2.heap.size := (by omega); have Ncw0_1 := hk2.cell (w.heap.size) (1) (by first | omega | (simp; done) | (simp; omega)) (by intro hq; (try simp only at hq); omega); have Nfw0_1 := hk2.frozen (w.heap.size) (1) (by first | omega | (simp; done) | (simp; omega)) (by intro hq; (try simp only at hq); omega); simp [go_sem, cw0_0, fw0_0, cw0_1, fw0_1, hy0] at Ncw0_0 Nfw0_0 Ncw0_1 Nfw0_1; clear cw0_0 fw0_0 cw0_1 fw0_1 hy0; have cw0_0 := Ncw0_0; have fw0_0 := Nfw0_0; have cw0_1 := Ncw0_1; have fw0_1 := Nfw0_1; have hy0 := Nhy0; clear Ncw0_0 Nfw0_0 Ncw0_1 Nfw0_1 Nhy0)
  have HA := Lib.hid (show ∀ b off, A = some ⟨b, off, none⟩ → w.heap.size + 1 < b from fun b off e => by have := hA b off e; omega)
  have HB := Lib.hid (show ∀ b off, Bq = some ⟨b, off, none⟩ → w.heap.size + 1 < b from fun b off e => by have := hB b off e; omega)
  have HAl := Lib.hid (show ∀ b off, Al = some ⟨b, off, none⟩ → w.heap.size + 1 < b from fun b off e => by have := hAl b off e; omega)
  clear hN hL hs2 hk2 hb1 hA hB hAl
  go_wp2_with fail
  refine bodyPost_ret (by simp [results, Try.results5, go_sem, hy0, cw0_0, cw0_1]; try rfl) rfl ?_
  have hkp : Keep (· = w.heap.size) w2 _ := ((Keep.refl (· = w.heap.size) w2).setCell (p := ⟨w.heap.size, 0, none⟩) rfl (.slice A N.nodes.length c)).setCell (p := ⟨w.heap.size, 1, none⟩) rfl (.slice Bq N.pipes.length d)
  refine ⟨A, Bq, Al, c, d, cl, N, l, by simp [netV], hnc, HN.out.keepC hkp (fun b off e q => by have := HA.out b off e; omega) (fun b off e q => by have := HB.out b off e; omega), HL.out.keep hkp (fun b off e q => by have := HAl.out b off e; omega), hl8, hkp.below HB2.out (by omega) (by intro k q; omega)⟩
end Go.Proofs.Ythdonmdhlgajhaa
namespace Go.Proofs.Ythdonmdhlgajhaa
set_option linter.unusedVariables false
set_option linter.unusedSimpArgs false
open Go.RowKit
/-- block q is a dice over the bytes l, which lie below G -/
structure Dice (w : World) (q G : Nat) : Prop where
  st : ∃ (A : Option Addr) (c : Nat) (l : List Int) (i h : Int), Bx w q [.slice A l.length c, .int .i64 i, .int .u64 h] ∧ 0 ≤ i ∧ i ≤ l.length ∧ Rd w A (l.map bV) ∧ (∀ x ∈ l, 0 ≤ x ∧ x ≤ 255) ∧ l.length ≤ 4096 ∧ 0 ≤ h ∧ h ≤ 18446744073709551615 ∧ G ≤ q ∧ ∀ b off, A = some ⟨b, off, none⟩ → l ≠ [] → b < G
theorem u64w (z : Int) : 0 ≤ IntKind.u64.wrap z ∧ IntKind.u64.wrap z ≤ 18446744073709551615 := by
  simp [IntKind.wrap, IntKind.bits, IntKind.signed]; omega
set_option maxRecDepth 100000 in
set_option maxHeartbeats 4000000 in
theorem laws_roll (A : Option Addr) (c : Nat) (l : List Int) (s : Int) (w : World) (h : BytesIn w A l) (hl : l.length ≤ 4096) (hs0 : 0 ≤ s) (hs1 : s ≤ 100000) (G : Nat) (hG : G ≤ w.heap.size) (hbG : ∀ b off, A = some ⟨b, off, none⟩ → l ≠ [] → b < G) :
    Calls Try.prog 16 #[.slice A l.length c, .int .u64 s] w fun e w' => e = .returned (.pointer (some ⟨w.heap.size, 0, none⟩)) ∧ Dice w' w.heap.size G ∧ Below w.heap.size w w' := by
  have HI := Lib.hid h
  have HBG := Lib.hid hbG
  clear h hbG
  go_enter Try.func16, Try.ntmps16
  go_wp2_with fail
  go_loopw [6] (fun v wr => ∃ (k : Nat) (s : Int), k ≤ l.length ∧ v = .int .i64 k ∧ 0 ≤ s ∧ s ≤ 18446744073709551615 ∧ Bx wr w.heap.size [.slice A l.length c, .int .i64 0, .int .u64 s] ∧ Below w.heap.size w wr) (fun v _ => l.length - (intOf v).toNat)
  case atStart =>
    refine ⟨0, s * 7919 + l.length, by omega, rfl, by omega, by omega, bx3 (by simp) (by simp; try omega) (by simp) (by simp) (by simp) (by simp; try omega) (by simp), by (repeat' (first | (with_reducible exact Below.refl _ _) | (with_reducible assumption) | (with_reducible refine Below.alloc ?_ ?_ _) | (with_reducible refine Below.drew ?_) | (with_reducible refine Below.drewN' ?_ _) | (with_reducible refine Below.setCell ?_ ?_ _) | (refine Below.via ?_ (by with_reducible assumption) ?_) | (with_reducible refine Below.via ?_ (Wd.h _) ?_) | go_size))⟩
  case round =>
    obtain ⟨k, s2, hk, rfl, s0, s1, hB, hbw⟩ := hrel
    have hbH := Lib.hid hbw
    have HB := Lib.hid hB
    have hy_c := hB.lt
    have c_0 := hB.cell 0 rfl
    have c_1 := hB.cell 1 rfl
    have c_2 := hB.cell 2 rfl
    have c_0f := hB.frozen 0 rfl
    have c_1f := hB.frozen 1 rfl
    have c_2f := hB.frozen 2 rfl
    by_cases hlt : k < l.length
    · obtain ⟨x, hx⟩ := get_some hlt
      obtain ⟨b, off, rfl, hb, hat⟩ := HI.out.rd.opened (k := k) (by simpa using hlt)
      have t_0 := bytes_at (hat.below hbw hb) hx
      obtain ⟨x0, x1⟩ := HI.out.ok x (List.mem_of_getElem? hx)
      have hzw := hbw.size
      have hy_t : b < wr.heap.size := by omega
      have g1 : (k : Int) < l.length := by omega
      clear hx hat hbw hB
      go_wp2_with fail
      
      (have qc_0 := Wd.cell hy_c c_0; have qc_1 := Wd.cell hy_c c_1; have qc_2 := Wd.cell hy_c c_2; have qt_0 := Wd.cell hy_t t_0; (refine wp_region_wd_tail 15 (by kernel_rfl) (by kernel_rfl) ?_; simp only [List.take_succ_cons, List.take_zero, List.drop_succ_cons, List.drop_zero]); (repeat (go_big_quiet_step ((first | fail)))); (refine wpQuiet_nil ?_); rintro wn ⟨⟨w'', hbn⟩, hw''⟩; obtain rfl : wn = w'' := hw''; clear qc_0 qc_1 qc_2 qt_0; (obtain ⟨hcn, hfn⟩ := bcell hbn; have hzn := hbn.size; (try simp at hzn); have Nc_0 := hcn (w.heap.size) (0) (by first | omega | (simp; done) | (simp; omega)); have Nc_0f := hfn (w.heap.size) (0) (by first | omega | (simp; done) | (simp; omega)); have Nhy_c : w.heap.size < wn.heap.size := (by omega); have Nc_1 := hcn (w.heap.size) (1) (by first | omega | (simp; done) | (simp; omega)); have Nc_1f := hfn (w.heap.size) (1) (by first | omega | (simp; done) | (simp; omega)); have Nc_2 := hcn (w.heap.size) (2) (by first | omega | (simp; done) | (simp; omega)); have Nc_2f := hfn (w.heap.size) (2) (by first | omega | (simp; done) | (simp; omega)); have Nt_0 := hcn (b) (off + k) (by first | omega | (simp; done) | (simp; omega)); have Nhy_t : b < wn.heap.size := (by omega); (first | (simp [go_sem, c_0, c_0f, c_1, c_1f, c_2, c_2f, t_0, hy_c, hy_t] at Nc_0 Nc_0f Nc_1 Nc_1f Nc_2 Nc_2f Nt_0; clear c_0 c_0f c_1 c_1f c_2 c_2f t_0) | (simp [go_sem] at Nc_0 Nc_0f Nc_1 Nc_1f Nc_2 Nc_2f Nt_0)); clear hcn hfn; have c_0 := Nc_0; have c_0f := Nc_0f; have c_1 := Nc_1; have c_1f := Nc_1f; have c_2 := Nc_2; have c_2f := Nc_2f; have t_0 := Nt_0; have hy_c := Nhy_c; have hy_t := Nhy_t; clear Nc_0 Nc_0f Nc_1 Nc_1f Nc_2 Nc_2f Nt_0 Nhy_c Nhy_t))
      go_wp2
      
      go_roundw
      case rel =>
        exact ⟨k + 1, IntKind.u64.wrap (IntKind.u64.wrap (IntKind.u64.wrap (s2 * 1099511628211) + x) + 3), by omega, by go_num, (u64w _).1, (u64w _).2, bx3 (by simp; omega) (by simp [go_sem, c_0]) (by simp [go_sem, c_0f]) (by simp [go_sem, c_1]) (by simp [go_sem, c_1f]) (by simp [go_sem, c_2]) (by simp [go_sem, c_2f]), by have h1 := hbH.out; (repeat' (first | (with_reducible exact Below.refl _ _) | (with_reducible assumption) | (with_reducible refine Below.alloc ?_ ?_ _) | (with_reducible refine Below.drew ?_) | (with_reducible refine Below.drewN' ?_ _) | (with_reducible refine Below.setCell ?_ ?_ _) | (refine Below.via ?_ (by with_reducible assumption) ?_) | (with_reducible refine Below.via ?_ (Wd.h _) ?_) | go_size))⟩
      case measure => simp [intOf]; omega
    · have g1 : ¬ (k : Int) < l.length := by omega
      clear hbw hB
      go_wp2
      go_ret
      refine ⟨rfl, ⟨A, c, l, 0, s2, HB.out, by omega, by omega, HI.out.rd.below hbH.out, HI.out.ok, hl, s0, s1, hG, HBG.out⟩, hbH.out⟩
theorem and_bd (x : Int) : 0 ≤ bits BinOp.and IntKind.u64 x 16777215 ∧ bits BinOp.and IntKind.u64 x 16777215 ≤ 16777215 := by
  have h : (BitVec.ofInt IntKind.u64.bits x &&& BitVec.ofInt IntKind.u64.bits 16777215).toNat ≤ 16777215 := by
    rw [BitVec.toNat_and]
    refine Nat.le_trans Nat.and_le_right ?_
    decide
  unfold bits
  dsimp only
  rw [IntWalk.u64_in _ ⟨by omega, by omega⟩]
  omega
theorem Dice.next {w w' : World} {q c G : Nat} {A : Option Addr} {l : List Int} {i' h' : Int} (hk : Keep (· = q) w w') (hb : Bx w' q [.slice A l.length c, .int .i64 i', .int .u64 h']) (i0 : 0 ≤ i') (i1 : i' ≤ l.length) (hr : Rd w A (l.map bV)) (hby : ∀ x ∈ l, 0 ≤ x ∧ x ≤ 255) (hl : l.length ≤ 4096) (h0 : 0 ≤ h') (h1 : h' ≤ 18446744073709551615) (hG : G ≤ q) (hne : ∀ b off, A = some ⟨b, off, none⟩ → l ≠ [] → b < G) : Dice w' q G :=
  ⟨A, c, l, i', h', hb, i0, i1, by
    by_cases he : l = []
    · subst he; exact Rd.nil
    · exact hr.keep hk (fun b off e hp => by have := hne b off e he; omega), hby, hl, h0, h1, hG, hne⟩
set_option maxRecDepth 100000 in
set_option maxHeartbeats 4000000 in
theorem laws_below (q G : Nat) (n : Int) (w : World) (h : Dice w q G) (hn : 1 ≤ n) (hn2 : n ≤ 1000000000) :
    Calls Try.prog 17 #[.pointer (some ⟨q, 0, none⟩), .int .i64 n] w fun e w' => ∃ r : Int, e = .returned (.int .i64 r) ∧ 0 ≤ r ∧ r < n ∧ Dice w' q G ∧ Keep (· = q) w w' := by
  obtain ⟨A, c, l, i, h, hB, i0, i1, hr, hby, hl, h0, h1, hG, hne⟩ := h.st
  have HB := Lib.hid hB
  have hy_c := hB.lt
  have c_0 := hB.cell 0 rfl
  have c_1 := hB.cell 1 rfl
  have c_2 := hB.cell 2 rfl
  have c_0f := hB.frozen 0 rfl
  have c_1f := hB.frozen 1 rfl
  have c_2f := hB.frozen 2 rfl
  have HR := Lib.hid hr
  have HNE := Lib.hid hne
  have HBY := Lib.hid hby
  clear hB hr hne hby
  obtain ⟨k, rfl⟩ := Int.eq_ofNat_of_zero_le i0
  have hX := and_bd (IntKind.u64.wrap (IntKind.u64.wrap (h * 6364136223846793005) + 1442695040888963407) / 8589934592)
  have HH := Lib.hid (u64w (IntKind.u64.wrap (h * 6364136223846793005) + 1442695040888963407))
  by_cases ha : k < l.length
  · obtain ⟨x, hx⟩ := get_some ha
    obtain ⟨b, off, rfl, hb, hat⟩ := HR.out.opened (k := k) (by simpa using ha)
    have t_0 := bytes_at hat hx
    obtain ⟨x0, x1⟩ := HBY.out x (List.mem_of_getElem? hx)
    have hbp : b ≠ q := by have := HNE.out b off rfl (by rintro rfl; simp at ha); omega
    have hy_t := hb
    have gk : (k : Int) < l.length := by omega
    clear hx hat
    go_enter Try.func17, Try.ntmps17
    go_wp2_with fail
    generalize bits BinOp.and IntKind.u64 (IntKind.u64.wrap (IntKind.u64.wrap (h * 6364136223846793005) + 1442695040888963407) / 8589934592) 16777215 = X at *
    generalize IntKind.u64.wrap (IntKind.u64.wrap (h * 6364136223846793005) + 1442695040888963407) = H at *
    
    (generalize hW : World.setCell w _ _ = v1; have hzn := congrArg (fun W => W.heap.size) hW; simp at hzn; have Nc_0 := congrArg (fun W => World.cell? W ⟨q, 0, none⟩) hW.symm; have Nc_0f := congrArg (fun W => World.frozen? W ⟨q, 0, none⟩) hW.symm; have Nhy_c : q < v1.heap.size := (by omega); have Nc_1 := congrArg (fun W => World.cell? W ⟨q, 1, none⟩) hW.symm; have Nc_1f := congrArg (fun W => World.frozen? W ⟨q, 1, none⟩) hW.symm; have Nc_2 := congrArg (fun W => World.cell? W ⟨q, 2, none⟩) hW.symm; have Nc_2f := congrArg (fun W => World.frozen? W ⟨q, 2, none⟩) hW.symm; have Nt_0 := congrArg (fun W => World.cell? W ⟨b, off + k, none⟩) hW.symm; have Nhy_t : b < v1.heap.size := (by omega); simp [go_sem, c_0, c_0f, c_1, c_1f, c_2, c_2f, t_0, hy_c, hy_t] at Nc_0 Nc_0f Nc_1 Nc_1f Nc_2 Nc_2f Nt_0; clear c_0 c_0f c_1 c_1f c_2 c_2f t_0 hy_c hy_t; have c_0 := Nc_0; have c_0f := Nc_0f; have c_1 := Nc_1; have c_1f := Nc_1f; have c_2 := Nc_2; have c_2f := Nc_2f; have t_0 := Nt_0; have hy_c := Nhy_c; have hy_t := Nhy_t; clear Nc_0 Nc_0f Nc_1 Nc_1f Nc_2 Nc_2f Nt_0 Nhy_c Nhy_t)
    have K1 : Hid (Keep (· = q) w v1) := Lib.hid (by rw [← hW]; exact (Keep.refl _ _).one _)
    clear hW
    (have qc_0 := Wd.cell hy_c c_0; have qc_1 := Wd.cell hy_c c_1; have qc_2 := Wd.cell hy_c c_2; have qt_0 := Wd.cell hy_t t_0; (refine wp_region_wd (by kernel_rfl) (by kernel_rfl) ?_); (repeat (go_big_quiet_step ((first | fail)))); (refine wpQuiet_nil ?_); rintro wn ⟨⟨w'', hbn⟩, hw''⟩; obtain rfl : wn = w'' := hw''; clear qc_0 qc_1 qc_2 qt_0; (obtain ⟨hcn, hfn⟩ := bcell hbn; have hzn := hbn.size; (try simp at hzn); have Nc_0 := hcn (q) (0) (by first | omega | (simp; done) | (simp; omega)); have Nc_0f := hfn (q) (0) (by first | omega | (simp; done) | (simp; omega)); have Nhy_c : q < wn.heap.size := (by omega); have Nc_1 := hcn (q) (1) (by first | omega | (simp; done) | (simp; omega)); have Nc_1f := hfn (q) (1) (by first | omega | (simp; done) | (simp; omega)); have Nc_2 := hcn (q) (2) (by first | omega | (simp; done) | (simp; omega)); have Nc_2f := hfn (q) (2) (by first | omega | (simp; done) | (simp; omega)); have Nt_0 := hcn (b) (off + k) (by first | omega | (simp; done) | (simp; omega)); have Nhy_t : b < wn.heap.size := (by omega); (first | (simp [go_sem, c_0, c_0f, c_1, c_1f, c_2, c_2f, t_0, hy_c, hy_t] at Nc_0 Nc_0f Nc_1 Nc_1f Nc_2 Nc_2f Nt_0; clear c_0 c_0f c_1 c_1f c_2 c_2f t_0) | (simp [go_sem] at Nc_0 Nc_0f Nc_1 Nc_1f Nc_2 Nc_2f Nt_0)); clear hcn hfn; have c_0 := Nc_0; have c_0f := Nc_0f; have c_1 := Nc_1; have c_1f := Nc_1f; have c_2 := Nc_2; have c_2f := Nc_2f; have t_0 := Nt_0; have hy_c := Nhy_c; have hy_t := Nhy_t; clear Nc_0 Nc_0f Nc_1 Nc_1f Nc_2 Nc_2f Nt_0 Nhy_c Nhy_t))
    have K2 := Lib.hid (K1.out.trans (Keep.of_below _ hbn))
    clear hbn
    go_wp2_with fail
    (have qc_0 := Wd.cell hy_c c_0; have qc_1 := Wd.cell hy_c c_1; have qc_2 := Wd.cell hy_c c_2; have qt_0 := Wd.cell hy_t t_0; (refine wp_region_wd (by kernel_rfl) (by kernel_rfl) ?_); (repeat (go_big_quiet_step ((first | fail)))); (refine wpQuiet_nil ?_); rintro wn ⟨⟨w'', hbn⟩, hw''⟩; obtain rfl : wn = w'' := hw''; clear qc_0 qc_1 qc_2 qt_0; (obtain ⟨hcn, hfn⟩ := bcell hbn; have hzn := hbn.size; (try simp at hzn); have Nc_0 := hcn (q) (0) (by first | omega | (simp; done) | (simp; omega)); have Nc_0f := hfn (q) (0) (by first | omega | (simp; done) | (simp; omega)); have Nhy_c : q < wn.heap.size := (by omega); have Nc_1 := hcn (q) (1) (by first | omega | (simp; done) | (simp; omega)); have Nc_1f := hfn (q) (1) (by first | omega | (simp; done) | (simp; omega)); have Nc_2 := hcn (q) (2) (by first | omega | (simp; done) | (simp; omega)); have Nc_2f := hfn (q) (2) (by first | omega | (simp; done) | (simp; omega)); have Nt_0 := hcn (b) (off + k) (by first | omega | (simp; done) | (simp; omega)); have Nhy_t : b < wn.heap.size := (by omega); (first | (simp [go_sem, c_0, c_0f, c_1, c_1f, c_2, c_2f, t_0, hy_c, hy_t] at Nc_0 Nc_0f Nc_1 Nc_1f Nc_2 Nc_2f Nt_0; clear c_0 c_0f c_1 c_1f c_2 c_2f t_0) | (simp [go_sem] at Nc_0 Nc_0f Nc_1 Nc_1f Nc_2 Nc_2f Nt_0)); clear hcn hfn; have c_0 := Nc_0; have c_0f := Nc_0f; have c_1 := Nc_1; have c_1f := Nc_1f; have c_2 := Nc_2; have c_2f := Nc_2f; have t_0 := Nt_0; have hy_c := Nhy_c; have hy_t := Nhy_t; clear Nc_0 Nc_0f Nc_1 Nc_1f Nc_2 Nc_2f Nt_0 Nhy_c Nhy_t))
    have K3 := Lib.hid (K2.out.trans (Keep.of_below _ hbn))
    clear hbn
    go_wp2_with fail
    have hH := HH.out
    go_ret
    exact ⟨_, rfl, Int.emod_nonneg _ (by omega), Int.emod_lt_of_pos _ (by omega), Dice.next (A := some ⟨b, off, none⟩) (c := c) (l := l) (i' := k + 1) (h' := H) (K3.out.one (o := 1) (.int .i64 ((k : Int) + 1))) (bx3 (by simp; omega) (by simp [go_sem, c_0]) (by simp [go_sem, c_0f]) (by simp [go_sem, c_1]) (by simp [go_sem, c_1f]) (by simp [go_sem, c_2]) (by simp [go_sem, c_2f])) (by omega) (by omega) HR.out HBY.out hl hH.1 hH.2 hG HNE.out, K3.out.one _⟩
  · have gk : ¬ (k : Int) < l.length := by omega
    go_enter Try.func17, Try.ntmps17
    go_wp2_with fail
    generalize bits BinOp.and IntKind.u64 (IntKind.u64.wrap (IntKind.u64.wrap (h * 6364136223846793005) + 1442695040888963407) / 8589934592) 16777215 = X at *
    generalize IntKind.u64.wrap (IntKind.u64.wrap (h * 6364136223846793005) + 1442695040888963407) = H at *
    
    (generalize hW : World.setCell w _ _ = v1; have hzn := congrArg (fun W => W.heap.size) hW; simp at hzn; have Nc_0 := congrArg (fun W => World.cell? W ⟨q, 0, none⟩) hW.symm; have Nc_0f := congrArg (fun W => World.frozen? W ⟨q, 0, none⟩) hW.symm; have Nhy_c : q < v1.heap.size := (by omega); have Nc_1 := congrArg (fun W => World.cell? W ⟨q, 1, none⟩) hW.symm; have Nc_1f := congrArg (fun W => World.frozen? W ⟨q, 1, none⟩) hW.symm; have Nc_2 := congrArg (fun W => World.cell? W ⟨q, 2, none⟩) hW.symm; have Nc_2f := congrArg (fun W => World.frozen? W ⟨q, 2, none⟩) hW.symm; simp [go_sem, c_0, c_0f, c_1, c_1f, c_2, c_2f, hy_c] at Nc_0 Nc_0f Nc_1 Nc_1f Nc_2 Nc_2f; clear c_0 c_0f c_1 c_1f c_2 c_2f hy_c; have c_0 := Nc_0; have c_0f := Nc_0f; have c_1 := Nc_1; have c_1f := Nc_1f; have c_2 := Nc_2; have c_2f := Nc_2f; have hy_c := Nhy_c; clear Nc_0 Nc_0f Nc_1 Nc_1f Nc_2 Nc_2f Nhy_c)
    have K1 : Hid (Keep (· = q) w v1) := Lib.hid (by rw [← hW]; exact (Keep.refl _ _).one _)
    clear hW
    (have qc_0 := Wd.cell hy_c c_0; have qc_1 := Wd.cell hy_c c_1; have qc_2 := Wd.cell hy_c c_2; (refine wp_region_wd (by kernel_rfl) (by kernel_rfl) ?_); (repeat (go_big_quiet_step ((first | fail)))); (refine wpQuiet_nil ?_); rintro wn ⟨⟨w'', hbn⟩, hw''⟩; obtain rfl : wn = w'' := hw''; clear qc_0 qc_1 qc_2; (obtain ⟨hcn, hfn⟩ := bcell hbn; have hzn := hbn.size; (try simp at hzn); have Nc_0 := hcn (q) (0) (by first | omega | (simp; done) | (simp; omega)); have Nc_0f := hfn (q) (0) (by first | omega | (simp; done) | (simp; omega)); have Nhy_c : q < wn.heap.size := (by omega); have Nc_1 := hcn (q) (1) (by first | omega | (simp; done) | (simp; omega)); have Nc_1f := hfn (q) (1) (by first | omega | (simp; done) | (simp; omega)); have Nc_2 := hcn (q) (2) (by first | omega | (simp; done) | (simp; omega)); have Nc_2f := hfn (q) (2) (by first | omega | (simp; done) | (simp; omega)); (first | (simp [go_sem, c_0, c_0f, c_1, c_1f, c_2, c_2f, hy_c] at Nc_0 Nc_0f Nc_1 Nc_1f Nc_2 Nc_2f; clear c_0 c_0f c_1 c_1f c_2 c_2f) | (simp [go_sem] at Nc_0 Nc_0f Nc_1 Nc_1f Nc_2 Nc_2f)); clear hcn hfn; have c_0 := Nc_0; have c_0f := Nc_0f; have c_1 := Nc_1; have c_1f := Nc_1f; have c_2 := Nc_2; have c_2f := Nc_2f; have hy_c := Nhy_c; clear Nc_0 Nc_0f Nc_1 Nc_1f Nc_2 Nc_2f Nhy_c))
    have K2 := Lib.hid (K1.out.trans (Keep.of_below _ hbn))
    clear hbn
    have hH := HH.out
    go_wp2
    go_ret
    exact ⟨_, rfl, Int.emod_nonneg _ (by omega), Int.emod_lt_of_pos _ (by omega), Dice.next (i' := k) (h' := H) K2.out (bx3 (by omega) c_0 c_0f c_1 c_1f c_2 c_2f) (by omega) (by omega) HR.out HBY.out hl hH.1 hH.2 hG HNE.out, K2.out⟩
theorem Dice.below {w w' : World} {q G : Nat} (h : Dice w q G) (hb : Below w.heap.size w w') : Dice w' q G := by
  obtain ⟨A, c, l, i, h, hB, i0, i1, hr, hby, hl, h0, h1, hG, hne⟩ := h.st
  exact ⟨A, c, l, i, h, hB.below hb hB.lt, i0, i1, hr.below hb, hby, hl, h0, h1, hG, hne⟩
theorem Dice.lt {w : World} {q G : Nat} (h : Dice w q G) : q < w.heap.size := by
  obtain ⟨A, c, l, i, h, hB, _⟩ := h.st
  exact hB.lt
theorem Dice.le {w : World} {q G : Nat} (h : Dice w q G) : G ≤ q := by
  obtain ⟨A, c, l, i, h, hB, i0, i1, hr, hby, hl, h0, h1, hG, hne⟩ := h.st
  exact hG
end Go.Proofs.Ythdonmdhlgajhaa
namespace Go.Proofs.Ythdonmdhlgajhaa
set_option linter.unusedVariables false
set_option linter.unusedSimpArgs false
open Go.RowKit
theorem laws_bigM (A : Option Addr) (n c : Nat) (w : World) : Calls Try.prog 4 #[.slice A n c] w fun e w' => e = .returned (.bool (decide (4096 < n))) ∧ w = w' := by
  go_enter Try.func4, Try.ntmps4
  go_wp2
  go_ret
  refine ⟨rb ?_, rfl⟩
  simp; omega
theorem ordB_with {x : Ord} {n o : Int} (h : ordB x n = true) (ho : -30000 ≤ o ∧ o ≤ 30000) : ordB ⟨x.sh, x.nd, o, x.cl⟩ n = true := by
  simp [ordB, inB] at h ⊢; omega
/-- what the law asks of matching -/
theorem match_plain {N : Net} {l m : List Ord} {lo : List Int} {c1 : Int} (h : mtR N l = (m, 0)) (hl : loR N l = (lo, c1)) : ordC N l = 0 ∧ ordC N m = 0 ∧ m.length = l.length ∧ lo.length = l.length ∧ l.length ≤ 40 ∧ mtR N m = (m, 0) ∧ matB N m = true ∧ (∀ k : Nat, k < 16 → totR N m k = (totM k l, totM k l, 0)) ∧ (∀ (k : Nat) (x : Ord), l[k]? = some x → ∃ o, m[k]? = some ⟨x.sh, x.nd, o, x.cl⟩ ∧ lo[k]? = some (x.am - o) ∧ ((0 ≤ o ∧ o ≤ x.am) ∨ (x.am ≤ o ∧ o ≤ 0)) ∧ (-30000 ≤ x.am ∧ x.am ≤ 30000)) := by
  by_cases h0 : ordC N l = 0
  case neg => rw [mtR_no h0] at h; exact absurd (congrArg (fun p => p.2) h) h0
  rw [mtR_yes h0] at h
  rw [loR_yes h0] at hl
  obtain rfl : waF l (mtL l) = m := congrArg (fun p => p.1) h
  obtain rfl : loF l (mtL l) = lo := congrArg (fun p => p.1) hl
  have hb : ShB l := shOk_of h0
  obtain ⟨hO, hl40, hord⟩ := ord_of h0
  have hm : ordC N (waF l (mtL l)) = 0 := by
    have e1 : netB N ≠ false := fun e => by unfold ordC at h0; rw [if_pos e] at h0; cases h0
    have e2 : ordsB (waF l (mtL l)) N.nodes.length = true := by
      unfold ordsB
      rw [Bool.and_eq_true, decide_eq_true_eq, waF_len (mtL_len l)]
      refine ⟨hl40, ordsF_all.2 fun y hy => ?_⟩
      obtain ⟨j, hj⟩ := List.getElem?_of_mem hy
      have hlt := (List.getElem?_eq_some_iff.1 hj).1
      rw [waF_len (mtL_len l)] at hlt
      obtain ⟨x, hx⟩ := get_some hlt
      obtain ⟨o, _, h2, h3⟩ := wa_at hb hx
      rw [h2] at hj
      injection hj with hj
      subst hj
      have hxb := hord x (List.mem_of_getElem? hx)
      have := ordB_of hxb
      exact ordB_with hxb (by omega)
    unfold ordC
    rw [if_neg e1, if_neg (by rw [e2]; simp)]
  refine ⟨h0, hm, waF_len (mtL_len l), loF_len (mtL_len l), hl40, ?_, ?_, ?_, ?_⟩
  · rw [mtR_yes hm, wa_again hb]
  · exact matB_t hm fun k hk => by rw [wa_tot hb (.inl rfl), wa_tot hb (.inr rfl)]
  · intro k hk
    have : inB (k : Int) 0 15 = true := by first | (simp [inB]; done) | (simp [inB]; omega)
    simp [totR, hm, this, wa_tot hb (.inl rfl), wa_tot hb (.inr rfl)]
  · intro k x hx
    obtain ⟨o, h1, h2, h3⟩ := wa_at hb hx
    have := ordB_of (hord x (List.mem_of_getElem? hx))
    exact ⟨o, h2, loF_get hx h1, h3, by omega⟩
/-- the region that rolls the dice: a call that makes it, a call that throws it -/
structure WD2 (w0 : World) (kr kb G : Nat) (n : Int) (L : Nat → Bool) (ρ : Zr) (w : World) : Prop where
  bl : Below w0.heap.size w0 w
  dc : L kr = true → Dice w (ρ.b kr) G ∧ w0.heap.size ≤ ρ.b kr
  dr : L kb = true → 0 ≤ ρ.r kb ∧ ρ.r kb < n
theorem WD2.start {w0 w : World} {kr kb G : Nat} {n : Int} {ρ : Zr} (h : Below w0.heap.size w0 w) : WD2 w0 kr kb G n (fun _ => false) ρ w := ⟨h, (fun h => by cases h), (fun h => by cases h)⟩
theorem WD2.pure {w0 w : World} {kr kb G i : Nat} {n : Int} {L : Nat → Bool} {ρ : Zr} (h : WD2 w0 kr kb G n L ρ w) (h1 : kr ≠ i) (h2 : kb ≠ i) : WD2 w0 kr kb G n (upd L i) ρ w :=
  ⟨h.bl, by rw [upd_ne h1]; exact h.dc, by rw [upd_ne h2]; exact h.dr⟩
theorem WD2.below {w0 w w' : World} {kr kb G i : Nat} {n : Int} {L : Nat → Bool} {ρ : Zr} (h : WD2 w0 kr kb G n L ρ w) (h1 : kr ≠ i) (h2 : kb ≠ i) (hb : Below w.heap.size w w') : WD2 w0 kr kb G n (upd L i) ρ w' :=
  ⟨h.bl.trans (hb.mono h.bl.size), by rw [upd_ne h1]; exact fun z => ⟨(h.dc z).1.below hb, (h.dc z).2⟩, by rw [upd_ne h2]; exact h.dr⟩
theorem WD2.roll {w0 w w' : World} {kr kb G g : Nat} {n : Int} {L : Nat → Bool} {ρ : Zr} {l : List Int} (h : WD2 w0 kr kb G n L ρ w) (h2 : kb ≠ kr) (hg : w0.heap.size ≤ g) (hb : Below w.heap.size w w') (hd : Dice w' g G) : WD2 w0 kr kb G n (upd L kr) (ρ.made kr g l) w' :=
  ⟨h.bl.trans (hb.mono h.bl.size), fun _ => by simp only [Zr.made, if_true]; exact ⟨hd, hg⟩, by rw [upd_ne h2]; exact h.dr⟩
theorem WD2.throw {w0 w w' : World} {kr kb G : Nat} {n r : Int} {L : Nat → Bool} {ρ : Zr} (h : WD2 w0 kr kb G n L ρ w) (h2 : kr ≠ kb) (hL : L kr = true) (hk : Keep (· = ρ.b kr) w w') (hd : Dice w' (ρ.b kr) G) (h0 : 0 ≤ r) (h1 : r < n) : WD2 w0 kr kb G n (upd L kb) (ρ.drawn kb r) w' :=
  ⟨hk.below h.bl h.bl.size (fun k e => by subst e; exact (h.dc hL).2), by rw [upd_ne h2]; exact fun z => ⟨hd, (h.dc z).2⟩, fun _ => by simp only [Zr.drawn, if_true]; exact ⟨h0, h1⟩⟩
set_option maxRecDepth 100000 in
set_option maxHeartbeats 8000000 in
theorem walk_FnMatched (w : World) (A0 : Option Addr) (c0 : Nat) (l0 : List Int) (h0 : BytesIn w A0 l0) :
    Calls Try.prog 3 #[.slice A0 l0.length c0] w fun e w' => e = .returned (.bool true) ∧ Below w.heap.size w w' := by
  have HI := Lib.hid h0
  clear h0
  by_cases hbig : 4096 < l0.length
  · have b0 : decide (4096 < l0.length) = true := by simpa using hbig
    go_enter Try.func3, Try.ntmps3
    go_wp2_with ((go_at_call 4; refine (laws_bigM _ _ _ _).mono ?_; rintro e w' ⟨rfl, rfl⟩))
    go_ret
    exact ⟨rfl, by (repeat' (first | (with_reducible exact Below.refl _ _) | (with_reducible assumption) | (with_reducible refine Below.alloc ?_ ?_ _) | (with_reducible refine Below.drew ?_) | (with_reducible refine Below.drewN' ?_ _) | (with_reducible refine Below.setCell ?_ ?_ _) | (refine Below.via ?_ (by with_reducible assumption) ?_) | (with_reducible refine Below.via ?_ (Wd.h _) ?_) | go_size))⟩
  have b0 : decide (4096 < l0.length) = false := by simpa using hbig
  go_enter Try.func3, Try.ntmps3
  go_wp2_with ((go_at_call 4; refine (laws_bigM _ _ _ _).mono ?_; rintro e w' ⟨rfl, rfl⟩))
  
  refine (spec_DrawMatchOrders A0 c0 l0 _ (HI.out.below (by (repeat' (first | (with_reducible exact Below.refl _ _) | (with_reducible assumption) | (with_reducible refine Below.alloc ?_ ?_ _) | (with_reducible refine Below.drew ?_) | (with_reducible refine Below.drewN' ?_ _) | (with_reducible refine Below.setCell ?_ ?_ _) | (refine Below.via ?_ (by with_reducible assumption) ?_) | (with_reducible refine Below.via ?_ (Wd.h _) ?_) | go_size)))) (by omega)).mono ?_
  rintro e w1 ⟨A, Bq, Al, c, d, cl, N, l, rfl, hnc, hN, hL, hl8, hb1⟩
  have hz1 := hb1.size
  have hln := hN.ln
  have HN := Lib.hid hN
  have HL := Lib.hid hL
  obtain ⟨m, code, hR⟩ : ∃ m code, mtR N l = (m, code) := ⟨_, _, rfl⟩
  obtain ⟨lo, code2, hR2⟩ : ∃ lo code, loR N l = (lo, code) := ⟨_, _, rfl⟩
  have HR := Lib.hid hR
  have HQ := Lib.hid hR2
  have hml : m.length ≤ 1048576 := by have := mtR_len (N := N) (l := l); rw [hR] at this; exact this
  have hll : lo.length ≤ 1048576 := by have := loR_len (N := N) (l := l); rw [hR2] at this; exact this
  clear hN hL hR hR2
  go_wp2_with fail
  
  refine ((impl_MatchOrders _ _ _ _ _ _ _ _ N l _ (HN.out.below (by (repeat' (first | (with_reducible exact Below.refl _ _) | (with_reducible assumption) | (with_reducible refine Below.alloc ?_ ?_ _) | (with_reducible refine Below.drew ?_) | (with_reducible refine Below.drewN' ?_ _) | (with_reducible refine Below.setCell ?_ ?_ _) | (refine Below.via ?_ (by with_reducible assumption) ?_) | (with_reducible refine Below.via ?_ (Wd.h _) ?_) | go_size)))) rfl rfl hnc (HL.out.below (by (repeat' (first | (with_reducible exact Below.refl _ _) | (with_reducible assumption) | (with_reducible refine Below.alloc ?_ ?_ _) | (with_reducible refine Below.drew ?_) | (with_reducible refine Below.drewN' ?_ _) | (with_reducible refine Below.setCell ?_ ?_ _) | (refine Below.via ?_ (by with_reducible assumption) ?_) | (with_reducible refine Below.via ?_ (Wd.h _) ?_) | go_size)))) (by omega)).madeOx HR.out).mono ?_
  rintro e w2 ⟨A2, c2, rfl, hc2, hW2, hb2⟩
  have HR2 := Lib.hid hW2.rd
  clear hW2
  (obtain ⟨hcn, hfn⟩ := bcell hb2; have hz2 := hb2.size; (try simp at hz2); have Na_0 := hcn (w1.heap.size) (0) (by first | omega | (simp; done) | (simp; omega)); have Na_0f := hfn (w1.heap.size) (0) (by first | omega | (simp; done) | (simp; omega)); have Nhy_a : w1.heap.size < w2.heap.size := (by omega); have Na_1 := hcn (w1.heap.size) (1) (by first | omega | (simp; done) | (simp; omega)); have Na_1f := hfn (w1.heap.size) (1) (by first | omega | (simp; done) | (simp; omega)); simp [go_sem] at Na_0 Na_0f Na_1 Na_1f; clear hcn hfn; have a_0 := Na_0; have a_0f := Na_0f; have a_1 := Na_1; have a_1f := Na_1f; have hy_a := Nhy_a; clear Na_0 Na_0f Na_1 Na_1f Nhy_a)
  go_wp2_with fail
  refine ((spec_MatchOrders _ _ _ _ _ _ _ _ N l _ (HN.out.below (by (repeat' (first | (with_reducible exact Below.refl _ _) | (with_reducible assumption) | (with_reducible refine Below.alloc ?_ ?_ _) | (with_reducible refine Below.drew ?_) | (with_reducible refine Below.drewN' ?_ _) | (with_reducible refine Below.setCell ?_ ?_ _) | (refine Below.via ?_ (by with_reducible assumption) ?_) | (with_reducible refine Below.via ?_ (Wd.h _) ?_) | go_size)))) rfl rfl (HL.out.below (by (repeat' (first | (with_reducible exact Below.refl _ _) | (with_reducible assumption) | (with_reducible refine Below.alloc ?_ ?_ _) | (with_reducible refine Below.drew ?_) | (with_reducible refine Below.drewN' ?_ _) | (with_reducible refine Below.setCell ?_ ?_ _) | (refine Below.via ?_ (by with_reducible assumption) ?_) | (with_reducible refine Below.via ?_ (Wd.h _) ?_) | go_size)))) (by omega)).madeOx HR.out).mono ?_
  rintro e w3 ⟨A3, c3, rfl, hc3, hW3, hb3⟩
  have HR3 := Lib.hid hW3.rd
  clear hW3
  (obtain ⟨hcn, hfn⟩ := bcell hb3; have hz3 := hb3.size; (try simp at hz3); have Na_0 := hcn (w1.heap.size) (0) (by first | omega | (simp; done) | (simp; omega)); have Na_0f := hfn (w1.heap.size) (0) (by first | omega | (simp; done) | (simp; omega)); have Nhy_a : w1.heap.size < w3.heap.size := (by omega); have Na_1 := hcn (w1.heap.size) (1) (by first | omega | (simp; done) | (simp; omega)); have Na_1f := hfn (w1.heap.size) (1) (by first | omega | (simp; done) | (simp; omega)); simp [go_sem, a_0, a_0f, a_1, a_1f, hy_a] at Na_0 Na_0f Na_1 Na_1f; clear a_0 a_0f a_1 a_1f hy_a; clear hcn hfn; have a_0 := Na_0; have a_0f := Na_0f; have a_1 := Na_1; have a_1f := Na_1f; have hy_a := Nhy_a; clear Na_0 Na_0f Na_1 Na_1f Nhy_a)
  go_wp2_with fail
  refine ((impl_LostAmounts _ _ _ _ _ _ _ _ N l _ (HN.out.below (by (repeat' (first | (with_reducible exact Below.refl _ _) | (with_reducible assumption) | (with_reducible refine Below.alloc ?_ ?_ _) | (with_reducible refine Below.drew ?_) | (with_reducible refine Below.drewN' ?_ _) | (with_reducible refine Below.setCell ?_ ?_ _) | (refine Below.via ?_ (by with_reducible assumption) ?_) | (with_reducible refine Below.via ?_ (Wd.h _) ?_) | go_size)))) rfl rfl hnc (HL.out.below (by (repeat' (first | (with_reducible exact Below.refl _ _) | (with_reducible assumption) | (with_reducible refine Below.alloc ?_ ?_ _) | (with_reducible refine Below.drew ?_) | (with_reducible refine Below.drewN' ?_ _) | (with_reducible refine Below.setCell ?_ ?_ _) | (refine Below.via ?_ (by with_reducible assumption) ?_) | (with_reducible refine Below.via ?_ (Wd.h _) ?_) | go_size)))) (by omega)).made HQ.out).mono ?_
  rintro e w4 ⟨A4, c4, rfl, hc4, hW4, hb4⟩
  have HR4 := Lib.hid hW4.rd
  clear hW4
  (obtain ⟨hcn, hfn⟩ := bcell hb4; have hz4 := hb4.size; (try simp at hz4); have Na_0 := hcn (w1.heap.size) (0) (by first | omega | (simp; done) | (simp; omega)); have Na_0f := hfn (w1.heap.size) (0) (by first | omega | (simp; done) | (simp; omega)); have Nhy_a : w1.heap.size < w4.heap.size := (by omega); have Na_1 := hcn (w1.heap.size) (1) (by first | omega | (simp; done) | (simp; omega)); have Na_1f := hfn (w1.heap.size) (1) (by first | omega | (simp; done) | (simp; omega)); simp [go_sem, a_0, a_0f, a_1, a_1f, hy_a] at Na_0 Na_0f Na_1 Na_1f; clear a_0 a_0f a_1 a_1f hy_a; clear hcn hfn; have a_0 := Na_0; have a_0f := Na_0f; have a_1 := Na_1; have a_1f := Na_1f; have hy_a := Nhy_a; clear Na_0 Na_0f Na_1 Na_1f Nhy_a)
  go_wp2_with fail
  refine ((spec_LostAmounts _ _ _ _ _ _ _ _ N l _ (HN.out.below (by (repeat' (first | (with_reducible exact Below.refl _ _) | (with_reducible assumption) | (with_reducible refine Below.alloc ?_ ?_ _) | (with_reducible refine Below.drew ?_) | (with_reducible refine Below.drewN' ?_ _) | (with_reducible refine Below.setCell ?_ ?_ _) | (refine Below.via ?_ (by with_reducible assumption) ?_) | (with_reducible refine Below.via ?_ (Wd.h _) ?_) | go_size)))) rfl rfl (HL.out.below (by (repeat' (first | (with_reducible exact Below.refl _ _) | (with_reducible assumption) | (with_reducible refine Below.alloc ?_ ?_ _) | (with_reducible refine Below.drew ?_) | (with_reducible refine Below.drewN' ?_ _) | (with_reducible refine Below.setCell ?_ ?_ _) | (refine Below.via ?_ (by with_reducible assumption) ?_) | (with_reducible refine Below.via ?_ (Wd.h _) ?_) | go_size)))) (by omega)).made HQ.out).mono ?_
  rintro e w5 ⟨A5, c5, rfl, hc5, hW5, hb5⟩
  have HR5 := Lib.hid hW5.rd
  clear hW5
  (obtain ⟨hcn, hfn⟩ := bcell hb5; have hz5 := hb5.size; (try simp at hz5); have Na_0 := hcn (w1.heap.size) (0) (by first | omega | (simp; done) | (simp; omega)); have Na_0f := hfn (w1.heap.size) (0) (by first | omega | (simp; done) | (simp; omega)); have Nhy_a : w1.heap.size < w5.heap.size := (by omega); have Na_1 := hcn (w1.heap.size) (1) (by first | omega | (simp; done) | (simp; omega)); have Na_1f := hfn (w1.heap.size) (1) (by first | omega | (simp; done) | (simp; omega)); simp [go_sem, a_0, a_0f, a_1, a_1f, hy_a] at Na_0 Na_0f Na_1 Na_1f; clear a_0 a_0f a_1 a_1f hy_a; clear hcn hfn; have a_0 := Na_0; have a_0f := Na_0f; have a_1 := Na_1; have a_1f := Na_1f; have hy_a := Nhy_a; clear Na_0 Na_0f Na_1 Na_1f Nhy_a)
  obtain ⟨bb, hbb⟩ : ∃ bb, (ordC N l == 0) = bb := ⟨_, rfl⟩
  have HBB := Lib.hid hbb
  clear hbb
  have HN5 := Lib.hid (HN.out.below (show Below w1.heap.size w1 w5 by (repeat' (first | (with_reducible exact Below.refl _ _) | (with_reducible assumption) | (with_reducible refine Below.alloc ?_ ?_ _) | (with_reducible refine Below.drew ?_) | (with_reducible refine Below.drewN' ?_ _) | (with_reducible refine Below.setCell ?_ ?_ _) | (refine Below.via ?_ (by with_reducible assumption) ?_) | (with_reducible refine Below.via ?_ (Wd.h _) ?_) | go_size))))
  have HL5 := Lib.hid (HL.out.below (show Below w1.heap.size w1 w5 by (repeat' (first | (with_reducible exact Below.refl _ _) | (with_reducible assumption) | (with_reducible refine Below.alloc ?_ ?_ _) | (with_reducible refine Below.drew ?_) | (with_reducible refine Below.drewN' ?_ _) | (with_reducible refine Below.setCell ?_ ?_ _) | (refine Below.via ?_ (by with_reducible assumption) ?_) | (with_reducible refine Below.via ?_ (Wd.h _) ?_) | go_size))))
  have HR25 := Lib.hid (HR2.out.below (show Below w2.heap.size w2 w5 by (repeat' (first | (with_reducible exact Below.refl _ _) | (with_reducible assumption) | (with_reducible refine Below.alloc ?_ ?_ _) | (with_reducible refine Below.drew ?_) | (with_reducible refine Below.drewN' ?_ _) | (with_reducible refine Below.setCell ?_ ?_ _) | (refine Below.via ?_ (by with_reducible assumption) ?_) | (with_reducible refine Below.via ?_ (Wd.h _) ?_) | go_size))))
  have HR35 := Lib.hid (HR3.out.below (show Below w3.heap.size w3 w5 by (repeat' (first | (with_reducible exact Below.refl _ _) | (with_reducible assumption) | (with_reducible refine Below.alloc ?_ ?_ _) | (with_reducible refine Below.drew ?_) | (with_reducible refine Below.drewN' ?_ _) | (with_reducible refine Below.setCell ?_ ?_ _) | (refine Below.via ?_ (by with_reducible assumption) ?_) | (with_reducible refine Below.via ?_ (Wd.h _) ?_) | go_size))))
  have HR45 := Lib.hid (HR4.out.below (show Below w4.heap.size w4 w5 by (repeat' (first | (with_reducible exact Below.refl _ _) | (with_reducible assumption) | (with_reducible refine Below.alloc ?_ ?_ _) | (with_reducible refine Below.drew ?_) | (with_reducible refine Below.drewN' ?_ _) | (with_reducible refine Below.setCell ?_ ?_ _) | (refine Below.via ?_ (by with_reducible assumption) ?_) | (with_reducible refine Below.via ?_ (Wd.h _) ?_) | go_size))))
  go_wp2_with fail
  (have qk0 := Wd.cell (by first | assumption | omega | (simp; omega)) a_0; have qk1 := Wd.cell (by first | assumption | omega | (simp; omega)) a_1; (refine wp_region_wd (by kernel_rfl) (by kernel_rfl) ?_); (repeat (go_big_quiet_step ((first | fail | (go_at_call 10; exact wd_below (laws_likeOrders A2 A3 c2 c3 _ _ m _ (HR25.out.below (Wd.h _)) (HR35.out.below (Wd.h _)) rfl rfl hml)) | (go_at_call 11; exact wd_below (laws_likeInts A4 A5 c4 c5 _ _ lo _ (HR45.out.below (Wd.h _)) (HR5.out.below (Wd.h _)) rfl rfl hll)) | (go_at_call 12; exact wd_below (v := .bool bb) (by rw [← HBB.out]; exact impl_AreOrders A Bq Al _ c _ d cl N l _ (HN5.out.below (Wd.h _)) rfl rfl hnc (HL5.out.below (Wd.h _)) (by omega))) | (go_at_call 13; exact wd_below (v := .bool bb) (by rw [← HBB.out]; exact spec_AreOrders A Bq Al _ c _ d cl N l _ (HN5.out.below (Wd.h _)) rfl rfl (HL5.out.below (Wd.h _)) (by omega))))))); (refine wpQuiet_nil ?_); rintro w6 ⟨⟨w'', hbw6⟩, hw''⟩; obtain rfl : w6 = w'' := hw''; clear qk0 qk1; have hzw6 := hbw6.size; (try simp at hzw6))
  have hb6 := hbw6
  (obtain ⟨hcn, hfn⟩ := bcell hb6; have hz6 := hb6.size; (try simp at hz6); have Na_0 := hcn (w1.heap.size) (0) (by first | omega | (simp; done) | (simp; omega)); have Na_0f := hfn (w1.heap.size) (0) (by first | omega | (simp; done) | (simp; omega)); have Nhy_a : w1.heap.size < w6.heap.size := (by omega); have Na_1 := hcn (w1.heap.size) (1) (by first | omega | (simp; done) | (simp; omega)); have Na_1f := hfn (w1.heap.size) (1) (by first | omega | (simp; done) | (simp; omega)); simp [go_sem, a_0, a_0f, a_1, a_1f, hy_a] at Na_0 Na_0f Na_1 Na_1f; clear a_0 a_0f a_1 a_1f hy_a; clear hcn hfn; have a_0 := Na_0; have a_0f := Na_0f; have a_1 := Na_1; have a_1f := Na_1f; have hy_a := Nhy_a; clear Na_0 Na_0f Na_1 Na_1f Nhy_a)
  by_cases e0 : code = 0
  · subst e0
    obtain ⟨q0, q1, q2, q3, q4, q5, q6, q7, q8⟩ := match_plain HR.out HQ.out
    have HM0 := Lib.hid q5
    have HMB := Lib.hid q6
    have HTT := Lib.hid q7
    have HAT := Lib.hid q8
    have q2a : m.length ≤ l.length := by omega
    have q2b : l.length ≤ m.length := by omega
    have q3a : lo.length ≤ l.length := by omega
    have q3b : l.length ≤ lo.length := by omega
    have HB6 := Lib.hid (show Below w.heap.size w w6 by (repeat' (first | (with_reducible exact Below.refl _ _) | (with_reducible assumption) | (with_reducible refine Below.alloc ?_ ?_ _) | (with_reducible refine Below.drew ?_) | (with_reducible refine Below.drewN' ?_ _) | (with_reducible refine Below.setCell ?_ ?_ _) | (refine Below.via ?_ (by with_reducible assumption) ?_) | (with_reducible refine Below.via ?_ (Wd.h _) ?_) | go_size)))
    have HN6 := Lib.hid (HN5.out.below hb6)
    have HL6 := Lib.hid (HL5.out.below hb6)
    have HM6 := Lib.hid (HR25.out.below hb6)
    have HO6 := Lib.hid (HR45.out.below hb6)
    have HBX := Lib.hid (show Bx w6 w1.heap.size [.slice A N.nodes.length c, .slice Bq N.pipes.length d] from bx2 hy_a a_0 a_0f a_1 a_1f)
    have hlt1 := HBX.out.lt
    clear q0 q1 q2 q3 q5 q6 q7 q8 hb1 hb2 hb3 hb4 hb5
    go_wp2_with fail
    refine ((impl_MatchOrders A Bq A2 _ c _ d c2 N m _ HN6.out rfl rfl hnc HM6.out (by omega)).madeOx HM0.out).mono ?_
    rintro e w7 ⟨A7, c7, rfl, hc7, hW7, hb7⟩
    have HR7 := Lib.hid hW7.rd
    clear hW7
    (obtain ⟨hcn, hfn⟩ := bcell hb7; have hz7 := hb7.size; (try simp at hz7); have Na_0 := hcn (w1.heap.size) (0) (by first | omega | (simp; done) | (simp; omega)); have Na_0f := hfn (w1.heap.size) (0) (by first | omega | (simp; done) | (simp; omega)); have Nhy_a : w1.heap.size < w7.heap.size := (by omega); have Na_1 := hcn (w1.heap.size) (1) (by first | omega | (simp; done) | (simp; omega)); have Na_1f := hfn (w1.heap.size) (1) (by first | omega | (simp; done) | (simp; omega)); simp [go_sem, a_0, a_0f, a_1, a_1f, hy_a] at Na_0 Na_0f Na_1 Na_1f; clear a_0 a_0f a_1 a_1f hy_a; clear hcn hfn; have a_0 := Na_0; have a_0f := Na_0f; have a_1 := Na_1; have a_1f := Na_1f; have hy_a := Nhy_a; clear Na_0 Na_0f Na_1 Na_1f Nhy_a)
    have HB7 := Lib.hid hb7
    have HBX7 := Lib.hid (HBX.out.below hb7 hlt1)
    clear hb6 hbw6 hb7 hy_a a_0 a_0f a_1 a_1f
    
    go_wp2_with fail
    go_loopw [15] (fun t wr => ∃ k : Nat, k ≤ m.length ∧ t = .int .i64 k ∧ Below w7.heap.size w7 wr) (fun t _ => m.length - (intOf t).toNat)
    case atStart => exact ⟨0, by omega, rfl, Below.refl _ _⟩
    case round =>
      obtain ⟨k, hk, rfl, hbw⟩ := hrel
      have hbH := Lib.hid hbw
      have hzw := hbw.size
      have hz7w := HB7.out.size
      by_cases hlk : k < m.length
      · have hlt : k < l.length := by omega
        obtain ⟨x, hx⟩ := get_some hlt
        obtain ⟨o, hmo, hlo, hsg, hxa⟩ := HAT.out k x hx
        have HBW := Lib.hid (HB7.out.trans (hbw.mono hz7w))
        obtain ⟨b1, o1, rfl, hb1, hat1⟩ := HL6.out.opened (k := k) (by rw [flat_len Ord.len]; omega)
        obtain ⟨b2, o2, rfl, hb2, hat2⟩ := HM6.out.opened (k := k) (by rw [flat_len Ord.len]; omega)
        obtain ⟨b3, o3, rfl, hb3, hat3⟩ := HO6.out.opened (k := k) (by simp; omega)
        have t1 := (hat1.below HBW.out hb1).elem Ord.len hx 2 rfl
        have t2 := (hat2.below HBW.out hb2).elem Ord.len hmo 2 rfl
        have t3 := ints_at (hat3.below HBW.out hb3) hlo
        have hy1 : b1 < wr.heap.size := by omega
        have hy2 : b2 < wr.heap.size := by omega
        have hy3 : b3 < wr.heap.size := by omega
        dsimp only at t2
        obtain ⟨P, hP⟩ : ∃ P, P = o * x.am := ⟨_, rfl⟩
        have hPb : 0 ≤ P ∧ P ≤ 900000000 := by
          rcases hsg with hs | hs
          · rw [hP]; exact ⟨Int.mul_nonneg (by omega) (by omega), by have := Int.mul_le_mul (show o ≤ 30000 by omega) (show x.am ≤ 30000 by omega) (by omega) (by omega); omega⟩
          · rw [hP, ← Int.neg_mul_neg]; exact ⟨Int.mul_nonneg (by omega) (by omega), by have := Int.mul_le_mul (show -o ≤ 30000 by omega) (show -x.am ≤ 30000 by omega) (by omega) (by omega); omega⟩
        obtain ⟨za, hza⟩ : ∃ za, za = max o (-o) := ⟨_, rfl⟩
        obtain ⟨zb, hzb⟩ : ∃ zb, zb = max x.am (-x.am) := ⟨_, rfl⟩
        have hzab : decide (zb < za) = false := by rw [decide_eq_false_iff_not]; omega
        have HZA := Lib.hid hza
        have HZB := Lib.hid hzb
        have hwP : IntKind.i64.wrap (o * x.am) = P := by rw [← hP]; exact IntWalk.i64_in _ (by omega)
        have hPn : decide (P < 0) = false := by rw [decide_eq_false_iff_not]; omega
        have hwD : IntKind.i64.wrap (x.am - o) = x.am - o := IntWalk.i64_in _ (by omega)
        have hox : -30000 ≤ o ∧ o ≤ 30000 := by omega
        have gk1 : (k : Int) < (l.length : Int) := by omega
        have gk2 : (k : Int) < (m.length : Int) := by omega
        have gk3 : (k : Int) < (lo.length : Int) := by omega
        clear hx hmo hlo hat1 hat2 hat3 hP hza hzb hbw hsg
        go_wp2_with fail
        (have qk0 := Wd.cell (by first | assumption | omega | (simp; omega)) t1; have qk1 := Wd.cell (by first | assumption | omega | (simp; omega)) t2; have qk2 := Wd.cell (by first | assumption | omega | (simp; omega)) t3; (refine wp_region_wd (by kernel_rfl) (by kernel_rfl) ?_); (repeat (go_big_quiet_step ((first | fail | (go_at_call 14; exact wd_pure (laws_size o za _ (by omega) HZA.out)) | (go_at_call 14; exact wd_pure (laws_size x.am zb _ (by omega) HZB.out)))))); (refine wpQuiet_nil ?_); rintro w8 ⟨⟨w'', hbw8⟩, hw''⟩; obtain rfl : w8 = w'' := hw''; clear qk0 qk1 qk2; have hzw8 := hbw8.size; (try simp at hzw8))
        have hb8 := Lib.hid (hbH.out.trans (hbw8.mono hzw))
        clear hbw8
        go_wp2
        go_roundw
        case rel => exact ⟨k + 1, by omega, by go_num, hb8.out⟩
        case measure => simp [intOf]; omega
      · have g1 : ¬ (k : Int) < (m.length : Int) := by omega
        have HBW := Lib.hid (HB7.out.trans (hbw.mono hz7w))
        have HBr := HBX7.out.below hbw HBX7.out.lt
        have hy7 := HBr.lt; have cw7_0 := HBr.cell 0 rfl; have fw7_0 := HBr.frozen 0 rfl; have cw7_1 := HBr.cell 1 rfl; have fw7_1 := HBr.frozen 1 rfl
        clear HBr hbw
        have hG : w.heap.size ≤ wr.heap.size := by have := HB6.out.size; omega
        go_wp2_with fail
        refine wp_region_tb (R := Zr) [some 139, some 140, some 141, some 142, some 143, some 144, some 138, some 145, some 146, some 147, some 16, some 17, some 18] _ (by intro u; simp only [frs, Act.put, List.setIfInBounds_toArray, List.set_cons_zero, List.set_cons_succ, Nat.reduceAdd]; exact rfl) (fun ρ j => ([.agg #[.slice A N.nodes.length c, .slice Bq N.pipes.length d], .slice A2 m.length c2, .slice A0 l0.length c0, .pointer (some ⟨ρ.b 3, 0, none⟩), .int .i64 (ρ.r 4), .tuple #[.int .i64 (totM (ρ.r 4) l), .int .i64 (totM (ρ.r 4) l), .int .i64 0], .tuple #[.int .i64 (totM (ρ.r 4) l), .int .i64 (totM (ρ.r 4) l), .int .i64 0], .int .i64 (totM (ρ.r 4) l), .int .i64 (totM (ρ.r 4) l), .int .i64 0, .int .i64 (totM (ρ.r 4) l), .int .i64 (totM (ρ.r 4) l), .int .i64 0] : List Value).getD j undef) (WD2 wr 3 4 w.heap.size 16) (by kernel_rfl) (by kernel_rfl) Zr.zero (WD2.start (Below.drew (Below.refl _ _))) ?_ ?_
        · intro ii hii L ρ u wx hl hp hc hu hn hW
          have hii : ii < 13 := hii
          have HNo := Lib.hid hn
          clear hn
          have hii : ii = 0 ∨ ii = 1 ∨ ii = 2 ∨ ii = 3 ∨ ii = 4 ∨ ii = 5 ∨ ii = 6 ∨ ii = 7 ∨ ii = 8 ∨ ii = 9 ∨ ii = 10 ∨ ii = 11 ∨ ii = 12 := by omega
          rcases hii with rfl | rfl | rfl | rfl | rfl | rfl | rfl | rfl | rfl | rfl | rfl | rfl | rfl
          · have y0 := ((bcell hW.bl).1 w1.heap.size 0 hy7).trans cw7_0
            have y1 := ((bcell hW.bl).1 w1.heap.size 1 hy7).trans cw7_1
            refine wpOp_go (E := True) rfl rfl (fun K' hK => ?_)
            go_simp
            refine hK.out _ _ ⟨ρ, (by simp only [put]; rfl), fun _ _ => rfl, hW.pure (by omega) (by omega)⟩
          · refine wpOp_go (E := True) rfl rfl (fun K' hK => ?_)
            go_simp
            refine hK.out _ _ ⟨ρ, (by simp only [put]; rfl), fun _ _ => rfl, hW.pure (by omega) (by omega)⟩
          · refine wpOp_go (E := True) rfl rfl (fun K' hK => ?_)
            go_simp
            refine hK.out _ _ ⟨ρ, (by simp only [put]; rfl), fun _ _ => rfl, hW.pure (by omega) (by omega)⟩
          · have e2 : u 2 = .slice A0 l0.length c0 := hu 2 (all_of hp (by kernel_rfl))
            refine wpOp_go (E := True) rfl rfl (fun K' hK => ?_)
            go_simp
            go_at_call 16
            refine (laws_roll A0 c0 l0 2201 _ (HI.out.below (by have h1 := hbH.out; have h2 := HBW.out; have h3 := HB6.out; have h4 := hW.bl; exact h3.trans ((h2.trans (h4.mono (by omega))).mono (by omega)))) (by omega) (by omega) (by omega) w.heap.size (by have := hW.bl.size; omega) (fun b off e hne => by obtain ⟨b', off', e', hb', _⟩ := HI.out.rd (by simpa using hne); rw [e] at e'; injection e' with e'; injection e' with e1; omega)).mono ?_
            rintro e' w9 ⟨rfl, hd9, hb9⟩
            refine hK.out _ _ ⟨ρ.made 3 wx.heap.size [], (by simp only [put, e2]; rfl), fun j hj => by
                have n4 : L 4 = false := no_later hc hl (by kernel_rfl)
                have n5 : L 5 = false := no_later hc n4 (by kernel_rfl)
                have n6 : L 6 = false := no_later hc n5 (by kernel_rfl)
                have n7 : L 7 = false := no_later hc n6 (by kernel_rfl)
                have n8 : L 8 = false := no_later hc n6 (by kernel_rfl)
                have n9 : L 9 = false := no_later hc n6 (by kernel_rfl)
                have n10 : L 10 = false := no_later hc n7 (by kernel_rfl)
                have n11 : L 11 = false := no_later hc n8 (by kernel_rfl)
                have n12 : L 12 = false := no_later hc n9 (by kernel_rfl)
                match j, hj with
                | 0, _ => rfl
                | 1, _ => rfl
                | 2, _ => rfl
                | 3, hj => rw [hl] at hj; cases hj
                | 4, hj => rw [n4] at hj; cases hj
                | 5, hj => rw [n5] at hj; cases hj
                | 6, hj => rw [n6] at hj; cases hj
                | 7, hj => rw [n7] at hj; cases hj
                | 8, hj => rw [n8] at hj; cases hj
                | 9, hj => rw [n9] at hj; cases hj
                | 10, hj => rw [n10] at hj; cases hj
                | 11, hj => rw [n11] at hj; cases hj
                | 12, hj => rw [n12] at hj; cases hj
                | _ + 13, _ => rfl, hW.roll (by omega) hW.bl.size hb9 hd9⟩
          · have e3 : u 3 = .pointer (some ⟨ρ.b 3, 0, none⟩) := hu 3 (all_of hp (by kernel_rfl))
            refine wpOp_go (E := True) rfl rfl (fun K' hK => ?_)
            go_simp
            go_at_call 17
            have hL3 := all_of hp (show (before _ 4).contains 3 = true by kernel_rfl)
            refine (laws_below _ w.heap.size 16 _ (hW.dc hL3).1 (by omega) (by omega)).mono ?_
            rintro e' w9 ⟨r, rfl, r0, r1, hd9, hk9⟩
            refine hK.out _ _ ⟨ρ.drawn 4 r, (by simp only [put, e3]; rfl), fun j hj => by
                have n5 : L 5 = false := no_later hc hl (by kernel_rfl)
                have n6 : L 6 = false := no_later hc n5 (by kernel_rfl)
                have n7 : L 7 = false := no_later hc n6 (by kernel_rfl)
                have n8 : L 8 = false := no_later hc n6 (by kernel_rfl)
                have n9 : L 9 = false := no_later hc n6 (by kernel_rfl)
                have n10 : L 10 = false := no_later hc n7 (by kernel_rfl)
                have n11 : L 11 = false := no_later hc n8 (by kernel_rfl)
                have n12 : L 12 = false := no_later hc n9 (by kernel_rfl)
                match j, hj with
                | 0, _ => rfl
                | 1, _ => rfl
                | 2, _ => rfl
                | 3, _ => rfl
                | 4, hj => rw [hl] at hj; cases hj
                | 5, hj => rw [n5] at hj; cases hj
                | 6, hj => rw [n6] at hj; cases hj
                | 7, hj => rw [n7] at hj; cases hj
                | 8, hj => rw [n8] at hj; cases hj
                | 9, hj => rw [n9] at hj; cases hj
                | 10, hj => rw [n10] at hj; cases hj
                | 11, hj => rw [n11] at hj; cases hj
                | 12, hj => rw [n12] at hj; cases hj
                | _ + 13, _ => rfl, hW.throw (by omega) hL3 hk9 hd9 r0 r1⟩
          · have e0 : u 0 = .agg #[.slice A N.nodes.length c, .slice Bq N.pipes.length d] := hu 0 (all_of hp (by kernel_rfl))
            have e1 : u 1 = .slice A2 m.length c2 := hu 1 (all_of hp (by kernel_rfl))
            have e4 : u 4 = .int .i64 (ρ.r 4) := hu 4 (all_of hp (by kernel_rfl))
            refine wpOp_go (E := True) rfl rfl (fun K' hK => ?_)
            go_simp
            go_at_call 15
            obtain ⟨r0, r1⟩ := hW.dr (all_of hp (by kernel_rfl))
            have hkr := HTT.out (ρ.r 4).toNat (by omega)
            rw [show (((ρ.r 4).toNat : Nat) : Int) = ρ.r 4 by omega] at hkr
            refine (impl_TotalsOf A Bq A2 _ c _ d c2 N m (ρ.r 4) _ (HN6.out.below (HBW.out.trans (hW.bl.mono (by omega)))) rfl rfl hnc (HM6.out.below (HBW.out.trans (hW.bl.mono (by omega)))) (by omega)).mono ?_
            rintro e' w9 ⟨rfl, hb9⟩
            rw [hkr]
            refine hK.out _ _ ⟨ρ, (by simp only [put, e0, e1, e4]; rfl), fun _ _ => rfl, hW.below (by omega) (by omega) hb9⟩
          · have e5 : u 5 = .tuple #[.int .i64 (totM (ρ.r 4) l), .int .i64 (totM (ρ.r 4) l), .int .i64 0] := hu 5 (all_of hp (by kernel_rfl))
            refine wpOp_go (E := True) rfl rfl (fun K' hK => ?_)
            go_simp
            refine hK.out _ _ ⟨ρ, (by simp only [put, e5]; rfl), fun _ _ => rfl, hW.pure (by omega) (by omega)⟩
          · have e6 : u 6 = .tuple #[.int .i64 (totM (ρ.r 4) l), .int .i64 (totM (ρ.r 4) l), .int .i64 0] := hu 6 (all_of hp (by kernel_rfl))
            refine wpOp_go (E := True) rfl rfl (fun K' hK => ?_)
            go_simp
            refine hK.out _ _ ⟨ρ, (by simp only [put, e6]; rfl), fun _ _ => rfl, hW.pure (by omega) (by omega)⟩
          · have e6 : u 6 = .tuple #[.int .i64 (totM (ρ.r 4) l), .int .i64 (totM (ρ.r 4) l), .int .i64 0] := hu 6 (all_of hp (by kernel_rfl))
            refine wpOp_go (E := True) rfl rfl (fun K' hK => ?_)
            go_simp
            refine hK.out _ _ ⟨ρ, (by simp only [put, e6]; rfl), fun _ _ => rfl, hW.pure (by omega) (by omega)⟩
          · have e6 : u 6 = .tuple #[.int .i64 (totM (ρ.r 4) l), .int .i64 (totM (ρ.r 4) l), .int .i64 0] := hu 6 (all_of hp (by kernel_rfl))
            refine wpOp_go (E := True) rfl rfl (fun K' hK => ?_)
            go_simp
            refine hK.out _ _ ⟨ρ, (by simp only [put, e6]; rfl), fun _ _ => rfl, hW.pure (by omega) (by omega)⟩
          · have e7 : u 7 = .int .i64 (totM (ρ.r 4) l) := hu 7 (all_of hp (by kernel_rfl))
            refine wpOp_go (E := True) rfl rfl (fun K' hK => ?_)
            go_simp
            refine hK.out _ _ ⟨ρ, (by simp only [put, e7]; rfl), fun _ _ => rfl, hW.pure (by omega) (by omega)⟩
          · have e8 : u 8 = .int .i64 (totM (ρ.r 4) l) := hu 8 (all_of hp (by kernel_rfl))
            refine wpOp_go (E := True) rfl rfl (fun K' hK => ?_)
            go_simp
            refine hK.out _ _ ⟨ρ, (by simp only [put, e8]; rfl), fun _ _ => rfl, hW.pure (by omega) (by omega)⟩
          · have e9 : u 9 = .int .i64 0 := hu 9 (all_of hp (by kernel_rfl))
            refine wpOp_go (E := True) rfl rfl (fun K' hK => ?_)
            go_simp
            refine hK.out _ _ ⟨ρ, (by simp only [put, e9]; rfl), fun _ _ => rfl, hW.pure (by omega) (by omega)⟩
        · intro L ρ u wx hall hu hW
          have e10 : u 10 = .int .i64 (totM (ρ.r 4) l) := hu 10 (by show 10 < 13; omega)
          have e11 : u 11 = .int .i64 (totM (ρ.r 4) l) := hu 11 (by show 11 < 13; omega)
          have e12 : u 12 = .int .i64 0 := hu 12 (by show 12 < 13; omega)
          rw [e10, e11, e12]
          generalize totM (ρ.r 4) l = T at *
          have HBX9 := Lib.hid (hW.bl)
          have HB9 := Lib.hid (HBW.out.trans (hW.bl.mono (by omega)))
          have y0 := ((bcell hW.bl).1 w1.heap.size 0 hy7).trans cw7_0
          have y1 := ((bcell hW.bl).1 w1.heap.size 1 hy7).trans cw7_1
          have hbx9 := hW.bl.size
          clear hu hall hW e10 e11 e12 cw7_0 cw7_1 fw7_0 fw7_1 hy7
          go_wp2_with (first | (go_at_call 10; refine (laws_likeOrders A7 A2 c7 c2 _ _ m _ (HR7.out.below (hbH.out.trans (HBX9.out.mono hzw))) (HM6.out.below HB9.out) rfl rfl hml).mono ?_; rintro e w10 ⟨rfl, hb10⟩; have y0' := ((bcell hb10).1 w1.heap.size 0 (by omega)).trans y0; have y1' := ((bcell hb10).1 w1.heap.size 1 (by omega)).trans y1; clear y0 y1) | (go_at_call 18; refine (impl_IsMatched A Bq A2 _ c _ d c2 N m _ (HN6.out.below (HB9.out.trans (hb10.mono (by omega)))) rfl rfl hnc (HM6.out.below (HB9.out.trans (hb10.mono (by omega)))) (by omega)).mono ?_; rintro e w11 ⟨rfl, hb11⟩; rw [HMB.out]))
          go_ret
          exact ⟨rfl, HB6.out.trans ((HB9.out.trans ((hb10.trans (hb11.mono hb10.size)).mono HB9.out.size)).mono HB6.out.size)⟩
  · have b1 : (code != 0) = true := by simp [e0]
    go_wp2
    go_ret
    exact ⟨rfl, by (repeat' (first | (with_reducible exact Below.refl _ _) | (with_reducible assumption) | (with_reducible refine Below.alloc ?_ ?_ _) | (with_reducible refine Below.drew ?_) | (with_reducible refine Below.drewN' ?_ _) | (with_reducible refine Below.setCell ?_ ?_ _) | (refine Below.via ?_ (by with_reducible assumption) ?_) | (with_reducible refine Below.via ?_ (Wd.h _) ?_) | go_size))⟩
end Go.Proofs.Ythdonmdhlgajhaa

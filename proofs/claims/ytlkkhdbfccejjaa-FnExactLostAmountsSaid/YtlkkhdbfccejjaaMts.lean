/- Matched orders: the walks of the reference. -/
import Derived.Test.YtlkkhdbfccejjaaMtw
import Derived.Deep.RegionHeld3
namespace Go.Proofs.Ytlkkhdbfccejjaa
set_option linter.unusedVariables false
set_option linter.unusedSimpArgs false
open Go.RowKit
theorem shares_bd3 {s sg : Int} {l : List Ord} (hs : sg = 1 ∨ sg = -1) (ha : AmOk l) (hl : l.length ≤ 40) (hp : 0 < sumF (partsF s sg l)) : ∀ x ∈ sharesF (totM s l) (partsF s sg l), 0 ≤ x ∧ x ≤ 1300000 := fun x hx => by
  have hb := totM_bd (s := s) ha hl
  have := shares_bd (t := totM s l) (ws := partsF s sg l) (parts_nn s sg l) hp hb.1 x hx
  rw [partsF_len] at this
  omega
theorem mt_ok3 {s sg : Int} {l : List Ord} (hs : sg = 1 ∨ sg = -1) (ha : AmOk l) (hl : l.length ≤ 40) (hp : 0 < sumF (partsF s sg l)) : ShOk (totM s l) (partsF s sg l) := by
  have hb := totM_bd (s := s) ha hl
  exact ⟨by rw [partsF_len]; omega, fun x hx => by have := parts_bd hs ha x hx; omega, hb.1, by omega, hp⟩
theorem addV_bd {s sg : Int} {l : List Ord} {out : List Int} {b : Int} (hs : sg = 1 ∨ sg = -1) (ha : AmOk l) (hl : l.length ≤ 40) (h : ∀ x ∈ out, -b ≤ x ∧ x ≤ b) : ∀ x ∈ addV sg (totM s l) (partsF s sg l) out, -(b + 1300000) ≤ x ∧ x ≤ b + 1300000 := by
  unfold addV
  split
  · rename_i hp
    intro y hy
    have h2 := shares_bd3 hs ha hl hp
    have := addS_bd (s := sg) (la := -b) (ha := b) (lb := 1300000) (hb := 1300000) hs h (fun x hx => by have := h2 x hx; omega) rfl y hy
    omega
  · intro y hy
    have := h y hy; omega
theorem foldS_bd {l : List Ord} (ha : AmOk l) (hl : l.length ≤ 40) : ∀ n : Nat, ∀ x ∈ foldS l n, -((n : Int) * 2600000) ≤ x ∧ x ≤ (n : Int) * 2600000
  | 0 => fun x hx => by have := List.eq_of_mem_replicate hx; omega
  | n + 1 => fun x hx => by
    have ih := foldS_bd ha hl n
    have h1 := addV_bd (s := (n : Int)) (.inl rfl) ha hl ih
    have h2 := addV_bd (s := (n : Int)) (sg := -1) (.inr rfl) ha hl h1 x hx
    omega
theorem l01Shares_tm (A : Option Addr) (c n : Nat) (total tm : Int) (ws : List Int) (w : World) (hk : ShOk tm ws) (hn : ws.length = n) (h : Rd w A (ws.map iV)) (ht : total = tm) :
    Calls Try.prog 175 #[.int .i64 total, .slice A n c] w (MadeL w 1 n ((sharesF tm ws).map iV)) := by
  subst ht
  exact spec_l01Shares' A c n total ws w hk hn h
theorem spec_l01Sum' (A : Option Addr) (c n : Nat) (l : List Int) (s : Int) (w : World) (h : Rd w A (l.map iV)) (hn : l.length = n) (hl : n ≤ 1048576) (hs : Sml l) (he : sumF l = s) :
    Calls Try.prog 147 #[.slice A n c] w fun e w' => e = .returned (.int .i64 s) ∧ w = w' := by
  subst hn; subst he
  exact spec_l01Sum A c l w h hl hs
set_option maxRecDepth 100000 in
set_option maxHeartbeats 16000000 in
theorem spec_l22Match (C : Option Addr) (e : Nat) (l : List Ord) (w : World) (h : Rd w C (l.flatMap Ord.cells)) (hl : l.length ≤ 40) (ha : AmOk l) :
    Calls Try.prog 117 #[.slice C l.length e] w (MadeL w 1 l.length ((mtL l).map iV)) := by
  have HL := Lib.hid h
  have HA := Lib.hid ha
  clear h ha
  have hmk := make_i64 l.length (by omega)
  go_enter Try.func117, Try.ntmps117
  go_wp2_with fail
  go_loopw [3, 4] (fun u v wr => ∃ (k : Nat) (G : Option Addr) (c : Nat), k ≤ 16 ∧ v = .int .i64 k ∧ u = .slice G l.length c ∧ l.length ≤ c ∧ Wr w.heap.size wr G l.length ((foldS l k).map iV) ∧ Below w.heap.size w wr) (fun _ v _ => 16 - (intOf v).toNat)
  case atStart => exact ⟨0, _, l.length, by omega, rfl, rfl, Nat.le_refl _, Wr.of_arr (Nat.le_refl _) (Arr.madeI w l.length 2), by (repeat' (first | (with_reducible exact Below.refl _ _) | (with_reducible assumption) | (with_reducible refine Below.alloc ?_ ?_ _) | (with_reducible refine Below.drew ?_) | (with_reducible refine Below.drewN' ?_ _) | (with_reducible refine Below.setCell ?_ ?_ _) | (refine Below.via ?_ (by with_reducible assumption) ?_) | (with_reducible refine Below.via ?_ (Wd.h _) ?_) | go_size))⟩
  case round =>
    obtain ⟨k, G, c, hk, rfl, rfl, hc, hW, hbw⟩ := hrel
    have HW := Lib.hid hW
    have hbH := Lib.hid hbw
    clear hW hmk
    by_cases hlt : k < 16
    · have g1 : (k : Int) < 16 := by omega
      have HRD := Lib.hid (HL.out.below hbw)
      have hz0 := hbw.size
      obtain ⟨tm, htm⟩ : ∃ tm, tm = totM k l := ⟨_, rfl⟩
      have HTM := Lib.hid (show min (totF k 1 l) (totF k (-1) l) = tm from htm.symm)
      obtain ⟨pi, hpi⟩ : ∃ pi, pi = partsF k 1 l := ⟨_, rfl⟩
      obtain ⟨pw, hpw⟩ : ∃ pw, pw = partsF k (-1) l := ⟨_, rfl⟩
      have hpl : pi.length = l.length := by rw [hpi, partsF_len]
      have hwl : pw.length = l.length := by rw [hpw, partsF_len]
      have HPL := Lib.hid hpl
      have HWL := Lib.hid hwl
      have HSI := Lib.hid (show Sml pi by rw [hpi]; exact parts_sml (.inl rfl) HA.out)
      have HSW := Lib.hid (show Sml pw by rw [hpw]; exact parts_sml (.inr rfl) HA.out)
      have HTI := Lib.hid (show sumF pi = totF k 1 l by rw [hpi]; exact parts_sum _ _ _)
      have HTW := Lib.hid (show sumF pw = totF k (-1) l by rw [hpw]; exact parts_sum _ _ _)
      obtain ⟨o0, ho0⟩ : ∃ o0, o0 = foldS l k := ⟨_, rfl⟩
      rw [← ho0] at HW
      have ol0 : o0.length = l.length := by rw [ho0, foldS_len]
      have HOL := Lib.hid ol0
      have hob : ∀ x ∈ o0, -((k : Int) * 2600000) ≤ x ∧ x ≤ (k : Int) * 2600000 := by rw [ho0]; exact foldS_bd HA.out hl k
      have HOB := Lib.hid (show ∀ x ∈ o0, -1000000000000 ≤ x ∧ x ≤ 1000000000000 from fun x hx => by have := hob x hx; omega)
      have HO1B := Lib.hid (show ∀ x ∈ addV 1 tm pi o0, -1000000000000 ≤ x ∧ x ≤ 1000000000000 from fun x hx => by
        rw [htm, hpi] at hx
        have := addV_bd (.inl rfl) HA.out hl hob x hx
        omega)
      have HST := Lib.hid (show foldS l (k + 1) = addV (-1) tm pw (addV 1 tm pi o0) by rw [htm, hpi, hpw, ho0]; rfl)
      have HKI := Lib.hid (show 0 < sumF pi → ShOk tm pi by rw [htm, hpi]; exact mt_ok3 (.inl rfl) HA.out hl)
      have HKW := Lib.hid (show 0 < sumF pw → ShOk tm pw by rw [htm, hpw]; exact mt_ok3 (.inr rfl) HA.out hl)
      have HBI := Lib.hid (show 0 < sumF pi → ∀ x ∈ sharesF tm pi, 0 ≤ x ∧ x ≤ 1300000 by rw [htm, hpi]; exact shares_bd3 (.inl rfl) HA.out hl)
      have HBW := Lib.hid (show 0 < sumF pw → ∀ x ∈ sharesF tm pw, 0 ≤ x ∧ x ≤ 1300000 by rw [htm, hpw]; exact shares_bd3 (.inr rfl) HA.out hl)
      have ht1 := tot_bd (sh := (k : Int)) (sg := 1) (.inl rfl) HA.out
      have ht2 := tot_bd (sh := (k : Int)) (sg := -1) (.inr rfl) HA.out
      have HPI := Lib.hid hpi
      have HPW := Lib.hid hpw
      clear htm hpl hwl ol0 hob ho0 hbw hpi hpw
      go_wp2_with fail
      refine (spec_l22Parts _ _ l k 1 _ (.inl rfl) HRD.out (by omega) HA.out).mono ?_
      rintro e w1 ⟨v1, rfl, hO1, hb1⟩
      obtain ⟨G1, c1, rfl, hc1, hW1⟩ := hO1.lt_
      have HR1 := Lib.hid (show Rd w1 G1 (pi.map iV) by rw [HPI.out]; exact hW1.rd)
      have HB1 := Lib.hid hb1
      clear hO1 hW1 hb1
      have hz1 := HB1.out.size
      go_wp2_with fail
      refine (spec_l22Parts _ _ l k (-1) _ (.inr rfl) (HRD.out.below HB1.out) (by omega) HA.out).mono ?_
      rintro e w2 ⟨v2, rfl, hO2, hb2⟩
      obtain ⟨G2, c2, rfl, hc2, hW2⟩ := hO2.lt_
      have HR2 := Lib.hid (show Rd w2 G2 (pw.map iV) by rw [HPW.out]; exact hW2.rd)
      have HR1 := Lib.hid (HR1.out.below hb2)
      have HB2 := Lib.hid (HB1.out.trans (hb2.mono hz1))
      clear hO2 hW2 hb2
      have hz2 := HB2.out.size
      have HW2 := Lib.hid (HW.out.below HB2.out)
      by_cases hp0 : 0 < totF k 1 l <;> by_cases hp1 : 0 < totF k (-1) l
      · have h0 :  0 < totF k 1 l := by assumption
        have h1 :  0 < totF k (-1) l := by assumption
        have hki := HKI.out (by rw [HTI.out]; exact h0)
        have HK1 := Lib.hid hki
        have HV1 := Lib.hid (show addV 1 tm pi o0 = addS 1 o0 (sharesF tm pi) by rw [addV, if_pos hki.s])
        have HD1 := Lib.hid (HBI.out hki.s)
        clear hki
        have hkw := HKW.out (by rw [HTW.out]; exact h1)
        have HK2 := Lib.hid hkw
        have HV2 := Lib.hid (show addV (-1) tm pw (addV 1 tm pi o0) = addS (-1) (addV 1 tm pi o0) (sharesF tm pw) by rw [addV, if_pos hkw.s])
        have HD2 := Lib.hid (HBW.out hkw.s)
        clear hkw
        go_wp2_with (first
          | (go_at_call 147; ((with_reducible refine (spec_l01Sum' _ _ _ pi _ _ (HR1.out.below (by first | exact Below.refl _ _ | exact HB4.out)) HPL.out (by omega) HSI.out HTI.out).mono ?_)); rintro e w' ⟨rfl, rfl⟩)
          | (go_at_call 147; ((with_reducible refine (spec_l01Sum' _ _ _ pw _ _ (HR2.out.below (by first | exact Below.refl _ _ | exact HB4.out)) HWL.out (by omega) HSW.out HTW.out).mono ?_)); rintro e w' ⟨rfl, rfl⟩)
          | (go_at_call 175; ((with_reducible refine (l01Shares_tm _ _ _ _ tm pi _ HK1.out HPL.out (HR1.out.below (Below.refl _ _)) (by have := HTM.out; omega)).mono ?_)); rintro e w3 ⟨G3, c3, rfl, hc3, hW3, hb3⟩; have HW3 := Lib.hid hW3; have HB3 := Lib.hid hb3; have hz3 := hb3.size; clear hW3 hb3)
          | (go_at_call 181; ((with_reducible refine (spec_l05Add' _ _ _ _ _ _ o0 (sharesF tm pi) 1 _ (HW2.out.rd.below HB3.out) HW3.out.rd HOL.out ((sharesF_len _ _).trans HPL.out) (Nat.le_refl _) (by omega) HOB.out (fun x hx => by have := HD1.out x hx; omega)).mono ?_)); rintro e w4 ⟨G4, c4, rfl, hc4, hW4, hb4⟩; rw [← HV1.out, Nat.mul_one] at hW4; have HW4 := Lib.hid (hW4.lower (base' := w.heap.size) (by omega)); have HB4 := Lib.hid (HB3.out.trans (hb4.mono hz3)); have hz4 := hb4.size; clear hW4 hb4)
          | (go_at_call 175; ((with_reducible refine (l01Shares_tm _ _ _ _ tm pw _ HK2.out HWL.out (HR2.out.below HB4.out) (by have := HTM.out; omega)).mono ?_)); rintro e w5 ⟨G5, c5, rfl, hc5, hW5, hb5⟩; have HW5 := Lib.hid hW5; have HB5 := Lib.hid hb5; have hz5 := hb5.size; clear hW5 hb5)
          | (go_at_call 181; ((with_reducible refine (spec_l05Add' _ _ _ _ _ _ (addV 1 tm pi o0) (sharesF tm pw) (-1) _ (HW4.out.rd.below HB5.out) HW5.out.rd ((addV_len (HOL.out.trans HPL.out.symm)).trans HOL.out) ((sharesF_len _ _).trans HWL.out) (Nat.le_refl _) (by omega) HO1B.out (fun x hx => by have := HD2.out x hx; omega)).mono ?_)); rintro e w6 ⟨G6, c6, rfl, hc6, hW6, hb6⟩; rw [← HV2.out, Nat.mul_one] at hW6; have HW6 := Lib.hid (hW6.lower (base' := w.heap.size) (by omega)); have HB6 := Lib.hid (HB4.out.trans ((HB5.out.trans (hb6.mono hz5)).mono (by omega))); clear hW6 hb6))
        all_goals
          go_roundw
          case rel =>
            exact ⟨k + 1, _, _, by omega, by go_num, rfl, hc6, by rw [HST.out]; exact HW6.out, hbH.out.trans ((HB2.out.trans (HB6.out.mono (by omega))).mono (by omega))⟩
          case measure => simp [intOf]; omega
      · have h0 :  0 < totF k 1 l := by assumption
        have h1 : ¬ 0 < totF k (-1) l := by assumption
        have hki := HKI.out (by rw [HTI.out]; exact h0)
        have HK1 := Lib.hid hki
        have HV1 := Lib.hid (show addV 1 tm pi o0 = addS 1 o0 (sharesF tm pi) by rw [addV, if_pos hki.s])
        have HD1 := Lib.hid (HBI.out hki.s)
        clear hki
        have HV2 := Lib.hid (show addV (-1) tm pw (addV 1 tm pi o0) = addV 1 tm pi o0 by rw [addV, if_neg (by rw [HTW.out]; exact h1)])
        go_wp2_with (first
          | (go_at_call 147; ((with_reducible refine (spec_l01Sum' _ _ _ pi _ _ (HR1.out.below (by first | exact Below.refl _ _ | exact HB4.out)) HPL.out (by omega) HSI.out HTI.out).mono ?_)); rintro e w' ⟨rfl, rfl⟩)
          | (go_at_call 147; ((with_reducible refine (spec_l01Sum' _ _ _ pw _ _ (HR2.out.below (by first | exact Below.refl _ _ | exact HB4.out)) HWL.out (by omega) HSW.out HTW.out).mono ?_)); rintro e w' ⟨rfl, rfl⟩)
          | (go_at_call 175; ((with_reducible refine (l01Shares_tm _ _ _ _ tm pi _ HK1.out HPL.out (HR1.out.below (Below.refl _ _)) (by have := HTM.out; omega)).mono ?_)); rintro e w3 ⟨G3, c3, rfl, hc3, hW3, hb3⟩; have HW3 := Lib.hid hW3; have HB3 := Lib.hid hb3; have hz3 := hb3.size; clear hW3 hb3)
          | (go_at_call 181; ((with_reducible refine (spec_l05Add' _ _ _ _ _ _ o0 (sharesF tm pi) 1 _ (HW2.out.rd.below HB3.out) HW3.out.rd HOL.out ((sharesF_len _ _).trans HPL.out) (Nat.le_refl _) (by omega) HOB.out (fun x hx => by have := HD1.out x hx; omega)).mono ?_)); rintro e w4 ⟨G4, c4, rfl, hc4, hW4, hb4⟩; rw [← HV1.out, Nat.mul_one] at hW4; have HW4 := Lib.hid (hW4.lower (base' := w.heap.size) (by omega)); have HB4 := Lib.hid (HB3.out.trans (hb4.mono hz3)); have hz4 := hb4.size; clear hW4 hb4))
        all_goals
          go_roundw
          case rel =>
            exact ⟨k + 1, _, _, by omega, by go_num, rfl, hc4, by rw [HST.out, HV2.out]; exact HW4.out, hbH.out.trans ((HB2.out.trans (HB4.out.mono (by omega))).mono (by omega))⟩
          case measure => simp [intOf]; omega
      · have h0 : ¬ 0 < totF k 1 l := by assumption
        have h1 :  0 < totF k (-1) l := by assumption
        have HV1 := Lib.hid (show addV 1 tm pi o0 = o0 by rw [addV, if_neg (by rw [HTI.out]; exact h0)])
        have hkw := HKW.out (by rw [HTW.out]; exact h1)
        have HK2 := Lib.hid hkw
        have HV2 := Lib.hid (show addV (-1) tm pw (addV 1 tm pi o0) = addS (-1) (addV 1 tm pi o0) (sharesF tm pw) by rw [addV, if_pos hkw.s])
        have HD2 := Lib.hid (HBW.out hkw.s)
        clear hkw
        have HW2x := Lib.hid (show Wr w.heap.size w2 G l.length ((addV 1 tm pi o0).map iV) by rw [HV1.out]; exact HW2.out)
        go_wp2_with (first
          | (go_at_call 147; ((with_reducible refine (spec_l01Sum' _ _ _ pi _ _ (HR1.out.below (by first | exact Below.refl _ _ | exact HB4.out)) HPL.out (by omega) HSI.out HTI.out).mono ?_)); rintro e w' ⟨rfl, rfl⟩)
          | (go_at_call 147; ((with_reducible refine (spec_l01Sum' _ _ _ pw _ _ (HR2.out.below (by first | exact Below.refl _ _ | exact HB4.out)) HWL.out (by omega) HSW.out HTW.out).mono ?_)); rintro e w' ⟨rfl, rfl⟩)
          | (go_at_call 175; ((with_reducible refine (l01Shares_tm _ _ _ _ tm pw _ HK2.out HWL.out (HR2.out.below (Below.refl _ _)) (by have := HTM.out; omega)).mono ?_)); rintro e w5 ⟨G5, c5, rfl, hc5, hW5, hb5⟩; have HW5 := Lib.hid hW5; have HB5 := Lib.hid hb5; have hz5 := hb5.size; clear hW5 hb5)
          | (go_at_call 181; ((with_reducible refine (spec_l05Add' _ _ _ _ _ _ (addV 1 tm pi o0) (sharesF tm pw) (-1) _ (HW2x.out.rd.below HB5.out) HW5.out.rd ((addV_len (HOL.out.trans HPL.out.symm)).trans HOL.out) ((sharesF_len _ _).trans HWL.out) (Nat.le_refl _) (by omega) HO1B.out (fun x hx => by have := HD2.out x hx; omega)).mono ?_)); rintro e w6 ⟨G6, c6, rfl, hc6, hW6, hb6⟩; rw [← HV2.out, Nat.mul_one] at hW6; have HW6 := Lib.hid (hW6.lower (base' := w.heap.size) (by omega)); have HB6 := Lib.hid ((Below.refl _ _).trans ((HB5.out.trans (hb6.mono hz5)).mono (by omega))); clear hW6 hb6))
        all_goals
          go_roundw
          case rel =>
            exact ⟨k + 1, _, _, by omega, by go_num, rfl, hc6, by rw [HST.out]; exact HW6.out, hbH.out.trans ((HB2.out.trans (HB6.out.mono (by omega))).mono (by omega))⟩
          case measure => simp [intOf]; omega
      · have h0 : ¬ 0 < totF k 1 l := by assumption
        have h1 : ¬ 0 < totF k (-1) l := by assumption
        have HV1 := Lib.hid (show addV 1 tm pi o0 = o0 by rw [addV, if_neg (by rw [HTI.out]; exact h0)])
        have HV2 := Lib.hid (show addV (-1) tm pw (addV 1 tm pi o0) = addV 1 tm pi o0 by rw [addV, if_neg (by rw [HTW.out]; exact h1)])
        have HW2x := Lib.hid (show Wr w.heap.size w2 G l.length ((addV 1 tm pi o0).map iV) by rw [HV1.out]; exact HW2.out)
        go_wp2_with (first
          | (go_at_call 147; ((with_reducible refine (spec_l01Sum' _ _ _ pi _ _ (HR1.out.below (by first | exact Below.refl _ _ | exact HB4.out)) HPL.out (by omega) HSI.out HTI.out).mono ?_)); rintro e w' ⟨rfl, rfl⟩)
          | (go_at_call 147; ((with_reducible refine (spec_l01Sum' _ _ _ pw _ _ (HR2.out.below (by first | exact Below.refl _ _ | exact HB4.out)) HWL.out (by omega) HSW.out HTW.out).mono ?_)); rintro e w' ⟨rfl, rfl⟩))
        all_goals
          go_roundw
          case rel =>
            exact ⟨k + 1, _, _, by omega, by go_num, rfl, hc, by rw [HST.out, HV2.out]; exact HW2x.out, hbH.out.trans ((HB2.out.trans ((Below.refl _ _).mono (by omega))).mono (by omega))⟩
          case measure => simp [intOf]; omega
    · obtain rfl : k = 16 := by omega
      clear hbw
      go_wp2
      go_ret
      exact ⟨G, c, rfl, hc, by rw [Nat.mul_one]; exact HW.out, hbH.out⟩
end Go.Proofs.Ytlkkhdbfccejjaa

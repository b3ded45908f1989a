/- Matched orders: the walk of matched. -/
import Derived.Test.YtlkkhdbfccejjaaMtl
import Derived.Test.YtlkkhdbfccejjaaSht
import Derived.Deep.DeepCutAuto
namespace Go.Proofs.Ytlkkhdbfccejjaa
set_option linter.unusedVariables false
set_option linter.unusedSimpArgs false
open Go.RowKit
theorem info_intX : (Try.prog.info? 3).map (fun i => (i.zero, i.size, i.bytes)) = some (some (.int .i64 0), 1, 8) := by kernel_rfl
theorem set_wa {w : World} {g : Nat} {l : List Ord} {am : List Int} {p : Nat} {a : Int} (h : Arr w g (l.length * 4) ((waF l am).flatMap Ord.cells)) (hm : am.length = l.length) (hp : p < l.length) : Arr (w.setCell ⟨g, p * 4 + 2, none⟩ (.int .i64 a)) g (l.length * 4) ((waF l (am.set p a)).flatMap Ord.cells) := by
  rw [← waF_set a hm hp]
  exact h.setAt (by omega) _
theorem sharesOf_tm (A : Option Addr) (c n : Nat) (total tm : Int) (ws : List Int) (w : World) (hk : ShOk tm ws) (hn : ws.length = n) (h : Rd w A (ws.map iV)) (ht : total = tm) :
    Calls Try.prog 112 #[.int .i64 total, .slice A n c] w (MadeL w 1 n ((sharesF tm ws).map iV)) := by
  subst ht
  exact impl_sharesOf' A c n total ws w hk hn h
set_option maxRecDepth 100000 in
theorem sgn_idx (j : Nat) (hj : j < 2) : ∀ w, (Instr.index 208 (.agg #[.int .i64 1, .int .i64 (-1)]) (.int .i64 j)).run Try.prog w = .ok (.int .i64 (sgn j)) w := by
  rcases j with _ | _ | j
  · exact fun _ => by kernel_rfl
  · exact fun _ => by kernel_rfl
  · omega
set_option maxRecDepth 100000 in
set_option maxHeartbeats 16000000 in
theorem impl_matched (C : Option Addr) (e : Nat) (l : List Ord) (w : World) (h : Rd w C (l.flatMap Ord.cells)) (hl : l.length ≤ 40) (ha : AmOk l) :
    Calls Try.prog 120 #[.slice C l.length e] w (MadeL w 4 l.length ((waF l (foldI l 16)).flatMap Ord.cells)) := by
  have HL := Lib.hid h
  have HA := Lib.hid ha
  clear h ha
  go_enter Try.func120, Try.ntmps120
  go_wp2_with fail
  refine (slices_CloneO _ _ l _ HL.out (by omega)).mono ?_
  rintro e w1 ⟨v, rfl, hO, hb1⟩
  obtain ⟨G, cG, rfl, hcG, hW⟩ := hO.lt_
  have HW := Lib.hid (show Wr w.heap.size w1 G (l.length * 4) ((waF l (foldI l 0)).flatMap Ord.cells) by rw [foldI, waF_self]; exact hW)
  have HB1 := Lib.hid hb1
  clear hO hW hb1
  go_wp2_with fail
  go_loopw [17] (fun v wr => ∃ k : Nat, k ≤ 16 ∧ v = .int .i64 k ∧ Wr w.heap.size wr G (l.length * 4) ((waF l (foldI l k)).flatMap Ord.cells) ∧ Below w.heap.size w wr) (fun v _ => 16 - (intOf v).toNat)
  case atStart => exact ⟨0, by omega, rfl, HW.out, HB1.out⟩
  case round =>
    clear HW HB1
    obtain ⟨k, hk, rfl, hW, hbw⟩ := hrel
    have HW := Lib.hid hW
    have hbH := Lib.hid hbw
    clear hW
    by_cases hlt : k < 16
    · have g1 : (k : Int) < 16 := by omega
      have HRD := Lib.hid (HL.out.below hbw)
      have htb := totM_bd (s := k) HA.out hl
      have ht1 := tot_bd (sh := (k : Int)) (sg := 1) (.inl rfl) HA.out
      have ht2 := tot_bd (sh := (k : Int)) (sg := -1) (.inr rfl) HA.out
      clear hbw
      go_wp2_with fail
      refine (impl_totalsOf _ _ l k _ HRD.out (by omega) HA.out).mono ?_
      rintro e w2 ⟨rfl, hb2⟩
      have HW2 := Lib.hid (HW.out.below hb2)
      have HB2 := Lib.hid (show Below w.heap.size w w2 by have h1 := hbH.out; have hz := h1.size; (repeat' (first | (with_reducible exact Below.refl _ _) | (with_reducible assumption) | (with_reducible refine Below.alloc ?_ ?_ _) | (with_reducible refine Below.drew ?_) | (with_reducible refine Below.drewN' ?_ _) | (with_reducible refine Below.setCell ?_ ?_ _) | (refine Below.via ?_ (by with_reducible assumption) ?_) | (with_reducible refine Below.via ?_ (Wd.h _) ?_) | go_size)))
      obtain ⟨am, hamd⟩ : ∃ am, am = foldI l k := ⟨_, rfl⟩
      have HAM := Lib.hid hamd
      clear hamd hb2
      go_wp2_with fail
      go_loopw [27] (fun v wr => ∃ j : Nat, j ≤ 2 ∧ v = .int .i64 j ∧ Wr w.heap.size wr G (l.length * 4) ((waF l (halfI k l am j)).flatMap Ord.cells) ∧ Below w.heap.size w wr) (fun v _ => 2 - (intOf v).toNat)
      case atStart => exact ⟨0, by omega, rfl, by rw [halfI, HAM.out]; exact HW2.out, HB2.out⟩
      case round =>
        clear HW2 HB2 HW hbH HRD
        obtain ⟨wo, rfl⟩ : ∃ wo : World, wo = wr := ⟨_, rfl⟩
        obtain ⟨j, hj, rfl, hW, hbw⟩ := hrel
        have HW := Lib.hid hW
        have hbH := Lib.hid hbw
        have HRD := Lib.hid (HL.out.below hbw)
        clear hW hbw
        by_cases hjt : j < 2
        · have g2 : (j : Int) < 2 := by omega
          have hidx := sgn_idx j hjt
          obtain ⟨sg, hsg⟩ : ∃ sg, sg = sgn j := ⟨_, rfl⟩
          have HSG := Lib.hid (show sg = 1 ∨ sg = -1 by rw [hsg]; exact sgn_or j)
          have HSJ := Lib.hid hsg
          rw [← hsg] at hidx
          clear hsg
          obtain ⟨pa, hpa⟩ : ∃ pa, pa = partsF k sg l := ⟨_, rfl⟩
          have HPA := Lib.hid hpa
          have hpl : pa.length = l.length := by rw [hpa, partsF_len]
          have pl1 : pa.length ≤ l.length := by omega
          have pl2 : l.length ≤ pa.length := by omega
          clear hpa hpl
          go_wp2_with fail
          go_loopw [9, 10, 32] (fun u v t wr => ∃ (i : Nat) (ps ws : List Int), i ≤ l.length ∧ t = .int .i64 i ∧ ps.length ≤ i ∧ ws.length ≤ ps.length ∧ ps.length ≤ ws.length ∧ Hid (ps ++ posF i (pa.drop i) = posF 0 pa) ∧ Hid (ws ++ posW (pa.drop i) = posW pa) ∧ Own wr wo.heap.size 3 1 u ps.length (ps.map iV) ∧ Own wr wo.heap.size 2 1 v ws.length (ws.map iV) ∧ Apart u v ∧ Below wo.heap.size wo wr) (fun _ _ t _ => l.length - (intOf t).toNat)
          case atStart => exact ⟨0, [], [], by omega, rfl, by simp, by simp, by simp, Lib.hid rfl, Lib.hid rfl, by simpa using Own.nil wo wo.heap.size 3 1, by simpa using Own.nil wo wo.heap.size 2 1, Apart.nil_l _, Below.refl _ _⟩
          case round =>
            obtain ⟨i, ps, ws, hi, rfl, q1, q2, q3, HPS, HPW, ho1, ho2, hap, hbw⟩ := hrel
            have HO1 := Lib.hid ho1
            have HO2 := Lib.hid ho2
            have HAP := Lib.hid hap
            have hbI := Lib.hid hbw
            have hzr := hbw.size
            clear ho1 ho2 hap
            by_cases hlt : i < l.length
            · obtain ⟨x, hx⟩ := get_some hlt; obtain ⟨bx, offx, rfl, hbx, hat⟩ := HRD.out.opened (k := i) (by rw [flat_len Ord.len]; omega); have hat' := hat.below hbw hbx; have hybx : bx < wr.heap.size := Nat.lt_of_lt_of_le hbx hbw.size; have hzw := hbw.size; have t0 := hat'.elem0 Ord.len hx rfl; have t1 := hat'.elem Ord.len hx 1 rfl; have t2 := hat'.elem Ord.len hx 2 rfl; have t3 := hat'.elem Ord.len hx 3 rfl; have HX := Lib.hid hx; have HD := Lib.hid (drop_cons hx); have gx : (i : Int) < _ := Int.ofNat_lt.2 hlt; clear hx hat hat'
              obtain ⟨a1, a2⟩ := HA.out x (List.mem_of_getElem? HX.out)
              obtain ⟨a4, a5⟩ : -30000 ≤ sg * x.am ∧ sg * x.am ≤ 30000 := by rcases HSG.out with rfl | rfl <;> omega
              have hpx : pa[i]? = some (part1 k sg x) := by rw [HPA.out]; exact parts_at HX.out
              have HSF := Lib.hid (posF_step hpx)
              have HSW := Lib.hid (posW_step hpx)
              clear hpx hbw
              by_cases hsh : x.sh = k
              · have e1 : (x.sh == (k : Int)) = true := by simpa using hsh
                have HSH := Lib.hid hsh
                clear hsh
                by_cases hp : 0 < sg * x.am
                · have HP1 := Lib.hid (show part1 k sg x = sg * x.am by unfold part1; rw [if_pos HSH.out, if_pos hp])
                  
                  
                  go_wp2_with (first
                    | (at_builtin; refine wp_app1x _ rfl (.tmp 48) (.tmp 50) 209 rfl (wo.heap.size) info_intX Try.underlying209 rfl (by omega) (by omega) (u9) (ps.length) _ rfl ((HO1.out.alloc _).alloc _) (wr.heap.size + 1) 1 1 [iV (i)] rfl rfl (by intro j u hu; match j, hu with | 0, hu => (simp at hu; subst hu; simp) | j + 1, hu => simp at hu) (by simp [Value.oneCell']) (by omega) (by omega) (by simp; omega) ?_; intro v3 w3 hO3 hb3 hF3; (obtain ⟨hcn, hfn⟩ := bcellB hb3; have hz3 := hb3.size; (try simp at hz3); clear hcn hfn); have HO1' := Lib.hid hO3; have HO2' := Lib.hid (hF3.own ((HO2.out.alloc _).alloc _) HAP.out); have HAP' := Lib.hid (hF3.apart ((HO2.out.alloc _).alloc _) HAP.out); have r2 : w3.cell? ⟨wr.heap.size, 2, none⟩ = some (.int .i64 x.am) := (hF3.cell (by simp; omega) (HO1.out.ne (.inr (Nat.le_refl _)))).trans (by simp); have HB3 := Lib.hid hb3; have hz3 := hb3.size; (try simp at hz3); clear hO3 hF3 hb3)
                    | (at_builtin; refine wp_app1x _ rfl (.tmp 52) (.tmp 57) 36 rfl (wo.heap.size) info_i64 Try.underlying36 rfl (by omega) (by omega) (u10) (ws.length) _ rfl (HO2'.out.alloc _) (w3.heap.size) 1 1 [iV (sg * x.am)] rfl rfl (by intro j u hu; match j, hu with | 0, hu => (simp at hu; subst hu; simp) | j + 1, hu => simp at hu) (by simp [Value.oneCell']) (by omega) (by omega) (by simp; omega) ?_; intro v4 w4 hO4 hb4 hF4; (obtain ⟨hcn, hfn⟩ := bcellB hb4; have hz4 := hb4.size; (try simp at hz4); clear hcn hfn); have HO2'' := Lib.hid hO4; have HO1'' := Lib.hid (hF4.own (HO1'.out.alloc _) HAP'.out.symm); have HAP'' := Lib.hid (hF4.apart (HO1'.out.alloc _) HAP'.out.symm).symm; have HB4 := Lib.hid hb4; clear hO4 hF4 hb4))
                  go_roundw
                  case rel =>
                    refine ⟨i + 1, ps ++ [(i : Int)], ws ++ [sg * x.am], by omega, by go_num, by simp; omega, by simp; omega, by simp; omega, Lib.hid ?_, Lib.hid ?_, ?_, ?_, HAP''.out, ?_⟩
                    · rw [← HPS.out, HSF.out, HP1.out, if_pos hp]; simp
                    · rw [← HPW.out, HSW.out, HP1.out, if_pos hp]; simp
                    · have := HO1''.out; simpa using this
                    · have := HO2''.out; simpa using this
                    · exact Below.via ((Below.via ((hbI.out.alloc hzr _).alloc (by simp; omega) _) HB3.out (Nat.le_refl _)).alloc (by omega) _) HB4.out (Nat.le_refl _)
                  case measure => simp [intOf]; omega
                · have HP1 := Lib.hid (show part1 k sg x = 0 by unfold part1; rw [if_pos HSH.out, if_neg hp])
                  go_wp2
                  go_roundw
                  case rel =>
                    refine ⟨i + 1, ps, ws, by omega, by go_num, by omega, q2, q3, Lib.hid ?_, Lib.hid ?_, HO1.out.alloc _, HO2.out.alloc _, HAP.out, hbI.out.alloc hzr _⟩
                    · rw [← HPS.out, HSF.out, HP1.out]; simp
                    · rw [← HPW.out, HSW.out, HP1.out]; simp
                  case measure => simp [intOf]; omega
              · have e1 : (x.sh == (k : Int)) = false := by simpa using hsh
                have HP1 := Lib.hid (show part1 k sg x = 0 by unfold part1; rw [if_neg hsh])
                clear hsh
                go_wp2
                go_roundw
                case rel =>
                  refine ⟨i + 1, ps, ws, by omega, by go_num, by omega, q2, q3, Lib.hid ?_, Lib.hid ?_, HO1.out.alloc _, HO2.out.alloc _, HAP.out, hbI.out.alloc hzr _⟩
                  · rw [← HPS.out, HSF.out, HP1.out]; simp
                  · rw [← HPW.out, HSW.out, HP1.out]; simp
                case measure => simp [intOf]; omega
            · have hps : ps = posF 0 pa := by
                have h1 := HPS.out
                rw [List.drop_of_length_le (by omega)] at h1
                simpa [posF] using h1
              have hws : ws = posW pa := by
                have h1 := HPW.out
                rw [List.drop_of_length_le (by omega)] at h1
                simpa [posW] using h1
              obtain ⟨P, cP, rfl, hcP, hrP, hbP⟩ := HO1.out.val
              obtain ⟨Q, cQ, rfl, hcQ, hrQ, hbQ⟩ := HO2.out.val
              have HRP := Lib.hid hrP
              have HRQ := Lib.hid hrQ
              have HBP := Lib.hid hbP
              have hsg2 := HSJ.out
              obtain ⟨aj, haj⟩ : ∃ aj, aj = halfI k l am j := ⟨_, rfl⟩
              have hal : aj.length = l.length := by rw [haj, halfI_len, HAM.out, foldI_len]
              have HAL := Lib.hid hal
              have HAJ := Lib.hid haj
              have HHS := Lib.hid (show halfI k l am (j + 1) = mrgF sg pa (vecF (totM k l) pa) aj by rw [halfI_step _ _ _ _ hjt, ← hsg2, ← HPA.out, ← haj])
              have HPSW := Lib.hid hps
              have HWSW := Lib.hid hws
              clear hps hws hrP hrQ hbP hbQ hsg2 haj hal hbw
              by_cases hz : ps.length = 0
              · have b1 : ((ps.length : Int) == 0) = true := by rw [beq_iff_eq]; omega
                have HE := Lib.hid (show posW pa = [] from by rw [← HWSW.out]; exact List.eq_nil_of_length_eq_zero (by omega))
                clear hz
                go_wp2
                go_roundw
                case rel =>
                  refine ⟨j + 1, by omega, by go_num, ?_, hbH.out.trans (hbI.out.mono hbH.out.size)⟩
                  have e2 := HE.out
                  rw [HPA.out] at e2
                  rw [HHS.out, HPA.out, mt_none e2, HAJ.out]
                  exact HW.out.below hbI.out
                case measure => simp [intOf]; omega
              · have b1 : ((ps.length : Int) == 0) = false := by rw [beq_eq_false_iff_ne]; omega
                have hz2 : 1 ≤ ws.length := by omega
                obtain ⟨g, rfl, hg, hag⟩ := HW.out.2.1 (by omega)
                have hgl := hag.lt
                have HAG := Lib.hid (hag.below hbI.out hgl)
                have hne : posW (partsF k sg l) ≠ [] := by
                  rw [← HPA.out, ← HWSW.out]; intro e; rw [e] at hz2; simp at hz2
                have HSO := Lib.hid (show ShOk (totM k l) ws by rw [HWSW.out, HPA.out]; exact mt_ok HSG.out HA.out hl hne)
                have HBS := Lib.hid (show ∀ y ∈ sharesF (totM k l) ws, 0 ≤ y ∧ y ≤ 1300000 by rw [HWSW.out, HPA.out]; exact shares_bd2 HSG.out HA.out hl hne)
                have HMW := Lib.hid (show wrF sg ps (sharesF (totM k l) ws) aj = mrgF sg pa (vecF (totM k l) pa) aj by rw [HPSW.out, HWSW.out, HPA.out]; exact mt_write HSG.out HA.out hl hne HAL.out)
                have hwl : ws.length ≤ 64 := HSO.out.n
                obtain ⟨tm, htm⟩ : ∃ tm, tm = totM k l := ⟨_, rfl⟩
                rw [← htm] at HSO HBS HMW HHS
                have HTM := Lib.hid (show min (totF k 1 l) (totF k (-1) l) = tm from htm.symm)
                clear hag hne hz htm
                obtain ⟨ys, hys⟩ : ∃ ys, ys = sharesF tm ws := ⟨_, rfl⟩
                have hyl : ys.length = ws.length := by rw [hys, sharesF_len]
                have y1 : ys.length ≤ ws.length := by omega
                have y2 : ws.length ≤ ys.length := by omega
                rw [← hys] at HBS HMW
                have HYS := Lib.hid hys
                have hgo : g < wo.heap.size := hgl
                clear hys hyl
                go_wp2_with (go_at_call 112; refine (sharesOf_tm _ _ _ _ tm ws _ HSO.out rfl HRQ.out (by have := HTM.out; omega)).mono ?_; rintro e w5 ⟨G5, c5, rfl, hc5, hW5, hb5⟩; rw [← HYS.out] at hW5; have HW5 := Lib.hid hW5; have HB5 := Lib.hid hb5; clear hW5 hb5)
                all_goals
                  have hz5 := HB5.out.size
                  have HA5 := Lib.hid (HAG.out.below HB5.out (by omega))
                  go_loopw [69] (fun v wq => ∃ q : Nat, q ≤ ws.length ∧ v = .int .i64 q ∧ Arr wq g (l.length * 4) ((waF l (wrF sg (ps.take q) (ys.take q) aj)).flatMap Ord.cells) ∧ Keep (· = g) w5 wq) (fun v _ => ws.length - (intOf v).toNat)
                  case atStart => exact ⟨0, by omega, rfl, by simp only [List.take_zero, wrF]; rw [HAJ.out]; exact HA5.out, Keep.refl _ _⟩
                  case round =>
                    obtain ⟨q, hq, rfl, hag, hkp⟩ := hrel
                    have HAQ := Lib.hid hag
                    have HKP := Lib.hid hkp
                    have hzq := hkp.size
                    have hgq := hag.lt
                    clear hag hkp
                    by_cases hqt : q < ws.length
                    · obtain ⟨p, hp⟩ := get_some (show q < ps.length by omega)
                      obtain ⟨y, hy⟩ := get_some (show q < ys.length by omega)
                      have hpm : p ∈ posF 0 pa := by rw [← HPSW.out]; exact List.mem_of_getElem? hp
                      obtain ⟨p0, p1⟩ := posF_mem hpm
                      obtain ⟨y3, y4⟩ := HBS.out y (List.mem_of_getElem? hy)
                      obtain ⟨pn, rfl⟩ : ∃ pn : Nat, p = pn := ⟨p.toNat, by omega⟩
                      obtain ⟨bp, op, rfl, hbp, hatp⟩ := HRP.out.opened (k := q) (by simp; omega)
                      have hlo := HBP.out bp op rfl
                      obtain ⟨bs, os, rfl, hbs, hats⟩ := HW5.out.rd.opened (k := q) (by simp; omega)
                      have hls := HW5.out.lo bs ⟨os, rfl⟩
                      have hwr5 := hbI.out.size
                      have t0 := (HKP.out.cell bp (op + q) (by omega) (by omega)).trans (bc HB5.out hbp (ints_at hatp hp))
                      have t1 := (HKP.out.cell bs (os + q) hbs (by omega)).trans (ints_at hats hy)
                      obtain ⟨x2, c2⟩ := HAQ.out.some_ (j := pn * 4 + 2) (by omega)
                      have f2 := HAQ.out.free (j := pn * 4 + 2) (by omega)
                      have g5 : (q : Int) < ws.length := by omega
                      have g6 : (q : Int) < ps.length := by omega
                      have g7 : (pn : Int) < l.length := by omega
                      obtain ⟨a4, a5⟩ : -1300000 ≤ sg * y ∧ sg * y ≤ 1300000 := by rcases HSG.out with rfl | rfl <;> omega
                      have HWT := Lib.hid (wrF_take (sg := sg) (am := aj) hp hy)
                      have HLW := Lib.hid (show (wrF sg (ps.take q) (ys.take q) aj).length = l.length by rw [wrF_len]; exact HAL.out)
                      clear hp hy hpm hatp hats
                      go_wp2
                      go_roundw
                      case rel =>
                        refine ⟨q + 1, by omega, by go_num, ?_, HKP.out.setCell rfl _⟩
                        rw [HWT.out]
                        exact set_wa HAQ.out HLW.out (by omega)
                      case measure => simp [intOf]; omega
                    · go_wp2
                      go_roundw
                      case rel =>
                        have hf := HAQ.out
                        rw [List.take_of_length_le (by omega), List.take_of_length_le (by omega), HMW.out, ← HHS.out] at hf
                        refine ⟨j + 1, by omega, by go_num, Wr.of_arr hg hf, ?_⟩
                        have hz1 := hbH.out.size
                        have hz2 := hbI.out.size
                        exact HKP.out.below (Below.via (hbH.out.trans (hbI.out.mono hz1)) HB5.out (by omega)) (by omega) (fun z hz => by omega)
                      case measure => simp [intOf]; omega
        · have hj2 : j = 2 := by omega
          subst hj2
          go_wp2
          go_roundw
          case rel =>
            refine ⟨k + 1, by omega, by go_num, ?_, hbH.out⟩
            have e3 : foldI l (k + 1) = halfI k l am 2 := by rw [HAM.out]; rfl
            rw [e3]
            exact HW.out
          case measure => simp [intOf]; omega
    · obtain rfl : k = 16 := by omega
      go_wp2
      go_ret
      exact ⟨G, cG, rfl, hcG, HW.out, hbH.out⟩
end Go.Proofs.Ytlkkhdbfccejjaa

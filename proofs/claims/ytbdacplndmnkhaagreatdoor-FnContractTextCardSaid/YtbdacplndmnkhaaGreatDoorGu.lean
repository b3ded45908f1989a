/- Components, forests and chords of a network: lists within bounds. -/
import Derived.Test.YtbdacplndmnkhaaGreatDoorGt
namespace Go.Proofs.YtbdacplndmnkhaaGreatDoor
set_option linter.unusedVariables false
set_option linter.unusedSimpArgs false
open Go.RowKit
set_option maxRecDepth 100000 in
set_option maxHeartbeats 4000000 in
theorem spec_l04Components (A B : Option Addr) (n c m d : Nat) (N : Net) (w : World) (hN : NetAt w A B N) (hn : n = N.nodes.length) (hm : m = N.pipes.length) (hO : N.Ok) :
    Calls Tryz.prog 113 #[netV A B n c m d] w fun e w' => ∃ (A1 : Option Addr) (c1 : Nat) (l : List Int), e = .returned (.slice A1 l.length c1) ∧ l.length = N.nodes.length ∧ Rd w' A1 (l.map iV) ∧ (∀ b off, A1 = some ⟨b, off, none⟩ → w.heap.size ≤ b) ∧ Below w.heap.size w w' := by
  subst hn hm
  have HN := Lib.hid hN
  have HO := Lib.hid hO
  have hln := hN.ln
  have hlp := hN.lp
  have hp1 := hO.p1
  have hn2 := hO.n2
  clear hN hO
  have hmk := make_i64 N.nodes.length (by omega)
  go_enter Tryz.func113, Tryz.ntmps113
  go_wp2_with fail
  have HA1 := Lib.hid (Arr.madeI (w.alloc (.cells #[.slice A N.nodes.length c, .slice B N.pipes.length d] 34)) N.nodes.length 2)
  clear hmk
  go_loopw [4] (fun v wr => ∃ (k : Nat) (l : List Int), k ≤ N.nodes.length ∧ v = .int .i64 k ∧ l.length = N.nodes.length ∧ Arr wr (w.heap.size + 1) N.nodes.length (l.map iV) ∧ Bx wr w.heap.size [.slice A N.nodes.length c, .slice B N.pipes.length d] ∧ Below w.heap.size w wr) (fun v _ => N.nodes.length - (intOf v).toNat)
  case atStart => exact ⟨0, List.replicate N.nodes.length 0, by omega, rfl, by simp, by simpa using HA1.out, (bx2 (by first | exact hy0 | go_size) (by first | (with_reducible exact cw0_0) | go_cell_look | (simp [go_sem, hy0, cw0_0, fw0_0, cw0_1, fw0_1]; done) | (simp [go_sem]; done)) (by first | (with_reducible exact fw0_0) | (simp only [World.frozen?_setCell, fw0_0]; done) | (simp [go_sem, hy0, cw0_0, fw0_0, cw0_1, fw0_1]; done) | (simp [go_sem]; done)) (by first | (with_reducible exact cw0_1) | go_cell_look | (simp [go_sem, hy0, cw0_0, fw0_0, cw0_1, fw0_1]; done) | (simp [go_sem]; done)) (by first | (with_reducible exact fw0_1) | (simp only [World.frozen?_setCell, fw0_1]; done) | (simp [go_sem, hy0, cw0_0, fw0_0, cw0_1, fw0_1]; done) | (simp [go_sem]; done))), by (repeat' (first | (with_reducible exact Below.refl _ _) | (with_reducible assumption) | (with_reducible refine Below.alloc ?_ ?_ _) | (with_reducible refine Below.drew ?_) | (with_reducible refine Below.drewN' ?_ _) | (with_reducible refine Below.setCell ?_ ?_ _) | (refine Below.via ?_ (by with_reducible assumption) ?_) | (with_reducible refine Below.via ?_ (Wd.h _) ?_) | go_size))⟩
  case round =>
    clear HA1
    obtain ⟨k, l, hk, rfl, hl, hA1, hB, hbw⟩ := hrel
    have hbH := Lib.hid hbw
    have H1 := Lib.hid hA1
    have HB := Lib.hid hB
    have hlt1 := hA1.lt
    have HLN := Lib.hid hl
    clear hA1 hB hbw hl
    by_cases hlt : k < N.nodes.length
    · have g1 : (k : Int) < N.nodes.length := by omega
      obtain ⟨y, hy⟩ := get_some (l := l) (k := k) (by rw [HLN.out]; exact hlt)
      have s0 := ints_cell H1.out hy
      have s1 := H1.out.free (j := k) hlt
      clear hy
      go_wp2
      go_roundw
      case rel =>
        refine ⟨k + 1, l.set k (-1), by omega, by go_num, by simpa using HLN.out, ?_, ?_, (hbH.out).setCell (by simp) _⟩
        · have := H1.out.setAt hlt (.int .i64 (-1))
          rw [map_set_iV]; exact this
        · have hk1 : Keep (fun z => z = w.heap.size + 1) wr (wr.setCell ⟨w.heap.size + 1, k, none⟩ (.int .i64 (-1))) := (Keep.refl (fun z => z = w.heap.size + 1) wr).setCell (p := ⟨w.heap.size + 1, k, none⟩) rfl _
          exact HB.out.keep hk1 (by omega)
      case measure => simp [intOf]; omega
    · obtain rfl : k = N.nodes.length := by omega
      have g1 : ¬ (N.nodes.length : Int) < N.nodes.length := by omega
      go_wp2_with fail
      go_loopw [5, 6, 7, 8] (fun v _ _ _ wv => ∃ (k : Nat) (l : List Int), k ≤ N.nodes.length ∧ v = .int .i64 k ∧ l.length = N.nodes.length ∧ Arr wv (w.heap.size + 1) N.nodes.length (l.map iV) ∧ Bx wv w.heap.size [.slice A N.nodes.length c, .slice B N.pipes.length d] ∧ Below w.heap.size w wv) (fun v _ _ _ _ => N.nodes.length - (intOf v).toNat)
      case atStart => exact ⟨0, l, by omega, rfl, HLN.out, H1.out, HB.out, hbH.out⟩
      case round =>
        clear H1 HB hbH HLN hlt1
        obtain ⟨k, l, hk, rfl, hl, hA1, hB, hbw⟩ := hrel
        have hbH := Lib.hid hbw
        have H1 := Lib.hid hA1
        have HB := Lib.hid hB
        have hlt1 := hA1.lt
        have HLN := Lib.hid hl
        have hy7 := hB.lt; have cw7_0 := hB.cell 0 rfl; have fw7_0 := hB.frozen 0 rfl; have cw7_1 := hB.cell 1 rfl; have fw7_1 := hB.frozen 1 rfl
        clear hA1 hB hbw hl
        by_cases hlt : k < N.nodes.length
        · have g2 : (k : Int) < N.nodes.length := by omega
          obtain ⟨y, hy⟩ := get_some (l := l) (k := k) (by rw [HLN.out]; exact hlt)
          have s0 := ints_cell H1.out hy
          clear hy
          by_cases hy0 : 0 ≤ y
          · go_wp2
            go_roundw
            case rel => exact ⟨k + 1, l, by omega, by go_num, HLN.out, H1.out, HB.out, hbH.out⟩
            case measure => simp [intOf]; omega
          · go_wp2_with fail
            refine (spec_l04Search A B _ c _ d N k _ (HN.out.below hbH.out) rfl rfl HO.out hlt).mono ?_
            rintro e w3 ⟨B1, B2, d1, d2, E, O, rfl, hel, heb, hol, hob, hR1, hR2, hb1, hb2, hb3⟩
            have HOB := Lib.hid hob
            have HR2 := Lib.hid hR2
            have HB2 := Lib.hid (show ∀ b off, B2 = some ⟨b, off, none⟩ → w.heap.size + 1 < b from fun b off e => by have := hb2 b off e; omega)
            have H3 := Lib.hid (H1.out.below hb3 hlt1)
            have HB3 := Lib.hid (HB.out.below hb3 HB.out.lt)
            have hz3 := hb3.size
            have hbH3 := Lib.hid (hbH.out.trans (hb3.mono (by omega)))
            clear hel heb hob hR1 hR2 hb1 hb2 hb3 H1 HB hbH s0 cw7_0 cw7_1 fw7_0 fw7_1 hy7
            go_wp2_with fail
            go_loopw [8] (fun v wv => ∃ (j : Nat) (l : List Int), j ≤ O.length ∧ v = .int .i64 j ∧ l.length = N.nodes.length ∧ Arr wv (w.heap.size + 1) N.nodes.length (l.map iV) ∧ Rd wv B2 (O.map iV) ∧ Bx wv w.heap.size [.slice A N.nodes.length c, .slice B N.pipes.length d] ∧ Below w.heap.size w wv) (fun v _ => O.length - (intOf v).toNat)
            case atStart => exact ⟨0, l, by omega, rfl, HLN.out, H3.out, HR2.out, HB3.out, hbH3.out⟩
            case round =>
              clear H3 HR2 HB3 hbH3 HLN hlt1
              obtain ⟨j, l, hj, rfl, hl, hA1, hR, hB, hbw⟩ := hrel
              have hbH := Lib.hid hbw
              have H1 := Lib.hid hA1
              have HR := Lib.hid hR
              have HB := Lib.hid hB
              have hlt1 := hA1.lt
              have HLN := Lib.hid hl
              clear hA1 hB hbw hl hR
              by_cases hlj : j < O.length
              · obtain ⟨x, hx⟩ := get_some hlj
                obtain ⟨x0, x1⟩ := HOB.out x (List.mem_of_getElem? hx)
                obtain ⟨q, rfl⟩ : ∃ q : Nat, x = q := ⟨x.toNat, by omega⟩
                have hql : q < N.nodes.length := by omega
                obtain ⟨b, off, rfl, hb, hat⟩ := HR.out.opened (k := j) (by simpa using hlj)
                have t0 := ints_at hat hx
                have hbn := HB2.out b off rfl
                obtain ⟨z, hz⟩ := get_some (l := l) (k := q) (by rw [HLN.out]; exact hql)
                have s0 := ints_cell H1.out hz
                have s1 := H1.out.free (j := q) hql
                have g3 : (j : Int) < O.length := by omega
                clear hat hx hz
                go_wp2
                go_roundw
                case rel =>
                  have hk1 : Keep (fun z => z = w.heap.size + 1) wr (wr.setCell ⟨w.heap.size + 1, q, none⟩ (.int .i64 k)) := (Keep.refl (fun z => z = w.heap.size + 1) wr).setCell (p := ⟨w.heap.size + 1, q, none⟩) rfl _
                  refine ⟨j + 1, l.set q k, by omega, by go_num, by simpa using HLN.out, ?_, HR.out.keep hk1 (fun b' off' e => by injection e with e; injection e with e1; omega), HB.out.keep hk1 (by omega), (hbH.out).setCell (by simp) _⟩
                  have := H1.out.setAt hql (.int .i64 k)
                  rw [map_set_iV]; exact this
                case measure => simp [intOf]; omega
              · have g3 : ¬ (j : Int) < O.length := by omega
                go_wp2_with fail
                go_roundw
                case rel => exact ⟨k + 1, l, by omega, by go_num, HLN.out, H1.out, HB.out, hbH.out⟩
                case measure => simp [intOf]; omega
        · have g2 : ¬ (k : Int) < N.nodes.length := by omega
          go_wp2
          go_ret
          exact ⟨some ⟨w.heap.size + 1, 0, none⟩, N.nodes.length, l, by rw [HLN.out]; rfl, HLN.out, H1.out.rd, fun b off e => by injection e with e; injection e with e1; omega, hbH.out⟩
set_option maxRecDepth 100000 in
set_option maxHeartbeats 4000000 in
theorem spec_l04Forest (A B : Option Addr) (n c m d : Nat) (N : Net) (w : World) (hN : NetAt w A B N) (hn : n = N.nodes.length) (hm : m = N.pipes.length) (hO : N.Ok) :
    Calls Tryz.prog 95 #[netV A B n c m d] w fun e w' => ∃ (A1 : Option Addr) (c1 : Nat) (l : List Int), e = .returned (.slice A1 l.length c1) ∧ l.length ≤ N.pipes.length ∧ Rd w' A1 (l.map iV) ∧ Below w.heap.size w w' := by
  subst hn hm
  have HN := Lib.hid hN
  have HO := Lib.hid hO
  have hln := hN.ln
  have hlp := hN.lp
  have hp1 := hO.p1
  have hn2 := hO.n2
  clear hN hO
  have hmb := make_bl N.pipes.length (by omega)
  go_enter Tryz.func95, Tryz.ntmps95
  go_wp2_with fail
  have HA1 := Lib.hid (Arr.madeB (w.alloc (.cells #[.slice A N.nodes.length c, .slice B N.pipes.length d] 34)) N.pipes.length 4)
  have HBX := Lib.hid (show Bx ((w.alloc (.cells #[.slice A N.nodes.length c, .slice B N.pipes.length d] 34)).alloc (.cells (madeCells #[Value.bool false] N.pipes.length) 4)) w.heap.size [.slice A N.nodes.length c, .slice B N.pipes.length d] from (bx2 (by first | exact hy0 | go_size) (by first | (with_reducible exact cw0_0) | go_cell_look | (simp [go_sem, hy0, cw0_0, fw0_0, cw0_1, fw0_1]; done) | (simp [go_sem]; done)) (by first | (with_reducible exact fw0_0) | (simp only [World.frozen?_setCell, fw0_0]; done) | (simp [go_sem, hy0, cw0_0, fw0_0, cw0_1, fw0_1]; done) | (simp [go_sem]; done)) (by first | (with_reducible exact cw0_1) | go_cell_look | (simp [go_sem, hy0, cw0_0, fw0_0, cw0_1, fw0_1]; done) | (simp [go_sem]; done)) (by first | (with_reducible exact fw0_1) | (simp only [World.frozen?_setCell, fw0_1]; done) | (simp [go_sem, hy0, cw0_0, fw0_0, cw0_1, fw0_1]; done) | (simp [go_sem]; done))))
  clear hmb
  refine (spec_l04Components A B _ c _ d N _ (HN.out.below (by (repeat' (first | (with_reducible exact Below.refl _ _) | (with_reducible assumption) | (with_reducible refine Below.alloc ?_ ?_ _) | (with_reducible refine Below.drew ?_) | (with_reducible refine Below.drewN' ?_ _) | (with_reducible refine Below.setCell ?_ ?_ _) | (refine Below.via ?_ (by with_reducible assumption) ?_) | (with_reducible refine Below.via ?_ (Wd.h _) ?_) | go_size)))) rfl rfl HO.out).mono ?_
  rintro e w3 ⟨C1, e1, R, rfl, hrl, hR, hRb, hb3⟩
  have hz3 := hb3.size
  simp at hz3
  have HR := Lib.hid hR
  have HRB := Lib.hid (show ∀ b off, C1 = some ⟨b, off, none⟩ → w.heap.size + 1 < b from fun b off e => by have := hRb b off e; simp at this; omega)
  have H3 := Lib.hid (HA1.out.below hb3 HA1.out.lt)
  have HB3 := Lib.hid (HBX.out.below hb3 HBX.out.lt)
  have hbH3 := Lib.hid (show Below w.heap.size w w3 by (repeat' (first | (with_reducible exact Below.refl _ _) | (with_reducible assumption) | (with_reducible refine Below.alloc ?_ ?_ _) | (with_reducible refine Below.drew ?_) | (with_reducible refine Below.drewN' ?_ _) | (with_reducible refine Below.setCell ?_ ?_ _) | (refine Below.via ?_ (by with_reducible assumption) ?_) | (with_reducible refine Below.via ?_ (Wd.h _) ?_) | go_size)))
  have hrl1 : R.length ≤ N.nodes.length := by omega
  have hrl2 : N.nodes.length ≤ R.length := by omega
  clear hR hRb hb3 HA1 HBX hrl
  go_wp2_with fail
  go_loopw [5, 6, 7, 8] (fun v _ _ _ wv => ∃ (k : Nat) (S : List Bool), k ≤ R.length ∧ v = .int .i64 k ∧ S.length = N.pipes.length ∧ Arr wv (w.heap.size + 1) N.pipes.length (S.map blV) ∧ Rd wv C1 (R.map iV) ∧ Bx wv w.heap.size [.slice A N.nodes.length c, .slice B N.pipes.length d] ∧ Below w.heap.size w wv) (fun v _ _ _ _ => R.length - (intOf v).toNat)
  case atStart => exact ⟨0, List.replicate N.pipes.length false, by omega, rfl, by simp, by simpa using H3.out, HR.out, HB3.out, hbH3.out⟩
  case round =>
    clear H3 HR HB3 hbH3
    obtain ⟨k, S, hk, rfl, hl, hA1, hR, hB, hbw⟩ := hrel
    have hbH := Lib.hid hbw
    have H1 := Lib.hid hA1
    have HR := Lib.hid hR
    have HB := Lib.hid hB
    have hlt1 := hA1.lt
    have HLN := Lib.hid hl
    have hy7 := hB.lt; have cw7_0 := hB.cell 0 rfl; have fw7_0 := hB.frozen 0 rfl; have cw7_1 := hB.cell 1 rfl; have fw7_1 := hB.frozen 1 rfl
    clear hA1 hB hbw hl hR
    by_cases hlt : k < R.length
    · have g2 : (k : Int) < R.length := by omega
      obtain ⟨y, hy⟩ := get_some hlt
      obtain ⟨b, off, rfl, hb, hat⟩ := HR.out.opened (k := k) (by simpa using hlt)
      have t0 := ints_at hat hy
      clear hy hat
      by_cases hyk : y = (k : Int)
      · subst hyk
        go_wp2_with fail
        refine (spec_l04Search A B _ c _ d N k _ (HN.out.below hbH.out) rfl rfl HO.out (by omega)).mono ?_
        rintro e w3 ⟨B1, B2, d1, d2, E, O, rfl, hel, heb, hol, hob, hR1, hR2, hb1, hb2, hb3⟩
        have hel1 : E.length ≤ N.nodes.length := by omega
        have HEB := Lib.hid heb
        have HE1 := Lib.hid hR1
        have HB2 := Lib.hid (show ∀ b off, B1 = some ⟨b, off, none⟩ → w.heap.size + 1 < b from fun b off e => by have := hb1 b off e; omega)
        have H3 := Lib.hid (H1.out.below hb3 hlt1)
        have HB3 := Lib.hid (HB.out.below hb3 HB.out.lt)
        have HR3 := Lib.hid (HR.out.below hb3)
        have hz3 := hb3.size
        have hbH3 := Lib.hid (hbH.out.trans (hb3.mono (by omega)))
        clear hel heb hob hR1 hR2 hb1 hb2 hb3 H1 HB hbH t0 HR cw7_0 cw7_1 fw7_0 fw7_1 hy7
        go_wp2_with fail
        go_loopw [8] (fun v wv => ∃ (j : Nat) (S : List Bool), j ≤ E.length ∧ v = .int .i64 j ∧ S.length = N.pipes.length ∧ Arr wv (w.heap.size + 1) N.pipes.length (S.map blV) ∧ Rd wv B1 (E.map iV) ∧ Rd wv (some ⟨b, off, none⟩) (R.map iV) ∧ Bx wv w.heap.size [.slice A N.nodes.length c, .slice B N.pipes.length d] ∧ Below w.heap.size w wv) (fun v _ => E.length - (intOf v).toNat)
        case atStart => exact ⟨0, S, by omega, rfl, HLN.out, H3.out, HE1.out, HR3.out, HB3.out, hbH3.out⟩
        case round =>
          clear H3 HE1 HR3 HB3 hbH3 HLN hlt1
          obtain ⟨j, S, hj, rfl, hl, hA1, hE, hR, hB, hbw⟩ := hrel
          have hbH := Lib.hid hbw
          have H1 := Lib.hid hA1
          have HE := Lib.hid hE
          have HR := Lib.hid hR
          have HB := Lib.hid hB
          have hlt1 := hA1.lt
          have HLN := Lib.hid hl
          clear hA1 hB hbw hl hR hE
          by_cases hlj : j < E.length
          · obtain ⟨x, hx⟩ := get_some hlj
            obtain ⟨x0, x1⟩ := HEB.out x (List.mem_of_getElem? hx)
            obtain ⟨b2, off2, rfl, hb2, hat⟩ := HE.out.opened (k := j) (by simpa using hlj)
            have t0 := ints_at hat hx
            have hbn := HB2.out b2 off2 rfl
            have g3 : (j : Int) < E.length := by omega
            clear hat hx
            by_cases hx0 : 0 ≤ x
            · obtain ⟨q, rfl⟩ : ∃ q : Nat, x = q := ⟨x.toNat, by omega⟩
              have hql : q < N.pipes.length := by omega
              obtain ⟨z, hz⟩ := get_some (l := S) (k := q) (by rw [HLN.out]; exact hql)
              have s0 := bls_cell H1.out hz
              have s1 := H1.out.free (j := q) hql
              clear hz
              go_wp2
              go_roundw
              case rel =>
                have hk1 : Keep (fun z => z = w.heap.size + 1) wr (wr.setCell ⟨w.heap.size + 1, q, none⟩ (.bool true)) := (Keep.refl (fun z => z = w.heap.size + 1) wr).setCell (p := ⟨w.heap.size + 1, q, none⟩) rfl _
                refine ⟨j + 1, S.set q true, by omega, by go_num, by simpa using HLN.out, ?_, HE.out.keep hk1 (fun b' off' e => by injection e with e; injection e with e1; omega), HR.out.keep hk1 (fun b' off' e => by have := HRB.out b' off' e; omega), HB.out.keep hk1 (by omega), (hbH.out).setCell (by simp) _⟩
                have := H1.out.setAt hql (.bool true)
                rw [map_set_bl]; exact this
              case measure => simp [intOf]; omega
            · go_wp2
              go_roundw
              case rel => exact ⟨j + 1, S, by omega, by go_num, HLN.out, H1.out, HE.out, HR.out, HB.out, hbH.out⟩
              case measure => simp [intOf]; omega
          · have g3 : ¬ (j : Int) < E.length := by omega
            go_wp2_with fail
            go_roundw
            case rel => exact ⟨k + 1, S, by omega, by go_num, HLN.out, H1.out, HR.out, HB.out, hbH.out⟩
            case measure => simp [intOf]; omega
      · have b1 : (y != (k : Int)) = true := by simpa using hyk
        go_wp2
        go_roundw
        case rel => exact ⟨k + 1, S, by omega, by go_num, HLN.out, H1.out, HR.out, HB.out, hbH.out⟩
        case measure => simp [intOf]; omega
    · have g2 : ¬ (k : Int) < R.length := by omega
      obtain ⟨bs, hbs⟩ : ∃ bs, bs = wr.heap.size := ⟨_, rfl⟩
      have H0 := Lib.hid (Own.lit0 wr bs 2 1 (by omega))
      have hzw := hbH.out.size
      go_wp2_with fail
      go_loopw [9, 10] (fun u v wv => ∃ (j : Nat) (l : List Int), j ≤ N.pipes.length ∧ v = .int .i64 j ∧ l.length ≤ j ∧ Own wv bs 2 1 u l.length (l.map iV) ∧ Arr wv (w.heap.size + 1) N.pipes.length (S.map blV) ∧ Below w.heap.size w wv ∧ bs ≤ wv.heap.size) (fun _ v _ => N.pipes.length - (intOf v).toNat)
      case atStart => exact ⟨0, [], by omega, rfl, by simp, H0.out, H1.out.alloc _, hbH.out.alloc (by omega) _, by simp; omega⟩
      case round =>
        clear H0 H1 hbH HR HB cw7_0 cw7_1 fw7_0 fw7_1 hy7
        obtain ⟨j, l, hj, rfl, hl, hO, hA1, hbw, hbz⟩ := hrel
        have hbH := Lib.hid hbw
        have H1 := Lib.hid hA1
        have HOW := Lib.hid hO
        have hlt2 := hA1.lt
        have hz2 := hbw.size
        clear hA1 hO hbw
        by_cases hlj : j < N.pipes.length
        · obtain ⟨z, hz⟩ := get_some (l := S) (k := j) (by rw [HLN.out]; exact hlj)
          have s0 := bls_cell H1.out hz
          have g3 : (j : Int) < N.pipes.length := by omega
          clear hz
          cases z
          · go_wp2
            go_roundw
            case rel => exact ⟨j + 1, l, by omega, by go_num, by omega, HOW.out, H1.out, hbH.out, hbz⟩
            case measure => simp [intOf]; omega
          · go_wp2_with ((at_builtin; refine wp_app1x _ rfl (.tmp 63) (.tmp 65) 38 rfl bs info_i64 Tryz.underlying38 rfl (by omega) (by omega) _ _ _ rfl (HOW.out.alloc _) _ 1 1 [iV j] rfl rfl (by intro j u hu; match j, hu with | 0, hu => (simp at hu; subst hu; simp) | j + 1, hu => simp at hu) (by simp [Value.oneCell']) (by omega) (by omega) (by first | omega | (simp; done) | (simp; omega)) ?_; intro v6 w6 hO6 hb6 hF6))
            have hb7 := (Below.alloc (Below.refl bs wr) (by omega) _).trans hb6
            have H6 := Lib.hid (H1.out.below hb7 (by omega))
            have hbH6 := Lib.hid (hbH.out.trans (hb7.mono (by omega)))
            go_roundw
            case rel => exact ⟨j + 1, l ++ [(j : Int)], by omega, by go_num, by simp; omega, by simpa using hO6, H6.out, hbH6.out, by have := hb7.size; omega⟩
            case measure => simp [intOf]; omega
        · have g3 : ¬ (j : Int) < N.pipes.length := by omega
          obtain ⟨A2, c2, rfl, hc2, hR2, -⟩ := HOW.out.val
          have HR2 := Lib.hid hR2
          clear hR2
          go_wp2
          go_ret
          exact ⟨A2, c2, l, rfl, by omega, HR2.out, hbH.out⟩
set_option maxRecDepth 100000 in
set_option maxHeartbeats 4000000 in
theorem spec_l05Chords (A B : Option Addr) (n c m d : Nat) (N : Net) (w : World) (hN : NetAt w A B N) (hn : n = N.nodes.length) (hm : m = N.pipes.length) (hO : N.Ok) :
    Calls Tryz.prog 78 #[netV A B n c m d] w fun e w' => ∃ (A1 : Option Addr) (c1 : Nat) (l : List Int), e = .returned (.slice A1 l.length c1) ∧ l.length ≤ N.pipes.length ∧ (∀ x ∈ l, 0 ≤ x ∧ x < N.pipes.length) ∧ Rd w' A1 (l.map iV) ∧ (∀ b off, A1 = some ⟨b, off, none⟩ → w.heap.size ≤ b) ∧ Below w.heap.size w w' := by
  subst hn hm
  have HN := Lib.hid hN
  have HO := Lib.hid hO
  have hln := hN.ln
  have hlp := hN.lp
  have hp1 := hO.p1
  clear hN hO
  go_enter Tryz.func78, Tryz.ntmps78
  go_wp2_with fail
  have HBX := Lib.hid (show Bx (w.alloc (.cells #[.slice A N.nodes.length c, .slice B N.pipes.length d] 34)) w.heap.size [.slice A N.nodes.length c, .slice B N.pipes.length d] from (bx2 (by first | exact hy0 | go_size) (by first | (with_reducible exact cw0_0) | go_cell_look | (simp [go_sem, hy0, cw0_0, fw0_0, cw0_1, fw0_1]; done) | (simp [go_sem]; done)) (by first | (with_reducible exact fw0_0) | (simp only [World.frozen?_setCell, fw0_0]; done) | (simp [go_sem, hy0, cw0_0, fw0_0, cw0_1, fw0_1]; done) | (simp [go_sem]; done)) (by first | (with_reducible exact cw0_1) | go_cell_look | (simp [go_sem, hy0, cw0_0, fw0_0, cw0_1, fw0_1]; done) | (simp [go_sem]; done)) (by first | (with_reducible exact fw0_1) | (simp only [World.frozen?_setCell, fw0_1]; done) | (simp [go_sem, hy0, cw0_0, fw0_0, cw0_1, fw0_1]; done) | (simp [go_sem]; done))))
  refine (spec_l04Forest A B _ c _ d N _ (HN.out.below (by (repeat' (first | (with_reducible exact Below.refl _ _) | (with_reducible assumption) | (with_reducible refine Below.alloc ?_ ?_ _) | (with_reducible refine Below.drew ?_) | (with_reducible refine Below.drewN' ?_ _) | (with_reducible refine Below.setCell ?_ ?_ _) | (refine Below.via ?_ (by with_reducible assumption) ?_) | (with_reducible refine Below.via ?_ (Wd.h _) ?_) | go_size)))) rfl rfl HO.out).mono ?_
  rintro e w3 ⟨C1, e1, R, rfl, hrl, hR, hb3⟩
  have hz3 := hb3.size
  simp at hz3
  have HR := Lib.hid hR
  have HB3 := Lib.hid (HBX.out.below hb3 HBX.out.lt)
  have hbH3 := Lib.hid (show Below w.heap.size w w3 by (repeat' (first | (with_reducible exact Below.refl _ _) | (with_reducible assumption) | (with_reducible refine Below.alloc ?_ ?_ _) | (with_reducible refine Below.drew ?_) | (with_reducible refine Below.drewN' ?_ _) | (with_reducible refine Below.setCell ?_ ?_ _) | (refine Below.via ?_ (by with_reducible assumption) ?_) | (with_reducible refine Below.via ?_ (Wd.h _) ?_) | go_size)))
  obtain ⟨bs, hbs⟩ : ∃ bs, bs = w3.heap.size := ⟨_, rfl⟩
  have H0 := Lib.hid (Own.lit0 w3 bs 2 1 (by omega))
  have hrb : ∀ b off, C1 = some ⟨b, off, none⟩ → R ≠ [] → b < bs := fun b off e hne => by
    obtain ⟨b', off', e', hlt, _⟩ := HR.out (by simpa using hne)
    rw [e] at e'; injection e' with e'; injection e' with e1; omega
  clear hR hb3 HBX
  go_wp2_with fail
  go_loopw [4, 5] (fun u v wv => ∃ (k : Nat) (l : List Int), k ≤ N.pipes.length ∧ v = .int .i64 k ∧ l.length ≤ k ∧ (∀ x ∈ l, 0 ≤ x ∧ x < N.pipes.length) ∧ Own wv bs 2 1 u l.length (l.map iV) ∧ Below bs w3 wv) (fun _ v _ => N.pipes.length - (intOf v).toNat)
  case atStart => exact ⟨0, [], by omega, rfl, by simp, (fun x hx => by simp at hx), H0.out, by (repeat' (first | (with_reducible exact Below.refl _ _) | (with_reducible assumption) | (with_reducible refine Below.alloc ?_ ?_ _) | (with_reducible refine Below.drew ?_) | (with_reducible refine Below.drewN' ?_ _) | (with_reducible refine Below.setCell ?_ ?_ _) | (refine Below.via ?_ (by with_reducible assumption) ?_) | (with_reducible refine Below.via ?_ (Wd.h _) ?_) | go_size))⟩
  case round =>
    clear H0
    obtain ⟨k, l, hk, rfl, hl, hl2, hO, hbw⟩ := hrel
    have hbH := Lib.hid hbw
    have HL2 := Lib.hid hl2
    have HOW := Lib.hid hO
    have hz2 := hbw.size
    have HBr := HB3.out.below hbw (by have := HB3.out.lt; omega)
    have hy7 := HBr.lt; have cw7_0 := HBr.cell 0 rfl; have fw7_0 := HBr.frozen 0 rfl; have cw7_1 := HBr.cell 1 rfl; have fw7_1 := HBr.frozen 1 rfl
    have HRr := Lib.hid (show Rd wr C1 (R.map iV) from fun hne => by
      obtain ⟨b, off, e, hlt, hat⟩ := HR.out hne
      exact ⟨b, off, e, by omega, hat.below hbw (by omega)⟩)
    clear hO hbw hl2 HBr
    by_cases hlj : k < N.pipes.length
    · have g3 : (k : Int) < N.pipes.length := by omega
      go_wp2_with fail
      refine (spec_l02Has C1 e1 _ R k _ HRr.out rfl (by omega)).mono ?_
      rintro e w5 ⟨b, rfl, hb5⟩
      have hz5 := hb5.size
      have HO5 := Lib.hid (HOW.out.below hb5 (Nat.le_refl _))
      have hbH5 := Lib.hid (hbH.out.trans (hb5.mono (by omega)))
      clear hb5 cw7_0 cw7_1 fw7_0 fw7_1 hy7
      cases b
      · go_wp2_with ((at_builtin; refine wp_app1x _ rfl (.tmp 20) (.tmp 22) 38 rfl bs info_i64 Tryz.underlying38 rfl (by omega) (by omega) _ _ _ rfl (HO5.out.alloc _) _ 1 1 [iV k] rfl rfl (by intro j u hu; match j, hu with | 0, hu => (simp at hu; subst hu; simp) | j + 1, hu => simp at hu) (by simp [Value.oneCell']) (by omega) (by omega) (by first | omega | (simp; done) | (simp; omega)) ?_; intro v6 w6 hO6 hb6 hF6))
        have hb7 := (Below.alloc (Below.refl bs w5) (by omega) _).trans hb6
        go_roundw
        case rel => exact ⟨k + 1, l ++ [(k : Int)], by omega, by go_num, by simp; omega, (fun x hx => by
          rcases List.mem_append.1 hx with hx | hx
          · exact HL2.out x hx
          · have := List.mem_singleton.1 hx; omega), by simpa using hO6, hbH5.out.trans hb7⟩
        case measure => simp [intOf]; omega
      · go_wp2
        go_roundw
        case rel => exact ⟨k + 1, l, by omega, by go_num, by omega, HL2.out, HO5.out, hbH5.out⟩
        case measure => simp [intOf]; omega
    · have g3 : ¬ (k : Int) < N.pipes.length := by omega
      obtain ⟨A2, c2, rfl, hc2, hR2, hb2⟩ := HOW.out.val
      have HR2 := Lib.hid hR2
      have HB2 := Lib.hid hb2
      clear hR2 hb2
      go_wp2
      go_ret
      exact ⟨A2, c2, l, rfl, by omega, HL2.out, HR2.out, fun b off e => by have := HB2.out b off e; omega, hbH3.out.trans (hbH.out.mono (by omega))⟩
set_option maxRecDepth 100000 in
set_option maxHeartbeats 4000000 in
theorem spec_ChordsOf (A B : Option Addr) (n c m d : Nat) (N : Net) (w : World) (hN : NetAt w A B N) (hn : n = N.nodes.length) (hm : m = N.pipes.length) :
    Calls Tryz.prog 57 #[netV A B n c m d] w fun e w' => ∃ (A1 : Option Addr) (c1 : Nat) (l : List Int) (code : Int), e = .returned (.tuple #[.slice A1 l.length c1, .int .i64 code]) ∧ l.length ≤ 40 ∧ (∀ x ∈ l, 0 ≤ x ∧ x ≤ 40) ∧ Rd w' A1 (l.map iV) ∧ (∀ b off, A1 = some ⟨b, off, none⟩ → w.heap.size ≤ b) ∧ Below w.heap.size w w' := by
  subst hn hm
  have HN := Lib.hid hN
  clear hN
  cases hb : netB N
  · go_enter Tryz.func57, Tryz.ntmps57
    go_wp2_with fail
    refine (spec_IsNetwork A B _ c _ d N _ (HN.out.below (by (repeat' (first | (with_reducible exact Below.refl _ _) | (with_reducible assumption) | (with_reducible refine Below.alloc ?_ ?_ _) | (with_reducible refine Below.drew ?_) | (with_reducible refine Below.drewN' ?_ _) | (with_reducible refine Below.setCell ?_ ?_ _) | (refine Below.via ?_ (by with_reducible assumption) ?_) | (with_reducible refine Below.via ?_ (Wd.h _) ?_) | go_size)))) rfl rfl).mono ?_
    rintro e w3 ⟨rfl, hb3⟩
    rw [hb]
    go_wp2
    go_ret2
    exact ⟨none, 0, [], 1, rfl, by simp, (fun x hx => by simp at hx), Rd.nil, (fun b off e => by cases e), by (repeat' (first | (with_reducible exact Below.refl _ _) | (with_reducible assumption) | (with_reducible refine Below.alloc ?_ ?_ _) | (with_reducible refine Below.drew ?_) | (with_reducible refine Below.drewN' ?_ _) | (with_reducible refine Below.setCell ?_ ?_ _) | (refine Below.via ?_ (by with_reducible assumption) ?_) | (with_reducible refine Below.via ?_ (Wd.h _) ?_) | go_size))⟩
  · have hO := netB_ok hb
    have HO := Lib.hid hO
    have hp1 := hO.p1
    clear hO
    go_enter Tryz.func57, Tryz.ntmps57
    go_wp2_with fail
    refine (spec_IsNetwork A B _ c _ d N _ (HN.out.below (by (repeat' (first | (with_reducible exact Below.refl _ _) | (with_reducible assumption) | (with_reducible refine Below.alloc ?_ ?_ _) | (with_reducible refine Below.drew ?_) | (with_reducible refine Below.drewN' ?_ _) | (with_reducible refine Below.setCell ?_ ?_ _) | (refine Below.via ?_ (by with_reducible assumption) ?_) | (with_reducible refine Below.via ?_ (Wd.h _) ?_) | go_size)))) rfl rfl).mono ?_
    rintro e w3 ⟨rfl, hb3⟩
    rw [hb]
    (obtain ⟨hcn, hfn⟩ := bcell hb3; have hz3 := hb3.size; (try simp at hz3); have Ncw0_0 := hcn (w.heap.size) (0) (by first | omega | (simp; done) | (simp; omega)); have Nfw0_0 := hfn (w.heap.size) (0) (by first | omega | (simp; done) | (simp; omega)); have Nhy0 : w.heap.size < w3.heap.size := (by omega); have Ncw0_1 := hcn (w.heap.size) (1) (by first | omega | (simp; done) | (simp; omega)); have Nfw0_1 := hfn (w.heap.size) (1) (by first | omega | (simp; done) | (simp; omega)); simp [go_sem] at Ncw0_0 Nfw0_0 Ncw0_1 Nfw0_1; clear hcn hfn; have cw0_0 := Ncw0_0; have fw0_0 := Nfw0_0; have cw0_1 := Ncw0_1; have fw0_1 := Nfw0_1; have hy0 := Nhy0; clear Ncw0_0 Nfw0_0 Ncw0_1 Nfw0_1 Nhy0)
    go_wp2_with fail
    refine (spec_l05Chords A B _ c _ d N _ (HN.out.below (by (repeat' (first | (with_reducible exact Below.refl _ _) | (with_reducible assumption) | (with_reducible refine Below.alloc ?_ ?_ _) | (with_reducible refine Below.drew ?_) | (with_reducible refine Below.drewN' ?_ _) | (with_reducible refine Below.setCell ?_ ?_ _) | (refine Below.via ?_ (by with_reducible assumption) ?_) | (with_reducible refine Below.via ?_ (Wd.h _) ?_) | go_size)))) rfl rfl HO.out).mono ?_
    rintro e w4 ⟨C1, e1, R, rfl, hrl, hr2, hR, hRb, hb4⟩
    go_wp2
    go_ret2
    exact ⟨C1, e1, R, 0, rfl, by omega, (fun x hx => by have := hr2 x hx; omega), hR, (fun b off e => by have := hRb b off e; omega), by (repeat' (first | (with_reducible exact Below.refl _ _) | (with_reducible assumption) | (with_reducible refine Below.alloc ?_ ?_ _) | (with_reducible refine Below.drew ?_) | (with_reducible refine Below.drewN' ?_ _) | (with_reducible refine Below.setCell ?_ ?_ _) | (refine Below.via ?_ (by with_reducible assumption) ?_) | (with_reducible refine Below.via ?_ (Wd.h _) ?_) | go_size))⟩
end Go.Proofs.YtbdacplndmnkhaaGreatDoor

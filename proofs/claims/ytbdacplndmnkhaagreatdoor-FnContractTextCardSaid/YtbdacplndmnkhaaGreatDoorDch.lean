/- Drawn networks with loops, and one of their chords. -/
import Derived.Test.YtbdacplndmnkhaaGreatDoorDa
import Derived.Test.YtbdacplndmnkhaaGreatDoorGu
import Derived.Test.YtbdacplndmnkhaaGreatDoorZw
import Derived.Test.YtbdacplndmnkhaaGreatDoorCp
import Derived.Laws.AppendOwnNone
namespace Go.Proofs.YtbdacplndmnkhaaGreatDoor
set_option linter.unusedVariables false
set_option linter.unusedSimpArgs false
open Go.RowKit
theorem Own.noneG {w : World} {base : Nat} {e : TypeId} {s n c : Nat} {xs : List Value} (h : Own w base e s (.slice none n c) n xs) : n = 0 ∧ c = 0 ∧ xs = [] := by
  rcases h.2 with ⟨h0, h1⟩ | ⟨g, cap, cur, hv, _⟩
  · injection h0 with _ e2 e3
    refine ⟨e2, e3, List.eq_nil_of_length_eq_zero ?_⟩
    rw [h.1, e2, Nat.zero_mul]
  · injection hv with e1; cases e1
set_option maxRecDepth 100000 in
set_option maxHeartbeats 4000000 in
theorem spec_l02DrawIndex (p : Nat) (n : Nat) (w : World) (h : Src w p) (hn : n ≤ 1000) :
    Calls Tryz.prog 58 #[.pointer (some ⟨p, 0, none⟩), .int .i64 (n : Int)] w fun e w' => ∃ x : Int, e = .returned (.int .i64 x) ∧ -1 ≤ x ∧ x ≤ 3000 ∧ Src w' p ∧ Keep (· = p) w w' := by
  have HS := Lib.hid h
  clear h
  go_enter Tryz.func58, Tryz.ntmps58
  go_wp2_with fail
  refine (spec_l01Next p _ _ (HS.out.below (by (repeat' (first | (with_reducible exact Below.refl _ _) | (with_reducible assumption) | (with_reducible refine Below.alloc ?_ ?_ _) | (with_reducible refine Below.drew ?_) | (with_reducible refine Below.drewN' ?_ _) | (with_reducible refine Below.setCell ?_ ?_ _) | (refine Below.via ?_ (by with_reducible assumption) ?_) | (with_reducible refine Below.via ?_ (Wd.h _) ?_) | go_size)))) (by omega)).mono ?_
  rintro e w1 ⟨r1, rfl, ra1, rz1, rb1, hs1, hk1⟩
  have rc1 : r1 ≤ 1000 := by by_cases h1 : (n : Int) ≤ 1; (have := rz1 h1; omega); (have := rb1 (by omega); omega)
  have HS1 := Lib.hid hs1
  have HK1 := Lib.hid hk1
  clear rz1 rb1 hs1 hk1
  go_wp2_with fail
  refine (spec_l01Next p _ _ HS1.out (by omega)).mono ?_
  rintro e w2 ⟨r2, rfl, ra2, rz2, rb2, hs2, hk2⟩
  have rc2 := rb2 (by omega)
  have HS2 := Lib.hid hs2
  have HK2 := Lib.hid (HK1.out.trans hk2)
  clear rz2 rb2 hs2 hk2
  have q1 : Int.tdiv r2 15 = r2 / 15 := Int.tdiv_eq_ediv_of_nonneg ra2
  have q2 : 0 ≤ r2 / 15 ∧ r2 / 15 ≤ 1 := by omega
  have q3 : 0 ≤ (r2 / 15) * (n : Int) ∧ (r2 / 15) * (n : Int) ≤ 1000 := by
    obtain ⟨a, b⟩ := q2
    rcases (show r2 / 15 = 0 ∨ r2 / 15 = 1 by omega) with h | h <;> rw [h] <;> omega
  generalize hqq : r2 / 15 = qq at *
  clear hqq
  go_wp2_with fail
  refine (spec_l01Next p _ _ HS2.out (by omega)).mono ?_
  rintro e w3 ⟨r3, rfl, ra3, rz3, rb3, hs3, hk3⟩
  have rc3 := rb3 (by omega)
  have HS3 := Lib.hid hs3
  have HK3 := Lib.hid (HK2.out.trans hk3)
  clear rz3 rb3 hs3 hk3
  have q4 : Int.tdiv r3 23 = r3 / 23 := Int.tdiv_eq_ediv_of_nonneg ra3
  have q5 : 0 ≤ r3 / 23 ∧ r3 / 23 ≤ 1 := by omega
  generalize qq * (n : Int) = mm at *
  generalize r3 / 23 = q6 at *
  go_wp2
  go_ret
  refine ⟨_, rfl, by omega, by omega, HS3.out, HK3.out⟩
set_option maxRecDepth 100000 in
set_option maxHeartbeats 8000000 in
theorem spec_l05DrawLoops (p : Nat) (w : World) (h : Src w p) :
    Calls Tryz.prog 55 #[.pointer (some ⟨p, 0, none⟩)] w (DrewN w p 1 7 11) := by
  have hp := h.lt
  have HS := Lib.hid h
  clear h
  go_enter Tryz.func55, Tryz.ntmps55
  go_wp2_with fail
  have HB0 := Lib.hid (show Bx (w.alloc (.cells #[.slice none 0 0, .slice none 0 0] 34)) w.heap.size [.slice none 0 0, .slice none 0 0] from (bx2 (by first | exact hy0 | go_size) (by first | (with_reducible exact cw0_0) | go_cell_look | (simp [go_sem, hy0, cw0_0, fw0_0, cw0_1, fw0_1]; done) | (simp [go_sem]; done)) (by first | (with_reducible exact fw0_0) | (simp only [World.frozen?_setCell, fw0_0]; done) | (simp [go_sem, hy0, cw0_0, fw0_0, cw0_1, fw0_1]; done) | (simp [go_sem]; done)) (by first | (with_reducible exact cw0_1) | go_cell_look | (simp [go_sem, hy0, cw0_0, fw0_0, cw0_1, fw0_1]; done) | (simp [go_sem]; done)) (by first | (with_reducible exact fw0_1) | (simp only [World.frozen?_setCell, fw0_1]; done) | (simp [go_sem, hy0, cw0_0, fw0_0, cw0_1, fw0_1]; done) | (simp [go_sem]; done))))
  refine (spec_l02Draw p _ (HS.out.below (by (repeat' (first | (with_reducible exact Below.refl _ _) | (with_reducible assumption) | (with_reducible refine Below.alloc ?_ ?_ _) | (with_reducible refine Below.drew ?_) | (with_reducible refine Below.drewN' ?_ _) | (with_reducible refine Below.setCell ?_ ?_ _) | (refine Below.via ?_ (by with_reducible assumption) ?_) | (with_reducible refine Below.via ?_ (Wd.h _) ?_) | go_size))))).mono ?_
  rintro e w1 ⟨A, Bq, c, d, N, rfl, ho1, ho2, hap, hs1, hs2, hn1, hn7, hq9, hsr, hk1⟩
  have hz1 := hk1.size
  simp at hz1 ho1 ho2
  have HO1 := Lib.hid (ho1.lower2 (base' := w.heap.size + 1) (by omega))
  have HO2 := Lib.hid ho2
  have HAP := Lib.hid hap
  have HS1 := Lib.hid hsr
  have HM1 := Lib.hid hs1
  have HM2 := Lib.hid hs2
  have HK1 := Lib.hid (show Keep (· = p) w w1 by (repeat' (first | (with_reducible exact Keep.refl _ _) | (with_reducible assumption) | (with_reducible refine Keep.alloc ?_ _) | (with_reducible refine Keep.drew ?_) | (with_reducible refine Keep.drewN ?_ _) | (refine Keep.trans ?_ (by with_reducible assumption)) | (refine Keep.via ?_ (by with_reducible assumption)) | (with_reducible refine Keep.new ?_ ?_ _) | go_size)))
  have HB1 := Lib.hid (HB0.out.keep hk1 (by omega))
  have hcn : N.nodes.length ≤ c := by
    obtain ⟨A2, c2, h1, h2, _, _⟩ := ho1.val
    injection h1 with _ _ h3; omega
  clear ho1 ho2 hap hs1 hs2 hsr hk1 HB0 HS
  have H0 := Lib.hid (show Own ((w1.alloc (.cells #[.slice A N.nodes.length c, .slice Bq N.pipes.length d] 34)).alloc (.cells #[] 102)) (w1.heap.size + 1) 102 5 (.slice (some ⟨w1.heap.size + 1, 0, none⟩) 0 0) 0 [] by simpa using Own.lit0 (w1.alloc (.cells #[.slice A N.nodes.length c, .slice Bq N.pipes.length d] 34)) (w1.heap.size + 1) 102 5 (by simp))
  have hone : ∀ u ∈ N.pipes.flatMap Pp.cells, u.oneCell' = true := fun u hu => by
    obtain ⟨x, _, hx⟩ := List.mem_flatMap.1 hu
    simp [Pp.cells] at hx
    rcases hx with rfl | rfl | rfl | rfl | rfl <;> rfl
  have HONE := Lib.hid hone
  clear hone
  have key : ∀ (v2 : Value) (w2 : World), Own w2 (w1.heap.size + 1) 102 5 v2 N.pipes.length (N.pipes.flatMap Pp.cells) → Below (w1.heap.size + 1) (w1.alloc (.cells #[.slice A N.nodes.length c, .slice Bq N.pipes.length d] 34)) w2 →
      DI w p 1 [.slice none 0 0, .slice none 0 0] (.slice A N.nodes.length c) v2 N.nodes N.pipes w2 ∧ Bx w2 w1.heap.size [.slice A N.nodes.length c, .slice Bq N.pipes.length d] := fun v2 w2 ho hb => by
    have hz := hb.size
    simp at hz
    have hb2 : Below w1.heap.size w1 w2 := Below.via (show Below w1.heap.size w1 (w1.alloc (.cells #[.slice A N.nodes.length c, .slice Bq N.pipes.length d] 34)) by (repeat' (first | (with_reducible exact Below.refl _ _) | (with_reducible assumption) | (with_reducible refine Below.alloc ?_ ?_ _) | (with_reducible refine Below.drew ?_) | (with_reducible refine Below.drewN' ?_ _) | (with_reducible refine Below.setCell ?_ ?_ _) | (refine Below.via ?_ (by with_reducible assumption) ?_) | (with_reducible refine Below.via ?_ (Wd.h _) ?_) | go_size))) hb (by omega)
    refine ⟨⟨HO1.out.below hb2 (Nat.le_refl _), ho.lower2 (by omega), fun g h1 h2 => ?_, HM1.out, HM2.out, HS1.out.below hb2, HK1.out.trans (Keep.of_below _ hb2), HB1.out.below hb2 HB1.out.lt, by omega⟩, ?_⟩
    · have a := World.ownsRow.lt HO1.out g h1
      have b := World.ownsRow.lt ho g h2
      omega
    · exact (show Bx (w1.alloc (.cells #[.slice A N.nodes.length c, .slice Bq N.pipes.length d] 34)) w1.heap.size [.slice A N.nodes.length c, .slice Bq N.pipes.length d] from bx2 (by simp) (by simp) (by simp) (by simp) (by simp)).below hb (by omega)
  have KEY := Lib.hid key
  clear key
  obtain ⟨Bq', d', hv', _, hrd', _⟩ := HO2.out.val
  have HRD := Lib.hid (show Rd w1 Bq (N.pipes.flatMap Pp.cells) by injection hv' with e1; rw [e1]; exact hrd')
  clear hv' hrd'
  obtain ⟨ti, hti, _, _, _⟩ := info_parts info_PpX
  cases Bq
  case' none =>
    obtain ⟨z1, z2, z3⟩ := HO2.out.noneG
    have HE := Lib.hid (show Own ((w1.alloc (.cells #[.slice A N.nodes.length c, .slice none N.pipes.length d] 34)).alloc (.cells #[] 102)) (w1.heap.size + 1) 102 5 (.slice (some ⟨w1.heap.size + 1, 0, none⟩) 0 0) N.pipes.length (N.pipes.flatMap Pp.cells) by
      have h0 := H0.out
      rw [z3]
      generalize N.pipes.length = q at z1 h0 ⊢
      subst z1
      exact h0)
    have hb0 : Below (w1.heap.size + 1) (w1.alloc (.cells #[.slice A N.nodes.length c, .slice none N.pipes.length d] 34)) ((w1.alloc (.cells #[.slice A N.nodes.length c, .slice none N.pipes.length d] 34)).alloc (.cells #[] 102)) := by (repeat' (first | (with_reducible exact Below.refl _ _) | (with_reducible assumption) | (with_reducible refine Below.alloc ?_ ?_ _) | (with_reducible refine Below.drew ?_) | (with_reducible refine Below.drewN' ?_ _) | (with_reducible refine Below.setCell ?_ ?_ _) | (refine Below.via ?_ (by with_reducible assumption) ?_) | (with_reducible refine Below.via ?_ (Wd.h _) ?_) | go_size))
    obtain ⟨hDI, hBX⟩ := KEY.out _ _ HE.out hb0
    have HDI := Lib.hid hDI
    have HBX := Lib.hid hBX
    have hz0 : N.pipes.length = 0 ∧ d = 0 := ⟨z1, z2⟩
    have HZ := Lib.hid hz0
    clear hDI hBX hb0 KEY HE z1 z2 z3 hz0
    have hne0 : (Value.slice (some ⟨w1.heap.size + 1, 0, none⟩) 0 0).ownBlock ≠ some w1.heap.size := by simp [Value.ownBlock]
    go_wp2_with ((at_builtin; refine wpList_append_own_none rfl (.tmp 13) (.tmp 15) 32 rfl (w1.heap.size + 1) 102 ti 5 Tryz.underlying32 hti (.slice (some ⟨w1.heap.size + 1, 0, none⟩) 0 0) 0 [] rfl H0.out (show Value.slice none N.pipes.length d = .slice none 0 0 by rw [HZ.out.1, HZ.out.2]) ?_))
    generalize hW2 : World.alloc (World.alloc w1 _) _ = w2 at HDI HBX ⊢
    clear hW2 H0
    generalize Value.slice (some ⟨w1.heap.size + 1, 0, none⟩) 0 0 = v2 at HDI hne0 ⊢
    have HNE := Lib.hid hne0
    clear hne0
    generalize Value.slice none N.pipes.length d = bq at HBX ⊢
  case' some ad =>
    obtain ⟨g, hg⟩ : ∃ g, ad = ⟨g, 0, none⟩ := by
      rcases HO2.out.2 with ⟨h0, _⟩ | ⟨g, cap, cur, hv, _⟩
      · cases h0
      · injection hv with e1; injection e1 with e1; exact ⟨g, e1⟩
    subst hg
    go_wp2_with ((at_builtin; refine wp_appS _ rfl (.tmp 13) (.tmp 15) 32 rfl (w1.heap.size + 1) info_PpX Tryz.underlying32 rfl (by omega) (by omega) _ 0 [] rfl H0.out ⟨g, 0, none⟩ N.pipes.length d (N.pipes.flatMap Pp.cells) rfl (flat_len Pp.len _) (HRD.out.below (by (repeat' (first | (with_reducible exact Below.refl _ _) | (with_reducible assumption) | (with_reducible refine Below.alloc ?_ ?_ _) | (with_reducible refine Below.drew ?_) | (with_reducible refine Below.drewN' ?_ _) | (with_reducible refine Below.setCell ?_ ?_ _) | (refine Below.via ?_ (by with_reducible assumption) ?_) | (with_reducible refine Below.via ?_ (Wd.h _) ?_) | go_size)))) HONE.out (by omega) (by simp) ?_; intro v2 w2 hO2 hb2 _))
    rw [Nat.zero_add, List.nil_append] at hO2
    obtain ⟨hDI, hBX⟩ := KEY.out _ _ hO2 (Below.trans (Below.alloc (Below.refl _ _) (by simp) _) hb2)
    have HDI := Lib.hid hDI
    have HBX := Lib.hid hBX
    have HNE := Lib.hid (show v2.ownBlock ≠ some w1.heap.size from fun e => by have := World.ownsRow.lt hO2 _ e; omega)
    clear hDI hBX KEY hO2 hb2 H0
    generalize Value.slice (some ⟨g, 0, none⟩) N.pipes.length d = bq at HBX ⊢
  all_goals
    clear HO1 HO2 HAP HS1 HM1 HM2 HK1 HB1 HONE HRD hti
    go_wp2_with fail
    refine (spec_l01Next p _ _ HDI.out.src (by omega)).mono ?_
    rintro e w3 ⟨r3, rfl, ra3, _, rb3, hs3, hk3⟩
    have rc3 := rb3 (by omega)
    have HDI3 := Lib.hid (HDI.out.keep hp hk3 hs3)
    have HBX3 := Lib.hid (HBX.out.keep hk3 (by omega))
    obtain ⟨q0, hq0⟩ : ∃ q0 : Nat, r3 = q0 := ⟨r3.toNat, by omega⟩
    subst hq0
    clear hs3 hk3 rb3 HDI HBX
    go_wp2_with fail
    go_loopw [5, 6, 7] (fun v t z wx => ∃ (q : Nat) (qs : List Pp), t = .int .i64 q ∧ qs.length + q ≤ N.pipes.length + 2 ∧ q ≤ 2 ∧ DI w p 1 [.slice none 0 0, .slice none 0 0] (.slice A N.nodes.length c) v N.nodes qs wx ∧ Bx wx w1.heap.size [.slice A N.nodes.length c, bq] ∧ v.ownBlock ≠ some w1.heap.size) (fun _ t _ _ => (intOf t).toNat)
    case atStart => exact ⟨q0, N.pipes, rfl, by omega, by omega, HDI3.out, HBX3.out, HNE.out⟩
    case round =>
      clear HDI3 HBX3 HNE
      obtain ⟨q, qs, rfl, hq, hq2, hJ, hBx, hNe⟩ := hrel
      have HJ := Lib.hid hJ
      have HBX := Lib.hid hBx
      have HNE := Lib.hid hNe
      have hzj := hJ.sz
      have hlx := hBx.lt
      clear hJ hBx hNe
      by_cases h1 : q = 0
      · have g3 : ¬ (0 : Int) < q := by omega
        have HF := Lib.hid (HJ.out)
        obtain ⟨Bq2, d2, rfl, -, -, -⟩ := HF.out.o2.val
        have hbx := HF.out.bx
        have hby := HBX.out
        have hy0 := hbx.lt; have cw0_0 := hbx.cell 0 rfl; have fw0_0 := hbx.frozen 0 rfl; have cw0_1 := hbx.cell 1 rfl; have fw0_1 := hbx.frozen 1 rfl
        have hy7 := hby.lt; have cw7_0 := hby.cell 0 rfl; have fw7_0 := hby.frozen 0 rfl; have cw7_1 := hby.cell 1 rfl; have fw7_1 := hby.frozen 1 rfl
        clear hbx hby
        go_wp2
        (first | (refine bodyPost_ret (by simp [results, Tryz.results55, go_sem, cw0_0, cw0_1]; try rfl) rfl ?_) | (refine bodyPost_ret (by simp [results, Tryz.results55, go_sem]; try rfl) rfl ?_))
        refine ⟨A, Bq2, c, d2, ⟨N.nodes, qs⟩, by first | (simp [netV]; done) | rfl, (((HF.out.o1.set_below (by simp) _).set_below (by simp) _).lower2 (by omega)), (((HF.out.o2.set_below (by simp) _).set_below (by simp) _).lower2 (by omega)), HF.out.ap, HF.out.s1, HF.out.s2, by dsimp only; omega, by dsimp only; omega, by dsimp only; omega, HF.out.src.high (B := p + 1) (by (repeat' (first | (with_reducible exact Below.refl _ _) | (with_reducible assumption) | (with_reducible refine Below.alloc ?_ ?_ _) | (with_reducible refine Below.drew ?_) | (with_reducible refine Below.drewN' ?_ _) | (with_reducible refine Below.setCell ?_ ?_ _) | (refine Below.via ?_ (by with_reducible assumption) ?_) | (with_reducible refine Below.via ?_ (Wd.h _) ?_) | go_size))) (by omega), by have h1 := HF.out.kp; (repeat' (first | (with_reducible exact Keep.refl _ _) | (with_reducible assumption) | (with_reducible refine Keep.alloc ?_ _) | (with_reducible refine Keep.drew ?_) | (with_reducible refine Keep.drewN ?_ _) | (refine Keep.trans ?_ (by with_reducible assumption)) | (refine Keep.via ?_ (by with_reducible assumption)) | (with_reducible refine Keep.new ?_ ?_ _) | go_size))⟩
      by_cases h2 : N.nodes.length = 1
      · have g3 : (0 : Int) < q := by omega
        have g4 : ¬ (1 : Int) < N.nodes.length := by omega
        have HF := Lib.hid (HJ.out)
        obtain ⟨Bq2, d2, rfl, -, -, -⟩ := HF.out.o2.val
        have hbx := HF.out.bx
        have hby := HBX.out
        have hy0 := hbx.lt; have cw0_0 := hbx.cell 0 rfl; have fw0_0 := hbx.frozen 0 rfl; have cw0_1 := hbx.cell 1 rfl; have fw0_1 := hbx.frozen 1 rfl
        have hy7 := hby.lt; have cw7_0 := hby.cell 0 rfl; have fw7_0 := hby.frozen 0 rfl; have cw7_1 := hby.cell 1 rfl; have fw7_1 := hby.frozen 1 rfl
        clear hbx hby
        go_wp2
        (first | (refine bodyPost_ret (by simp [results, Tryz.results55, go_sem, cw0_0, cw0_1]; try rfl) rfl ?_) | (refine bodyPost_ret (by simp [results, Tryz.results55, go_sem]; try rfl) rfl ?_))
        refine ⟨A, Bq2, c, d2, ⟨N.nodes, qs⟩, by first | (simp [netV, h2]; done) | rfl, (((HF.out.o1.set_below (by simp) _).set_below (by simp) _).lower2 (by omega)), (((HF.out.o2.set_below (by simp) _).set_below (by simp) _).lower2 (by omega)), HF.out.ap, HF.out.s1, HF.out.s2, by dsimp only; omega, by dsimp only; omega, by dsimp only; omega, HF.out.src.high (B := p + 1) (by (repeat' (first | (with_reducible exact Below.refl _ _) | (with_reducible assumption) | (with_reducible refine Below.alloc ?_ ?_ _) | (with_reducible refine Below.drew ?_) | (with_reducible refine Below.drewN' ?_ _) | (with_reducible refine Below.setCell ?_ ?_ _) | (refine Below.via ?_ (by with_reducible assumption) ?_) | (with_reducible refine Below.via ?_ (Wd.h _) ?_) | go_size))) (by omega), by have h1 := HF.out.kp; (repeat' (first | (with_reducible exact Keep.refl _ _) | (with_reducible assumption) | (with_reducible refine Keep.alloc ?_ _) | (with_reducible refine Keep.drew ?_) | (with_reducible refine Keep.drewN ?_ _) | (refine Keep.trans ?_ (by with_reducible assumption)) | (refine Keep.via ?_ (by with_reducible assumption)) | (with_reducible refine Keep.new ?_ ?_ _) | go_size))⟩
      have g3 : (0 : Int) < q := by omega
      have g4 : (1 : Int) < N.nodes.length := by omega
      go_wp2_with fail
      refine (spec_l01Next p _ _ HJ.out.src (by omega)).mono ?_
      rintro e w4 ⟨r4, rfl, ra4, _, rb4, hs4, hk4⟩
      have HI4 := Lib.hid (HJ.out.keep hp hk4 hs4)
      have HX4 := Lib.hid (HBX.out.keep hk4 (by omega))
      have rc4 := rb4 (by omega)
      have hz4 := hk4.size
      clear hs4 hk4 rb4
      go_wp2_with fail
      refine (spec_l01Next p _ _ HI4.out.src (by omega)).mono ?_
      rintro e w5 ⟨r5, rfl, ra5, rz5, rb5, hs5, hk5⟩
      have HI5 := Lib.hid (HI4.out.keep hp hk5 hs5)
      have HX5 := Lib.hid (HX4.out.keep hk5 (by omega))
      have rc5 : r5 ≤ 7 := by by_cases h1 : (N.nodes.length : Int) - 1 ≤ 1; (have := rz5 h1; omega); (have := rb5 (by omega); omega)
      have hz5 := hk5.size
      have m1 := Int.tmod_lt_of_pos (r4 + 1 + r5) (show (0 : Int) < N.nodes.length by omega)
      have m2 := Int.tmod_nonneg (N.nodes.length : Int) (show (0 : Int) ≤ r4 + 1 + r5 by omega)
      have m3 : Int.tmod (r4 + 1 + r5) N.nodes.length = (r4 + 1 + r5) % N.nodes.length := Int.tmod_eq_emod_of_nonneg (by omega)
      clear hs5 hk5 rb5 rz5
      go_wp2_with fail
      refine (spec_l02DrawPipe p _ _ _ HI5.out.src (by omega) (by omega)).mono ?_
      rintro e w6 ⟨y, rfl, hy, hs6, hk6⟩
      have HI6 := Lib.hid (HI5.out.keep hp hk6 hs6)
      have HX6 := Lib.hid (HX5.out.keep hk6 (by omega))
      have hz6 := hk6.size
      clear hs6 hk6
      go_wp2_with ((at_builtin; refine wp_app1x _ rfl (.tmp 30) (.tmp 43) 32 rfl (w.heap.size + 1) info_PpX Tryz.underlying32 rfl (by omega) (by omega) _ _ _ rfl (HI6.out.o2.alloc _) _ 1 1 y.cells rfl rfl (by intro j u hu; match j, hu with  | 0, hu => (simp [Pp.cells] at hu; subst hu; simp) | 1, hu => (simp [Pp.cells] at hu; subst hu; simp) | 2, hu => (simp [Pp.cells] at hu; subst hu; simp) | 3, hu => (simp [Pp.cells] at hu; subst hu; simp) | 4, hu => (simp [Pp.cells] at hu; subst hu; simp) | j + 5, hu => simp [Pp.cells] at hu) (by simp [Pp.cells, Value.oneCell']) (by omega) (by omega) (by simp; omega) ?_; intro v7 w7 hO7 hb7 hF7))
      have HX7 := Lib.hid (hF7.bxx (HX6.out.below (Below.alloc (Below.refl _ w6) (Nat.le_refl _) _) HX6.out.lt) HNE.out)
      have HNE7 := Lib.hid (show v7.ownBlock ≠ some w1.heap.size from fun e => by
        rcases hF7.lie _ e with h | h
        · exact HNE.out h
        · simp at h; omega)
      have HI7 := Lib.hid (DI.pipe (HI6.out.below (Below.alloc (Below.refl _ w6) (Nat.le_refl _) _)) hp (by omega) hy hO7 hb7 hF7)
      clear hO7 hF7 hb7
      go_roundw
      case rel => exact ⟨q - 1, qs ++ [y], by go_num, by simp; omega, by omega, HI7.out, HX7.out, HNE7.out⟩
      case measure => simp [intOf]; omega
end Go.Proofs.YtbdacplndmnkhaaGreatDoor

/- A drawn network with loops, and a number: l05DrawChord. -/
import Derived.Test.YtbdacplndmnkhaaGreatDoorDch
namespace Go.Proofs.YtbdacplndmnkhaaGreatDoor
set_option linter.unusedVariables false
set_option linter.unusedSimpArgs false
open Go.RowKit
theorem Own.keepS {S : Nat → Prop} {w w' : World} {base s n : Nat} {e : TypeId} {v : Value} {xs : List Value} (h : Own w base e s v n xs) (hk : Keep S w w') (hS : ∀ g, base ≤ g → ¬ S g) : Own w' base e s v n xs := by
  refine ⟨h.1, ?_⟩
  rcases h.2 with h0 | ⟨g, cap, cur, hv, hg, hh, r⟩
  · exact .inl h0
  · refine .inr ⟨g, cap, cur, hv, hg, ?_, r⟩
    have hlt : g < w.heap.size := by
      rcases Nat.lt_or_ge g w.heap.size with hl | hl
      · exact hl
      · rw [Array.getElem?_eq_none hl] at hh; cases hh
    rw [hk.block g hlt (hS g hg)]; exact hh
theorem NetAt.keepC {S : Nat → Prop} {w w' : World} {A B : Option Addr} {N : Net} (h : NetAt w A B N) (hk : Keep S w w') (hA : ∀ b off, A = some ⟨b, off, none⟩ → ¬ S b) (hB : ∀ b off, B = some ⟨b, off, none⟩ → ¬ S b) : NetAt w' A B N :=
  ⟨h.nodes.keep hk hA, h.pipes.keep hk hB, h.ln, h.lp, h.nm⟩
/-- a drawn network of the call's own, and a number -/
structure DrC (w : World) (p : Nat) (A Bq : Option Addr) (c d : Nat) (N : Net) (w' : World) : Prop where
  nc : N.nodes.length ≤ c
  o1 : Own w' (w.heap.size + 1) 98 3 (.slice A N.nodes.length c) N.nodes.length (N.nodes.flatMap Nd.cells)
  o2 : Own w' (w.heap.size + 1) 102 5 (.slice Bq N.pipes.length d) N.pipes.length (N.pipes.flatMap Pp.cells)
  ap : Apart (.slice A N.nodes.length c) (.slice Bq N.pipes.length d)
  nl : N.nodes.length ≤ 7
  pl : N.pipes.length ≤ 11
  net : NetAt w' A Bq N
  src : Src w' p
  kp : Keep (· = p) w w'
def DrewC (w : World) (p : Nat) (e : Ending) (w' : World) : Prop :=
  ∃ (A Bq : Option Addr) (c d : Nat) (N : Net) (x : Int), e = .returned (.tuple #[netV A Bq N.nodes.length c N.pipes.length d, .int .i64 x]) ∧ DrC w p A Bq c d N w'
theorem Own.rdv {w : World} {base : Nat} {e : TypeId} {s n c : Nat} {A : Option Addr} {xs : List Value} (h : Own w base e s (.slice A n c) n xs) : Rd w A xs ∧ n ≤ c := by
  obtain ⟨A', c', h1, h2, h3, _⟩ := h.val
  injection h1 with e1 _ e3
  subst e1 e3
  exact ⟨h3, h2⟩
theorem DA.net {w wr : World} {p X : Nat} {A Bq : Option Addr} {c d : Nat} {ns : List Nd} {ps : List Pp} (h : DA w p X A Bq c d ns ps wr) (hn : ns.length ≤ 7) (hm : ps.length ≤ 11) (hnm : ∀ y ∈ ns, y.name.size ≤ 16) : NetAt wr A Bq ⟨ns, ps⟩ :=
  ⟨h.o1.rdv.1, h.o2.rdv.1, by dsimp only; omega, by dsimp only; omega, fun y hy => by have := hnm y hy; omega⟩
set_option maxRecDepth 100000 in
set_option maxHeartbeats 8000000 in
theorem spec_l05DrawChord (p : Nat) (w : World) (h : Src w p) :
    Calls Tryz.prog 39 #[.pointer (some ⟨p, 0, none⟩)] w (DrewC w p) := by
  have hp := h.lt
  have HS := Lib.hid h
  clear h
  go_enter Tryz.func39, Tryz.ntmps39
  go_wp2_with fail
  have HB0 := Lib.hid (show Bx (w.alloc (.cells #[.slice none 0 0, .slice none 0 0] 34)) w.heap.size [.slice none 0 0, .slice none 0 0] from (bx2 (by first | exact hy0 | go_size) (by first | (with_reducible exact cw0_0) | go_cell_look | (simp [go_sem, hy0, cw0_0, fw0_0, cw0_1, fw0_1]; done) | (simp [go_sem]; done)) (by first | (with_reducible exact fw0_0) | (simp only [World.frozen?_setCell, fw0_0]; done) | (simp [go_sem, hy0, cw0_0, fw0_0, cw0_1, fw0_1]; done) | (simp [go_sem]; done)) (by first | (with_reducible exact cw0_1) | go_cell_look | (simp [go_sem, hy0, cw0_0, fw0_0, cw0_1, fw0_1]; done) | (simp [go_sem]; done)) (by first | (with_reducible exact fw0_1) | (simp only [World.frozen?_setCell, fw0_1]; done) | (simp [go_sem, hy0, cw0_0, fw0_0, cw0_1, fw0_1]; done) | (simp [go_sem]; done))))
  refine (spec_l05DrawLoops p _ (HS.out.below (by (repeat' (first | (with_reducible exact Below.refl _ _) | (with_reducible assumption) | (with_reducible refine Below.alloc ?_ ?_ _) | (with_reducible refine Below.drew ?_) | (with_reducible refine Below.drewN' ?_ _) | (with_reducible refine Below.setCell ?_ ?_ _) | (refine Below.via ?_ (by with_reducible assumption) ?_) | (with_reducible refine Below.via ?_ (Wd.h _) ?_) | go_size))))).mono ?_
  rintro e w1 ⟨A, Bq, c, d, N, rfl, ho1, ho2, hap, hs1, hs2, hn1, hn7, hq11, hsr, hk1⟩
  have hz1 := hk1.size
  simp at hz1 ho1 ho2
  have hX0 : w1.heap.size < (w1.alloc (.cells #[.slice A N.nodes.length c, .slice Bq N.pipes.length d] 34)).heap.size := by simp
  have hb2 : Below w1.heap.size w1 (w1.alloc (.cells #[.slice A N.nodes.length c, .slice Bq N.pipes.length d] 34)) := by (repeat' (first | (with_reducible exact Below.refl _ _) | (with_reducible assumption) | (with_reducible refine Below.alloc ?_ ?_ _) | (with_reducible refine Below.drew ?_) | (with_reducible refine Below.drewN' ?_ _) | (with_reducible refine Below.setCell ?_ ?_ _) | (refine Below.via ?_ (by with_reducible assumption) ?_) | (with_reducible refine Below.via ?_ (Wd.h _) ?_) | go_size))
  have HDA := Lib.hid (show DA w p w1.heap.size A Bq c d N.nodes N.pipes (w1.alloc (.cells #[.slice A N.nodes.length c, .slice Bq N.pipes.length d] 34)) from
    ⟨ho1.below hb2 (Nat.le_refl _), ho2.below hb2 (Nat.le_refl _), hap, ho1.ne (Or.inr (Nat.le_refl _)), ho2.ne (Or.inr (Nat.le_refl _)), hsr.below hb2, (show Keep (· = p) w w1 by (repeat' (first | (with_reducible exact Keep.refl _ _) | (with_reducible assumption) | (with_reducible refine Keep.alloc ?_ _) | (with_reducible refine Keep.drew ?_) | (with_reducible refine Keep.drewN ?_ _) | (refine Keep.trans ?_ (by with_reducible assumption)) | (refine Keep.via ?_ (by with_reducible assumption)) | (with_reducible refine Keep.new ?_ ?_ _) | go_size))).trans (Keep.of_below _ hb2), (HB0.out.keep hk1 (by omega)).below hb2 (by omega), bx2 (by simp) (by simp) (by simp) (by simp) (by simp), by omega⟩)
  have HNM := Lib.hid (show ∀ y ∈ N.nodes, y.name.size ≤ 16 from fun y hy => (hs1 y hy).1)
  have HNET := Lib.hid (show NetAt _ A Bq N from HDA.out.net hn7 hq11 HNM.out)
  have hqq : N.pipes.length ≤ 11 := hq11
  have hcc : N.nodes.length ≤ c := HDA.out.o1.rdv.2
  clear ho1 ho2 hap hs1 hs2 hsr hk1 HB0 hb2 hn1 hX0 HNM hq11
  go_wp2_with fail
  refine (spec_l01Next p _ _ HDA.out.src (by omega)).mono ?_
  rintro e w2 ⟨r2, rfl, ra2, _, rb2, hs2, hk2⟩
  have HD2 := Lib.hid (HDA.out.keep hp hk2 hs2)
  have HN2 := Lib.hid (HNET.out.keepC hk2 (fun b off e q => by have := World.ownsRow.lt HDA.out.o1 b (by rw [e]; rfl); omega) (fun b off e q => by have := World.ownsRow.lt HDA.out.o2 b (by rw [e]; rfl); omega))
  have hX2 := HD2.out.bX.lt
  clear hs2 hk2 rb2 HDA HNET
  by_cases e0 : r2 = 0
  case' pos =>
    subst e0
    go_wp2_with fail
    refine (spec_l02DrawAny p _ HD2.out.src).mono ?_
    rintro e w3 ⟨A, Bq, c, d, N, rfl, hnc, hN, hn7', hq10, hsr, hk3, hbA, hbB, ho1, ho2, hap⟩
    have HD3 := Lib.hid (HD2.out.keep hp hk3 hsr)
    have hbX := HD3.out.bX
    have hz3 := hk3.size
    have hy7 := hbX.lt; have cw7_0 := hbX.cell 0 rfl; have fw7_0 := hbX.frozen 0 rfl; have cw7_1 := hbX.cell 1 rfl; have fw7_1 := hbX.frozen 1 rfl
    clear hbX
    have HN3 := Lib.hid hN
    have HO1 := Lib.hid ho1
    have HO2 := Lib.hid ho2
    have HAP := Lib.hid hap
    have HBA := Lib.hid hbA
    have HBB := Lib.hid hbB
    have HSR := Lib.hid hsr
    clear hN ho1 ho2 hap hbA hbB hsr hk3 HD2 HN2 
    go_wp2_with fail
    have hkX : Keep (· = w1.heap.size) w3 ((w3.setCell ⟨w1.heap.size, 0, none⟩ (.slice A N.nodes.length c)).setCell ⟨w1.heap.size, 1, none⟩ (.slice Bq N.pipes.length d)) := ((Keep.refl _ _).one _).one _
    have HD2 := Lib.hid (show DA w p w1.heap.size A Bq c d N.nodes N.pipes ((w3.setCell ⟨w1.heap.size, 0, none⟩ (.slice A N.nodes.length c)).setCell ⟨w1.heap.size, 1, none⟩ (.slice Bq N.pipes.length d)) from
      ⟨((HO1.out.set_below (a := ⟨w1.heap.size, 0, none⟩) (by simp; omega) _).set_below (a := ⟨w1.heap.size, 1, none⟩) (by simp; omega) _).lower2 (by omega), ((HO2.out.set_below (a := ⟨w1.heap.size, 0, none⟩) (by simp; omega) _).set_below (a := ⟨w1.heap.size, 1, none⟩) (by simp; omega) _).lower2 (by omega), HAP.out, HO1.out.ne (Or.inl (by omega)), HO2.out.ne (Or.inl (by omega)),
       HSR.out.high (B := p + 1) (by (repeat' (first | (with_reducible exact Below.refl _ _) | (with_reducible assumption) | (with_reducible refine Below.alloc ?_ ?_ _) | (with_reducible refine Below.drew ?_) | (with_reducible refine Below.drewN' ?_ _) | (with_reducible refine Below.setCell ?_ ?_ _) | (refine Below.via ?_ (by with_reducible assumption) ?_) | (with_reducible refine Below.via ?_ (Wd.h _) ?_) | go_size))) (by omega), ⟨hkX.os.trans HD3.out.kp.os, hkX.tape.trans HD3.out.kp.tape, hkX.output.trans HD3.out.kp.output, Nat.le_trans HD3.out.kp.size hkX.size, fun k hk hq => (hkX.block k (by have := HD3.out.kp.size; omega) (by omega)).trans (HD3.out.kp.block k hk hq)⟩, HD3.out.b0.keep hkX (by omega), bx2 (by simp; omega) (by simp [go_sem, cw7_0, cw7_1]) (by simp [go_sem, fw7_0]) (by simp [go_sem, cw7_0, cw7_1]) (by simp [go_sem, fw7_1]), by omega⟩)
    have HN2 := Lib.hid (HN3.out.keepC hkX (fun b off e q => by have := HBA.out b off e; omega) (fun b off e q => by have := HBB.out b off e; omega))
    have hX3 : w1.heap.size < ((w3.setCell ⟨w1.heap.size, 0, none⟩ (.slice A N.nodes.length c)).setCell ⟨w1.heap.size, 1, none⟩ (.slice Bq N.pipes.length d)).heap.size := by simp; omega
    have hn7 := hn7'
    have hqq : N.pipes.length ≤ 11 := by omega
    have hcc := hnc
    clear HN3 HO1 HO2 HAP HBA HBB HSR HD3 cw7_0 fw7_0 cw7_1 fw7_1 hy7 hkX hX2 hz3
    generalize World.setCell (World.setCell w3 _ _) _ _ = w2 at HD2 HN2 hX3 ⊢
    have hX2 := hX3
    clear hX3
  case' neg =>
    have b1 : (r2 == 0) = false := by simpa using e0
    have hbX := HD2.out.bX
    have hy7 := hbX.lt; have cw7_0 := hbX.cell 0 rfl; have fw7_0 := hbX.frozen 0 rfl; have cw7_1 := hbX.cell 1 rfl; have fw7_1 := hbX.frozen 1 rfl
    clear hbX
    go_wp2_with fail
  all_goals
    refine (spec_ChordsOf A Bq _ c _ d N _ HN2.out rfl rfl).mono ?_
    rintro e w4 ⟨C1, e1, l, code, rfl, hl40, hlb, hR, hRb, hb4⟩
    have HD4 := Lib.hid (HD2.out.below hb4)
    have HN4 := Lib.hid (HN2.out.below hb4)
    have HR4 := Lib.hid hR
    have HRB := Lib.hid hRb
    have hz4 := hb4.size
    clear hlb hR hRb hb4 HD2 HN2
    by_cases h0 : l.length = 0
    case' pos =>
      have b2 : ((l.length : Int) == 0) = true := by rw [beq_iff_eq]; omega
      go_wp2_with fail
    case' neg =>
      have b2 : ((l.length : Int) == 0) = false := by rw [beq_eq_false_iff_ne]; omega
      go_wp2_with fail
      refine (spec_l01Next p _ _ HD4.out.src (by omega)).mono ?_
      rintro e w4 ⟨z, rfl, za, _, zb, hs5, hk5⟩
      have HN4 := Lib.hid (HN4.out.keepC hk5 (fun b off e q => by have := World.ownsRow.lt HD4.out.o1 b (by rw [e]; rfl); omega) (fun b off e q => by have := World.ownsRow.lt HD4.out.o2 b (by rw [e]; rfl); omega))
      have HD4 := Lib.hid (HD4.out.keep hp hk5 hs5)
      have hX4 := HD4.out.bX.lt
      have HR4 := Lib.hid (HR4.out.keep hk5 (fun b off e q => by have := HRB.out b off e; omega))
      clear hs5 hk5 zb hz4
      by_cases hz : z = 0
      case' pos =>
        subst hz
        go_wp2_with fail
      case' neg =>
        have b3 : (z == 0) = false := by simpa using hz
        obtain ⟨b, off, rfl, hb, hat⟩ := HR4.out.opened (k := 0) (by simp; omega)
        have hbb := HRB.out b off rfl
        have HCH := Lib.hid (show ∀ (wx : World), Keep (fun k => k = p ∨ k = w.heap.size) w4 wx → ∀ k : Nat, k < l.length → wx.cell? ⟨b, off + k, none⟩ = some (.int .i64 (pick l k)) from fun wx hk k hlt => by
          have e := List.getElem?_eq_getElem hlt
          have e2 : pick l k = l[k] := by simp [pick, List.getD, e]
          rw [hk.cell b _ hb (by omega), e2]
          exact ints_at hat e)
        clear hat hz
        go_wp2_with fail
        refine wp_region_tb (R := Zr) [some 33, some 34, some 35, some 36, some 37, some 38, some 39, some 40, none, some 3] _ (by intro u; simp only [frs, Act.put, List.setIfInBounds_toArray, List.set_cons_zero, List.set_cons_succ, Nat.reduceAdd]; exact rfl) (fun ρ j => ([.agg #[.slice A N.nodes.length c, .slice Bq N.pipes.length d], .slice (some ⟨b, off, none⟩) l.length e1, .pointer (some ⟨p, 0, none⟩), .slice (some ⟨b, off, none⟩) l.length e1, .int .i64 (l.length : Int), .int .i64 (ρ.r 5), .pointer (some ⟨b, off + (ρ.r 5).toNat, none⟩), .int .i64 (pick l (ρ.r 5).toNat), undef, .int .i64 (pick l (ρ.r 5).toNat)] : List Value).getD j undef) (WZ p (fun k => k = w.heap.size) [(5, l.length)] [] 8 (fun wt => Bx wt w.heap.size [.slice none 0 0, .slice none 0 0] ∧ Bx wt w1.heap.size [.slice A N.nodes.length c, .slice Bq N.pipes.length d]) (fun _ wt => Src wt p ∧ Bx wt w.heap.size [.slice A N.nodes.length c, .slice Bq N.pipes.length d]) w4) (by kernel_rfl) (by kernel_rfl) Zr.zero (WZ.start (Keep.of_below _ (Below.drew (Below.refl _ _))) (HD4.out.src.below (Below.drew (Below.refl _ _))) ⟨HD4.out.b0.below (Below.drew (Below.refl w4.heap.size _)) HD4.out.b0.lt, HD4.out.bX.below (Below.drew (Below.refl w4.heap.size _)) HD4.out.bX.lt⟩) ?_ ?_
        · intro ii hii L ρ u wx hl hp hc hu hn hW
          have hii : ii < 10 := hii
          have HNo := Lib.hid hn
          clear hn
          have hii : ii = 0 ∨ ii = 1 ∨ ii = 2 ∨ ii = 3 ∨ ii = 4 ∨ ii = 5 ∨ ii = 6 ∨ ii = 7 ∨ ii = 8 ∨ ii = 9 := by omega
          rcases hii with rfl | rfl | rfl | rfl | rfl | rfl | rfl | rfl | rfl | rfl
          · have xx0 := (hW.t0 (no_later hc hl (by kernel_rfl))).2.cell 0 rfl
            have xx1 := (hW.t0 (no_later hc hl (by kernel_rfl))).2.cell 1 rfl
            refine wpOp_go (E := True) rfl rfl (fun K' hK => ?_)
            go_simp
            refine hK.out _ _ ⟨ρ, (by simp only [put]; rfl), fun _ _ => rfl, hW.pure rfl rfl (by omega)⟩
          · refine wpOp_go (E := True) rfl rfl (fun K' hK => ?_)
            go_simp
            refine hK.out _ _ ⟨ρ, (by simp only [put]; rfl), fun _ _ => rfl, hW.pure rfl rfl (by omega)⟩
          · refine wpOp_go (E := True) rfl rfl (fun K' hK => ?_)
            go_simp
            refine hK.out _ _ ⟨ρ, (by simp only [put]; rfl), fun _ _ => rfl, hW.pure rfl rfl (by omega)⟩
          · refine wpOp_go (E := True) rfl rfl (fun K' hK => ?_)
            go_simp
            refine hK.out _ _ ⟨ρ, (by simp only [put]; rfl), fun _ _ => rfl, hW.pure rfl rfl (by omega)⟩
          · have e3 : u 3 = .slice (some ⟨b, off, none⟩) l.length e1 := hu 3 (all_of hp (by kernel_rfl))
            refine wpOp_go (E := True) rfl rfl (fun K' hK => ?_)
            go_simp
            refine hK.out _ _ ⟨ρ, (by simp only [put, e3]; rfl), fun _ _ => rfl, hW.pure rfl rfl (by omega)⟩
          · have e2 : u 2 = .pointer (some ⟨p, 0, none⟩) := hu 2 (all_of hp (by kernel_rfl))
            have e4 : u 4 = .int .i64 (l.length : Int) := hu 4 (all_of hp (by kernel_rfl))
            have nks : L 8 = false := no_later hc hl (by kernel_rfl)
            refine wpOp_go (E := True) rfl rfl (fun K' hK => ?_)
            go_simp
            go_at_call 23
            refine (spec_l01Next _ _ _ (hW.sr nks) (by omega)).mono ?_
            rintro e' w5 ⟨r, rfl, ra, rz, rb, hs5, hk5⟩
            have rc : r < l.length := by by_cases h1 : (l.length : Int) ≤ 1; (have := rz h1; omega); exact rb (by omega)
            refine hK.out _ _ ⟨ρ.drawn 5 r, (by simp only [put, e2, e4]; rfl), fun j hj => by
                have n6 : L 6 = false := no_later hc hl (by kernel_rfl)
                have n7 : L 7 = false := no_later hc n6 (by kernel_rfl)
                have n9 : L 9 = false := no_later hc n7 (by kernel_rfl)
                match j, hj with
                | 0, _ => rfl
                | 1, _ => rfl
                | 2, _ => rfl
                | 3, _ => rfl
                | 4, _ => rfl
                | 5, hj => rw [hl] at hj; cases hj
                | 6, hj => rw [n6] at hj; cases hj
                | 7, hj => rw [n7] at hj; cases hj
                | 8, _ => rfl
                | 9, hj => rw [n9] at hj; cases hj
                | _ + 10, _ => rfl, hW.call rfl (by omega) nks (by have := HD4.out.kp.size; omega) hk5 hs5 ((fun ⟨h1, h2⟩ => ⟨h1.keep hk5 (by omega), h2.keep hk5 (by omega)⟩)) (by intro n hn; simp at hn; omega)⟩
          · have e1 : u 1 = .slice (some ⟨b, off, none⟩) l.length e1 := hu 1 (all_of hp (by kernel_rfl))
            have e5 : u 5 = .int .i64 (ρ.r 5) := hu 5 (all_of hp (by kernel_rfl))
            obtain ⟨ra5, rb5⟩ := hW.dr 5 (l.length) (by simp) (all_of hp (by kernel_rfl))
            have rn : (ρ.r 5).toNat < l.length := by omega
            refine wpOp_go (E := True) rfl rfl (fun K' hK => ?_)
            go_simp
            refine hK.out _ _ ⟨ρ, (by simp only [put, e1, e5]; rfl), fun _ _ => rfl, hW.pure rfl rfl (by omega)⟩
          · have e6 : u 6 = .pointer (some ⟨b, off + (ρ.r 5).toNat, none⟩) := hu 6 (all_of hp (by kernel_rfl))
            obtain ⟨ra5, rb5⟩ := hW.dr 5 (l.length) (by simp) (all_of (hc 6 (all_of hp (by kernel_rfl))) (by kernel_rfl))
            have t_0 := HCH.out wx hW.kp (ρ.r 5).toNat (by omega)
            refine wpOp_go (E := True) rfl rfl (fun K' hK => ?_)
            go_simp
            refine hK.out _ _ ⟨ρ, (by simp only [put, e6]; rfl), fun _ _ => rfl, hW.pure rfl rfl (by omega)⟩
          · have e0 : u 0 = .agg #[.slice A N.nodes.length c, .slice Bq N.pipes.length d] := hu 0 (all_of hp (by kernel_rfl))
            have hb0 := (hW.t0 hl).1
            have hyX := hb0.lt
            have xx0 := hb0.cell 0 rfl
            have xx1 := hb0.cell 1 rfl
            have xf0 := hb0.frozen 0 rfl
            have xf1 := hb0.frozen 1 rfl
            refine wpOp_go (E := True) rfl rfl (fun K' hK => ?_)
            go_simp
            refine hK.out _ _ ⟨ρ, (by simp only [put, e0]; rfl), fun _ _ => rfl, hW.store rfl rfl (by intro k q; omega) ((((Keep.refl (· = w.heap.size) _).one _).one _).wide fun k q => Or.inr q) ⟨(hW.sr hl).high (B := p + 1) (by (repeat' (first | (with_reducible exact Below.refl _ _) | (with_reducible assumption) | (with_reducible refine Below.alloc ?_ ?_ _) | (with_reducible refine Below.drew ?_) | (with_reducible refine Below.drewN' ?_ _) | (with_reducible refine Below.setCell ?_ ?_ _) | (refine Below.via ?_ (by with_reducible assumption) ?_) | (with_reducible refine Below.via ?_ (Wd.h _) ?_) | go_size))) (by omega), bx2 (by simp; omega) (by simp [go_sem, xx0, xx1]) (by simp [go_sem, xf0]) (by simp [go_sem, xx0, xx1]) (by simp [go_sem, xf1])⟩⟩
          · have e7 : u 7 = .int .i64 (pick l (ρ.r 5).toNat) := hu 7 (all_of hp (by kernel_rfl))
            obtain ⟨ra5, rb5⟩ := hW.dr 5 (l.length) (by simp) (all_of (hc 6 (all_of (hc 7 (all_of hp (by kernel_rfl))) (by kernel_rfl))) (by kernel_rfl))
            refine wpOp_go (E := True) rfl rfl (fun K' hK => ?_)
            go_simp
            refine hK.out _ _ ⟨ρ, (by simp only [put, e7]; rfl), fun _ _ => rfl, hW.pure rfl rfl (by omega)⟩
        · intro L ρ u wx hall hu hW
          obtain ⟨hsz, hb0⟩ := hW.t1 (hall 8 (by show 8 < 10; omega))
          have cw0_0 := hb0.cell 0 rfl
          have cw0_1 := hb0.cell 1 rfl
          have eL : u 9 = .int .i64 (pick l (ρ.r 5).toNat) := hu 9 (by show 9 < 10; omega)
          have hkp := hW.kp
          clear hu hall hW hb0
          go_wp2
          refine bodyPost_ret (by simp [results, Tryz.results39, go_sem, cw0_0, cw0_1]; try rfl) rfl ?_
          refine ⟨A, Bq, c, d, N, pick l (ρ.r 5).toNat, by simp [eL, netV], hcc, HD4.out.o1.keepS hkp (fun g h q => by omega), HD4.out.o2.keepS hkp (fun g h q => by omega), HD4.out.ap, hn7, hqq, ?_, hsz, ?_⟩
          · exact HN4.out.keepC hkp (fun b off e q => by have := World.ownsRow.lt HD4.out.o1 b (by rw [e]; rfl); omega) (fun b off e q => by have := World.ownsRow.lt HD4.out.o2 b (by rw [e]; rfl); omega)
          · have h1 := HD4.out.kp
            exact ⟨hkp.os.trans h1.os, hkp.tape.trans h1.tape, hkp.output.trans h1.output, Nat.le_trans h1.size hkp.size, fun k hk hq => (hkp.block k (by have := h1.size; omega) (by omega)).trans (h1.block k hk hq)⟩
  all_goals
    refine wp_region_tb (R := Zr) [some 27, some 28, some 29, some 30, some 31, some 32, none, some 3] _ (by intro u; simp only [frs, Act.put, List.setIfInBounds_toArray, List.set_cons_zero, List.set_cons_succ, Nat.reduceAdd]; exact rfl) (fun ρ j => ([.agg #[.slice A N.nodes.length c, .slice Bq N.pipes.length d], .pointer (some ⟨p, 0, none⟩), .pointer (some ⟨w1.heap.size, 1, none⟩), .slice Bq N.pipes.length d, .int .i64 (N.pipes.length : Int), .int .i64 (ρ.r 5), undef, .int .i64 (ρ.r 5)] : List Value).getD j undef) (WZ p (fun k => k = w.heap.size) [] [] 6 (fun wt => Bx wt w.heap.size [.slice none 0 0, .slice none 0 0] ∧ Bx wt w1.heap.size [.slice A N.nodes.length c, .slice Bq N.pipes.length d]) (fun _ wt => Src wt p ∧ Bx wt w.heap.size [.slice A N.nodes.length c, .slice Bq N.pipes.length d]) w4) (by kernel_rfl) (by kernel_rfl) Zr.zero (WZ.start (Keep.of_below _ (Below.drew (Below.refl _ _))) (HD4.out.src.below (Below.drew (Below.refl _ _))) ⟨HD4.out.b0.below (Below.drew (Below.refl w4.heap.size _)) HD4.out.b0.lt, HD4.out.bX.below (Below.drew (Below.refl w4.heap.size _)) HD4.out.bX.lt⟩) ?_ ?_
    · intro ii hii L ρ u wx hl hp hc hu hn hW
      have hii : ii < 8 := hii
      have HNo := Lib.hid hn
      clear hn
      have hii : ii = 0 ∨ ii = 1 ∨ ii = 2 ∨ ii = 3 ∨ ii = 4 ∨ ii = 5 ∨ ii = 6 ∨ ii = 7 := by omega
      rcases hii with rfl | rfl | rfl | rfl | rfl | rfl | rfl | rfl
      · have xx0 := (hW.t0 (no_later hc hl (by kernel_rfl))).2.cell 0 rfl
        have xx1 := (hW.t0 (no_later hc hl (by kernel_rfl))).2.cell 1 rfl
        refine wpOp_go (E := True) rfl rfl (fun K' hK => ?_)
        go_simp
        refine hK.out _ _ ⟨ρ, (by simp only [put]; rfl), fun _ _ => rfl, hW.pure rfl rfl (by omega)⟩
      · refine wpOp_go (E := True) rfl rfl (fun K' hK => ?_)
        go_simp
        refine hK.out _ _ ⟨ρ, (by simp only [put]; rfl), fun _ _ => rfl, hW.pure rfl rfl (by omega)⟩
      · refine wpOp_go (E := True) rfl rfl (fun K' hK => ?_)
        go_simp
        refine hK.out _ _ ⟨ρ, (by simp only [put]; rfl), fun _ _ => rfl, hW.pure rfl rfl (by omega)⟩
      · have e2 : u 2 = .pointer (some ⟨w1.heap.size, 1, none⟩) := hu 2 (all_of hp (by kernel_rfl))
        have xx1 := (hW.t0 (no_later (i := 5) hc (no_later (i := 4) hc (no_later hc hl (by kernel_rfl)) (by kernel_rfl)) (by kernel_rfl))).2.cell 1 rfl
        refine wpOp_go (E := True) rfl rfl (fun K' hK => ?_)
        go_simp
        refine hK.out _ _ ⟨ρ, (by simp only [put, e2]; rfl), fun _ _ => rfl, hW.pure rfl rfl (by omega)⟩
      · have e3 : u 3 = .slice Bq N.pipes.length d := hu 3 (all_of hp (by kernel_rfl))
        refine wpOp_go (E := True) rfl rfl (fun K' hK => ?_)
        go_simp
        refine hK.out _ _ ⟨ρ, (by simp only [put, e3]; rfl), fun _ _ => rfl, hW.pure rfl rfl (by omega)⟩
      · have e1 : u 1 = .pointer (some ⟨p, 0, none⟩) := hu 1 (all_of hp (by kernel_rfl))
        have e4 : u 4 = .int .i64 (N.pipes.length : Int) := hu 4 (all_of hp (by kernel_rfl))
        have nks : L 6 = false := no_later hc hl (by kernel_rfl)
        refine wpOp_go (E := True) rfl rfl (fun K' hK => ?_)
        go_simp
        go_at_call 58
        refine (spec_l02DrawIndex p N.pipes.length _ (hW.sr nks) (by omega)).mono ?_
        rintro e' w5 ⟨x, rfl, _, _, hs5, hk5⟩
        refine hK.out _ _ ⟨ρ.drawn 5 x, (by simp only [put, e1, e4]; rfl), fun j hj => by
            have n7 : L 7 = false := no_later hc hl (by kernel_rfl)
            match j, hj with
            | 0, _ => rfl
            | 1, _ => rfl
            | 2, _ => rfl
            | 3, _ => rfl
            | 4, _ => rfl
            | 5, hj => rw [hl] at hj; cases hj
            | 6, _ => rfl
            | 7, hj => rw [n7] at hj; cases hj
            | _ + 8, _ => rfl, hW.call rfl (by omega) nks (by have := HD4.out.kp.size; omega) hk5 hs5 ((fun ⟨h1, h2⟩ => ⟨h1.keep hk5 (by omega), h2.keep hk5 (by omega)⟩)) (by intro n hn; simp at hn)⟩
      · have e0 : u 0 = .agg #[.slice A N.nodes.length c, .slice Bq N.pipes.length d] := hu 0 (all_of hp (by kernel_rfl))
        have hb0 := (hW.t0 hl).1
        have hyX := hb0.lt
        have xx0 := hb0.cell 0 rfl
        have xx1 := hb0.cell 1 rfl
        have xf0 := hb0.frozen 0 rfl
        have xf1 := hb0.frozen 1 rfl
        refine wpOp_go (E := True) rfl rfl (fun K' hK => ?_)
        go_simp
        refine hK.out _ _ ⟨ρ, (by simp only [put, e0]; rfl), fun _ _ => rfl, hW.store rfl rfl (by intro k q; omega) ((((Keep.refl (· = w.heap.size) _).one _).one _).wide fun k q => Or.inr q) ⟨(hW.sr hl).high (B := p + 1) (by (repeat' (first | (with_reducible exact Below.refl _ _) | (with_reducible assumption) | (with_reducible refine Below.alloc ?_ ?_ _) | (with_reducible refine Below.drew ?_) | (with_reducible refine Below.drewN' ?_ _) | (with_reducible refine Below.setCell ?_ ?_ _) | (refine Below.via ?_ (by with_reducible assumption) ?_) | (with_reducible refine Below.via ?_ (Wd.h _) ?_) | go_size))) (by omega), bx2 (by simp; omega) (by simp [go_sem, xx0, xx1]) (by simp [go_sem, xf0]) (by simp [go_sem, xx0, xx1]) (by simp [go_sem, xf1])⟩⟩
      · have e5 : u 5 = .int .i64 (ρ.r 5) := hu 5 (all_of hp (by kernel_rfl))
        refine wpOp_go (E := True) rfl rfl (fun K' hK => ?_)
        go_simp
        refine hK.out _ _ ⟨ρ, (by simp only [put, e5]; rfl), fun _ _ => rfl, hW.pure rfl rfl (by omega)⟩
    · intro L ρ u wx hall hu hW
      obtain ⟨hsz, hb0⟩ := hW.t1 (hall 6 (by show 6 < 8; omega))
      have cw0_0 := hb0.cell 0 rfl
      have cw0_1 := hb0.cell 1 rfl
      have eL : u 7 = .int .i64 (ρ.r 5) := hu 7 (by show 7 < 8; omega)
      have hkp := hW.kp
      clear hu hall hW hb0
      go_wp2
      refine bodyPost_ret (by simp [results, Tryz.results39, go_sem, cw0_0, cw0_1]; try rfl) rfl ?_
      refine ⟨A, Bq, c, d, N, ρ.r 5, by simp [eL, netV], hcc, HD4.out.o1.keepS hkp (fun g h q => by omega), HD4.out.o2.keepS hkp (fun g h q => by omega), HD4.out.ap, hn7, hqq, ?_, hsz, ?_⟩
      · exact HN4.out.keepC hkp (fun b off e q => by have := World.ownsRow.lt HD4.out.o1 b (by rw [e]; rfl); omega) (fun b off e q => by have := World.ownsRow.lt HD4.out.o2 b (by rw [e]; rfl); omega)
      · have h1 := HD4.out.kp
        exact ⟨hkp.os.trans h1.os, hkp.tape.trans h1.tape, hkp.output.trans h1.output, Nat.le_trans h1.size hkp.size, fun k hk hq => (hkp.block k (by have := h1.size; omega) (by omega)).trans (h1.block k hk hq)⟩
end Go.Proofs.YtbdacplndmnkhaaGreatDoor

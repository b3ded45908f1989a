/- The walk of the law FnLinepack: for all bytes it returns true and writes nothing that was there. -/
import Derived.Test.YtkagnkecgkmpcaaDp
import Derived.Test.YtkagnkecgkmpcaaWh
import Derived.Test.YtkagnkecgkmpcaaTb
import Derived.Test.YtkagnkecgkmpcaaLk
import Derived.Test.YtkagnkecgkmpcaaPo
import Derived.Test.YtkagnkecgkmpcaaPc
namespace Go.Proofs.Ytkagnkecgkmpcaa
set_option linter.unusedVariables false
set_option linter.unusedSimpArgs false
open Go.RowKit
theorem laws_bigL (A : Option Addr) (n c : Nat) (w : World) : Calls Try.prog 6 #[.slice A n c] w fun e w' => e = .returned (.bool (decide (4096 < n))) ∧ w = w' := by
  go_enter Try.func6, Try.ntmps6
  go_wp2
  go_ret
  refine ⟨rb ?_, rfl⟩
  simp; omega
theorem line_of {N : Net} {l : List Int} {X : Int} (h : lineR N l = (X, 0)) : lvC N l = 0 ∧ X = lineF l N.pipes := by
  unfold lineR at h
  by_cases hc : lvC N l = 0
  · simp [hc] at h; exact ⟨hc, h.symm⟩
  · simp [hc] at h
theorem lineF_snoc {lv : List Int} : ∀ {ps : List Pp} {k : Nat} {p : Pp}, ps[k]? = some p → lineF lv (ps.take (k + 1)) = lineF lv (ps.take k) + packF lv p
  | [], k, p, h => by simp at h
  | y :: ps, 0, p, h => by simp at h; subst h; simp [lineF]
  | y :: ps, k + 1, p, h => by
    rw [List.take_succ_cons, List.take_succ_cons, lineF, lineF, lineF_snoc (ps := ps) (k := k) (p := p) (by simpa using h)]; omega
theorem pk_at {N : Net} {l : List Int} {k : Nat} {p : Pp} (hc : lvC N l = 0) (h : N.pipes[k]? = some p) : pkR N l (k : Int) = (packF l p, 0) := by
  have hk := (List.getElem?_eq_some_iff.1 h).1
  unfold pkR
  rw [if_neg (by simp [hc]), if_neg (by simp [inB]; omega)]
  simp [h]
/-- the levels that were raised so far -/
structure LkI (w3 : World) (q : Nat) (l : List Int) (u : Value) (k : Nat) (hl : List Int) (wr : World) : Prop where
  ln : hl.length = k
  hi : HiL l hl
  own : Own wr w3.heap.size 2 1 u k (hl.map iV)
  ne : u.ownBlock ≠ some q
  dc : Dice wr q w3.heap.size
  bl : Below w3.heap.size w3 wr
set_option maxRecDepth 100000 in
set_option maxHeartbeats 8000000 in
theorem walk_FnLinepack (w : World) (A0 : Option Addr) (c0 : Nat) (l0 : List Int) (h0 : BytesIn w A0 l0) :
    Calls Try.prog 3 #[.slice A0 l0.length c0] w fun e w' => e = .returned (.bool true) ∧ Below w.heap.size w w' := by
  have HI := Lib.hid h0
  clear h0
  by_cases hbig : 4096 < l0.length
  · have b0 : decide (4096 < l0.length) = true := by simpa using hbig
    go_enter Try.func3, Try.ntmps3
    go_wp2_with ((go_at_call 6; refine (laws_bigL _ _ _ _).mono ?_; rintro e w' ⟨rfl, rfl⟩))
    go_ret
    exact ⟨rfl, by (repeat' (first | (with_reducible exact Below.refl _ _) | (with_reducible assumption) | (with_reducible refine Below.alloc ?_ ?_ _) | (with_reducible refine Below.drew ?_) | (with_reducible refine Below.drewN' ?_ _) | (with_reducible refine Below.setCell ?_ ?_ _) | (refine Below.via ?_ (by with_reducible assumption) ?_) | (with_reducible refine Below.via ?_ (Wd.h _) ?_) | go_size))⟩
  have b0 : decide (4096 < l0.length) = false := by simpa using hbig
  go_enter Try.func3, Try.ntmps3
  go_wp2_with ((go_at_call 6; refine (laws_bigL _ _ _ _).mono ?_; rintro e w' ⟨rfl, rfl⟩))
  
  refine (spec_DrawLinepackOf A0 c0 l0 _ (HI.out.below (by (repeat' (first | (with_reducible exact Below.refl _ _) | (with_reducible assumption) | (with_reducible refine Below.alloc ?_ ?_ _) | (with_reducible refine Below.drew ?_) | (with_reducible refine Below.drewN' ?_ _) | (with_reducible refine Below.setCell ?_ ?_ _) | (refine Below.via ?_ (by with_reducible assumption) ?_) | (with_reducible refine Below.via ?_ (Wd.h _) ?_) | go_size)))) (by omega)).mono ?_
  rintro e w1 ⟨A, Bq, Al, c, d, cl, N, l, rfl, hnc, hN, hL, hl8, hbd, hb1⟩
  have hz1 := hb1.size
  have HN := Lib.hid hN
  have HL := Lib.hid hL
  have HBD := Lib.hid hbd
  obtain ⟨X, code, hR⟩ : ∃ X code, lineR N l = (X, code) := ⟨_, _, rfl⟩
  have HR := Lib.hid hR
  clear hN hL hbd hR
  go_wp2_with fail
  
  refine (impl_LinepackOf _ _ _ _ _ _ _ _ N l _ (HN.out.below (by (repeat' (first | (with_reducible exact Below.refl _ _) | (with_reducible assumption) | (with_reducible refine Below.alloc ?_ ?_ _) | (with_reducible refine Below.drew ?_) | (with_reducible refine Below.drewN' ?_ _) | (with_reducible refine Below.setCell ?_ ?_ _) | (refine Below.via ?_ (by with_reducible assumption) ?_) | (with_reducible refine Below.via ?_ (Wd.h _) ?_) | go_size)))) rfl rfl hnc (HL.out.below (by (repeat' (first | (with_reducible exact Below.refl _ _) | (with_reducible assumption) | (with_reducible refine Below.alloc ?_ ?_ _) | (with_reducible refine Below.drew ?_) | (with_reducible refine Below.drewN' ?_ _) | (with_reducible refine Below.setCell ?_ ?_ _) | (refine Below.via ?_ (by with_reducible assumption) ?_) | (with_reducible refine Below.via ?_ (Wd.h _) ?_) | go_size)))) (by omega)).mono ?_
  rintro e w2 ⟨rfl, hb2⟩
  rw [HR.out]
  (obtain ⟨hcn, hfn⟩ := bcell hb2; have hz2 := hb2.size; (try simp at hz2); have Na_0 := hcn (w1.heap.size) (0) (by first | omega | (simp; done) | (simp; omega)); have Na_0f := hfn (w1.heap.size) (0) (by first | omega | (simp; done) | (simp; omega)); have Nhy_a : w1.heap.size < w2.heap.size := (by omega); have Na_1 := hcn (w1.heap.size) (1) (by first | omega | (simp; done) | (simp; omega)); have Na_1f := hfn (w1.heap.size) (1) (by first | omega | (simp; done) | (simp; omega)); simp [go_sem] at Na_0 Na_0f Na_1 Na_1f; clear hcn hfn; have a_0 := Na_0; have a_0f := Na_0f; have a_1 := Na_1; have a_1f := Na_1f; have hy_a := Nhy_a; clear Na_0 Na_0f Na_1 Na_1f Nhy_a)
  go_wp2_with fail
  refine (spec_LinepackOf _ _ _ _ _ _ _ _ N l _ (HN.out.below (by (repeat' (first | (with_reducible exact Below.refl _ _) | (with_reducible assumption) | (with_reducible refine Below.alloc ?_ ?_ _) | (with_reducible refine Below.drew ?_) | (with_reducible refine Below.drewN' ?_ _) | (with_reducible refine Below.setCell ?_ ?_ _) | (refine Below.via ?_ (by with_reducible assumption) ?_) | (with_reducible refine Below.via ?_ (Wd.h _) ?_) | go_size)))) rfl rfl (HL.out.below (by (repeat' (first | (with_reducible exact Below.refl _ _) | (with_reducible assumption) | (with_reducible refine Below.alloc ?_ ?_ _) | (with_reducible refine Below.drew ?_) | (with_reducible refine Below.drewN' ?_ _) | (with_reducible refine Below.setCell ?_ ?_ _) | (refine Below.via ?_ (by with_reducible assumption) ?_) | (with_reducible refine Below.via ?_ (Wd.h _) ?_) | go_size)))) (by omega)).mono ?_
  rintro e w3 ⟨rfl, hb3⟩
  rw [HR.out]
  (obtain ⟨hcn, hfn⟩ := bcell hb3; have hz3 := hb3.size; (try simp at hz3); have Na_0 := hcn (w1.heap.size) (0) (by first | omega | (simp; done) | (simp; omega)); have Na_0f := hfn (w1.heap.size) (0) (by first | omega | (simp; done) | (simp; omega)); have Nhy_a : w1.heap.size < w3.heap.size := (by omega); have Na_1 := hcn (w1.heap.size) (1) (by first | omega | (simp; done) | (simp; omega)); have Na_1f := hfn (w1.heap.size) (1) (by first | omega | (simp; done) | (simp; omega)); simp [go_sem, a_0, a_0f, a_1, a_1f, hy_a] at Na_0 Na_0f Na_1 Na_1f; clear a_0 a_0f a_1 a_1f hy_a; clear hcn hfn; have a_0 := Na_0; have a_0f := Na_0f; have a_1 := Na_1; have a_1f := Na_1f; have hy_a := Nhy_a; clear Na_0 Na_0f Na_1 Na_1f Nhy_a)
  by_cases e0 : code = 0
  · subst e0
    obtain ⟨hlv, hX⟩ := line_of HR.out
    have HLV := Lib.hid hlv
    obtain ⟨hOk, hLv⟩ := lv_of hlv
    have HOK := Lib.hid hOk
    have HVV := Lib.hid hLv
    have hp1 := hOk.p1
    have HBX := Lib.hid (show Bx w3 w1.heap.size [.slice A N.nodes.length c, .slice Bq N.pipes.length d] from bx2 hy_a a_0 a_0f a_1 a_1f)
    have HB3 := Lib.hid (show Below w.heap.size w w3 by (repeat' (first | (with_reducible exact Below.refl _ _) | (with_reducible assumption) | (with_reducible refine Below.alloc ?_ ?_ _) | (with_reducible refine Below.drew ?_) | (with_reducible refine Below.drewN' ?_ _) | (with_reducible refine Below.setCell ?_ ?_ _) | (refine Below.via ?_ (by with_reducible assumption) ?_) | (with_reducible refine Below.via ?_ (Wd.h _) ?_) | go_size)))
    have HN3 := Lib.hid (HN.out.below (show Below w1.heap.size w1 w3 by (repeat' (first | (with_reducible exact Below.refl _ _) | (with_reducible assumption) | (with_reducible refine Below.alloc ?_ ?_ _) | (with_reducible refine Below.drew ?_) | (with_reducible refine Below.drewN' ?_ _) | (with_reducible refine Below.setCell ?_ ?_ _) | (refine Below.via ?_ (by with_reducible assumption) ?_) | (with_reducible refine Below.via ?_ (Wd.h _) ?_) | go_size))))
    have HL3 := Lib.hid (HL.out.below (show Below w1.heap.size w1 w3 by (repeat' (first | (with_reducible exact Below.refl _ _) | (with_reducible assumption) | (with_reducible refine Below.alloc ?_ ?_ _) | (with_reducible refine Below.drew ?_) | (with_reducible refine Below.drewN' ?_ _) | (with_reducible refine Below.setCell ?_ ?_ _) | (refine Below.via ?_ (by with_reducible assumption) ?_) | (with_reducible refine Below.via ?_ (Wd.h _) ?_) | go_size))))
    have hlt1 := HBX.out.lt
    clear hlv hOk hLv hy_a a_0 a_0f a_1 a_1f hb1 hb2 hb3
    
    go_wp2_with fail
    go_loopw [9, 11, 12, 13] (fun s t _ _ wr => ∃ k : Nat, k ≤ N.pipes.length ∧ t = .int .i64 k ∧ s = .int .i64 (lineF l (N.pipes.take k)) ∧ Own wr w3.heap.size 2 1 (.slice (some ⟨w3.heap.size, 0, none⟩) 0 0) 0 [] ∧ Bx wr w1.heap.size [.slice A N.nodes.length c, .slice Bq N.pipes.length d] ∧ Below w3.heap.size w3 wr) (fun _ t _ _ _ => N.pipes.length - (intOf t).toNat)
    case atStart => exact ⟨0, by omega, rfl, by simp [lineF], Own.lit0 w3 w3.heap.size 2 1 (Nat.le_refl _), HBX.out.below (show Below w3.heap.size w3 _ by (repeat' (first | (with_reducible exact Below.refl _ _) | (with_reducible assumption) | (with_reducible refine Below.alloc ?_ ?_ _) | (with_reducible refine Below.drew ?_) | (with_reducible refine Below.drewN' ?_ _) | (with_reducible refine Below.setCell ?_ ?_ _) | (refine Below.via ?_ (by with_reducible assumption) ?_) | (with_reducible refine Below.via ?_ (Wd.h _) ?_) | go_size))) HBX.out.lt, by (repeat' (first | (with_reducible exact Below.refl _ _) | (with_reducible assumption) | (with_reducible refine Below.alloc ?_ ?_ _) | (with_reducible refine Below.drew ?_) | (with_reducible refine Below.drewN' ?_ _) | (with_reducible refine Below.setCell ?_ ?_ _) | (refine Below.via ?_ (by with_reducible assumption) ?_) | (with_reducible refine Below.via ?_ (Wd.h _) ?_) | go_size))⟩
    case round =>
      obtain ⟨k, hk, rfl, rfl, hO, hB, hbw⟩ := hrel
      have hbH := Lib.hid hbw
      have HOW := Lib.hid hO
      have HBR := Lib.hid hB
      have hzw := hbw.size
      have hy7 := hB.lt; have cw7_0 := hB.cell 0 rfl; have fw7_0 := hB.frozen 0 rfl; have cw7_1 := hB.cell 1 rfl; have fw7_1 := hB.frozen 1 rfl
      clear hO hB hbw
      by_cases hlt : k < N.pipes.length
      · have g1 : (k : Int) < N.pipes.length := by omega
        obtain ⟨q, hq⟩ := get_some hlt
        obtain ⟨s1, s2⟩ := lineF_bd HVV.out (l := N.pipes.take k) (fun x hx => HOK.out.pipes x (List.mem_of_mem_take hx))
        obtain ⟨s3, s4⟩ := packF_bd (HOK.out.pipes q (List.mem_of_getElem? hq)) HVV.out
        have hlen : (N.pipes.take k).length ≤ 40 := by simp; omega
        go_wp2_with fail
        refine (impl_PackOf _ _ _ _ _ _ _ _ N l k _ (HN3.out.below hbH.out) rfl rfl hnc (HL3.out.below hbH.out) (by omega)).mono ?_
        rintro e w5 ⟨rfl, hb5⟩
        rw [pk_at HLV.out hq]
        have HO5 := Lib.hid (HOW.out.below hb5 (Nat.le_refl _))
        have HB5 := Lib.hid (HBR.out.below hb5 (by omega))
        go_wp2
        go_roundw
        case rel => exact ⟨k + 1, by omega, by go_num, by rw [lineF_snoc hq], HO5.out, HB5.out, by have h1 := hbH.out; (repeat' (first | (with_reducible exact Below.refl _ _) | (with_reducible assumption) | (with_reducible refine Below.alloc ?_ ?_ _) | (with_reducible refine Below.drew ?_) | (with_reducible refine Below.drewN' ?_ _) | (with_reducible refine Below.setCell ?_ ?_ _) | (refine Below.via ?_ (by with_reducible assumption) ?_) | (with_reducible refine Below.via ?_ (Wd.h _) ?_) | go_size))⟩
        case measure => simp [intOf]; omega
      · rename World => wq
        obtain rfl : k = N.pipes.length := by omega
        have g1 : ¬ (N.pipes.length : Int) < N.pipes.length := by omega
        go_wp2_with fail
        have hG3 : w3.heap.size ≤ wq.heap.size := by omega
        have hq0 : w.heap.size ≤ w3.heap.size := by have := HB3.out.size; omega
        refine (laws_roll A0 c0 l0 1801 _ (HI.out.below (by have h1 := hbH.out; have h2 := HB3.out; (repeat' (first | (with_reducible exact Below.refl _ _) | (with_reducible assumption) | (with_reducible refine Below.alloc ?_ ?_ _) | (with_reducible refine Below.drew ?_) | (with_reducible refine Below.drewN' ?_ _) | (with_reducible refine Below.setCell ?_ ?_ _) | (refine Below.via ?_ (by with_reducible assumption) ?_) | (with_reducible refine Below.via ?_ (Wd.h _) ?_) | go_size)))) (by omega) (by omega) (by omega) w3.heap.size (by omega) (fun b off e hne => by
          obtain ⟨b', off', e', hb', _⟩ := HI.out.rd (by simpa using hne)
          rw [e] at e'; injection e' with e'; injection e' with e1; omega)).mono ?_
        rintro e w6 ⟨rfl, hd6, hb6⟩
        have hz6 := hb6.size
        have HJ := Lib.hid (show LkI w3 wq.heap.size l (.slice (some ⟨w3.heap.size, 0, none⟩) 0 0) 0 [] w6 from ⟨rfl, HiL.nil l, HOW.out.below hb6 (Nat.le_refl _), HOW.out.ne (Or.inr (Nat.le_refl _)), hd6, hbH.out.trans (hb6.mono (by omega))⟩)
        clear hd6 hb6 HOW HBR cw7_0 cw7_1 fw7_0 fw7_1 hy7
        go_wp2_with fail
        go_loopw [10, 15] (fun u t v => ∃ (k : Nat) (hl : List Int), k ≤ l.length ∧ t = .int .i64 k ∧ LkI w3 wq.heap.size l u k hl v) (fun _ t _ => l.length - (intOf t).toNat)
        case atStart => exact ⟨0, [], by omega, rfl, HJ.out⟩
        case round =>
          clear HJ
          obtain ⟨k, hl, hk, rfl, hI⟩ := hrel
          have HK := Lib.hid hI
          have hzv := hI.bl.size
          have hqv := hI.dc.lt
          clear hI
          by_cases hlt : k < l.length
          · have g1 : (k : Int) < l.length := by omega
            obtain ⟨x, hx⟩ := get_some hlt
            obtain ⟨x0, x1⟩ := HVV.out.2 x (List.mem_of_getElem? hx)
            obtain ⟨b, off, rfl, hb, hat⟩ := HL3.out.opened (k := k) (by simpa using hlt)
            have HT := Lib.hid (show ∀ wy : World, Below w3.heap.size w3 wy → wy.cell? ⟨b, off + k, none⟩ = some (.int .i64 x) from fun wy hy => ints_at (hat.below hy hb) hx)
            clear hat
            go_wp2_with fail
            refine wp_region_tb (R := Nat × Value × Int) [some 77, some 78, some 79, some 80, some 81, some 82, some 83, some 84, some 85, some 86, some 87, some 10] _ (by intro u; simp only [frs, Act.put, List.setIfInBounds_toArray, List.set_cons_zero, List.set_cons_succ, Nat.reduceAdd]; exact rfl) (fun ρ j => ([u10, .slice (some ⟨b, off, none⟩) l.length cl, .int .i64 k, .pointer (some ⟨b, off + k, none⟩), .int .i64 x, .pointer (some ⟨wq.heap.size, 0, none⟩), .int .i64 ρ.2.2, .int .i64 (x + ρ.2.2), .int .i64 (min 100000000 (x + ρ.2.2)), .slice (some ⟨ρ.1, 0, none⟩) 1 1, ρ.2.1, ρ.2.1] : List Value).getD j undef) (WH 6 9 10 wq.heap.size w3.heap.size 200 u10 k (hl.map iV) (fun r => min 100000000 (x + r)) wr) (by kernel_rfl) (by kernel_rfl) (0, undef, 0) (WH.start (Below.drew (Below.refl _ _)) (HK.out.dc.below (Below.drew (Below.refl _ _))) HK.out.own.drew) ?_ ?_
            · intro ii hii L ρ u wx hl hp hc hu hn hW
              have hii : ii < 12 := hii
              have HNo := Lib.hid hn
              clear hn
              have hbl := HK.out.bl.trans hW.bl
              have hzx := hW.bl.size
              have hii : ii = 0 ∨ ii = 1 ∨ ii = 2 ∨ ii = 3 ∨ ii = 4 ∨ ii = 5 ∨ ii = 6 ∨ ii = 7 ∨ ii = 8 ∨ ii = 9 ∨ ii = 10 ∨ ii = 11 := by omega
              rcases hii with rfl | rfl | rfl | rfl | rfl | rfl | rfl | rfl | rfl | rfl | rfl | rfl
              · have n10 : L 10 = false := no_later hc hl (by kernel_rfl)
                have n11 : L 11 = false := no_later hc n10 (by kernel_rfl)
                have e11 : u 11 = u10 := HNo.out 11 n11
                refine wpOp_go (E := True) rfl rfl (fun K' hK => ?_)
                go_simp
                refine hK.out _ _ ⟨ρ, (by simp only [put, e11]; rfl), fun _ _ => rfl, hW.pure (by omega) (by omega) (by omega)⟩
              · refine wpOp_go (E := True) rfl rfl (fun K' hK => ?_)
                go_simp
                refine hK.out _ _ ⟨ρ, (by simp only [put]; rfl), fun _ _ => rfl, hW.pure (by omega) (by omega) (by omega)⟩
              · refine wpOp_go (E := True) rfl rfl (fun K' hK => ?_)
                go_simp
                refine hK.out _ _ ⟨ρ, (by simp only [put]; rfl), fun _ _ => rfl, hW.pure (by omega) (by omega) (by omega)⟩
              · have e1 : u 1 = .slice (some ⟨b, off, none⟩) l.length cl := hu 1 (all_of hp (by kernel_rfl))
                have e2 : u 2 = .int .i64 k := hu 2 (all_of hp (by kernel_rfl))
                refine wpOp_go (E := True) rfl rfl (fun K' hK => ?_)
                go_simp
                refine hK.out _ _ ⟨ρ, (by simp only [put, e1, e2]; rfl), fun _ _ => rfl, hW.pure (by omega) (by omega) (by omega)⟩
              · have e3 : u 3 = .pointer (some ⟨b, off + k, none⟩) := hu 3 (all_of hp (by kernel_rfl))
                have t_0 := HT.out _ hbl
                refine wpOp_go (E := True) rfl rfl (fun K' hK => ?_)
                go_simp
                refine hK.out _ _ ⟨ρ, (by simp only [put, e3]; rfl), fun _ _ => rfl, hW.pure (by omega) (by omega) (by omega)⟩
              · refine wpOp_go (E := True) rfl rfl (fun K' hK => ?_)
                go_simp
                refine hK.out _ _ ⟨ρ, (by simp only [put]; rfl), fun _ _ => rfl, hW.pure (by omega) (by omega) (by omega)⟩
              · have e5 : u 5 = .pointer (some ⟨wq.heap.size, 0, none⟩) := hu 5 (all_of hp (by kernel_rfl))
                refine wpOp_go (E := True) rfl rfl (fun K' hK => ?_)
                go_simp
                go_at_call 12
                refine (laws_below wq.heap.size w3.heap.size 200 _ hW.dc (by omega) (by omega)).mono ?_
                rintro e' w5 ⟨r, rfl, ra, rb, hd5, hk5⟩
                have n7 : L 7 = false := no_later hc hl (by kernel_rfl)
                have n8 : L 8 = false := no_later hc n7 (by kernel_rfl)
                have n9 : L 9 = false := no_later hc n8 (by kernel_rfl)
                have n10 : L 10 = false := no_later hc n9 (by kernel_rfl)
                refine hK.out _ _ ⟨(ρ.1, ρ.2.1, r), (by simp only [put, e5]; rfl), fun j hj => by
                    have n7 : L 7 = false := no_later hc hl (by kernel_rfl)
                    have n8 : L 8 = false := no_later hc n7 (by kernel_rfl)
                    have n9 : L 9 = false := no_later hc n8 (by kernel_rfl)
                    have n10 : L 10 = false := no_later hc n9 (by kernel_rfl)
                    have n11 : L 11 = false := no_later hc n10 (by kernel_rfl)
                    match j, hj with
                    | 0, _ => rfl
                    | 1, _ => rfl
                    | 2, _ => rfl
                    | 3, _ => rfl
                    | 4, _ => rfl
                    | 5, _ => rfl
                    | 6, hj => rw [hl] at hj; cases hj
                    | 7, hj => rw [n7] at hj; cases hj
                    | 8, hj => rw [n8] at hj; cases hj
                    | 9, hj => rw [n9] at hj; cases hj
                    | 10, hj => rw [n10] at hj; cases hj
                    | 11, hj => rw [n11] at hj; cases hj
                    | _ + 12, _ => rfl, hW.call (by omega) (by omega) n9 n10 hqv HK.out.ne hk5 hd5 ra rb⟩
              · have e4 : u 4 = .int .i64 x := hu 4 (all_of hp (by kernel_rfl))
                have e6 : u 6 = .int .i64 ρ.2.2 := hu 6 (all_of hp (by kernel_rfl))
                obtain ⟨ra, rb⟩ := hW.r (all_of hp (by kernel_rfl))
                have hwr := IntWalk.i64_in (x + ρ.2.2) ⟨by omega, by omega⟩
                refine wpOp_go (E := True) rfl rfl (fun K' hK => ?_)
                go_simp
                refine hK.out _ _ ⟨ρ, (by simp only [put, e4, e6, hwr]; rfl), fun _ _ => rfl, hW.pure (by omega) (by omega) (by omega)⟩
              · have e7 : u 7 = .int .i64 (x + ρ.2.2) := hu 7 (all_of hp (by kernel_rfl))
                have hmn : (if x + ρ.2.2 < 100000000 then x + ρ.2.2 else 100000000) = min 100000000 (x + ρ.2.2) := by split <;> omega
                refine wpOp_go (E := True) rfl rfl (fun K' hK => ?_)
                go_simp
                refine hK.out _ _ ⟨ρ, (by simp only [put, e7, hmn]; rfl), fun _ _ => rfl, hW.pure (by omega) (by omega) (by omega)⟩
              · have e8 : u 8 = .int .i64 (min 100000000 (x + ρ.2.2)) := hu 8 (all_of hp (by kernel_rfl))
                refine wpOp_go (E := True) rfl rfl (fun K' hK => ?_)
                go_simp
                have n10 : L 10 = false := no_later hc hl (by kernel_rfl)
                refine hK.out _ _ ⟨(wx.heap.size, ρ.2.1, ρ.2.2), (by simp only [put, e8]; rfl), fun j hj => by
                    have n10 : L 10 = false := no_later hc hl (by kernel_rfl)
                    have n11 : L 11 = false := no_later hc n10 (by kernel_rfl)
                    match j, hj with
                    | 0, _ => rfl
                    | 1, _ => rfl
                    | 2, _ => rfl
                    | 3, _ => rfl
                    | 4, _ => rfl
                    | 5, _ => rfl
                    | 6, _ => rfl
                    | 7, _ => rfl
                    | 8, _ => rfl
                    | 9, hj => rw [hl] at hj; cases hj
                    | 10, hj => rw [n10] at hj; cases hj
                    | 11, hj => rw [n11] at hj; cases hj
                    | _ + 12, _ => rfl, hW.made (by omega) (by omega) n10 hqv (by (repeat' (first | (with_reducible exact Below.refl _ _) | (with_reducible assumption) | (with_reducible refine Below.alloc ?_ ?_ _) | (with_reducible refine Below.drew ?_) | (with_reducible refine Below.drewN' ?_ _) | (with_reducible refine Below.setCell ?_ ?_ _) | (refine Below.via ?_ (by with_reducible assumption) ?_) | (with_reducible refine Below.via ?_ (Wd.h _) ?_) | go_size))) (bx1 (by simp) (by simp) (by simp))⟩
              · have e0 : u 0 = u10 := hu 0 (all_of hp (by kernel_rfl))
                have e9 : u 9 = .slice (some ⟨ρ.1, 0, none⟩) 1 1 := hu 9 (all_of hp (by kernel_rfl))
                refine wpOp_go (E := True) rfl rfl (fun K' hK => ?_)
                refine step_of rfl (app1x _ (.tmp 77) (.tmp 86) 28 rfl w3.heap.size info_i64 Try.underlying28 rfl (by omega) (by omega) u10 k _ e0 (hW.own hl) ρ.1 1 1 [iV (min 100000000 (x + ρ.2.2))] e9 rfl (fun jj y hy => (hW.lit hl (all_of hp (by kernel_rfl))).2.cell jj hy) (by simp [Value.oneCell']) (by omega) (by omega) (by omega) ?_)
                intro v' w' hO' hb' hf'
                refine hK.out _ _ ⟨(ρ.1, v', ρ.2.2), (by simp only [put]; rfl), fun j hj => by
                    have n11 : L 11 = false := no_later hc hl (by kernel_rfl)
                    match j, hj with
                    | 0, _ => rfl
                    | 1, _ => rfl
                    | 2, _ => rfl
                    | 3, _ => rfl
                    | 4, _ => rfl
                    | 5, _ => rfl
                    | 6, _ => rfl
                    | 7, _ => rfl
                    | 8, _ => rfl
                    | 9, _ => rfl
                    | 10, hj => rw [hl] at hj; cases hj
                    | 11, hj => rw [n11] at hj; cases hj
                    | _ + 12, _ => rfl, hW.app (by omega) (by omega) hl hqv HK.out.ne hO' hb' hf'⟩
              · have e10 : u 10 = ρ.2.1 := hu 10 (all_of hp (by kernel_rfl))
                refine wpOp_go (E := True) rfl rfl (fun K' hK => ?_)
                go_simp
                refine hK.out _ _ ⟨ρ, (by simp only [put, e10]; rfl), fun _ _ => rfl, hW.pure (by omega) (by omega) (by omega)⟩
            · intro L ρ u wx hall hu hW
              obtain ⟨ra, rb⟩ := hW.r (hall 6 (by show 6 < 12; omega))
              have e11 : u 11 = ρ.2.1 := hu 11 (by show 11 < 12; omega)
              have hO := hW.own2 (hall 10 (by show 10 < 12; omega))
              have HKN := Lib.hid (show LkI w3 wq.heap.size l ρ.2.1 (k + 1) (hl ++ [min 100000000 (x + ρ.2.2)]) wx from ⟨by have := HK.out.ln; simp; omega, HK.out.hi.snoc (by rw [HK.out.ln]; exact hx) (by omega) (by omega), by rw [List.map_append]; exact hO.1, hO.2, hW.dc, HK.out.bl.trans hW.bl⟩)
              rw [e11]
              clear hW hall hu hO e11
              generalize ρ.2.1 = v10 at HKN
              go_wp2_with fail
              go_roundw
              case rel => exact ⟨k + 1, _, by omega, by go_num, HKN.out⟩
              case measure => simp [intOf]; omega
          · obtain rfl : k = l.length := by omega
            have g1 : ¬ (l.length : Int) < l.length := by omega
            have HBv := HBX.out.below HK.out.bl hlt1
            have hy7 := HBv.lt; have cw7_0 := HBv.cell 0 rfl; have fw7_0 := HBv.frozen 0 rfl; have cw7_1 := HBv.cell 1 rfl; have fw7_1 := HBv.frozen 1 rfl
            clear HBv
            obtain ⟨Ah, ch, rfl, hch, hRdh, _⟩ := HK.out.own.val
            have HRH := Lib.hid hRdh
            have hlh : hl.length = l.length := HK.out.ln
            have hb := net_of HLV.out
            have hVH := HK.out.hi.ok HVV.out (hlh.trans HVV.out.1)
            have HP1 := Lib.hid (pc_of hb HVV.out hVH)
            have HP2 := Lib.hid (pc_of hb hVH HVV.out)
            have hmono := lineF_mono HVV.out (hlh.trans HVV.out.1) HK.out.hi HOK.out.pipes
            obtain ⟨y1, y2⟩ := line_bd HOK.out HVV.out
            obtain ⟨y3, y4⟩ := line_bd HOK.out hVH
            clear hRdh hb hVH
            go_wp2_with fail
            have HC1 := impl_PackChange A Bq Al Ah _ c _ d cl ch N l hl wr (HN3.out.below HK.out.bl) rfl rfl hnc (HL3.out.below HK.out.bl) (by omega) HRH.out (by omega)
            rw [hlh] at HC1
            refine HC1.mono ?_
            rintro e w7 ⟨rfl, hb7⟩
            rw [HP1.out]
            have HR7 := Lib.hid (HRH.out.below hb7)
            have HB7 := Lib.hid (HK.out.bl.trans (hb7.mono hzv))
            clear cw7_0 cw7_1 fw7_0 fw7_1 hy7 HC1 hb7
            have HBv := HBX.out.below HB7.out hlt1
            have hy7 := HBv.lt; have cw7_0 := HBv.cell 0 rfl; have fw7_0 := HBv.frozen 0 rfl; have cw7_1 := HBv.cell 1 rfl; have fw7_1 := HBv.frozen 1 rfl
            clear HBv
            go_wp2_with fail
            have HC2 := impl_PackChange A Bq Ah Al _ c _ d ch cl N hl l w7 (HN3.out.below HB7.out) rfl rfl hnc HR7.out (by omega) (HL3.out.below HB7.out) (by omega)
            rw [hlh] at HC2
            refine HC2.mono ?_
            rintro e w8 ⟨rfl, hb8⟩
            rw [HP2.out]
            have HB8 := Lib.hid (HB7.out.trans (hb8.mono (by have := HB7.out.size; omega)))
            clear cw7_0 cw7_1 fw7_0 fw7_1 hy7 HC2 hb8
            generalize lineF hl N.pipes = Y at *
            have hT := List.take_length (l := N.pipes)
            rw [hT] at *
            generalize lineF l N.pipes = Z at *
            have k1 : (0 : Int) ≤ Y - Z := by omega
            have k2 : Z - Y = -(Y - Z) := by omega
            go_wp2
            go_ret
            exact ⟨rfl, by have h1 := HB8.out; have h2 := HB3.out; (repeat' (first | (with_reducible exact Below.refl _ _) | (with_reducible assumption) | (with_reducible refine Below.alloc ?_ ?_ _) | (with_reducible refine Below.drew ?_) | (with_reducible refine Below.drewN' ?_ _) | (with_reducible refine Below.setCell ?_ ?_ _) | (refine Below.via ?_ (by with_reducible assumption) ?_) | (with_reducible refine Below.via ?_ (Wd.h _) ?_) | go_size))⟩
  · have b1 : (code != 0) = true := by simp [e0]
    go_wp2
    go_ret
    exact ⟨rfl, by (repeat' (first | (with_reducible exact Below.refl _ _) | (with_reducible assumption) | (with_reducible refine Below.alloc ?_ ?_ _) | (with_reducible refine Below.drew ?_) | (with_reducible refine Below.drewN' ?_ _) | (with_reducible refine Below.setCell ?_ ?_ _) | (refine Below.via ?_ (by with_reducible assumption) ?_) | (with_reducible refine Below.via ?_ (Wd.h _) ?_) | go_size))⟩
end Go.Proofs.Ytkagnkecgkmpcaa

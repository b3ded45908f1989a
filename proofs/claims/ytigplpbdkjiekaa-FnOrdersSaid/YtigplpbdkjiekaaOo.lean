/- OrdersOf. -/
import Derived.Test.YtigplpbdkjiekaaNs
import Derived.Test.YtigplpbdkjiekaaAp2
import Derived.Deep.RegionHeld3
namespace Go.Proofs.Ytigplpbdkjiekaa
set_option linter.unusedVariables false
set_option linter.unusedSimpArgs false
open Go.RowKit
theorem info_OrdX : (Try.prog.info? 79).map (fun i => (i.zero, i.size, i.bytes)) = some (some (.agg #[.int .i64 0, .int .i64 0, .int .i64 0, .int .i64 0]), 4, 32) := by kernel_rfl
theorem _root_.Go.Calls.madeO {P : Program} {f : FuncId} {args : Array Value} {w : World} {s : Nat} {p : List Ord × Int} {RL : List Ord} {RC : Int} (h : Calls P f args w (MadeR w s p.1.length (p.1.flatMap Ord.cells) p.2)) (hp : p = (RL, RC)) : Calls P f args w (MadeR w s RL.length (RL.flatMap Ord.cells) RC) := by subst hp; exact h
theorem MadeR.nilO {w w' : World} {code c : Int} {s : Nat} {p : List Ord × Int} (hp : p = ([], c)) (hc : code = c) (hb : Below w.heap.size w w') : MadeR w s p.1.length (p.1.flatMap Ord.cells) p.2 (.returned (.tuple #[.slice none 0 0, .int .i64 code])) w' := by
  subst hp; subst hc
  exact ⟨none, 0, rfl, Nat.le_refl _, by simpa using Wr.nil w.heap.size w', hb⟩
theorem MadeR.ownO {w w' : World} {e : TypeId} {base n : Nat} {v : Value} {l : List Ord} {p : List Ord × Int} (hp : p = (l, 0)) (hl : l.length = n) (h : Own w' base e 4 v n (l.flatMap Ord.cells)) (hb0 : w.heap.size ≤ base) (hb : Below w.heap.size w w') : MadeR w 4 p.1.length (p.1.flatMap Ord.cells) p.2 (.returned (.tuple #[v, .int .i64 0])) w' := by
  subst hp; subst hl
  obtain ⟨B, c, rfl, hnc, hw⟩ := h.lt_
  exact ⟨B, c, rfl, hnc, hw.lower hb0, hb⟩
def oo1 (c : Ctr) (a : Int) : Ord := ⟨c.sh, c.en, a, c.cl⟩
def oo2 (c : Ctr) (a : Int) : Ord := ⟨c.sh, c.ex, -a, c.cl⟩
def ooF : List Ctr → List Int → List Ord
  | c :: cs, a :: xs => oo1 c a :: oo2 c a :: ooF cs xs
  | _, _ => []
theorem ooF_len : ∀ {lb : List Ctr} {am : List Int}, am.length = lb.length → (ooF lb am).length = 2 * lb.length
  | [], am, h => by simp [ooF]
  | c :: lb, a :: am, h => by
    have := ooF_len (lb := lb) (am := am) (by simpa using h)
    simp only [ooF, List.length_cons, this]; omega
theorem ooF_step {lb : List Ctr} {am : List Int} {k : Nat} {c : Ctr} {a : Int} (hc : lb[k]? = some c) (ha : am[k]? = some a) : ooF (lb.drop k) (am.drop k) = oo1 c a :: oo2 c a :: ooF (lb.drop (k + 1)) (am.drop (k + 1)) := by
  rw [drop_consI hc, drop_consI ha, ooF]
theorem ooF_end {lb : List Ctr} {am : List Int} {k : Nat} (h : ¬ k < lb.length) : ooF (lb.drop k) (am.drop k) = [] := by rw [drop_endI h]; simp [ooF]
noncomputable def ooR (N : Net) (lb : List Ctr) (ln : List Nom) (hr : Int) : List Ord × Int :=
  if (amR N lb ln hr).2 ≠ 0 then ([], (amR N lb ln hr).2) else if 20 < lb.length then ([], 7) else (ooF lb (amL lb ln hr), 0)
theorem ooR_len {N : Net} {lb : List Ctr} {ln : List Nom} {hr : Int} : (ooR N lb ln hr).1.length ≤ 1048576 := by
  unfold ooR; split
  · simp
  · split
    · simp
    · have := ooF_len (amL_len lb ln hr)
      simp only [this]; omega
set_option maxRecDepth 100000 in
set_option maxHeartbeats 4000000 in
theorem impl_OrdersOf (A B C D : Option Addr) (n c m d e f : Nat) (N : Net) (lb : List Ctr) (ln : List Nom) (hr : Int) (w : World) (hN : NetAt w A B N) (hn : n = N.nodes.length) (hm : m = N.pipes.length) (hc : n ≤ c) (h : Rd w C (lb.flatMap Ctr.cells)) (hl : lb.length ≤ 1048576) (h' : Rd w D (ln.flatMap Nom.cells)) (hl' : ln.length ≤ 1048576) :
    Calls Try.prog 19 #[netV A B n c m d, .slice C lb.length e, .slice D ln.length f, .int .i64 hr] w (MadeR w 4 (ooR N lb ln hr).1.length ((ooR N lb ln hr).1.flatMap Ord.cells) (ooR N lb ln hr).2) := by
  subst hn hm
  have HN := Lib.hid hN
  have HB := Lib.hid h
  have HM := Lib.hid h'
  have hln := hN.ln
  clear hN h h'
  rcases amR_cases N lb ln hr with ⟨cc, hcc, hea⟩ | ⟨h0, hea⟩
  · have HE := Lib.hid hea
    have b0 : (cc != 0) = true := by simp [hcc]
    have HR := Lib.hid (show ooR N lb ln hr = ([], cc) by rw [ooR, hea]; simp [hcc])
    clear hea hcc
    go_enter Try.func19, Try.ntmps19
    go_wp2_with fail
    
    refine (((impl_AmountsIn _ _ _ _ _ _ _ _ _ _ N lb ln hr _ (HN.out.below (by (repeat' (first | (with_reducible exact Below.refl _ _) | (with_reducible assumption) | (with_reducible refine Below.alloc ?_ ?_ _) | (with_reducible refine Below.drew ?_) | (with_reducible refine Below.drewN' ?_ _) | (with_reducible refine Below.setCell ?_ ?_ _) | (refine Below.via ?_ (by with_reducible assumption) ?_) | (with_reducible refine Below.via ?_ (Wd.h _) ?_) | go_size)))) rfl rfl hc (HB.out.below (by (repeat' (first | (with_reducible exact Below.refl _ _) | (with_reducible assumption) | (with_reducible refine Below.alloc ?_ ?_ _) | (with_reducible refine Below.drew ?_) | (with_reducible refine Below.drewN' ?_ _) | (with_reducible refine Below.setCell ?_ ?_ _) | (refine Below.via ?_ (by with_reducible assumption) ?_) | (with_reducible refine Below.via ?_ (Wd.h _) ?_) | go_size)))) hl (HM.out.below (by (repeat' (first | (with_reducible exact Below.refl _ _) | (with_reducible assumption) | (with_reducible refine Below.alloc ?_ ?_ _) | (with_reducible refine Below.drew ?_) | (with_reducible refine Below.drewN' ?_ _) | (with_reducible refine Below.setCell ?_ ?_ _) | (refine Below.via ?_ (by with_reducible assumption) ?_) | (with_reducible refine Below.via ?_ (Wd.h _) ?_) | go_size)))) hl')).made HE.out).mono ?_
    rintro e w1 ⟨G, c1, rfl, hc1, hW1, hb1⟩
    clear hW1
    go_wp2
    go_ret2
    exact MadeR.nilO HR.out rfl (by (repeat' (first | (with_reducible exact Below.refl _ _) | (with_reducible assumption) | (with_reducible refine Below.alloc ?_ ?_ _) | (with_reducible refine Below.drew ?_) | (with_reducible refine Below.drewN' ?_ _) | (with_reducible refine Below.setCell ?_ ?_ _) | (refine Below.via ?_ (by with_reducible assumption) ?_) | (with_reducible refine Below.via ?_ (Wd.h _) ?_) | go_size)))
  obtain ⟨am, ham⟩ : ∃ am, am = amL lb ln hr := ⟨_, rfl⟩
  have HE := Lib.hid (show amR N lb ln hr = (am, 0) by rw [ham]; exact hea)
  have HBA := Lib.hid (show ∀ y ∈ am, 0 ≤ y ∧ y ≤ 30000 by rw [ham]; exact amL_bd h0)
  have la1 : am.length ≤ lb.length := by rw [ham, amL_len]; omega
  have la2 : lb.length ≤ am.length := by rw [ham, amL_len]; omega
  have h32 := (book_of (noms_of h0).1).2.1
  have HRS := Lib.hid (show ooR N lb ln hr = (if 20 < lb.length then ([], 7) else (ooF lb am, 0)) by rw [ooR, hea, ham]; simp)
  clear h0 hea ham
  by_cases h20 : 20 < lb.length
  · have HR := Lib.hid (show ooR N lb ln hr = ([], 7) by rw [HRS.out, if_pos h20])
    go_enter Try.func19, Try.ntmps19
    go_wp2_with fail
    
    refine (((impl_AmountsIn _ _ _ _ _ _ _ _ _ _ N lb ln hr _ (HN.out.below (by (repeat' (first | (with_reducible exact Below.refl _ _) | (with_reducible assumption) | (with_reducible refine Below.alloc ?_ ?_ _) | (with_reducible refine Below.drew ?_) | (with_reducible refine Below.drewN' ?_ _) | (with_reducible refine Below.setCell ?_ ?_ _) | (refine Below.via ?_ (by with_reducible assumption) ?_) | (with_reducible refine Below.via ?_ (Wd.h _) ?_) | go_size)))) rfl rfl hc (HB.out.below (by (repeat' (first | (with_reducible exact Below.refl _ _) | (with_reducible assumption) | (with_reducible refine Below.alloc ?_ ?_ _) | (with_reducible refine Below.drew ?_) | (with_reducible refine Below.drewN' ?_ _) | (with_reducible refine Below.setCell ?_ ?_ _) | (refine Below.via ?_ (by with_reducible assumption) ?_) | (with_reducible refine Below.via ?_ (Wd.h _) ?_) | go_size)))) hl (HM.out.below (by (repeat' (first | (with_reducible exact Below.refl _ _) | (with_reducible assumption) | (with_reducible refine Below.alloc ?_ ?_ _) | (with_reducible refine Below.drew ?_) | (with_reducible refine Below.drewN' ?_ _) | (with_reducible refine Below.setCell ?_ ?_ _) | (refine Below.via ?_ (by with_reducible assumption) ?_) | (with_reducible refine Below.via ?_ (Wd.h _) ?_) | go_size)))) hl')).made HE.out).mono ?_
    rintro e w1 ⟨G, c1, rfl, hc1, hW1, hb1⟩
    clear hW1
    go_wp2
    go_ret2
    exact MadeR.nilO HR.out rfl (by (repeat' (first | (with_reducible exact Below.refl _ _) | (with_reducible assumption) | (with_reducible refine Below.alloc ?_ ?_ _) | (with_reducible refine Below.drew ?_) | (with_reducible refine Below.drewN' ?_ _) | (with_reducible refine Below.setCell ?_ ?_ _) | (refine Below.via ?_ (by with_reducible assumption) ?_) | (with_reducible refine Below.via ?_ (Wd.h _) ?_) | go_size)))
  have HR := Lib.hid (show ooR N lb ln hr = (ooF lb am, 0) by rw [HRS.out, if_neg h20])
  go_enter Try.func19, Try.ntmps19
  go_wp2_with fail
  
  refine (((impl_AmountsIn _ _ _ _ _ _ _ _ _ _ N lb ln hr _ (HN.out.below (by (repeat' (first | (with_reducible exact Below.refl _ _) | (with_reducible assumption) | (with_reducible refine Below.alloc ?_ ?_ _) | (with_reducible refine Below.drew ?_) | (with_reducible refine Below.drewN' ?_ _) | (with_reducible refine Below.setCell ?_ ?_ _) | (refine Below.via ?_ (by with_reducible assumption) ?_) | (with_reducible refine Below.via ?_ (Wd.h _) ?_) | go_size)))) rfl rfl hc (HB.out.below (by (repeat' (first | (with_reducible exact Below.refl _ _) | (with_reducible assumption) | (with_reducible refine Below.alloc ?_ ?_ _) | (with_reducible refine Below.drew ?_) | (with_reducible refine Below.drewN' ?_ _) | (with_reducible refine Below.setCell ?_ ?_ _) | (refine Below.via ?_ (by with_reducible assumption) ?_) | (with_reducible refine Below.via ?_ (Wd.h _) ?_) | go_size)))) hl (HM.out.below (by (repeat' (first | (with_reducible exact Below.refl _ _) | (with_reducible assumption) | (with_reducible refine Below.alloc ?_ ?_ _) | (with_reducible refine Below.drew ?_) | (with_reducible refine Below.drewN' ?_ _) | (with_reducible refine Below.setCell ?_ ?_ _) | (refine Below.via ?_ (by with_reducible assumption) ?_) | (with_reducible refine Below.via ?_ (Wd.h _) ?_) | go_size)))) hl')).made HE.out).mono ?_
  rintro e w1 ⟨G, c1, rfl, hc1, hW1, hb1⟩
  have HAr := Lib.hid hW1.rd
  clear hW1
  have hb1' : Below w.heap.size w w1 := by (repeat' (first | (with_reducible exact Below.refl _ _) | (with_reducible assumption) | (with_reducible refine Below.alloc ?_ ?_ _) | (with_reducible refine Below.drew ?_) | (with_reducible refine Below.drewN' ?_ _) | (with_reducible refine Below.setCell ?_ ?_ _) | (refine Below.via ?_ (by with_reducible assumption) ?_) | (with_reducible refine Below.via ?_ (Wd.h _) ?_) | go_size))
  have HB1 := Lib.hid hb1'
  have hzz : w.heap.size ≤ w1.heap.size := hb1'.size
  go_wp2_with fail
  clear hb1 hb1'
  go_loopw [12, 32] (fun u v wr => ∃ (k : Nat) (acc : List Ord), k ≤ lb.length ∧ v = .int .i64 k ∧ acc.length = 2 * k ∧ acc ++ ooF (lb.drop k) (am.drop k) = ooF lb am ∧ Own wr w1.heap.size 79 4 u (2 * k) (acc.flatMap Ord.cells) ∧ Below w1.heap.size w1 wr) (fun _ v _ => lb.length - (intOf v).toNat)
  case atStart => exact ⟨0, [], by omega, rfl, by simp, by simp, by simpa using Own.nil w1 w1.heap.size 79 4, by (repeat' (first | (with_reducible exact Below.refl _ _) | (with_reducible assumption) | (with_reducible refine Below.alloc ?_ ?_ _) | (with_reducible refine Below.drew ?_) | (with_reducible refine Below.drewN' ?_ _) | (with_reducible refine Below.setCell ?_ ?_ _) | (refine Below.via ?_ (by with_reducible assumption) ?_) | (with_reducible refine Below.via ?_ (Wd.h _) ?_) | go_size))⟩
  case round =>
    obtain ⟨k, acc, hk, rfl, hal, hF, hO, hbw1⟩ := hrel
    have hbH1 := Lib.hid hbw1
    have hbw : Below w.heap.size w wr := Below.via HB1.out hbw1 (by omega)
    have hbH := Lib.hid hbw
    have HF := Lib.hid hF
    have HOW := Lib.hid hO
    have HAL := Lib.hid hal
    have hzr1 := hbw1.size
    clear hF hO hal
    by_cases hlt : k < lb.length
    · obtain ⟨fv, hfv⟩ := get_some (show k < am.length by omega)
      obtain ⟨b2, off2, rfl, hb2, hat2⟩ := HAr.out.opened (k := k) (by simp; omega)
      obtain ⟨x, hx⟩ := get_some hlt; obtain ⟨bx, offx, rfl, hbx, hat⟩ := HB.out.opened (k := k) (by rw [flat_len Ctr.len]; omega); have hat' := hat.below hbw hbx; have hybx : bx < wr.heap.size := Nat.lt_of_lt_of_le hbx hbw.size; have hzw := hbw.size; have t0 := hat'.elem0 Ctr.len hx rfl; have t1 := hat'.elem Ctr.len hx 1 rfl; have t2 := hat'.elem Ctr.len hx 2 rfl; have t3 := hat'.elem Ctr.len hx 3 rfl; have t4 := hat'.elem Ctr.len hx 4 rfl; have t5 := hat'.elem Ctr.len hx 5 rfl; have t6 := hat'.elem Ctr.len hx 6 rfl; have t7 := hat'.elem Ctr.len hx 7 rfl; have HX := Lib.hid hx; have HD := Lib.hid (drop_cons hx); have gx : (k : Int) < _ := Int.ofNat_lt.2 hlt; clear hx hat hat'
      have t9 := ints_at (hat2.below hbw1 hb2) hfv
      have hyb2 : b2 < wr.heap.size := by omega
      obtain ⟨f1, f2⟩ := HBA.out fv (List.mem_of_getElem? hfv)
      have HST := Lib.hid (ooF_step HX.out hfv)
      have g6 : (k : Int) < am.length := by omega
      clear hbw hbw1 hfv hat2
      go_wp2_with fail
      generalize hW : World.alloc wr _ = wq
      have hbq : Below wr.heap.size wr wq := by rw [← hW]; (repeat' (first | (with_reducible exact Below.refl _ _) | (with_reducible assumption) | (with_reducible refine Below.alloc ?_ ?_ _) | (with_reducible refine Below.drew ?_) | (with_reducible refine Below.drewN' ?_ _) | (with_reducible refine Below.setCell ?_ ?_ _) | (refine Below.via ?_ (by with_reducible assumption) ?_) | (with_reducible refine Below.via ?_ (Wd.h _) ?_) | go_size))
      have hzq : wr.heap.size < wq.heap.size := by rw [← hW]; simp
      have hzq2 : wq.heap.size = wr.heap.size + 1 := by rw [← hW]; simp
      have r0 : wq.cell? ⟨wr.heap.size, 0, none⟩ = some (.int .i64 x.sh) := by rw [← hW]; simp
      have r1 : wq.cell? ⟨wr.heap.size, 1, none⟩ = some (.int .i64 x.en) := by rw [← hW]; simp
      have r2 : wq.cell? ⟨wr.heap.size, 2, none⟩ = some (.int .i64 x.ex) := by rw [← hW]; simp
      have r4 : wq.cell? ⟨wr.heap.size, 4, none⟩ = some (.int .i64 x.cl) := by rw [← hW]; simp
      have r9 := bc hbq hyb2 t9
      have HOQ := Lib.hid (HOW.out.below hbq (Nat.le_refl _))
      have hyq9 : b2 < wq.heap.size := by omega
      have HN1 := HOW.out.ne (b := wr.heap.size) (.inr (Nat.le_refl _))
      have z1 : IntKind.i64.wrap (-fv) = -fv := IntWalk.i64_in _ (by omega)
      have HZ2 := Lib.hid hzq2
      clear hW t0 t1 t2 t3 t4 t5 t6 t7 t9 hzq2
      go_region_held3 (fun w' => w'.cell? ⟨wr.heap.size, 0, none⟩ = some (.int .i64 x.sh) ∧ w'.cell? ⟨wr.heap.size, 1, none⟩ = some (.int .i64 x.en) ∧ w'.cell? ⟨wr.heap.size, 2, none⟩ = some (.int .i64 x.ex) ∧ w'.cell? ⟨wr.heap.size, 4, none⟩ = some (.int .i64 x.cl) ∧ w'.cell? ⟨b2, off2 + k, none⟩ = some (.int .i64 fv))
        (first | exact ⟨r0, r1, r2, r4, r9⟩ | go_keep)
        (first
          | (apply step_of rfl; refine app1x _ (.tmp 37) (.tmp 61) 47 rfl w1.heap.size info_OrdX Try.underlying47 rfl (by decide) (by decide) u12 (2 * k) (acc.flatMap Ord.cells) rfl ?own _ 2 2 ((oo1 x fv).cells ++ (oo2 x fv).cells) rfl rfl ?hnews ?h1 (by decide) ?hn ?hbase ?hfin; (case own => (repeat' (first | (with_reducible exact HOQ.out) | (with_reducible refine Own.alloc ?_ _) | (with_reducible refine Own.drew ?_)))); (case hnews => (intro j u hu; match j, hu with | 0, hu => (simp [oo1, oo2, Ord.cells] at hu; subst hu; simp) | 1, hu => (simp [oo1, oo2, Ord.cells] at hu; subst hu; simp) | 2, hu => (simp [oo1, oo2, Ord.cells] at hu; subst hu; simp) | 3, hu => (simp [oo1, oo2, Ord.cells] at hu; subst hu; simp) | 4, hu => (simp [oo1, oo2, Ord.cells] at hu; subst hu; simp) | 5, hu => (simp [oo1, oo2, Ord.cells] at hu; subst hu; simp) | 6, hu => (simp [oo1, oo2, Ord.cells] at hu; subst hu; simp) | 7, hu => (simp [oo1, oo2, Ord.cells] at hu; subst hu; simp) | j + 8, hu => simp [oo1, oo2, Ord.cells] at hu)); (case h1 => (simp [oo1, oo2, Ord.cells, Value.oneCell'])); (case hn => (clear z1; omega)); (case hbase => (clear z1; first | omega | (simp; omega))); intro v1 w2 hO1 hb1 hF1; have HO1 := Lib.hid hO1; (replace r0 : w2.cell? ⟨wr.heap.size, 0, none⟩ = some (.int .i64 x.sh) := (hF1.cell (by clear z1; first | omega | (simp; omega)) HN1).trans (by simp [go_sem, r0, hzq]); replace r1 : w2.cell? ⟨wr.heap.size, 1, none⟩ = some (.int .i64 x.en) := (hF1.cell (by clear z1; first | omega | (simp; omega)) HN1).trans (by simp [go_sem, r1, hzq]); replace r2 : w2.cell? ⟨wr.heap.size, 2, none⟩ = some (.int .i64 x.ex) := (hF1.cell (by clear z1; first | omega | (simp; omega)) HN1).trans (by simp [go_sem, r2, hzq]); replace r4 : w2.cell? ⟨wr.heap.size, 4, none⟩ = some (.int .i64 x.cl) := (hF1.cell (by clear z1; first | omega | (simp; omega)) HN1).trans (by simp [go_sem, r4, hzq]); replace r9 : w2.cell? ⟨b2, off2 + k, none⟩ = some (.int .i64 fv) := bc hb1 hb2 (by simp [go_sem, r9, hyq9]); clear hO1)))
      all_goals
        clear z1
        go_wp2
        go_roundw
        case rel =>
          refine ⟨k + 1, acc ++ [oo1 x fv, oo2 x fv], by omega, by go_num, by rw [List.length_append, HAL.out]; simp; omega, ?_, ?_, ?_⟩
          · rw [← HF.out, HST.out]; simp
          · rw [List.flatMap_append]
            have := HO1.out
            rw [show 2 * (k + 1) = 2 * k + 2 by omega]
            simpa using this
          · have h1 := hbH1.out
            (repeat' (first | (with_reducible exact Below.refl _ _) | (with_reducible assumption) | (with_reducible refine Below.alloc ?_ ?_ _) | (with_reducible refine Below.drew ?_) | (with_reducible refine Below.drewN' ?_ _) | (with_reducible refine Below.setCell ?_ ?_ _) | (refine Below.via ?_ (by with_reducible assumption) ?_) | (with_reducible refine Below.via ?_ (Wd.h _) ?_) | go_size))
        case measure => simp [intOf]; omega
    · clear hbw hbw1
      go_wp2
      go_ret2
      refine MadeR.ownO (l := acc) ?_ ?_ HOW.out hzz hbH.out
      · rw [HR.out, ← HF.out, ooF_end hlt]; simp
      · exact HAL.out
set_option maxRecDepth 100000 in
set_option maxHeartbeats 4000000 in
theorem spec_l22Orders (C G : Option Addr) (e f : Nat) (lb : List Ctr) (am : List Int) (w : World) (h : Rd w C (lb.flatMap Ctr.cells)) (h32 : lb.length ≤ 32) (hg : Rd w G (am.map iV)) (hla : am.length = lb.length) (hba : ∀ y ∈ am, 0 ≤ y ∧ y ≤ 30000) :
    Calls Try.prog 52 #[.slice C lb.length e, .slice G am.length f] w (MadeL w 4 (ooF lb am).length ((ooF lb am).flatMap Ord.cells)) := by
  have HB := Lib.hid h
  have HAr := Lib.hid hg
  have HBA := Lib.hid hba
  have la1 : am.length ≤ lb.length := by omega
  have la2 : lb.length ≤ am.length := by omega
  clear h hg hla hba
  go_enter Try.func52, Try.ntmps52
  go_wp2
  go_loopw [5, 6] (fun u v wr => ∃ (k : Nat) (acc : List Ord), k ≤ lb.length ∧ v = .int .i64 k ∧ acc.length = 2 * k ∧ acc ++ ooF (lb.drop k) (am.drop k) = ooF lb am ∧ Own wr w.heap.size 79 4 u (2 * k) (acc.flatMap Ord.cells) ∧ Below w.heap.size w wr) (fun _ v _ => lb.length - (intOf v).toNat)
  case atStart => exact ⟨0, [], by omega, rfl, by simp, by simp, by simpa using Own.lit0 w w.heap.size 79 4 (Nat.le_refl _), by (repeat' (first | (with_reducible exact Below.refl _ _) | (with_reducible assumption) | (with_reducible refine Below.alloc ?_ ?_ _) | (with_reducible refine Below.drew ?_) | (with_reducible refine Below.drewN' ?_ _) | (with_reducible refine Below.setCell ?_ ?_ _) | (refine Below.via ?_ (by with_reducible assumption) ?_) | (with_reducible refine Below.via ?_ (Wd.h _) ?_) | go_size))⟩
  case round =>
    obtain ⟨k, acc, hk, rfl, hal, hF, hO, hbw⟩ := hrel
    have hbH := Lib.hid hbw
    have HF := Lib.hid hF
    have HOW := Lib.hid hO
    have HAL := Lib.hid hal
    have hzr1 := hbw.size
    clear hF hO hal
    by_cases hlt : k < lb.length
    · obtain ⟨fv, hfv⟩ := get_some (show k < am.length by omega)
      obtain ⟨b2, off2, rfl, hb2, hat2⟩ := HAr.out.opened (k := k) (by simp; omega)
      obtain ⟨x, hx⟩ := get_some hlt; obtain ⟨bx, offx, rfl, hbx, hat⟩ := HB.out.opened (k := k) (by rw [flat_len Ctr.len]; omega); have hat' := hat.below hbw hbx; have hybx : bx < wr.heap.size := Nat.lt_of_lt_of_le hbx hbw.size; have hzw := hbw.size; have t0 := hat'.elem0 Ctr.len hx rfl; have t1 := hat'.elem Ctr.len hx 1 rfl; have t2 := hat'.elem Ctr.len hx 2 rfl; have t3 := hat'.elem Ctr.len hx 3 rfl; have t4 := hat'.elem Ctr.len hx 4 rfl; have t5 := hat'.elem Ctr.len hx 5 rfl; have t6 := hat'.elem Ctr.len hx 6 rfl; have t7 := hat'.elem Ctr.len hx 7 rfl; have HX := Lib.hid hx; have HD := Lib.hid (drop_cons hx); have gx : (k : Int) < _ := Int.ofNat_lt.2 hlt; clear hx hat hat'
      have t9 := ints_at (hat2.below hbw hb2) hfv
      have hyb2 : b2 < wr.heap.size := by omega
      obtain ⟨f1, f2⟩ := HBA.out fv (List.mem_of_getElem? hfv)
      have HST := Lib.hid (ooF_step HX.out hfv)
      have g6 : (k : Int) < am.length := by omega
      clear hbw hfv hat2
      go_wp2_with fail
      generalize hW : World.alloc wr _ = wq
      have hbq : Below wr.heap.size wr wq := by rw [← hW]; (repeat' (first | (with_reducible exact Below.refl _ _) | (with_reducible assumption) | (with_reducible refine Below.alloc ?_ ?_ _) | (with_reducible refine Below.drew ?_) | (with_reducible refine Below.drewN' ?_ _) | (with_reducible refine Below.setCell ?_ ?_ _) | (refine Below.via ?_ (by with_reducible assumption) ?_) | (with_reducible refine Below.via ?_ (Wd.h _) ?_) | go_size))
      have hzq : wr.heap.size < wq.heap.size := by rw [← hW]; simp
      have r0 : wq.cell? ⟨wr.heap.size, 0, none⟩ = some (.int .i64 x.sh) := by rw [← hW]; simp
      have r1 : wq.cell? ⟨wr.heap.size, 1, none⟩ = some (.int .i64 x.en) := by rw [← hW]; simp
      have r2 : wq.cell? ⟨wr.heap.size, 2, none⟩ = some (.int .i64 x.ex) := by rw [← hW]; simp
      have r4 : wq.cell? ⟨wr.heap.size, 4, none⟩ = some (.int .i64 x.cl) := by rw [← hW]; simp
      have r9 := bc hbq hyb2 t9
      have HOQ := Lib.hid (HOW.out.below hbq (Nat.le_refl _))
      have hyq9 : b2 < wq.heap.size := by omega
      have HN1 := HOW.out.ne (b := wr.heap.size) (.inr (Nat.le_refl _))
      clear hW t0 t1 t2 t3 t4 t5 t6 t7 t9
      go_region_held3 (fun w' => w'.cell? ⟨wr.heap.size, 0, none⟩ = some (.int .i64 x.sh) ∧ w'.cell? ⟨wr.heap.size, 1, none⟩ = some (.int .i64 x.en) ∧ w'.cell? ⟨wr.heap.size, 2, none⟩ = some (.int .i64 x.ex) ∧ w'.cell? ⟨wr.heap.size, 4, none⟩ = some (.int .i64 x.cl) ∧ w'.cell? ⟨b2, off2 + k, none⟩ = some (.int .i64 fv))
        (first | exact ⟨r0, r1, r2, r4, r9⟩ | go_keep)
        (first
          | (apply step_of rfl; refine app1x _ (.tmp 19) (.tmp 31) 47 rfl w.heap.size info_OrdX Try.underlying47 rfl (by decide) (by decide) u5 (2 * k) (acc.flatMap Ord.cells) rfl ?own _ 1 1 ((oo1 x fv).cells) rfl rfl ?hnews ?h1 (by decide) ?hn ?hbase ?hfin; (case own => (repeat' (first | (with_reducible exact HOQ.out) | (with_reducible refine Own.alloc ?_ _) | (with_reducible refine Own.drew ?_)))); (case hnews => (intro j u hu; match j, hu with | 0, hu => (simp [oo1, oo2, Ord.cells] at hu; subst hu; first | done | simp) | 1, hu => (simp [oo1, oo2, Ord.cells] at hu; subst hu; first | done | simp) | 2, hu => (simp [oo1, oo2, Ord.cells] at hu; subst hu; first | done | simp) | 3, hu => (simp [oo1, oo2, Ord.cells] at hu; subst hu; first | done | simp) | j + 4, hu => simp [oo1, oo2, Ord.cells] at hu)); (case h1 => (simp [oo1, oo2, Ord.cells, Value.oneCell'])); (case hn => (omega)); (case hbase => (first | omega | (simp <;> omega))); intro v1 w2 hO1 hb1 hF1; have HO1 := Lib.hid hO1; replace r0 : w2.cell? ⟨wr.heap.size, 0, none⟩ = some (.int .i64 x.sh) := (hF1.cell (by first | omega | (simp <;> omega)) HN1).trans (by simp [go_sem, r0, hzq]); replace r1 : w2.cell? ⟨wr.heap.size, 1, none⟩ = some (.int .i64 x.en) := (hF1.cell (by first | omega | (simp <;> omega)) HN1).trans (by simp [go_sem, r1, hzq]); replace r2 : w2.cell? ⟨wr.heap.size, 2, none⟩ = some (.int .i64 x.ex) := (hF1.cell (by first | omega | (simp <;> omega)) HN1).trans (by simp [go_sem, r2, hzq]); replace r4 : w2.cell? ⟨wr.heap.size, 4, none⟩ = some (.int .i64 x.cl) := (hF1.cell (by first | omega | (simp <;> omega)) HN1).trans (by simp [go_sem, r4, hzq]); replace r9 : w2.cell? ⟨b2, off2 + k, none⟩ = some (.int .i64 fv) := bc hb1 hb2 (by simp [go_sem, r9, hyq9]); clear hO1))
      all_goals
        have hz2 := hb1.size
        (try simp at hz2)
        have hy2 : wr.heap.size < w2.heap.size := by omega
        have hy29 : b2 < w2.heap.size := by omega
        have HN2 : v1.ownBlock ≠ some wr.heap.size := fun hv => (by rcases hF1.lie _ hv with q | q
                                                                    · exact HN1 q
                                                                    · (try simp at q); omega)
        have z1 : IntKind.i64.wrap (-fv) = -fv := IntWalk.i64_in _ (by omega)
        go_wp2_with fail
        go_region_held3 (fun w' => w'.cell? ⟨wr.heap.size, 0, none⟩ = some (.int .i64 x.sh) ∧ w'.cell? ⟨wr.heap.size, 1, none⟩ = some (.int .i64 x.en) ∧ w'.cell? ⟨wr.heap.size, 2, none⟩ = some (.int .i64 x.ex) ∧ w'.cell? ⟨wr.heap.size, 4, none⟩ = some (.int .i64 x.cl) ∧ w'.cell? ⟨b2, off2 + k, none⟩ = some (.int .i64 fv))
          (first | exact ⟨r0, r1, r2, r4, r9⟩ | go_keep)
          (first
            | (apply step_of rfl; refine app1x _ (.tmp 33) (.tmp 46) 47 rfl w.heap.size info_OrdX Try.underlying47 rfl (by decide) (by decide) v1 (2 * k + 1) (acc.flatMap Ord.cells ++ (oo1 x fv).cells) rfl ?ownB _ 1 1 ((oo2 x fv).cells) rfl rfl ?hnewsB ?h1B (by decide) ?hnB ?hbaseB ?hfinB; (case ownB => (repeat' (first | (with_reducible exact HO1.out) | (with_reducible refine Own.alloc ?_ _) | (with_reducible refine Own.drew ?_)))); (case hnewsB => (intro j u hu; match j, hu with | 0, hu => (simp [oo1, oo2, Ord.cells] at hu; subst hu; first | done | simp) | 1, hu => (simp [oo1, oo2, Ord.cells] at hu; subst hu; first | done | simp) | 2, hu => (simp [oo1, oo2, Ord.cells] at hu; subst hu; first | done | simp) | 3, hu => (simp [oo1, oo2, Ord.cells] at hu; subst hu; first | done | simp) | j + 4, hu => simp [oo1, oo2, Ord.cells] at hu)); (case h1B => (simp [oo1, oo2, Ord.cells, Value.oneCell'])); (case hnB => (clear z1; omega)); (case hbaseB => (clear z1; first | omega | (simp <;> omega))); intro v2 w3 hO2 hb3 hF2; have HO2 := Lib.hid hO2; replace r0 : w3.cell? ⟨wr.heap.size, 0, none⟩ = some (.int .i64 x.sh) := (hF2.cell (by clear z1; first | omega | (simp <;> omega)) HN2).trans (by simp [go_sem, r0, hy2]); replace r1 : w3.cell? ⟨wr.heap.size, 1, none⟩ = some (.int .i64 x.en) := (hF2.cell (by clear z1; first | omega | (simp <;> omega)) HN2).trans (by simp [go_sem, r1, hy2]); replace r2 : w3.cell? ⟨wr.heap.size, 2, none⟩ = some (.int .i64 x.ex) := (hF2.cell (by clear z1; first | omega | (simp <;> omega)) HN2).trans (by simp [go_sem, r2, hy2]); replace r4 : w3.cell? ⟨wr.heap.size, 4, none⟩ = some (.int .i64 x.cl) := (hF2.cell (by clear z1; first | omega | (simp <;> omega)) HN2).trans (by simp [go_sem, r4, hy2]); replace r9 : w3.cell? ⟨b2, off2 + k, none⟩ = some (.int .i64 fv) := bc hb3 hb2 (by simp [go_sem, r9, hy29]); clear hO2))
        all_goals
          clear z1
          go_wp2
          go_roundw
          case rel =>
            refine ⟨k + 1, acc ++ [oo1 x fv, oo2 x fv], by omega, by go_num, by rw [List.length_append, HAL.out]; simp; omega, ?_, ?_, ?_⟩
            · rw [← HF.out, HST.out]; simp
            · rw [List.flatMap_append]
              have := HO2.out
              rw [show 2 * (k + 1) = 2 * k + 1 + 1 by omega]
              simpa using this
            · have h1 := hbH.out
              (repeat' (first | (with_reducible exact Below.refl _ _) | (with_reducible assumption) | (with_reducible refine Below.alloc ?_ ?_ _) | (with_reducible refine Below.drew ?_) | (with_reducible refine Below.drewN' ?_ _) | (with_reducible refine Below.setCell ?_ ?_ _) | (refine Below.via ?_ (by with_reducible assumption) ?_) | (with_reducible refine Below.via ?_ (Wd.h _) ?_) | go_size))
          case measure => simp [intOf]; omega
    · clear hbw
      have HE := Lib.hid (show acc = ooF lb am by rw [← HF.out, ooF_end hlt]; simp)
      go_wp2
      go_ret
      obtain ⟨B1, cc, rfl, hnc, hw⟩ := HOW.out.lt_
      rw [← HE.out, HAL.out]
      exact ⟨B1, cc, rfl, hnc, hw, hbH.out⟩
set_option maxRecDepth 100000 in
set_option maxHeartbeats 4000000 in
theorem spec_OrdersOf (A B C D : Option Addr) (n c m d e f : Nat) (N : Net) (lb : List Ctr) (ln : List Nom) (hr : Int) (w : World) (hN : NetAt w A B N) (hn : n = N.nodes.length) (hm : m = N.pipes.length) (h : Rd w C (lb.flatMap Ctr.cells)) (hl : lb.length ≤ 1048576) (h' : Rd w D (ln.flatMap Nom.cells)) (hl' : ln.length ≤ 1048576) :
    Calls Try.prog 20 #[netV A B n c m d, .slice C lb.length e, .slice D ln.length f, .int .i64 hr] w (MadeR w 4 (ooR N lb ln hr).1.length ((ooR N lb ln hr).1.flatMap Ord.cells) (ooR N lb ln hr).2) := by
  subst hn hm
  have HN := Lib.hid hN
  have HB := Lib.hid h
  have HM := Lib.hid h'
  have hln := hN.ln
  clear hN h h'
  rcases amR_cases N lb ln hr with ⟨cc, hcc, hea⟩ | ⟨h0, hea⟩
  · have HE := Lib.hid hea
    have b0 : (cc != 0) = true := by simp [hcc]
    have HR := Lib.hid (show ooR N lb ln hr = ([], cc) by rw [ooR, hea]; simp [hcc])
    clear hea hcc
    go_enter Try.func20, Try.ntmps20
    go_wp2_with fail
    
    refine (((spec_AmountsIn _ _ _ _ _ _ _ _ _ _ N lb ln hr _ (HN.out.below (by (repeat' (first | (with_reducible exact Below.refl _ _) | (with_reducible assumption) | (with_reducible refine Below.alloc ?_ ?_ _) | (with_reducible refine Below.drew ?_) | (with_reducible refine Below.drewN' ?_ _) | (with_reducible refine Below.setCell ?_ ?_ _) | (refine Below.via ?_ (by with_reducible assumption) ?_) | (with_reducible refine Below.via ?_ (Wd.h _) ?_) | go_size)))) rfl rfl (HB.out.below (by (repeat' (first | (with_reducible exact Below.refl _ _) | (with_reducible assumption) | (with_reducible refine Below.alloc ?_ ?_ _) | (with_reducible refine Below.drew ?_) | (with_reducible refine Below.drewN' ?_ _) | (with_reducible refine Below.setCell ?_ ?_ _) | (refine Below.via ?_ (by with_reducible assumption) ?_) | (with_reducible refine Below.via ?_ (Wd.h _) ?_) | go_size)))) hl (HM.out.below (by (repeat' (first | (with_reducible exact Below.refl _ _) | (with_reducible assumption) | (with_reducible refine Below.alloc ?_ ?_ _) | (with_reducible refine Below.drew ?_) | (with_reducible refine Below.drewN' ?_ _) | (with_reducible refine Below.setCell ?_ ?_ _) | (refine Below.via ?_ (by with_reducible assumption) ?_) | (with_reducible refine Below.via ?_ (Wd.h _) ?_) | go_size)))) hl')).made HE.out).mono ?_
    rintro e w1 ⟨G, c1, rfl, hc1, hW1, hb1⟩
    clear hW1
    go_wp2
    go_ret2
    exact MadeR.nilO HR.out rfl (by (repeat' (first | (with_reducible exact Below.refl _ _) | (with_reducible assumption) | (with_reducible refine Below.alloc ?_ ?_ _) | (with_reducible refine Below.drew ?_) | (with_reducible refine Below.drewN' ?_ _) | (with_reducible refine Below.setCell ?_ ?_ _) | (refine Below.via ?_ (by with_reducible assumption) ?_) | (with_reducible refine Below.via ?_ (Wd.h _) ?_) | go_size)))
  obtain ⟨am, ham⟩ : ∃ am, am = amL lb ln hr := ⟨_, rfl⟩
  have HE := Lib.hid (show amR N lb ln hr = (am, 0) by rw [ham]; exact hea)
  have HBA := Lib.hid (show ∀ y ∈ am, 0 ≤ y ∧ y ≤ 30000 by rw [ham]; exact amL_bd h0)
  have HLA := Lib.hid (show am.length = lb.length by rw [ham, amL_len])
  have h32 := (book_of (noms_of h0).1).2.1
  have HRS := Lib.hid (show ooR N lb ln hr = (if 20 < lb.length then ([], 7) else (ooF lb am, 0)) by rw [ooR, hea, ham]; simp)
  clear h0 hea ham
  by_cases h20 : 20 < lb.length
  · have HR := Lib.hid (show ooR N lb ln hr = ([], 7) by rw [HRS.out, if_pos h20])
    go_enter Try.func20, Try.ntmps20
    go_wp2_with fail
    
    refine (((spec_AmountsIn _ _ _ _ _ _ _ _ _ _ N lb ln hr _ (HN.out.below (by (repeat' (first | (with_reducible exact Below.refl _ _) | (with_reducible assumption) | (with_reducible refine Below.alloc ?_ ?_ _) | (with_reducible refine Below.drew ?_) | (with_reducible refine Below.drewN' ?_ _) | (with_reducible refine Below.setCell ?_ ?_ _) | (refine Below.via ?_ (by with_reducible assumption) ?_) | (with_reducible refine Below.via ?_ (Wd.h _) ?_) | go_size)))) rfl rfl (HB.out.below (by (repeat' (first | (with_reducible exact Below.refl _ _) | (with_reducible assumption) | (with_reducible refine Below.alloc ?_ ?_ _) | (with_reducible refine Below.drew ?_) | (with_reducible refine Below.drewN' ?_ _) | (with_reducible refine Below.setCell ?_ ?_ _) | (refine Below.via ?_ (by with_reducible assumption) ?_) | (with_reducible refine Below.via ?_ (Wd.h _) ?_) | go_size)))) hl (HM.out.below (by (repeat' (first | (with_reducible exact Below.refl _ _) | (with_reducible assumption) | (with_reducible refine Below.alloc ?_ ?_ _) | (with_reducible refine Below.drew ?_) | (with_reducible refine Below.drewN' ?_ _) | (with_reducible refine Below.setCell ?_ ?_ _) | (refine Below.via ?_ (by with_reducible assumption) ?_) | (with_reducible refine Below.via ?_ (Wd.h _) ?_) | go_size)))) hl')).made HE.out).mono ?_
    rintro e w1 ⟨G, c1, rfl, hc1, hW1, hb1⟩
    clear hW1
    go_wp2
    go_ret2
    exact MadeR.nilO HR.out rfl (by (repeat' (first | (with_reducible exact Below.refl _ _) | (with_reducible assumption) | (with_reducible refine Below.alloc ?_ ?_ _) | (with_reducible refine Below.drew ?_) | (with_reducible refine Below.drewN' ?_ _) | (with_reducible refine Below.setCell ?_ ?_ _) | (refine Below.via ?_ (by with_reducible assumption) ?_) | (with_reducible refine Below.via ?_ (Wd.h _) ?_) | go_size)))
  have HR := Lib.hid (show ooR N lb ln hr = (ooF lb am, 0) by rw [HRS.out, if_neg h20])
  go_enter Try.func20, Try.ntmps20
  go_wp2_with fail
  
  refine (((spec_AmountsIn _ _ _ _ _ _ _ _ _ _ N lb ln hr _ (HN.out.below (by (repeat' (first | (with_reducible exact Below.refl _ _) | (with_reducible assumption) | (with_reducible refine Below.alloc ?_ ?_ _) | (with_reducible refine Below.drew ?_) | (with_reducible refine Below.drewN' ?_ _) | (with_reducible refine Below.setCell ?_ ?_ _) | (refine Below.via ?_ (by with_reducible assumption) ?_) | (with_reducible refine Below.via ?_ (Wd.h _) ?_) | go_size)))) rfl rfl (HB.out.below (by (repeat' (first | (with_reducible exact Below.refl _ _) | (with_reducible assumption) | (with_reducible refine Below.alloc ?_ ?_ _) | (with_reducible refine Below.drew ?_) | (with_reducible refine Below.drewN' ?_ _) | (with_reducible refine Below.setCell ?_ ?_ _) | (refine Below.via ?_ (by with_reducible assumption) ?_) | (with_reducible refine Below.via ?_ (Wd.h _) ?_) | go_size)))) hl (HM.out.below (by (repeat' (first | (with_reducible exact Below.refl _ _) | (with_reducible assumption) | (with_reducible refine Below.alloc ?_ ?_ _) | (with_reducible refine Below.drew ?_) | (with_reducible refine Below.drewN' ?_ _) | (with_reducible refine Below.setCell ?_ ?_ _) | (refine Below.via ?_ (by with_reducible assumption) ?_) | (with_reducible refine Below.via ?_ (Wd.h _) ?_) | go_size)))) hl')).made HE.out).mono ?_
  rintro e w1 ⟨G, c1, rfl, hc1, hW1, hb1⟩
  have HW1 := Lib.hid hW1
  clear hW1
  go_wp2_with fail
  refine (spec_l22Orders _ _ _ _ lb am _ (HB.out.below (by (repeat' (first | (with_reducible exact Below.refl _ _) | (with_reducible assumption) | (with_reducible refine Below.alloc ?_ ?_ _) | (with_reducible refine Below.drew ?_) | (with_reducible refine Below.drewN' ?_ _) | (with_reducible refine Below.setCell ?_ ?_ _) | (refine Below.via ?_ (by with_reducible assumption) ?_) | (with_reducible refine Below.via ?_ (Wd.h _) ?_) | go_size)))) h32 HW1.out.rd HLA.out HBA.out).mono ?_
  rintro e w2 ⟨G2, c2, rfl, hc2, hW2, hb2⟩
  have HW2 := Lib.hid hW2
  have hz1 := hb1.size
  (try simp at hz1)
  clear hW2
  go_wp2
  go_ret2
  rw [HR.out]
  exact ⟨G2, c2, rfl, hc2, HW2.out.lower (by omega), by (repeat' (first | (with_reducible exact Below.refl _ _) | (with_reducible assumption) | (with_reducible refine Below.alloc ?_ ?_ _) | (with_reducible refine Below.drew ?_) | (with_reducible refine Below.drewN' ?_ _) | (with_reducible refine Below.setCell ?_ ?_ _) | (refine Below.via ?_ (by with_reducible assumption) ?_) | (with_reducible refine Below.via ?_ (Wd.h _) ?_) | go_size))⟩
end Go.Proofs.Ytigplpbdkjiekaa

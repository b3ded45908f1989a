/- The last nomination for a contract and an hour: a range over slices.Backward. -/
import Derived.RangeFuncNested
import Derived.RangeFuncBound
import Derived.RangeFuncCalls
import Derived.RangeFuncLeaves
import Derived.Shelf.Abstract
import Derived.WalkKit
import Derived.OwnWalkIn
import Derived.TacticsInMore
import Derived.LoopNIn
import Derived.LoopIn
import Derived.Test.YtigplpbdkjiekaaNl
namespace Go.Proofs.Ytigplpbdkjiekaa
set_option linter.unusedVariables false
set_option linter.unusedSimpArgs false
open Go.RowKit Go.Shelf
attribute [local go_sem] Oper.semAt_some
def mtB (con hr : Int) (x : Nom) : Bool := (x.con == con) && (x.hr == hr)
def Nom.zero : Nom := ⟨0, 0, 0, 0⟩
theorem rd_lt {w : World} {D : Option Addr} {ls : List Nom} {b off : Nat} (hR : Rd w D (ls.flatMap Nom.cells)) (e : D = some ⟨b, off, none⟩) (hne : ls ≠ []) : b < w.heap.size := by
  subst e
  obtain ⟨b', off', e', hb', _⟩ := hR (by
    cases ls with
    | nil => exact absurd rfl hne
    | cons x l => simp [Nom.cells])
  injection e' with e'
  injection e' with e1
  omega
/-- what comes in round j -/
def bkAt (ls : List Nom) (j : Nat) : Nat × Nom := (ls.length - 1 - j, ls[ls.length - 1 - j]?.getD Nom.zero)
/-- what has come when k rounds are over -/
def bkUp (ls : List Nom) (k : Nat) : List (Nat × Nom) := (List.range k).map (bkAt ls)
theorem bkUp_succ (ls : List Nom) (k : Nat) : bkUp ls (k + 1) = bkUp ls k ++ [bkAt ls k] := by simp [bkUp, List.range_succ]
theorem bkUp_len (ls : List Nom) (k : Nat) : (bkUp ls k).length = k := by simp [bkUp]
set_option maxRecDepth 100000 in
set_option maxHeartbeats 4000000 in
theorem back1_in (F : Fence) (n : Nat) (hf : F.fn 89) (hro : F.round = none) (hn : 1 ≤ n) (l Bs n₀ c : Nat) (A : Option Addr) (ls : List Nom) (hlen : ls.length ≤ 1048576) (J Jx : List (Nat × Nom) → World → Prop)
    (hY : ∀ pre x W, J pre W → pre.length < ls.length → YieldAt F (n - 1) Try.prog l #[.int .i64 (x.1 : Int), x.2.val] W fun e W' =>
      (e = .returned (.bool true) ∧ J (pre ++ [x]) W' ∧ Below n₀ W W') ∨ (e = .returned (.bool false) ∧ Jx (pre ++ [x]) W'))
    (W : World) (hBl : Bs < n₀) (hn0 : n₀ ≤ W.heap.size) (hBs : W.cell? ⟨Bs, 0, none⟩ = some (.slice A ls.length c)) (hR : Rd W A (ls.flatMap Nom.cells)) (hA : ∀ b off, A = some ⟨b, off, none⟩ → ls ≠ [] → b < n₀) (h0 : J [] W) :
    CallsIn F n Try.prog 89 #[.func (.yield l) #[] #[], .pointer (some ⟨Bs, 0, none⟩)] W fun e W' => (∃ v, e = .returned v) ∧
      ((∃ ys, ys = bkUp ls ls.length ∧ J ys W') ∨ (∃ pre, (∃ k, k ≤ ls.length ∧ pre = bkUp ls k) ∧ Jx pre W')) := by
  refine callsIn_of_wp Try.func89 rfl hf ?_ hro
  simp only [Try.ntmps89, List.size_toArray, List.length_cons, List.length_nil, Nat.reduceAdd, Nat.reduceSub, Array.replicate_succ, Array.replicate_zero, List.push_toArray, List.append_toArray, List.nil_append, List.cons_append]
  gi_wp2
  gi_loopw [3] (fun i wr => ∃ j : Nat, j ≤ ls.length ∧ i = .int .i64 ((j : Int) - 1) ∧ J (bkUp ls (ls.length - j)) wr ∧ Below n₀ W wr)
    (fun i _ => (intOf i + 1).toNat)
  case atStart => exact ⟨ls.length, Nat.le_refl _, rfl, by rw [Nat.sub_self]; exact h0, Below.refl _ _⟩
  case round =>
    obtain ⟨j, hj, hv, hJs, hnx⟩ := hrel
    have hBx : wr.cell? ⟨Bs, 0, none⟩ = some (.slice A ls.length c) := (hnx.cell (p := ⟨Bs, 0, none⟩) hBl).trans hBs
    cases j with
    | zero =>
      have hv' := hv.trans (show Value.int .i64 (((0 : Nat) : Int) - 1) = .int .i64 (-1) by simp)
      clear hv
      subst hv'
      gi_wp2
      go_end0
      exact ⟨⟨_, rfl⟩, .inl ⟨_, rfl, by simpa using hJs⟩⟩
    | succ i =>
      have hv' := hv.trans (show Value.int .i64 (((i + 1 : Nat) : Int) - 1) = .int .i64 (i : Int) by congr 1; omega)
      clear hv
      subst hv'
      obtain ⟨x, hx⟩ := get_some (show i < ls.length by omega)
      obtain ⟨b, off, rfl, hb, hat⟩ := hR.opened (k := i) (by rw [flat_len Nom.len]; omega)
      have hb0 := hA b off rfl (by rintro rfl; simp at hx)
      have t0 := (hnx.cell (p := ⟨b, off + i * 4, none⟩) hb0).trans (hat.elem0 Nom.len hx rfl)
      have t1 := (hnx.cell (p := ⟨b, off + i * 4 + 1, none⟩) hb0).trans (hat.elem Nom.len hx 1 rfl)
      have t2 := (hnx.cell (p := ⟨b, off + i * 4 + 2, none⟩) hb0).trans (hat.elem Nom.len hx 2 rfl)
      have t3 := (hnx.cell (p := ⟨b, off + i * 4 + 3, none⟩) hb0).trans (hat.elem Nom.len hx 3 rfl)
      have g1 : (i : Int) < ls.length := by omega
      have HUP := Lib.hid (show bkUp ls (ls.length - (i + 1)) ++ [((i : Nat), x)] = bkUp ls (ls.length - i) by
        rw [show ls.length - i = (ls.length - (i + 1)) + 1 by omega, bkUp_succ, bkAt]
        rw [show ls.length - 1 - (ls.length - (i + 1)) = i by omega, hx]; rfl)
      obtain ⟨fn, tmps, assign, body, hy, hRR⟩ := hY _ (i, x) wr hJs (by rw [bkUp_len]; omega)
      dsimp only at hy
      clear hx hat
      gi_wp2
      refine hRR.mono ?_
      rintro e W3 (⟨rfl, hJ3, hk3⟩ | ⟨rfl, hJx3⟩)
      · gi_wp2
        go_roundw
        case rel => exact ⟨i, by omega, rfl, by rw [← HUP.out]; exact hJ3, hnx.trans hk3⟩
        case measure => first | (simp [intOf]; done) | (simp [intOf]; omega)
      · gi_wp2
        refine bodyPost_ret (results_none rfl _ _ _) rfl ?_
        exact ⟨⟨_, rfl⟩, .inr ⟨_, ⟨ls.length - i, by omega, HUP.out⟩, hJx3⟩⟩
set_option maxHeartbeats 1000000 in
theorem back_in (F : Fence) (n : Nat) (hf : F.fn 68) (hro : F.round = none) (a : Option Addr) (len cap : Nat) (w : World) :
    CallsIn F n Try.prog 68 #[.slice a len cap] w fun e w' => e = .returned (.func (.func 89) #[] #[.pointer (some ⟨w.heap.size, 0, none⟩)]) ∧ w' = w.alloc (.cells #[.slice a len cap] 29) := by
  refine callsIn_of_wp Try.func68 rfl hf ?_ hro
  simp only [Try.ntmps68, List.size_toArray, List.length_cons, List.length_nil, Nat.reduceAdd, Nat.reduceSub, Array.replicate_succ, Array.replicate_zero, List.push_toArray, List.append_toArray, List.nil_append, List.cons_append]
  gi_wp2
  go_ret
  exact ⟨rfl, rfl⟩
theorem back_stops (F : Fence) (n : Nat) (hf : F.fn 89) (hro : F.round = none) (hn : 1 ≤ n) (Bs n₀ c : Nat) (A : Option Addr) (ls : List Nom) (hlen : ls.length ≤ 1048576) (w : World) (hBl : Bs < n₀) (hn0 : n₀ ≤ w.heap.size)
    (hc : w.cell? ⟨Bs, 0, none⟩ = some (.slice A ls.length c)) (hR : Rd w A (ls.flatMap Nom.cells)) (hA : ∀ b off, A = some ⟨b, off, none⟩ → ls ≠ [] → b < n₀) :
    SeqStopsK F n Try.prog 89 #[.pointer (some ⟨Bs, 0, none⟩)] (fun x : Nat × Nom => #[Value.int .i64 (x.1 : Int), x.2.val]) (Below n₀) (fun ys => ys = bkUp ls ls.length)
      (fun pre => ∃ k, k ≤ ls.length ∧ pre = bkUp ls k) ls.length w := fun l J Jx W hW _ _ hY h0 =>
  back1_in F n hf hro hn l Bs n₀ c A ls hlen J Jx hY W hBl (Nat.le_trans hn0 hW.size) ((hW.cell (p := ⟨Bs, 0, none⟩) (Nat.lt_of_lt_of_le hBl hn0)).trans hc) (hR.below hW) hA h0
/-- r is the last place of a nomination for a contract and an hour, -1 if there is none -/
def LastP (con hr : Int) (ls : List Nom) (r : Int) : Prop :=
  (r = -1 ∧ ∀ x ∈ ls, mtB con hr x = false) ∨ ∃ (k : Nat) (x : Nom), r = k ∧ ls[k]? = some x ∧ mtB con hr x = true ∧ ∀ (j : Nat) (y : Nom), k < j → ls[j]? = some y → mtB con hr y = false
def LastPost (w : World) (con hr : Int) (ls : List Nom) (e : Ending) (w' : World) : Prop := ∃ r, e = .returned (.int .i64 r) ∧ LastP con hr ls r ∧ Below w.heap.size w w'
theorem bk_mem {ls : List Nom} {k : Nat} (hk : k ≤ ls.length) {j : Nat} {y : Nom} (hj : ls.length - k ≤ j) (hy : ls[j]? = some y) : (j, y) ∈ bkUp ls k := by
  have hlt := (List.getElem?_eq_some_iff.1 hy).1
  refine List.mem_map.2 ⟨ls.length - 1 - j, List.mem_range.2 (by omega), ?_⟩
  rw [bkAt, show ls.length - 1 - (ls.length - 1 - j) = j by omega, hy]; rfl
/-- the box of a round's nomination -/
def NBox (W : World) (B : Nat) (x : Nom) : Prop := W.heap[B]? = some (.cells #[.int .i64 x.con, .int .i64 x.hr, .int .i64 x.sent, .int .i64 x.am] 31 (0, 0))
theorem NBox.cell {W : World} {B : Nat} {x : Nom} (h : NBox W B x) (i : Nat) {v : Value} (e : (#[Value.int .i64 x.con, .int .i64 x.hr, .int .i64 x.sent, .int .i64 x.am] : Array Value)[i]? = some v) : W.cell? ⟨B, i, none⟩ = some v :=
  (cell_of_row W B i _ _ (0, 0) h).trans e
set_option maxRecDepth 100000 in
set_option maxHeartbeats 4000000 in
theorem last_in (F : Fence) (n : Nat) (h1f : F.fn 38) (h2f : F.fn 68) (h3f : F.fn 89) (hro : F.round = none) (hn : 3 ≤ n) (D : Option Addr) (f : Nat) (ls : List Nom) (con hr : Int) (w : World) (hlen : ls.length ≤ 1048576) (hR : Rd w D (ls.flatMap Nom.cells)) :
    CallsIn F n Try.prog 38 #[.slice D ls.length f, .int .i64 con, .int .i64 hr] w (LastPost w con hr ls) := by
  have h1 : 1 ≤ n := by omega
  refine callsIn_of_wp_marks Try.func38 rfl h1f ?_ hro
  simp only [Try.ntmps38, List.size_toArray, List.length_cons, List.length_nil, Nat.reduceAdd, Nat.reduceSub, Array.replicate_succ, Array.replicate_zero, List.push_toArray, List.append_toArray, List.nil_append, List.cons_append]
  gi_wp2_with (gi_at_call 68; refine (back_in F (n - 1) h2f hro _ _ _ _).mono ?_; rintro e w' ⟨rfl, rfl⟩)
  have bC := (((Boxed.new w 2 (.int .i64 con)).alloc (.cells #[.int .i64 hr] 2)).alloc (.cells #[.int .i64 0] 3)).alloc (.cells #[.slice D ls.length f] 29)
  have bH := ((Boxed.new (w.alloc (.cells #[.int .i64 con] 2)) 2 (.int .i64 hr)).alloc (.cells #[.int .i64 0] 3)).alloc (.cells #[.slice D ls.length f] 29)
  have bR := (Boxed.new ((w.alloc (.cells #[.int .i64 con] 2)).alloc (.cells #[.int .i64 hr] 2)) 3 (.int .i64 0)).alloc (.cells #[.slice D ls.length f] 29)
  have bS := Boxed.new (((w.alloc (.cells #[.int .i64 con] 2)).alloc (.cells #[.int .i64 hr] 2)).alloc (.cells #[.int .i64 0] 3)) 29 (.slice D ls.length f)
  simp only [World.size_alloc] at bC bH bR bS
  have hB0 : Below w.heap.size w ((((w.alloc (.cells #[.int .i64 con] 2)).alloc (.cells #[.int .i64 hr] 2)).alloc (.cells #[.int .i64 0] 3)).alloc (.cells #[.slice D ls.length f] 29)) := ((((Below.refl _ w).alloc (Nat.le_refl _) _).alloc (by simp) _).alloc (by simp; omega) _).alloc (by simp; omega) _
  have hsz : ((((w.alloc (.cells #[.int .i64 con] 2)).alloc (.cells #[.int .i64 hr] 2)).alloc (.cells #[.int .i64 0] 3)).alloc (.cells #[.slice D ls.length f] 29)).heap.size = w.heap.size + 4 := by simp
  obtain ⟨W0, hW0⟩ : ∃ W0, (((w.alloc (.cells #[.int .i64 con] 2)).alloc (.cells #[.int .i64 hr] 2)).alloc (.cells #[.int .i64 0] 3)).alloc (.cells #[.slice D ls.length f] 29) = W0 := ⟨_, rfl⟩
  rw [hW0] at bC bH bR bS hB0 hsz ⊢
  clear hW0
  refine wpIn_rangeFunc_ownH hro h1 (gf := 89) (lb := #[.pointer (some ⟨w.heap.size + 1 + 1 + 1, 0, none⟩)]) rfl h3f (enters_of Try.func89 (by kernel_rfl) rfl)
    (back_stops F (n - 1) h3f hro (by omega) (w.heap.size + 1 + 1 + 1) (w.heap.size + 4) f D ls hlen W0 (by omega) (by omega) bS.cell (hR.below hB0) (fun b off e hne => by have := rd_lt hR e hne; omega)) belowK_t (belowK_b (by omega)) (Below.refl _ _) (fun _ => rfl)
    (fun pre W => ((∀ p ∈ pre, mtB con hr p.2 = false) ∧ Boxed W (w.heap.size + 1 + 1) 3 (.int .i64 0) ∧ Boxed W w.heap.size 2 (.int .i64 con) ∧ Boxed W (w.heap.size + 1) 2 (.int .i64 hr) ∧ Boxed W (w.heap.size + 1 + 1 + 1) 29 (.slice D ls.length f)) ∧ Below w.heap.size w W)
    (fun c pre W => (c = .ret ∧ ∃ ini last, pre = ini ++ [last] ∧ (∀ p ∈ ini, mtB con hr p.2 = false) ∧ mtB con hr last.2 = true ∧ W.cell? ⟨w.heap.size + 1 + 1, 0, none⟩ = some (.int .i64 (last.1 : Int))) ∧ Below w.heap.size w W)
    (OwnFrom.and (OwnFrom.and (ownFrom_pure _ _) (OwnFrom.and (Go.Own.from (boxed_own _ _ _) _) (OwnFrom.and (Go.Own.from (boxed_own _ _ _) _) (OwnFrom.and (Go.Own.from (boxed_own _ _ _) _) (Go.Own.from (boxed_own _ _ _) _))))) (ownFrom_below (Nat.le_refl _) (by omega)))
    (fun c => OwnFrom.and (Go.Own.from (fun s A B row hs hg hr' => by obtain ⟨hc, ini, last, e1, e2, e3, e4⟩ := hs; exact ⟨hc, ini, last, e1, e2, e3, cell_kept e4 hg hr'⟩) _) (ownFrom_below (Nat.le_refl _) (by omega)))
    ⟨⟨by simp, bR, bC, bH, bS⟩, hB0⟩
    (fun x a' W => ∃ Bx, w.heap.size + 1 + 1 + 1 < Bx ∧ NBox W Bx x.2 ∧ a' = { tmps := #[.slice D ls.length f, .int .i64 con, .int .i64 hr, undef, .pointer (some ⟨w.heap.size, 0, none⟩), .pointer (some ⟨w.heap.size + 1, 0, none⟩), .pointer (some ⟨w.heap.size + 1 + 1, 0, none⟩), .int .i64 (x.1 : Int), .pointer (some ⟨Bx, 0, none⟩), .slice D ls.length f, .func (.func 89) #[] #[.pointer (some ⟨w.heap.size + 1 + 1 + 1, 0, none⟩)], .int .i64 (x.1 : Int), x.2.val, undef, undef, undef, undef, undef, undef, undef, undef, undef, undef, undef], defers := [] })
    (fun x a' _ X Y row hs hg hr' => by obtain ⟨Bx, q1, q2, q3⟩ := hs; exact ⟨Bx, q1, (grownBy_keeps_cells hg (fun r e => (hr' r e).2) q2 rfl).trans q2, q3⟩)
    ?assign ?body ?done ?stop
  case assign =>
    rintro l pre x W K ⟨⟨hp, bR1, bC1, bH1, bS1⟩, hB1⟩ hK
    have hlt := bS1.lt
    gi_wp2
    exact hK _ _ ((KeepsOthers.alloc _ _).from _) ((Below.refl _ W).alloc (by omega) _) ⟨⟨hp, bR1.alloc _, bC1.alloc _, bH1.alloc _, bS1.alloc _⟩, hB1.alloc hB1.size _⟩ ⟨W.heap.size, hlt, World.alloc_heap_new W _, rfl⟩
  case body =>
    rintro l pre x a' W hl ⟨r, hr2⟩ ⟨⟨hp, bR1, bC1, bH1, bS1⟩, hB1⟩ ⟨Bx, hBx, bX, rfl⟩ hlt
    have cC := bC1.cell
    have cH := bH1.cell
    have cR := bR1.cell
    have fR := bR1.frozen
    have x0 := bX.cell 0 rfl
    have x1 := bX.cell 1 rfl
    cases m1 : (x.2.con == con)
    · have hm : mtB con hr x.2 = false := by simp only [mtB, m1, Bool.false_and]
      gi_wp2
      exact ⟨KeepsFrom.refl _ _, Below.refl _ _, ⟨fun p hp' => (List.mem_append.1 hp').elim (hp p) (fun e => by simp at e; subst e; exact hm), bR1, bC1, bH1, bS1⟩, hB1⟩
    cases m2 : (x.2.hr == hr)
    · have hm : mtB con hr x.2 = false := by simp only [mtB, m1, m2, Bool.true_and]
      gi_wp2
      exact ⟨KeepsFrom.refl _ _, Below.refl _ _, ⟨fun p hp' => (List.mem_append.1 hp').elim (hp p) (fun e => by simp at e; subst e; exact hm), bR1, bC1, bH1, bS1⟩, hB1⟩
    · have hm : mtB con hr x.2 = true := by simp only [mtB, m1, m2, Bool.true_and]
      gi_wp2
      exact ⟨(KeepsOthers.setCell _ _ _).from _, ⟨rfl, pre, x, rfl, hp, hm, World.cell?_setCell_same' _ _ _ (by rw [cR]; rfl)⟩, hB1.setCell (p := ⟨w.heap.size + 1 + 1, 0, none⟩) (by simp; omega) _⟩
  case done =>
    rintro D' ys W hD' rfl ⟨⟨hp, bR1, bC1, bH1, bS1⟩, hB1⟩ hK
    have cR := bR1.cell
    have fR := bR1.frozen
    gi_wp2
    have hK' := (KeepsOthers.setCell W ⟨w.heap.size + 1 + 1, 0, none⟩ (.int .i64 (-1))).same D' _ hK rfl
    refine ⟨by simp, .inl ⟨_, _, rfl, run_takeDeferred hK', ?_⟩⟩
    have hc5 := cell_kept (World.cell?_setCell_same' W ⟨w.heap.size + 1 + 1, 0, none⟩ (.int .i64 (-1)) (by rw [cR]; rfl)) (grownBy_putObj' _ D' (.deferred none)) (fun r e => by cases e; exact ⟨_, hK', rfl⟩)
    refine ⟨.int .i64 (-1), ?_, ⟨-1, rfl, .inl ⟨rfl, fun x hx => ?_⟩, (hB1.setCell (p := ⟨w.heap.size + 1 + 1, 0, none⟩) (by simp; omega) _).trans (belowK_b (w := w) (Nat.le_refl _) _ D' _ _ (by omega) hK' rfl rfl)⟩⟩
    · simp [results, Try.results38, go_sem, hc5]
    · obtain ⟨j, hj⟩ := List.getElem?_of_mem hx
      exact hp (j, x) (bk_mem (Nat.le_refl _) (by omega) hj)
  case stop =>
    rintro D' c pre W hD' ⟨k, hk, rfl⟩ ⟨⟨rfl, ini, last, e1, e2, e3, hcr⟩, hB1⟩ hK
    gi_wp2
    refine ⟨by simp, .inl ⟨_, _, rfl, run_takeDeferred hK, ?_⟩⟩
    have hc5 := cell_kept hcr (grownBy_putObj' _ D' (.deferred none)) (fun r e => by cases e; exact ⟨_, hK, rfl⟩)
    obtain ⟨k', rfl⟩ : ∃ k', k = k' + 1 := by
      cases k with
      | zero => simp [bkUp] at e1
      | succ k' => exact ⟨k', rfl⟩
    rw [bkUp_succ] at e1
    obtain ⟨rfl, e5⟩ := List.append_inj' e1 rfl
    obtain rfl : bkAt ls k' = last := by simpa using e5
    obtain ⟨x, hx⟩ := get_some (show ls.length - 1 - k' < ls.length by omega)
    have ex : (bkAt ls k').2 = x := by rw [bkAt, hx]; rfl
    rw [ex] at e3
    refine ⟨.int .i64 ((bkAt ls k').1 : Int), ?_, ⟨_, rfl, .inr ⟨(bkAt ls k').1, x, rfl, hx, e3, fun j y hj hy => e2 (j, y) (bk_mem (by omega) (by simp only [bkAt] at hj; omega) hy)⟩, hB1.trans (belowK_b (w := w) (Nat.le_refl _) W D' _ _ (by omega) hK rfl rfl)⟩⟩
    simp [results, Try.results38, go_sem, hc5]
theorem impl_lastNomination (D : Option Addr) (f : Nat) (ls : List Nom) (con hr : Int) (w : World) (hlen : ls.length ≤ 1048576) (hR : Rd w D (ls.flatMap Nom.cells)) :
    Calls Try.prog 38 #[.slice D ls.length f, .int .i64 con, .int .i64 hr] w (LastPost w con hr ls) :=
  (callsIn_wide (n := 3)).1 (last_in Fence.wide 3 trivial trivial trivial rfl (by omega) D f ls con hr w hlen hR)
end Go.Proofs.Ytigplpbdkjiekaa

/- slices.Repeat of a list of one number. -/
import Derived.Test.YtkagnkecgkmpcaaCp
import Derived.Test.YtkagnkecgkmpcaaAp2
import Derived.Lib.Mul64
import Derived.Laws.Bits64b
import Derived.Laws.CopyOwn
import Derived.Outline
namespace Go.Proofs.Ytkagnkecgkmpcaa
set_option linter.unusedVariables false
set_option linter.unusedSimpArgs false
open Go.RowKit
namespace M64
theorem maskN (a : Nat) (ha : a < 18446744073709551616) : bits .and .u64 (a : Int) 4294967295 = ((a % 4294967296 : Nat) : Int) := by
  have h := bits_and_u64_nat a 4294967295 ha (by omega)
  have e : a &&& 4294967295 = a % 4294967296 := Nat.and_two_pow_sub_one_eq_mod a 32
  rw [e] at h
  exact h
theorem divN (a : Nat) : (a : Int) / 4294967296 = ((a / 4294967296 : Nat) : Int) := by omega
theorem mulN (a b : Nat) : (a : Int) * (b : Int) = ((a * b : Nat) : Int) := (Int.natCast_mul a b).symm
theorem addN (a b : Nat) : (a : Int) + (b : Int) = ((a + b : Nat) : Int) := (Int.natCast_add a b).symm
theorem wrapN (a : Nat) (ha : a < 18446744073709551616) : IntKind.u64.wrap (a : Int) = (a : Int) := by rw [IntKind.wrap_u64]; omega
theorem wrapM (a : Nat) : IntKind.u64.wrap (a : Int) = ((a % 18446744073709551616 : Nat) : Int) := by rw [IntKind.wrap_u64]; omega
end M64
set_option maxRecDepth 100000 in
set_option maxHeartbeats 1000000 in
theorem bits_Mul64_any (x y : Nat) (hx : x < 18446744073709551616) (hy : y < 18446744073709551616) (w : World) :
    Calls Try.prog 62 #[.int .u64 x, .int .u64 y] w fun e w' => e = .returned (.tuple #[.int .u64 ((x * y / 18446744073709551616 : Nat) : Int), .int .u64 ((x * y % 18446744073709551616 : Nat) : Int)]) ∧ w = w' := by
  obtain ⟨bd, bt, bw, hhi⟩ := Lib.mul64_hi x y hx hy
  have ba := Lib.half_mul_le (a := x / 4294967296) (b := y / 4294967296) (by omega) (by omega)
  have bb := Lib.half_mul_le (a := x / 4294967296) (b := y % 4294967296) (by omega) (by omega)
  have bc := Lib.half_mul_le (a := x % 4294967296) (b := y / 4294967296) (by omega) (by omega)
  have ba' : x / 4294967296 * (y / 4294967296) < 18446744073709551616 := by omega
  have bb' : x / 4294967296 * (y % 4294967296) < 18446744073709551616 := by omega
  have bc' : x % 4294967296 * (y / 4294967296) < 18446744073709551616 := by omega
  have bh1 : x / 4294967296 * (y / 4294967296) + (x / 4294967296 * (y % 4294967296) + x % 4294967296 * (y % 4294967296) / 4294967296) / 4294967296 < 18446744073709551616 := by omega
  have bh : x / 4294967296 * (y / 4294967296) + (x / 4294967296 * (y % 4294967296) + x % 4294967296 * (y % 4294967296) / 4294967296) / 4294967296 + ((x / 4294967296 * (y % 4294967296) + x % 4294967296 * (y % 4294967296) / 4294967296) % 4294967296 + x % 4294967296 * (y / 4294967296)) / 4294967296 < 18446744073709551616 := by omega
  go_enter Try.func62, Try.ntmps62
  go_wp2
  simp only [M64.maskN x hx, M64.maskN y hy, M64.divN, M64.mulN, M64.addN, M64.wrapN _ bd, M64.wrapN _ bb', M64.wrapN _ bt, M64.maskN _ bt, M64.wrapN _ bc', M64.wrapN _ bw, M64.wrapN _ ba', M64.wrapN _ bh1, M64.wrapN _ bh, M64.wrapM (x * y)]
  rw [hhi]
  go_ret2
  exact ⟨rfl, rfl⟩
set_option maxRecDepth 100000 in
set_option maxHeartbeats 1000000 in
theorem bits_Mul_one (y : Nat) (hy : y ≤ 1048576) (w : World) :
    Calls Try.prog 48 #[.int .u64 1, .int .u64 y] w fun e w' => e = .returned (.tuple #[.int .u64 0, .int .u64 y]) ∧ w = w' := by
  have c64 := bits_Mul64_any 1 y (by omega) (by omega) w
  have e1 : (1 * y / 18446744073709551616 : Nat) = 0 := by omega
  have e2 : (1 * y % 18446744073709551616 : Nat) = y := by omega
  rw [e1, e2] at c64
  clear e1 e2
  have HC := Lib.hid c64
  clear c64
  go_enter Try.func48, Try.ntmps48
  go_wp2_with (go_at_call 62; refine HC.out.mono ?_; rintro e w' ⟨rfl, rfl⟩)
  go_ret2
  exact ⟨rfl, rfl⟩
theorem copy_wp {P : Program} {o : Oper} {a : Act} {w : World} {K : Act → World → Prop} {Q : Exit → Act → World → Prop} (d s : Operand) (dT sT : TypeId)
    (ho : o.op = .call { callee := .builtin .copy, args := #[d, s], argTypes := #[dT, sT] }) (elem : TypeId) (hu : P.underlying dT = some (.slice elem)) (hsz : (P.info? elem).map (·.size) = some 1)
    (dp sp : Option Addr) (dLen dCap sLen sCap : Nat) (hd : a.eval d = .slice dp dLen dCap) (hs : a.eval s = .slice sp sLen sCap)
    (g off : Nat) (cur : List Value) (t : TypeId) (hg : w.heap[g]? = some (.cells cur.toArray t (0, 0))) (cs : List Value) (hn : cs.length = Nat.min sLen dLen)
    (hpos : 0 < cs.length → dp = some ⟨g, off, none⟩ ∧ ∃ ad, sp = some ad ∧ ∀ j v, cs[j]? = some v → w.cell? (ad.add j) = some v)
    (hfit : off + cs.length ≤ cur.length) (h1 : ∀ v ∈ cs, v.oneCell' = true) (B : Nat) (w0 : World) (hb : Below B w0 w) (hBg : B ≤ g)
    (h : ∀ w', Hid (w'.heap[g]? = some (.cells (splice cur off cs).toArray t (0, 0))) → Below B w0 w' → K (a.put o.dst (goInt cs.length)) w') :
    Oper.wp P o a w K Q := by
  by_cases h0 : cs.length = 0
  · obtain rfl : cs = [] := List.eq_nil_of_length_eq_zero h0
    have hrun := run_copy_none (P := P) w dT sT o.type elem dp sp dLen dCap sLen sCap hu hsz (by simpa using hn.symm)
    unfold Oper.wp
    simp [execOp, ho, resolve, invoke, builtin, hd, hs, hrun, Result.andThen]
    exact h w (show _ = _ by simpa [splice] using hg) hb
  · obtain ⟨rfl, ad, rfl, hsrc⟩ := hpos (by omega)
    have hrun := run_copy_row (P := P) w dT sT o.type elem g off dLen dCap ad sLen sCap cur.toArray t cs hu hsz hg hn hsrc (by simpa using hfit) h1
    unfold Oper.wp
    simp [execOp, ho, resolve, invoke, builtin, hd, hs, hrun, Result.andThen]
    exact h _ (show _ = _ by simpa [splice] using setRow_heap w g _ _ t _ hg) (below_setRow hb hBg _)
def repC (n k : Nat) (v : Int) : List Value := List.replicate k (iV v) ++ List.replicate (n - k) (iV 0)
theorem repC_len {n k : Nat} (v : Int) (h : k ≤ n) : (repC n k v).length = n := by simp [repC]; omega
theorem repC_splice {n k m : Nat} (v : Int) (h : k + m ≤ n) : splice (repC n k v) k (List.replicate m (iV v)) = repC n (k + m) v := by
  unfold splice repC
  rw [List.take_append_of_le_length (by simp), List.take_of_length_le (by simp), List.length_replicate, List.drop_append, List.length_replicate, List.drop_of_length_le (by simp), List.nil_append, List.drop_replicate, ← List.append_assoc, List.replicate_append_replicate]
  congr 2; omega
theorem repC_at {n k j : Nat} {v : Int} {x : Value} (h : (List.replicate k (iV v))[j]? = some x) : (repC n k v)[j]? = some x := by
  unfold repC
  rw [List.getElem?_append_left (List.getElem?_eq_some_iff.1 h).1]; exact h
theorem Blk.arr {w : World} {g n : Nat} {t : TypeId} {cs : List Value} (h : w.heap[g]? = some (.cells cs.toArray t (0, 0))) (hn : cs.length = n) : Arr w g n cs := by
  have hB : Blk w g t cs.toArray := h
  refine ⟨hB.lt, fun j hj => ⟨?_, hB.frozen j⟩, fun j v e => ?_⟩
  · rw [hB.cell j]
    exact ⟨cs[j], by simp [hn, hj]⟩
  · rw [hB.cell j]; simpa using e
theorem rep_one (m : Nat) (v : Int) : ∀ u ∈ List.replicate m (iV v), u.oneCell' = true := fun u hu => by rw [List.eq_of_mem_replicate hu]; rfl
theorem rep_cell {w : World} {g n k m j : Nat} {t : TypeId} {v : Int} {x : Value} (h : w.heap[g]? = some (.cells (repC n k v).toArray t (0, 0))) (hx : (List.replicate m (iV v))[j]? = some x) (hm : m ≤ k) : w.cell? ⟨g, 0 + j, none⟩ = some x := by
  have hB : Blk w g t (repC n k v).toArray := h
  obtain ⟨hj, he⟩ := List.getElem?_eq_some_iff.1 hx
  have hx2 : (List.replicate k (iV v))[j]? = some x := by
    rw [List.getElem?_eq_some_iff]
    exact ⟨by simp at hj ⊢; omega, by simpa using he⟩
  rw [Nat.zero_add, hB.cell j]
  simpa using repC_at (n := n) hx2
theorem heap_make (v : Int) (w : World) (n : Nat) (e : TypeId) : (w.alloc (.cells (madeCells #[Value.int .i64 0] n) e)).heap[w.heap.size]? = some (.cells (repC n 0 v).toArray e (0, 0)) := by
  rw [heap_alloc_new]
  have : madeCells #[Value.int .i64 0] n = (repC n 0 v).toArray := by
    rw [← Array.toList_inj, toList_madeCells_one]; simp [repC]
  rw [this]
set_option maxRecDepth 100000 in
set_option maxHeartbeats 2000000 in
theorem slices_RepeatI (A : Option Addr) (c : Nat) (v : Int) (n : Nat) (w : World) (h : Rd w A [iV v]) (hn : n ≤ 1048576) :
    Calls Try.prog 34 #[.slice A 1 c, .int .i64 n] w (MadeL w 1 n ((List.replicate n v).map iV)) := by
  obtain ⟨b, off, rfl, hb, hat⟩ := h (by simp)
  have t0 : w.cell? ⟨b, off, none⟩ = some (iV v) := by simpa using hat 0 (iV v) rfl
  have T0 := Lib.hid t0
  clear t0 hat h
  have hmk := make_i64 n (by omega)
  have HG := Lib.hid (heap_make v w n 2)
  have hyb : b < w.heap.size := hb
  obtain ⟨m1, hm1⟩ : ∃ m1, m1 = min 1 n := ⟨_, rfl⟩
  have a1 : m1 ≤ 1 := by omega
  have a2 : m1 ≤ n := by omega
  have HM1 := Lib.hid hm1
  clear hm1
  go_enter Try.func34, Try.ntmps34
  go_wp2_with (first
    | (go_at_call 48; refine (bits_Mul_one n hn _).mono ?_; rintro e w' ⟨rfl, rfl⟩)
    | (refine wpList_copy_splice rfl (.tmp 31) (.tmp 32) 28 28 rfl 2 Try.underlying28 (by kernel_rfl) _ _ _ _ _ _ rfl rfl w.heap.size 0 (repC n 0 v) 2 HG.out (List.replicate m1 (iV v)) ?p0 ?p1 ?p2 (rep_one _ v) w.heap.size w (by (repeat' (first | (with_reducible exact Below.refl _ _) | (with_reducible assumption) | (with_reducible refine Below.alloc ?_ ?_ _) | (with_reducible refine Below.drew ?_) | (with_reducible refine Below.drewN' ?_ _) | (with_reducible refine Below.setCell ?_ ?_ _) | (refine Below.via ?_ (by with_reducible assumption) ?_) | (with_reducible refine Below.via ?_ (Wd.h _) ?_) | go_size))) (Nat.le_refl _) ?_; (case p2 => (rw [repC_len v (by omega)]; simp; omega)); (case p0 => exact List.length_replicate.trans HM1.out); (case p1 => (intro hp; refine ⟨rfl, _, rfl, fun j x hx => ?_⟩; have hj : j = 0 := (by have := (List.getElem?_eq_some_iff.1 hx).1; simp at this; omega); subst hj; have hx' : x = iV v := (by have := (List.getElem?_eq_some_iff.1 hx).2; simpa using this.symm); subst hx'; rw [addr_add]; simpa [go_sem, hyb] using T0.out)); intro w2 hg2 hb2))
  go_loopw [8] (fun u wr => ∃ k : Nat, (1 ≤ k ∨ n = 0) ∧ k ≤ n ∧ u = .int .i64 k ∧ Hid (wr.heap[w.heap.size]? = some (.cells (repC n k v).toArray 2 (0, 0))) ∧ Below w.heap.size w wr) (fun u _ => n - (intOf u).toNat)
  case atStart => exact ⟨m1, by have := HM1.out; omega, by omega, rfl, Lib.hid (by have := hg2.out; rw [repC_splice v (by omega), Nat.zero_add] at this; exact this), hb2⟩
  case round =>
    obtain ⟨k, hk1, hk, rfl, HR, hbw⟩ := hrel
    have hbH := Lib.hid hbw
    have hgw : w.heap.size < wr.heap.size := Blk.lt (t := 2) HR.out
    clear hbw
    by_cases hlt : k < n
    · have g1 : (k : Int) < n := by omega
      have g2 : (0 : Int) ≤ k := by omega
      have hnk : ¬ n = k := by omega
      obtain ⟨m, hm⟩ : ∃ m, m = min k (n - k) := ⟨_, rfl⟩
      have b1 : m ≤ k := by omega
      have b2 : k + m ≤ n := by omega
      have b3 : 1 ≤ m := by omega
      have HM := Lib.hid hm
      have z1 : IntKind.i64.wrap ((k : Int) + (m : Int)) = (k : Int) + (m : Int) := IntWalk.i64_in _ (by omega)
      clear hm
      go_wp2_with fail
      go_region_law (apply step_of rfl; (try simp only [Act.put, List.getElem_toArray, List.getElem_cons_succ, List.getElem_cons_zero, List.setIfInBounds_toArray, List.set_cons_zero, List.set_cons_succ]); (refine copy_wp (.tmp 41) (.tmp 44) 28 28 rfl 2 Try.underlying28 (by kernel_rfl) _ _ _ _ _ _ rfl rfl w.heap.size k (repC n k v) 2 HR.out (List.replicate m (iV v)) ?q0 ?q1 ?q2 (rep_one _ v) w.heap.size w (by have h1 := hbH.out; (repeat' (first | (with_reducible exact Below.refl _ _) | (with_reducible assumption) | (with_reducible refine Below.alloc ?_ ?_ _) | (with_reducible refine Below.drew ?_) | (with_reducible refine Below.drewN' ?_ _) | (with_reducible refine Below.setCell ?_ ?_ _) | (refine Below.via ?_ (by with_reducible assumption) ?_) | (with_reducible refine Below.via ?_ (Wd.h _) ?_) | go_size))) (Nat.le_refl _) ?_; (case q2 => (rw [repC_len v hk]; simp; omega)); (case q0 => exact List.length_replicate.trans HM.out); (case q1 => (intro hp; refine ⟨by simp, _, rfl, fun j x hx => ?_⟩; rw [addr_add]; exact rep_cell HR.out hx (by omega))); intro w4 hg4 hb4))
      clear z1
      (try simp only [Act.put, List.getElem_toArray, List.getElem_cons_succ, List.getElem_cons_zero, List.setIfInBounds_toArray, List.set_cons_zero, List.set_cons_succ])
      go_wp2
      go_roundw
      case rel => exact ⟨k + m, by omega, by omega, by go_num, Lib.hid (by have := hg4.out; rw [repC_splice v (by omega)] at this; exact this), hb4⟩
      case measure => simp [intOf]; omega
    · go_wp2
      go_ret
      obtain rfl : k = n := by omega
      have ha := Blk.arr HR.out (repC_len v hk)
      have e1 : repC k k v = (List.replicate k v).map iV := by simp [repC]
      rw [e1] at ha
      exact ⟨_, k, rfl, Nat.le_refl _, by simpa using Wr.of_arr (Nat.le_refl _) ha, hbH.out⟩
end Go.Proofs.Ytkagnkecgkmpcaa

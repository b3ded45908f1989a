/- Arrays of numbers of the call's own that are added to; checks of supplies. -/
import Derived.Test.YtijhadafmhbceaaAc
namespace Go.Proofs.Ytijhadafmhbceaa
set_option linter.unusedVariables false
set_option linter.unusedSimpArgs false
open Go.RowKit
theorem bc {B : Nat} {w w' : World} (hb : Below B w w') {b o : Nat} {v : Value} (h : b < B) (e : w.cell? ⟨b, o, none⟩ = some v) : w'.cell? ⟨b, o, none⟩ = some v := (hb.cell (p := ⟨b, o, none⟩) h).trans e
theorem Arr.madeI (w : World) (n : Nat) (e : TypeId) : Arr (w.alloc (.cells (madeCells #[Value.int .i64 0] n) e)) w.heap.size n ((List.replicate n (0 : Int)).map iV) := by
  have hc : ∀ j, (w.alloc (.cells (madeCells #[Value.int .i64 0] n) e)).cell? ⟨w.heap.size, j, none⟩ = (List.replicate n (Value.int .i64 0))[j]? := fun j => by
    have : (w.alloc (.cells (madeCells #[Value.int .i64 0] n) e)).cell? ⟨w.heap.size, j, none⟩ = (madeCells #[Value.int .i64 0] n)[j]? := by simp
    rw [this, ← Array.getElem?_toList, toList_madeCells_one]
  refine ⟨by simp, fun j hj => ⟨⟨.int .i64 0, ?_⟩, by simp⟩, fun j v e => ?_⟩
  · rw [hc]; simp [hj]
  · rw [hc]; simpa using e
theorem make_i64 (n : Nat) (hn : n ≤ 2097152) (w : World) : (Instr.makeSlice 28 (.int .i64 (n : Int)) (.int .i64 (n : Int))).run Try.prog w = .ok (.slice (some ⟨w.heap.size, 0, none⟩) n n) (w.alloc (.cells (madeCells #[Value.int .i64 0] n) 2)) := by
  have := make_rule (P := Try.prog) info_i64 Try.underlying28 n hn (by omega) w
  simpa [Value.cells] using this
def addAt (l : List Int) (k : Nat) (x : Int) : List Int := match l[k]? with
  | some y => l.set k (y + x)
  | none => l
theorem addAt_len (l : List Int) (k : Nat) (x : Int) : (addAt l k x).length = l.length := by unfold addAt; split <;> simp
theorem addAt_eq {l : List Int} {k : Nat} {x y : Int} (h : l[k]? = some y) : addAt l k x = l.set k (y + x) := by simp [addAt, h]
theorem addAt_bd {l : List Int} {k : Nat} {x lo hi a b : Int} (h : ∀ y ∈ l, lo ≤ y ∧ y ≤ hi) (ha : a ≤ 0) (hb : 0 ≤ b) (h1 : a ≤ x) (h2 : x ≤ b) : ∀ y ∈ addAt l k x, lo + a ≤ y ∧ y ≤ hi + b := by
  intro y hy
  unfold addAt at hy
  split at hy
  · rename_i z hz
    have hzz := h z (List.mem_of_getElem? hz)
    rcases List.mem_or_eq_of_mem_set hy with hy | hy
    · have := h y hy; omega
    · omega
  · have := h y hy; omega
theorem Arr.addAt {w : World} {g N : Nat} {l : List Int} (h : Arr w g N (l.map iV)) {k : Nat} {x y : Int} (hk : l[k]? = some y) (hN : k < N) : Arr (w.setCell ⟨g, k, none⟩ (.int .i64 (y + x))) g N ((addAt l k x).map iV) := by
  rw [addAt_eq hk, map_set_iV]; exact h.setAt hN _
theorem MadeR.arr {w w' : World} {g n c : Nat} {l : List Int} {p : List Int × Int} (hp : p = (l, 0)) (hl : l.length = n) (hnc : n ≤ c) (h : Arr w' g n (l.map iV)) (hg : w.heap.size ≤ g) (hb : Below w.heap.size w w') : MadeR w 1 p.1.length (p.1.map iV) p.2 (.returned (.tuple #[.slice (some ⟨g, 0, none⟩) n c, .int .i64 0])) w' := by
  subst hp; subst hl
  exact ⟨_, c, rfl, hnc, by simpa using Wr.of_arr hg h, hb⟩
def supB (n : Nat) (l : List Int) : Bool := (l.length == n) && allB (-30000) 30000 l
set_option maxRecDepth 100000 in
set_option maxHeartbeats 1000000 in
theorem impl_areSupplies (A B C : Option Addr) (n c m d e : Nat) (l : List Int) (w : World) (hn : n ≤ 1048576) (h : Rd w C (l.map iV)) (hl : l.length ≤ 1048576) :
    Calls Try.prog 54 #[netV A B n c m d, .slice C l.length e] w fun e w' => e = .returned (.bool (supB n l)) ∧ Below w.heap.size w w' := by
  have HL := Lib.hid h
  clear h
  by_cases hq : l.length = n
  · have b1 : ((l.length : Int) == n) = true := by simp [hq]
    have HR := Lib.hid (show supB n l = allB (-30000) 30000 l by simp [supB, hq])
    have HQ := Lib.hid hq
    clear hq
    go_enter Try.func54, Try.ntmps54
    go_wp2_with ((go_at_call 78; refine (impl_allWithin _ _ l _ _ _ (HL.out.below (by (repeat' (first | (with_reducible exact Below.refl _ _) | (with_reducible assumption) | (with_reducible refine Below.alloc ?_ ?_ _) | (with_reducible refine Below.drew ?_) | (with_reducible refine Below.drewN' ?_ _) | (with_reducible refine Below.setCell ?_ ?_ _) | (refine Below.via ?_ (by with_reducible assumption) ?_) | (with_reducible refine Below.via ?_ (Wd.h _) ?_) | go_size)))) hl).mono ?_; rintro e wn ⟨rfl, rfl⟩))
    go_ret
    exact ⟨by rw [HR.out]; rfl, by (repeat' (first | (with_reducible exact Below.refl _ _) | (with_reducible assumption) | (with_reducible refine Below.alloc ?_ ?_ _) | (with_reducible refine Below.drew ?_) | (with_reducible refine Below.drewN' ?_ _) | (with_reducible refine Below.setCell ?_ ?_ _) | (refine Below.via ?_ (by with_reducible assumption) ?_) | (with_reducible refine Below.via ?_ (Wd.h _) ?_) | go_size))⟩
  · have b1 : ((l.length : Int) == n) = false := by simp; omega
    have HR := Lib.hid (show supB n l = false by simp [supB, hq])
    clear hq
    go_enter Try.func54, Try.ntmps54
    go_wp2
    go_ret
    exact ⟨rbf HR.out, by (repeat' (first | (with_reducible exact Below.refl _ _) | (with_reducible assumption) | (with_reducible refine Below.alloc ?_ ?_ _) | (with_reducible refine Below.drew ?_) | (with_reducible refine Below.drewN' ?_ _) | (with_reducible refine Below.setCell ?_ ?_ _) | (refine Below.via ?_ (by with_reducible assumption) ?_) | (with_reducible refine Below.via ?_ (Wd.h _) ?_) | go_size))⟩
theorem impl_areSupplies' (A B C : Option Addr) (n c m d e nl : Nat) (l : List Int) (w : World) (hn : n ≤ 1048576) (h : Rd w C (l.map iV)) (hl : l.length = nl) (hm : nl ≤ 1048576) :
    Calls Try.prog 54 #[netV A B n c m d, .slice C nl e] w fun e w' => e = .returned (.bool (supB n l)) ∧ Below w.heap.size w w' := by
  subst hl
  exact impl_areSupplies A B C n c m d e l w hn h hm
set_option maxRecDepth 100000 in
set_option maxHeartbeats 4000000 in
theorem spec_l06List (A B C : Option Addr) (n c m d e : Nat) (fl : List Int) (w : World) (hn : n ≤ 1048576) (h : Rd w C (fl.map iV)) (hl : fl.length ≤ 1048576) :
    Calls Try.prog 61 #[netV A B n c m d, .slice C fl.length e] w fun e w' => e = .returned (.bool (supB n fl)) ∧ Below w.heap.size w w' := by
  have H := Lib.hid h
  have lenB : (((fl.length : Int) == n)) = (fl.length == n) := by rw [Bool.eq_iff_iff]; simp; omega
  have HLB := Lib.hid lenB
  clear h lenB
  go_enter Try.func61, Try.ntmps61
  go_wp2
  go_loopw [5] (fun v wr => ∃ k : Nat, k ≤ fl.length ∧ v = .int .i64 k ∧ allB (-30000) 30000 (fl.drop k) = allB (-30000) 30000 fl ∧ Bx wr w.heap.size [.slice A n c, .slice B m d] ∧ Below w.heap.size w wr) (fun v _ => fl.length - (intOf v).toNat)
  case atStart => exact ⟨0, by omega, rfl, rfl, bx2 (by simp) (by simp) (by simp) (by simp) (by simp), by (repeat' (first | (with_reducible exact Below.refl _ _) | (with_reducible assumption) | (with_reducible refine Below.alloc ?_ ?_ _) | (with_reducible refine Below.drew ?_) | (with_reducible refine Below.drewN' ?_ _) | (with_reducible refine Below.setCell ?_ ?_ _) | (refine Below.via ?_ (by with_reducible assumption) ?_) | (with_reducible refine Below.via ?_ (Wd.h _) ?_) | go_size))⟩
  case round =>
    obtain ⟨k, hk, rfl, hF, hB, hbw⟩ := hrel
    have hbH := Lib.hid hbw
    have HF := Lib.hid hF
    have HBX := Lib.hid hB
    have hy0 := hB.lt; have cw0_0 := hB.cell 0 rfl; have fw0_0 := hB.frozen 0 rfl; have cw0_1 := hB.cell 1 rfl; have fw0_1 := hB.frozen 1 rfl
    clear hF hB
    by_cases hlt : k < fl.length
    · obtain ⟨x, hx⟩ := get_some hlt
      obtain ⟨b, off, rfl, hb, hat⟩ := H.out.opened (k := k) (by simpa using hlt)
      have t0 := ints_at (hat.below hbw hb) hx
      have HD := Lib.hid (drop_consI hx)
      have g1 : (k : Int) < fl.length := by omega
      clear hx hat hbw
      cases hin : inB x (-30000) 30000
      · go_wp2_with (first | (go_at_call 83; ((with_reducible refine (spec_l06Supply _ _).mono ?_)); rintro e wn ⟨rfl, rfl⟩))
        go_ret
        refine ⟨rbf ?_, hbH.out⟩
        have : allB (-30000) 30000 fl = false := by rw [← HF.out, HD.out, allB, hin, Bool.false_and]
        simp [supB, this]
      · go_wp2_with (first | (go_at_call 83; ((with_reducible refine (spec_l06Supply _ _).mono ?_)); rintro e wn ⟨rfl, rfl⟩))
        go_roundw
        case rel =>
          refine ⟨k + 1, by omega, by go_num, ?_, HBX.out, hbH.out⟩
          rw [← HF.out, HD.out, allB, hin, Bool.true_and]
        case measure => simp [intOf]; omega
    · clear hbw
      go_wp2
      go_ret
      refine ⟨?_, hbH.out⟩
      have : allB (-30000) 30000 fl = true := by rw [← HF.out, drop_endI hlt, allB]
      have h2 := HLB.out
      simp [supB, this]
      exact h2
theorem spec_l06List' (A B C : Option Addr) (n c m d e nl : Nat) (l : List Int) (w : World) (hn : n ≤ 1048576) (h : Rd w C (l.map iV)) (hl : l.length = nl) (hm : nl ≤ 1048576) :
    Calls Try.prog 61 #[netV A B n c m d, .slice C nl e] w fun e w' => e = .returned (.bool (supB n l)) ∧ Below w.heap.size w w' := by
  subst hl
  exact spec_l06List A B C n c m d e l w hn h hm
/-- what a function that makes a list hands back -/
def MadeL (w : World) (s n : Nat) (xs : List Value) (en : Ending) (w' : World) : Prop :=
  ∃ A c, en = .returned (.slice A n c) ∧ n ≤ c ∧ Wr w.heap.size w' A (n * s) xs ∧ Below w.heap.size w w'
end Go.Proofs.Ytijhadafmhbceaa

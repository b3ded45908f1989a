/- Lists of numbers read, texts cut: spec.l03Numbers, spec.l01Split, strings.Split. -/
import Derived.Test.YtbdacplndmnkhaaGreatDoorSf
import Derived.Test.YtbdacplndmnkhaaGreatDoorTb
import Derived.Lib.AppendIntMem
import Derived.Lib.ItoaLen
import Derived.Lib.ItoaMem
import Derived.Laws.BytesArg
import Derived.Test.YtbdacplndmnkhaaGreatDoorRd
import Derived.Test.YtbdacplndmnkhaaGreatDoorNt1
import Derived.ProofKit
import Derived.OpenShut
import Derived.Deep.RegionWith
import Derived.Handy
import Derived.Lib.ParseIntBTie
import Derived.Lib.SplitLaws
import Derived.Lib.Join
import Derived.Test.YtbdacplndmnkhaaGreatDoorAp
import Derived.Test.YtbdacplndmnkhaaGreatDoorSu
import Derived.Lib.AtoiErrMem
namespace Go.Proofs.YtbdacplndmnkhaaGreatDoor
set_option linter.unusedVariables false
set_option linter.unusedSimpArgs false
open Go.RowKit
abbrev Pow (w : World) : Prop := Lib.TabIs Tryz.prog w "internal/strconv.uint64pow10" .u64 Lib.pow10Tab
theorem gPow : Tryz.prog.globalNamed "internal/strconv.uint64pow10" = some 1 := by kernel_rfl
theorem Pow.below {w w' : World} (h : Pow w) (hb : Below w.heap.size w w') : Pow w' := Lib.tabBelow_of_tabIs h w' hb
/-- a number's text -/
def itS (n : Int) : ByteArray := ⟨(Lib.itoa n).toArray⟩
theorem itS_list (n : Int) : (itS n).data.toList = Lib.itoa n := by simp [itS]
theorem itS_size (n : Int) : (itS n).size = (Lib.itoa n).length := by simp [itS, ByteArray.size]
set_option maxRecDepth 100000 in
theorem impl_decimal (n : Int) (w : World) (h0 : -9223372036854775808 ≤ n) (h1 : n ≤ 9223372036854775807) (ht : Pow w) :
    Calls Tryz.prog 41 #[.int .i64 n] w fun e w' => e = .returned (.string (itS n)) ∧ Below w.heap.size w w' := by
  have HT := Lib.hid ht
  clear ht
  go_enter Tryz.func41, Tryz.ntmps41
  go_wp2_with ((go_at_call 59; refine (Tryz.strconv_FormatInt_10 n h0 h1 _ HT.out).mono ?_; rintro e w1 ⟨rfl, k, os, rfl⟩))
  go_ret
  exact ⟨rfl, Lib.below_grow _ _ (Nat.le_refl _) _ _⟩
/-- a drawn region that makes one block -/
structure W1 (w0 : World) (kb : Nat) (v : List Value) (L : Nat → Bool) (b : Nat) (w : World) : Prop where
  bl : Below w0.heap.size w0 w
  bx : L kb = true → w0.heap.size ≤ b ∧ Bx w b v
theorem W1.start {w0 w : World} {kb b : Nat} {v : List Value} (h : Below w0.heap.size w0 w) : W1 w0 kb v (fun _ => false) b w := ⟨h, fun h => by cases h⟩
theorem W1.below {w0 w w' : World} {kb b i : Nat} {v : List Value} {L : Nat → Bool} (h : W1 w0 kb v L b w) (hi : kb ≠ i) (hb : Below w.heap.size w w') : W1 w0 kb v (upd L i) b w' :=
  ⟨h.bl.trans (hb.mono h.bl.size), by rw [upd_ne hi]; exact fun e => ⟨(h.bx e).1, (h.bx e).2.below hb (h.bx e).2.lt⟩⟩
theorem W1.pure {w0 w : World} {kb b i : Nat} {v : List Value} {L : Nat → Bool} (h : W1 w0 kb v L b w) (hi : kb ≠ i) : W1 w0 kb v (upd L i) b w := h.below hi (Below.refl _ _)
theorem W1.made {w0 w w' : World} {kb b : Nat} {v : List Value} {L : Nat → Bool} (h : W1 w0 kb v L b w) (hb : Below w.heap.size w w') (hx : Bx w' w.heap.size v) : W1 w0 kb v (upd L kb) w.heap.size w' :=
  ⟨h.bl.trans (hb.mono h.bl.size), fun _ => ⟨h.bl.size, hx⟩⟩
theorem byte_conv {b : Nat} {x : Int} {w : World} (h : w.cell? ⟨b, 0, none⟩ = some (.int .u8 x)) : (convert 22 9 (.slice (some ⟨b, 0, none⟩) 1 1)).run Tryz.prog w = .ok (.string (strOfNums [x])) w :=
  run_convert_bytes_arg w 22 5 Tryz.underlying22 Tryz.underlying5 b 0 1 1 [x] rfl (fun i hi => by
    obtain rfl : i = 0 := by omega
    simpa using h) 9 Tryz.underlying9
theorem byte1_rule' (n : Int) (w : World) : (convert 22 9 (.slice (some ⟨w.heap.size, 0, none⟩) 1 1)).run Tryz.prog (w.alloc (.cells #[.int .u8 n] 5)) = .ok (.string (strOfNums [n])) (w.alloc (.cells #[.int .u8 n] 5)) :=
  byte_conv (by simp)
theorem itoa_dig {n : Nat} (h : n < 10) : strOfNums [48 + (n : Int)] = itS n := by
  simp only [itS, Lib.itoa_nonneg, Lib.decDigits_one h, strOfNums, List.map_cons, List.map_nil]
  congr 4
theorem itoa_step {n : Nat} (h : ¬ n < 10) : itS ((n / 10 : Nat) : Int) ++ strOfNums [48 + ((n % 10 : Nat) : Int)] = itS n := by
  have e : Lib.decDigits n = Lib.decDigits (n / 10) ++ [UInt8.ofNat (48 + n % 10)] := by rw [Lib.decDigits, dif_neg h]
  have e2 : (48 + ((n % 10 : Nat) : Int)).toNat = 48 + n % 10 := by omega
  simp only [itS, Lib.itoa_nonneg, e, strOfNums, List.map_cons, List.map_nil, e2]
  simp [ByteArray.append_eq, ByteArray.ext_iff]
set_option maxRecDepth 100000 in
set_option maxHeartbeats 2000000 in
theorem spec_l01Dec : ∀ (n : Nat), n ≤ 9223372036854775807 → ∀ w : World,
    Calls Tryz.prog 54 #[.int .i64 (n : Int)] w fun e w' => e = .returned (.string (itS n)) ∧ Below w.heap.size w w' := by
  intro n
  induction n using Nat.strongRecOn with
  | ind n ih =>
  intro hn w
  have IH := Lib.hid ih
  clear ih
  by_cases hlt : n < 10
  · have g1 : (n : Int) < 10 := by omega
    have hcv := byte1_rule' (48 + (n : Int)) w
    rw [itoa_dig hlt] at hcv
    go_enter Tryz.func54, Tryz.ntmps54
    go_wp2
    go_ret
    exact ⟨rfl, by (repeat' (first | (with_reducible exact Below.refl _ _) | (with_reducible assumption) | (with_reducible refine Below.alloc ?_ ?_ _) | (with_reducible refine Below.drew ?_) | (with_reducible refine Below.drewN' ?_ _) | (with_reducible refine Below.setCell ?_ ?_ _) | (refine Below.via ?_ (by with_reducible assumption) ?_) | (with_reducible refine Below.via ?_ (Wd.h _) ?_) | go_size))⟩
  · have g1 : ¬ (n : Int) < 10 := by omega
    have ST := Lib.hid (itoa_step hlt)
    go_enter Tryz.func54, Tryz.ntmps54
    go_wp2_with fail
    refine wp_region_tb (R := Nat) [some 10, some 11, some 12, some 13, some 14, some 15, some 16, some 17, some 18, some 19, some 2] _ (by intro u; simp only [frs, Act.put, List.setIfInBounds_toArray, List.set_cons_zero, List.set_cons_succ, Nat.reduceAdd]; exact rfl) (fun ρ j => ([.int .i64 (n : Int), .int .i64 ((n : Int) / 10), .string (itS ((n : Int) / 10)), .int .i64 (n : Int), .int .i64 ((n : Int) % 10), .int .i64 (48 + (n : Int) % 10), .int .u8 (48 + (n : Int) % 10), .slice (some ⟨ρ, 0, none⟩) 1 1, .string (strOfNums [48 + (n : Int) % 10]), .string (itS ((n : Int) / 10) ++ strOfNums [48 + (n : Int) % 10]), .string (itS ((n : Int) / 10) ++ strOfNums [48 + (n : Int) % 10])] : List Value).getD j undef) (W1 w 7 [.int .u8 (48 + (n : Int) % 10)]) (by kernel_rfl) (by kernel_rfl) 0 (W1.start (Below.drew (Below.refl _ _))) ?_ ?_
    · intro ii hii L ρ u wx hl hp hc hu hn hW
      have hii : ii < 11 := hii
      have HNo := Lib.hid hn
      clear hn
      have hii : ii = 0 ∨ ii = 1 ∨ ii = 2 ∨ ii = 3 ∨ ii = 4 ∨ ii = 5 ∨ ii = 6 ∨ ii = 7 ∨ ii = 8 ∨ ii = 9 ∨ ii = 10 := by omega
      rcases hii with rfl | rfl | rfl | rfl | rfl | rfl | rfl | rfl | rfl | rfl | rfl
      · refine wpOp_go (E := True) rfl rfl (fun K' hK => ?_)
        go_simp
        refine hK.out _ _ ⟨ρ, (by simp only [put]; rfl), fun _ _ => rfl, hW.pure (by omega)⟩
      · have e0 : u 0 = .int .i64 (n : Int) := hu 0 (all_of hp (by kernel_rfl))
        have hw1 : IntKind.i64.wrap ((n : Int) / 10) = (n : Int) / 10 := IntWalk.i64_in _ ⟨by omega, by omega⟩
        refine wpOp_go (E := True) rfl rfl (fun K' hK => ?_)
        go_simp
        refine hK.out _ _ ⟨ρ, (by simp only [put, e0, hw1]; rfl), fun _ _ => rfl, hW.pure (by omega)⟩
      · have e1 : u 1 = .int .i64 ((n : Int) / 10) := hu 1 (all_of hp (by kernel_rfl))
        refine wpOp_go (E := True) rfl rfl (fun K' hK => ?_)
        go_simp
        go_at_call 54
        have hih := IH.out (n / 10) (by omega) (by omega) wx
        rw [show ((n / 10 : Nat) : Int) = (n : Int) / 10 by omega] at hih
        refine hih.mono ?_
        rintro e' w5 ⟨rfl, hb5⟩
        refine hK.out _ _ ⟨ρ, (by simp only [put, e1]; rfl), fun _ _ => rfl, hW.below (by omega) hb5⟩
      · refine wpOp_go (E := True) rfl rfl (fun K' hK => ?_)
        go_simp
        refine hK.out _ _ ⟨ρ, (by simp only [put]; rfl), fun _ _ => rfl, hW.pure (by omega)⟩
      · have e3 : u 3 = .int .i64 (n : Int) := hu 3 (all_of hp (by kernel_rfl))
        refine wpOp_go (E := True) rfl rfl (fun K' hK => ?_)
        go_simp
        refine hK.out _ _ ⟨ρ, (by simp only [put, e3]; rfl), fun _ _ => rfl, hW.pure (by omega)⟩
      · have e4 : u 4 = .int .i64 ((n : Int) % 10) := hu 4 (all_of hp (by kernel_rfl))
        have hw5 : IntKind.i64.wrap (48 + (n : Int) % 10) = 48 + (n : Int) % 10 := IntWalk.i64_in _ ⟨by omega, by omega⟩
        refine wpOp_go (E := True) rfl rfl (fun K' hK => ?_)
        go_simp
        refine hK.out _ _ ⟨ρ, (by simp only [put, e4, hw5]; rfl), fun _ _ => rfl, hW.pure (by omega)⟩
      · have e5 : u 5 = .int .i64 (48 + (n : Int) % 10) := hu 5 (all_of hp (by kernel_rfl))
        have hw6 : IntKind.u8.wrap (48 + (n : Int) % 10) = 48 + (n : Int) % 10 := by unfold IntKind.wrap; simp [IntKind.signed, IntKind.bits]; omega
        refine wpOp_go (E := True) rfl rfl (fun K' hK => ?_)
        go_simp
        refine hK.out _ _ ⟨ρ, (by simp only [put, e5, hw6]; rfl), fun _ _ => rfl, hW.pure (by omega)⟩
      · have e6 : u 6 = .int .u8 (48 + (n : Int) % 10) := hu 6 (all_of hp (by kernel_rfl))
        refine wpOp_go (E := True) rfl rfl (fun K' hK => ?_)
        go_simp
        generalize hW5 : World.alloc wx _ = w5
        have hb5 : Below wx.heap.size wx w5 := by rw [← hW5]; (repeat' (first | (with_reducible exact Below.refl _ _) | (with_reducible assumption) | (with_reducible refine Below.alloc ?_ ?_ _) | (with_reducible refine Below.drew ?_) | (with_reducible refine Below.drewN' ?_ _) | (with_reducible refine Below.setCell ?_ ?_ _) | (refine Below.via ?_ (by with_reducible assumption) ?_) | (with_reducible refine Below.via ?_ (Wd.h _) ?_) | go_size))
        have hx5 : Bx w5 wx.heap.size [.int .u8 (48 + (n : Int) % 10)] := by rw [← hW5]; exact bx1 (by simp) (by simp) (by simp)
        clear hW5
        refine hK.out _ _ ⟨wx.heap.size, (by simp only [put, e6]; rfl), fun j hj => by
            have n8 : L 8 = false := no_later hc hl (by kernel_rfl)
            have n9 : L 9 = false := no_later hc n8 (by kernel_rfl)
            have n10 : L 10 = false := no_later hc n9 (by kernel_rfl)
            match j, hj with
            | 0, _ => rfl
            | 1, _ => rfl
            | 2, _ => rfl
            | 3, _ => rfl
            | 4, _ => rfl
            | 5, _ => rfl
            | 6, _ => rfl
            | 7, hj => rw [hl] at hj; cases hj
            | 8, hj => rw [n8] at hj; cases hj
            | 9, hj => rw [n9] at hj; cases hj
            | 10, hj => rw [n10] at hj; cases hj
            | _ + 11, _ => rfl, hW.made hb5 hx5⟩
      · have e7 : u 7 = .slice (some ⟨ρ, 0, none⟩) 1 1 := hu 7 (all_of hp (by kernel_rfl))
        have hcv := byte_conv ((hW.bx (all_of hp (show (before _ 8).contains 7 = true by kernel_rfl))).2.cell 0 rfl)
        refine wpOp_go (E := True) rfl rfl (fun K' hK => ?_)
        go_simp
        refine hK.out _ _ ⟨ρ, (by simp only [put, e7]; rfl), fun _ _ => rfl, hW.pure (by omega)⟩
      · have e2 : u 2 = .string (itS ((n : Int) / 10)) := hu 2 (all_of hp (by kernel_rfl))
        have e8 : u 8 = .string (strOfNums [48 + (n : Int) % 10]) := hu 8 (all_of hp (by kernel_rfl))
        have hns : ¬ 9223372036854775807 < (itS ((n : Int) / 10)).size + (strOfNums [48 + (n : Int) % 10]).size := by have := Lib.itoa_length_le ((n : Int) / 10) (by omega) (by omega); rw [itS_size, strOfNums_size]; simp; omega
        refine wpOp_go (E := True) rfl rfl (fun K' hK => ?_)
        go_simp
        refine hK.out _ _ ⟨ρ, (by simp only [put, e2, e8]; rfl), fun _ _ => rfl, hW.pure (by omega)⟩
      · have e9 : u 9 = .string (itS ((n : Int) / 10) ++ strOfNums [48 + (n : Int) % 10]) := hu 9 (all_of hp (by kernel_rfl))
        refine wpOp_go (E := True) rfl rfl (fun K' hK => ?_)
        go_simp
        refine hK.out _ _ ⟨ρ, (by simp only [put, e9]; rfl), fun _ _ => rfl, hW.pure (by omega)⟩
    · intro L ρ u wx hall hu hW
      have e10 : u 10 = .string (itS n) := by
        have e := hu 10 (by show 10 < 11; omega)
        rw [e]
        show Value.string (itS ((n : Int) / 10) ++ strOfNums [48 + (n : Int) % 10]) = _
        have s := ST.out
        rw [show ((n / 10 : Nat) : Int) = (n : Int) / 10 by omega, show ((n % 10 : Nat) : Int) = (n : Int) % 10 by omega] at s
        rw [s]
      rw [e10]
      have hbl := hW.bl
      clear hu hall hW e10
      go_wp2
      go_ret
      exact ⟨rfl, hbl⟩
end Go.Proofs.YtbdacplndmnkhaaGreatDoor
namespace Go.Proofs.YtbdacplndmnkhaaGreatDoor
set_option linter.unusedVariables false
set_option linter.unusedSimpArgs false
open Go.RowKit
/-- int64 numbers -/
def I64 (l : List Int) : Prop := ∀ x ∈ l, -9223372036854775808 ≤ x ∧ x ≤ 9223372036854775807
theorem itoa_le {n : Int} (h : -9223372036854775808 ≤ n ∧ n ≤ 9223372036854775807) : (Lib.itoa n).length ≤ 21 := Lib.itoa_length_le n h.1 h.2
theorem lens_le : ∀ {l : List (List UInt8)} {b : Nat}, (∀ x ∈ l, x.length ≤ b) → Lib.lens l ≤ l.length * b
  | [], b, _ => by simp [Lib.lens]
  | x :: l, b, h => by
    have ih := lens_le (l := l) (b := b) (fun y hy => h y (by simp [hy]))
    have := h x (by simp)
    simp only [Lib.lens, List.map_cons, List.sum_cons, List.length_cons] at ih ⊢
    rw [Nat.succ_mul]; omega
theorem join_le {l : List (List UInt8)} {sep : List UInt8} {b : Nat} (h : ∀ x ∈ l, x.length ≤ b) (hs : sep.length ≤ 1) : (Lib.join l sep).length ≤ l.length * (b + 1) := by
  cases l with
  | nil => simp [Lib.join_nil]
  | cons x l =>
    rw [Lib.join_cons, List.length_append, Lib.joinTail_length]
    have h1 := h x (by simp)
    have h2 := lens_le (l := l) (b := b) (fun y hy => h y (by simp [hy]))
    have h3 : sep.length * l.length ≤ l.length := by
      calc sep.length * l.length ≤ 1 * l.length := Nat.mul_le_mul_right _ hs
        _ = l.length := by omega
    simp only [List.length_cons]
    rw [Nat.succ_mul, Nat.mul_add, Nat.mul_one]; omega
/-- numbers in decimal, joined by a byte -/
def joinN (l : List Int) (sep : ByteArray) : ByteArray := ⟨(Lib.join (l.map Lib.itoa) sep.data.toList).toArray⟩
theorem info_str : (Tryz.prog.info? 9).map (fun i => (i.zero, i.size, i.bytes)) = some (some (.string ⟨#[]⟩), 1, 16) := by kernel_rfl
set_option maxRecDepth 100000 in
set_option maxHeartbeats 2000000 in
theorem impl_joinNumbers (A : Option Addr) (c : Nat) (l : List Int) (sep : ByteArray) (w : World) (h : Rd w A (l.map iV)) (hl : l.length ≤ 1000) (hi : I64 l) (hs : sep.size ≤ 1) (ht : Pow w) :
    Calls Tryz.prog 17 #[.slice A l.length c, .string sep] w fun e w' => e = .returned (.string (joinN l sep)) ∧ Below w.heap.size w w' := by
  have hmk := make_rule (P := Tryz.prog) info_str Tryz.underlying46 l.length (by omega) (by omega)
  have H := Lib.hid h
  have HT := Lib.hid ht
  have HI := Lib.hid hi
  clear h ht hi
  go_enter Tryz.func17, Tryz.ntmps17
  go_wp2
  have ha := Arr.made w (.string ⟨#[]⟩) l.length 1 9 rfl (by omega)
  have hb0 : Below w.heap.size w (w.alloc (.cells (madeCells (Value.string ⟨#[]⟩).cells (l.length * 1)) 9)) := (Below.refl _ _).alloc (Nat.le_refl _) _
  clear hmk
  go_loopw [13] (fun v wr => ∃ k : Nat, k ≤ l.length ∧ v = .int .i64 k ∧ Arr wr w.heap.size (l.length * 1) ((l.take k).map fun n => .string (itS n)) ∧ Below w.heap.size w wr) (fun v _ => l.length - (intOf v).toNat)
  case atStart => exact ⟨0, by omega, rfl, by simpa [Value.cells] using ha, by simpa [Value.cells] using hb0⟩
  case round =>
    obtain ⟨k, hk, rfl, hA, hbw⟩ := hrel
    have HA := Lib.hid hA
    have hbH := Lib.hid hbw
    clear ha hb0
    by_cases hlt : k < l.length
    · obtain ⟨n, hn⟩ := get_some hlt
      obtain ⟨b, off, rfl, hb, hat⟩ := H.out.opened (k := k) (by simpa using hlt)
      have t0 := ints_at (hat.below hbw hb) hn
      have HN := Lib.hid hn
      have hin := HI.out n (List.mem_of_getElem? hn)
      have HTW := Lib.hid (HT.out.below hbw)
      clear hn hat hA hbw
      go_wp2_with fail
      refine (impl_decimal n _ hin.1 hin.2 HTW.out).mono ?_
      rintro e wn ⟨rfl, hbn⟩
      have hA2 := HA.out.below hbn HA.out.lt
      have HA2 := Lib.hid hA2
      obtain ⟨u, t1⟩ := hA2.some_ (j := k) (by omega)
      have t2 := hA2.free (j := k) (by omega)
      have HB2 := Lib.hid (Below.via hbH.out hbn hbH.out.size)
      clear hA2 hbn
      go_wp2
      go_roundw
      case rel =>
        refine ⟨k + 1, by omega, by go_num, ?_, HB2.out.setCell (by simp) _⟩
        rw [List.take_add_one, HN.out, List.map_append]
        exact HA2.out.push k (by simp; omega) (by omega) _
      case measure => simp [intOf]; omega
    · have hkl : k = l.length := by omega
      have hcells : ∀ (j : Nat) x, (l.map itS)[j]? = some x → wr.cell? ⟨w.heap.size, 0 + j, none⟩ = some (.string x) := by
        intro j x hx
        rw [Nat.zero_add]
        refine hA.cell ?_
        rw [hkl, List.take_length, List.getElem?_map]
        rw [List.getElem?_map] at hx
        cases hj : l[j]? with
        | none => rw [hj] at hx; cases hx
        | some y => simpa [hj] using hx
      have hj := Tryz.strings_Join w.heap.size 0 l.length (l.map itS) sep wr hcells hA.lt (by rw [List.length_map]; omega) (by rw [List.length_map]; exact Nat.le_refl _) (by
        have h1 : ((l.map itS).map (·.data.toList)) = l.map Lib.itoa := by simp [itS_list]
        rw [h1]
        have h2 := join_le (l := l.map Lib.itoa) (sep := sep.data.toList) (b := 21) (fun x hx => by
          obtain ⟨y, hy, rfl⟩ := List.mem_map.1 hx
          exact itoa_le (HI.out y hy)) (by rw [Array.length_toList]; exact hs)
        rw [List.length_map] at h2; omega)
      have h1 : ((l.map itS).map (·.data.toList)) = l.map Lib.itoa := by simp [itS_list]
      rw [h1, List.length_map] at hj
      have HJ := Lib.hid hj
      clear hA hbw hcells hj h1
      go_wp2_with ((go_at_call 42; refine HJ.out.mono ?_; rintro e w1 ⟨rfl, hb1⟩))
      go_ret
      exact ⟨rfl, hbH.out.trans (hb1.mono hbH.out.size)⟩
end Go.Proofs.YtbdacplndmnkhaaGreatDoor

namespace Go.Proofs.YtbdacplndmnkhaaGreatDoor
set_option linter.unusedVariables false
set_option linter.unusedSimpArgs false
open Go.ChangeShapes Go.WideShapes Go.ChangeAt Go.RowKit

def storeB (lo hi now i o : Int) : Bool := decide (0 ≤ lo) && decide (lo < hi) && decide (hi ≤ 1000000000) && inB now lo hi && inB i 0 30000 && inB o 0 30000

abbrev stV (lo hi now i o : Int) : Value := .agg #[.int .i64 lo, .int .i64 hi, .int .i64 now, .int .i64 i, .int .i64 o]





def limI (rate room whole : Int) : Int := min room ((rate * room + whole - 1) / whole)
theorem store_of {lo hi now i o : Int} (h : storeB lo hi now i o = true) : 0 ≤ lo ∧ lo < hi ∧ hi ≤ 1000000000 ∧ lo ≤ now ∧ now ≤ hi ∧ 0 ≤ i ∧ i ≤ 30000 ∧ 0 ≤ o ∧ o ≤ 30000 := by
  simp [storeB, inB] at h; omega

theorem mul_bd {a b A B : Int} (h0 : 0 ≤ a) (h1 : a ≤ A) (h2 : 0 ≤ b) (h3 : b ≤ B) : 0 ≤ a * b ∧ a * b ≤ A * B :=
  ⟨Int.mul_nonneg h0 h2, Int.mul_le_mul h1 h3 h2 (by omega)⟩






end Go.Proofs.YtbdacplndmnkhaaGreatDoor
namespace Go.Proofs.YtbdacplndmnkhaaGreatDoor
set_option linter.unusedVariables false
set_option linter.unusedSimpArgs false
open Go.RowKit
def sls : ByteArray := ⟨#[47]⟩
theorem itS_le {n : Int} (h : -9223372036854775808 ≤ n ∧ n ≤ 9223372036854775807) : (itS n).size ≤ 21 := by rw [itS_size]; exact itoa_le h
theorem join5 (a b c d e : Int) (sep : ByteArray) : itS a ++ sep ++ itS b ++ sep ++ itS c ++ sep ++ itS d ++ sep ++ itS e = joinN [a, b, c, d, e] sep := by
  simp [joinN, itS, Lib.join_cons, Lib.joinTail, ByteArray.append_eq, ByteArray.ext_iff]
noncomputable def stT (x : Int × Int × Int × Int × Int) : ByteArray :=
  if storeB x.1 x.2.1 x.2.2.1 x.2.2.2.1 x.2.2.2.2 = true then joinN [x.1, x.2.1, x.2.2.1, x.2.2.2.1, x.2.2.2.2] sls else ⟨#[]⟩
end Go.Proofs.YtbdacplndmnkhaaGreatDoor
namespace Go.Proofs.YtbdacplndmnkhaaGreatDoor
set_option linter.unusedVariables false
set_option linter.unusedSimpArgs false
open Go.Lib
def isD (c : UInt8) : Prop := 48 ≤ c.toNat ∧ c.toNat ≤ 57
instance (c : UInt8) : Decidable (isD c) := inferInstanceAs (Decidable (_ ∧ _))
/-- what digits spell -/
def dgV (a : Nat) (l : List UInt8) : Nat := l.foldl (fun a c => a * 10 + (c.toNat - 48)) a
theorem dgV_nil (a : Nat) : dgV a [] = a := rfl
theorem dgV_cons (a : Nat) (c : UInt8) (r : List UInt8) : dgV a (c :: r) = dgV (a * 10 + (c.toNat - 48)) r := by
  unfold dgV; rw [List.foldl_cons]
theorem dgV_snoc (l : List UInt8) (a : Nat) (c : UInt8) : dgV a (l ++ [c]) = dgV a l * 10 + (c.toNat - 48) := by
  unfold dgV; rw [List.foldl_append]; rfl
theorem dgV_append (l r : List UInt8) (a : Nat) : dgV a (l ++ r) = dgV (dgV a l) r := by
  unfold dgV; rw [List.foldl_append]
attribute [irreducible] dgV
theorem dgV_ge (l : List UInt8) : ∀ (a : Nat), a ≤ dgV a l := by
  induction l with
  | nil => intro a; rw [dgV_nil]; exact Nat.le_refl _
  | cons c r ih => intro a; rw [dgV_cons]; exact Nat.le_trans (by omega) (ih _)
theorem dgV_lt (l : List UInt8) : (∀ c ∈ l, isD c) → ∀ (k a : Nat), a < 10 ^ k → dgV a l < 10 ^ (k + l.length) := by
  induction l with
  | nil => intro _ k a h; rw [dgV_nil]; exact h
  | cons c r ih =>
    intro hd k a h
    have h1 := hd c (by simp)
    have h2 : a * 10 + (c.toNat - 48) < 10 ^ (k + 1) := by rw [Nat.pow_succ]; unfold isD at h1; omega
    have := ih (fun x hx => hd x (by simp [hx])) (k + 1) _ h2
    rw [dgV_cons, List.length_cons, show k + (r.length + 1) = k + 1 + r.length by omega]; exact this
theorem u8_toNat {n : Nat} (h : n < 10) : (UInt8.ofNat (48 + n)).toNat = 48 + n := by
  rw [UInt8.toNat_ofNat']; omega
theorem dec_dig (u : Nat) : (∀ c ∈ decDigits u, isD c) ∧ dgV 0 (decDigits u) = u := by
  induction u using Nat.strongRecOn with
  | _ u ih =>
    by_cases h : u < 10
    · rw [decDigits, dif_pos h]
      refine ⟨fun c hc => ?_, ?_⟩
      · have hc := List.mem_singleton.1 hc; subst hc; unfold isD; rw [u8_toNat h]; omega
      · rw [dgV_cons, dgV_nil, u8_toNat h]; omega
    · obtain ⟨i1, i2⟩ := ih (u / 10) (by omega)
      rw [decDigits, dif_neg h]
      refine ⟨fun c hc => ?_, ?_⟩
      · rcases List.mem_append.1 hc with h1 | h1
        · exact i1 c h1
        · have h1 := List.mem_singleton.1 h1; subst h1; unfold isD; rw [u8_toNat (by omega)]; omega
      · rw [dgV_snoc, i2, u8_toNat (by omega)]; omega
theorem dec_ne (u : Nat) : decDigits u ≠ [] := fun e => by
  have h1 := decDigits_length u
  have h2 := nDigits_pos u
  rw [e] at h1; simp at h1; omega
theorem parseM {M : Nat} (hM : M ≤ 18446744073709551615) (l : List UInt8) : ∀ (a : Nat), (∀ c ∈ l, isD c) → dgV a l ≤ M → parseUintM M a l = .ok (dgV a l) := by
  induction l with
  | nil => intro a _ _; rw [dgV_nil]; rfl
  | cons c r ih =>
    intro a hd hm
    have h1 : 48 ≤ c.toNat ∧ c.toNat ≤ 57 := hd c (by simp)
    rw [dgV_cons] at hm
    have h2 := dgV_ge r (a * 10 + (c.toNat - 48))
    unfold parseUintM
    rw [if_pos h1, if_neg (by omega), if_neg (by omega), dgV_cons]
    exact ih _ (fun x hx => hd x (by simp [hx])) hm
theorem parseB_dec {u : Nat} (h : u ≤ 18446744073709551615) : parseUintB 64 (decDigits u) = .ok u := by
  unfold parseUintB
  rw [if_neg (dec_ne u)]
  have h2 := (dec_dig u).2
  have := parseM (M := 2 ^ 64 - 1) (by decide) (decDigits u) 0 (dec_dig u).1 (by rw [h2]; exact h)
  rw [this, h2]
theorem parse_itoa {n : Int} (h : -9223372036854775808 ≤ n ∧ n ≤ 9223372036854775807) : parseIntB 64 (itoa n) = .ok n := by
  unfold itoa
  by_cases hn : n < 0
  · rw [if_pos hn, parseIntB_minus, parseB_dec (by omega)]
    show (if (2 ^ 63 : Nat) < n.natAbs then NumEnd.range else .ok (-(n.natAbs : Int))) = _
    rw [if_neg (by omega), show -(n.natAbs : Int) = n by omega]
  · rw [if_neg hn]
    have hd := (dec_dig n.toNat).1
    have hp := parseB_dec (u := n.toNat) (by omega)
    cases e : decDigits n.toNat with
    | nil => exact absurd e (dec_ne _)
    | cons c r =>
      rw [e] at hd hp
      have h1 := hd c (by simp)
      unfold isD at h1
      rw [parseIntB_plain 64 c r (by omega) (by omega), hp]
      show (if (2 ^ 63 : Nat) ≤ n.toNat then NumEnd.range else .ok (n.toNat : Int)) = _
      rw [if_neg (by omega), show (n.toNat : Int) = n by omega]
/-- the number that a word is, in its own form -/
def rdN (l : List UInt8) : Option Int := match parseIntB 64 l with
  | .ok n => if itoa n = l then some n else none
  | _ => none
theorem rdN_itoa {n : Int} (h : -9223372036854775808 ≤ n ∧ n ≤ 9223372036854775807) : rdN (itoa n) = some n := by
  unfold rdN; rw [parse_itoa h]; simp
theorem rdN_some {l : List UInt8} {n : Int} (h : rdN l = some n) : itoa n = l ∧ -9223372036854775808 ≤ n ∧ n ≤ 9223372036854775807 := by
  unfold rdN at h
  cases e : parseIntB 64 l with
  | ok m =>
    rw [e] at h
    by_cases hm : itoa m = l
    · simp [hm] at h; subst h
      have := parseIntB_bounds e
      exact ⟨hm, by omega, by omega⟩
    · simp [hm] at h
  | _ => rw [e] at h; cases h
/-- a number of at most eighteen digits -/
def rdV (l : List UInt8) : Option Int := if 1 ≤ l.length ∧ l.length ≤ 18 ∧ (∀ c ∈ l, isD c) ∧ decDigits (dgV 0 l) = l then some (dgV 0 l : Int) else none
theorem rdV_iff {l : List UInt8} {n : Int} : rdV l = some n ↔ rdN l = some n ∧ 0 ≤ n ∧ l.length ≤ 18 := by
  unfold rdV
  constructor
  · intro h
    split at h
    · rename_i hc
      injection h with h; subst h
      obtain ⟨h1, h2, h3, h4⟩ := hc
      have hb := dgV_lt l h3 0 0 (by simp)
      have hb2 : 10 ^ (0 + l.length) ≤ 10 ^ 18 := Nat.pow_le_pow_right (by omega) (by omega)
      have hi : itoa ((dgV 0 l : Nat) : Int) = l := by rw [itoa_nonneg]; exact h4
      refine ⟨?_, by omega, h2⟩
      have h5 := rdN_itoa (n := ((dgV 0 l : Nat) : Int)) (by constructor <;> omega)
      rw [hi] at h5; exact h5
    · cases h
  · rintro ⟨h, h0, hl⟩
    obtain ⟨hi, hb⟩ := rdN_some h
    obtain ⟨k, rfl⟩ : ∃ k : Nat, n = k := ⟨n.toNat, by omega⟩
    rw [itoa_nonneg] at hi
    subst hi
    obtain ⟨d1, d2⟩ := dec_dig k
    rw [if_pos ⟨by rw [decDigits_length]; exact nDigits_pos k, hl, d1, by rw [d2]⟩, d2]
/-- all of a list, or none -/
def mapO {α β : Type} (f : α → Option β) : List α → Option (List β)
  | [] => some []
  | x :: r => match f x, mapO f r with
    | some y, some l => some (y :: l)
    | _, _ => none
theorem mapO_cons {α β : Type} {f : α → Option β} {x : α} {r : List α} {z : List β} : mapO f (x :: r) = some z ↔ ∃ y l, f x = some y ∧ mapO f r = some l ∧ z = y :: l := by
  rw [show mapO f (x :: r) = (match f x, mapO f r with | some y, some l => some (y :: l) | _, _ => none) from rfl]
  constructor
  · intro h
    cases h1 : f x with
    | none => rw [h1] at h; cases h
    | some y =>
      cases h2 : mapO f r with
      | none => rw [h1, h2] at h; cases h
      | some l => rw [h1, h2] at h; injection h with h; exact ⟨y, l, rfl, rfl, h.symm⟩
  · rintro ⟨y, l, h1, h2, rfl⟩
    rw [h1, h2]
theorem mapO_length {α β : Type} {f : α → Option β} : ∀ {l : List α} {z : List β}, mapO f l = some z → z.length = l.length
  | [], z, h => by simp [mapO] at h; subst h; rfl
  | x :: r, z, h => by
    obtain ⟨y, l, _, h2, rfl⟩ := mapO_cons.1 h
    simp [mapO_length h2]
theorem mapO_snoc {α β : Type} {f : α → Option β} {x : α} {y : β} : ∀ {l : List α} {z : List β}, mapO f l = some z → f x = some y → mapO f (l ++ [x]) = some (z ++ [y])
  | [], z, h, hy => by simp [mapO] at h; subst h; simp [mapO, hy]
  | a :: r, z, h, hy => by
    obtain ⟨b, l, h1, h2, rfl⟩ := mapO_cons.1 h
    exact mapO_cons.2 ⟨b, l ++ [y], h1, mapO_snoc h2 hy, rfl⟩
theorem mapO_none {α β : Type} {f : α → Option β} {x : α} (hx : f x = none) : ∀ (l : List α), x ∈ l → mapO f l = none
  | a :: r, h => by
    cases e : mapO f (a :: r) with
    | none => rfl
    | some z =>
      obtain ⟨b, l, h1, h2, rfl⟩ := mapO_cons.1 e
      rcases List.mem_cons.1 h with rfl | h'
      · rw [hx] at h1; cases h1
      · rw [mapO_none hx r h'] at h2; cases h2
theorem mapO_NV : ∀ (ws : List (List UInt8)) (l : List Int), mapO rdV ws = some l ↔ mapO rdN ws = some l ∧ (∀ x ∈ l, 0 ≤ x) ∧ ∀ w ∈ ws, w.length ≤ 18
  | [], l => by
    constructor
    · intro h; refine ⟨h, ?_, by simp⟩; simp [mapO] at h; subst h; simp
    · exact fun h => h.1
  | w :: ws, l => by
    constructor
    · intro h
      obtain ⟨y, z, h1, h2, rfl⟩ := mapO_cons.1 h
      obtain ⟨a1, a2, a3⟩ := rdV_iff.1 h1
      obtain ⟨b1, b2, b3⟩ := (mapO_NV ws z).1 h2
      exact ⟨mapO_cons.2 ⟨y, z, a1, b1, rfl⟩, fun x hx => by rcases List.mem_cons.1 hx with rfl | h; exact a2; exact b2 x h, fun x hx => by rcases List.mem_cons.1 hx with rfl | h; exact a3; exact b3 x h⟩
    · rintro ⟨h, h0, hl⟩
      obtain ⟨y, z, h1, h2, rfl⟩ := mapO_cons.1 h
      exact mapO_cons.2 ⟨y, z, rdV_iff.2 ⟨h1, h0 y (by simp), hl w (by simp)⟩, (mapO_NV ws z).2 ⟨h2, fun x hx => h0 x (by simp [hx]), fun x hx => hl x (by simp [hx])⟩, rfl⟩
theorem mapO_map {α β : Type} {f : α → Option β} {g : β → α} (Q : β → Prop) (h : ∀ y, Q y → f (g y) = some y) : ∀ (l : List β), (∀ y ∈ l, Q y) → mapO f (l.map g) = some l
  | [], _ => rfl
  | y :: l, hq => mapO_cons.2 ⟨y, l, h y (hq y (by simp)), mapO_map Q h l (fun x hx => hq x (by simp [hx])), rfl⟩
theorem mapO_spell : ∀ {ws : List (List UInt8)} {l : List Int}, mapO rdN ws = some l → ws = l.map itoa ∧ ∀ x ∈ l, -9223372036854775808 ≤ x ∧ x ≤ 9223372036854775807
  | [], l, h => by simp [mapO] at h; subst h; simp
  | w :: ws, l, h => by
    obtain ⟨y, z, h1, h2, rfl⟩ := mapO_cons.1 h
    obtain ⟨a1, a2⟩ := rdN_some h1
    obtain ⟨b1, b2⟩ := mapO_spell h2
    exact ⟨by rw [List.map_cons, a1, ← b1], fun x hx => by rcases List.mem_cons.1 hx with rfl | h; exact a2; exact b2 x h⟩
/-- a text cut at every occurrence of a byte -/
def glue (p : List UInt8) : List (List UInt8) → List (List UInt8)
  | [] => [p]
  | x :: r => (p ++ x) :: r
def spl (c : UInt8) : List UInt8 → List (List UInt8)
  | [] => [[]]
  | b :: l => if b = c then [] :: spl c l else glue [b] (spl c l)
theorem spl_ne (c : UInt8) : ∀ l, spl c l ≠ []
  | [] => by simp [spl]
  | b :: l => by
    unfold spl; split
    · simp
    · cases spl c l <;> simp [glue]
theorem glue_nil {l : List (List UInt8)} (h : l ≠ []) : glue [] l = l := by
  cases l with
  | nil => exact absurd rfl h
  | cons x r => simp [glue]
theorem glue_glue (p q : List UInt8) (l : List (List UInt8)) (h : l ≠ []) : glue p (glue q l) = glue (p ++ q) l := by
  cases l with
  | nil => exact absurd rfl h
  | cons x r => simp [glue]
theorem spl_cons_ne {c b : UInt8} {l : List UInt8} (h : b ≠ c) : spl c (b :: l) = glue [b] (spl c l) := by rw [spl, if_neg h]
theorem spl_cons_eq {c : UInt8} {l : List UInt8} : spl c (c :: l) = [] :: spl c l := by rw [spl, if_pos rfl]
theorem index_cons_eq (c : UInt8) (l : List UInt8) : index (c :: l) [c] = ((0 : Nat) : Int) := by rw [index]; simp [List.isPrefixOf]
theorem index_cons_ne {b c : UInt8} (l : List UInt8) (h : b ≠ c) : index (b :: l) [c] = if index l [c] == -1 then -1 else index l [c] + 1 := by
  have hp : ([c] : List UInt8).isPrefixOf (b :: l) = false := by simp [List.isPrefixOf, Ne.symm h]
  rw [index, hp]; simp
theorem splitK_hit {sep : List UInt8} {k i : Nat} {s : List UInt8} (h : index s sep = i) : splitK sep 0 (k + 1) s = s.take i :: splitK sep 0 k (s.drop (i + sep.length)) := by
  have hm : ¬ (index s sep == -1) = true := fun e => by have := beq_iff_eq.1 e; omega
  rw [splitK, if_neg hm, show (index s sep).toNat = i by omega]; rfl
theorem spl_splitK (c : UInt8) : ∀ s, splitK [c] 0 (count s [c]) s = spl c s
  | [] => by rw [count_miss (by simp [index])]; rfl
  | b :: l => by
    have ih := spl_splitK c l
    by_cases h : b = c
    · subst h
      rw [count_cons_eq, Nat.add_comm, splitK_hit (index_cons_eq b l), spl_cons_eq, ← ih]
      simp
    · rw [count_cons_ne b c l h, spl_cons_ne h]
      by_cases hm : index l [c] = -1
      · rw [count_miss hm] at ih ⊢
        rw [← ih]; rfl
      · have hge := index_ge l [c]
        obtain ⟨j, hj⟩ : ∃ j : Nat, index l [c] = j := ⟨(index l [c]).toNat, by omega⟩
        have hix : index (b :: l) [c] = ((j + 1 : Nat) : Int) := by rw [index_cons_ne l h, if_neg (fun e => hm (beq_iff_eq.1 e)), hj]; omega
        have hc := count_hit (sub := [c]) (by simp) hj
        rw [hc, Nat.add_comm 1, splitK_hit hj] at ih
        rw [hc, Nat.add_comm 1, splitK_hit hix, ← ih]
        simp [glue]
theorem splitB_spl (c : UInt8) (s : ByteArray) : (splitB ⟨#[c]⟩ 0 (countB s ⟨#[c]⟩) s).map (·.data.toList) = spl c s.data.toList := by
  rw [splitB_data]; exact spl_splitK c _
theorem spl_length (c : UInt8) : ∀ s, (spl c s).length ≤ s.length + 1
  | [] => by simp [spl]
  | b :: l => by
    have := spl_length c l
    have hn := spl_ne c l
    unfold spl; split
    · simp; omega
    · cases e : spl c l with
      | nil => exact absurd e hn
      | cons x r => rw [e] at this; simp [glue] at this ⊢; omega
/-- what was joined is cut again -/
theorem spl_word (c : UInt8) : ∀ (w r : List UInt8), (∀ b ∈ w, b ≠ c) → spl c (w ++ c :: r) = w :: spl c r
  | [], r, _ => spl_cons_eq
  | b :: w, r, h => by
    rw [List.cons_append, spl_cons_ne (h b (by simp)), spl_word c w r (fun x hx => h x (by simp [hx]))]; rfl
theorem spl_last (c : UInt8) : ∀ (w : List UInt8), (∀ b ∈ w, b ≠ c) → spl c w = [w]
  | [], _ => rfl
  | b :: w, h => by rw [spl_cons_ne (h b (by simp)), spl_last c w (fun x hx => h x (by simp [hx]))]; rfl
theorem spl_join (c : UInt8) : ∀ (x : List UInt8) (ws : List (List UInt8)), (∀ w ∈ x :: ws, ∀ b ∈ w, b ≠ c) → spl c (join (x :: ws) [c]) = x :: ws
  | x, [], h => by rw [join_cons]; simp [joinTail]; exact spl_last c x (h x (by simp))
  | x, y :: ws, h => by
    have ih := spl_join c y ws (fun w hw => h w (by simp [hw]))
    rw [join_cons] at ih ⊢
    have e : joinTail [c] (y :: ws) = c :: (y ++ joinTail [c] ws) := by simp [joinTail]
    rw [e, spl_word c x _ (h x (by simp)), ih]
theorem itoa_bytes {n : Int} {b : UInt8} (h : b ∈ itoa n) : b.toNat = 45 ∨ isD b := by
  unfold itoa at h
  split at h
  · rcases List.mem_cons.1 h with rfl | h'
    · exact .inl rfl
    · exact .inr ((dec_dig _).1 b h')
  · exact .inr ((dec_dig _).1 b h)
end Go.Proofs.YtbdacplndmnkhaaGreatDoor
namespace Go.Proofs.YtbdacplndmnkhaaGreatDoor
set_option linter.unusedVariables false
set_option linter.unusedSimpArgs false
open Go.RowKit
/-- what reading a text needs of the world -/
structure Tabs (w : World) : Prop where
  pow : Pow w
  rng : ∃ ev, w.cell? ⟨5, 0, none⟩ = some ev ∧ (ev = .nilIface ∨ ∃ te pe, ev = .iface te pe)
  stx : ∃ ev, w.cell? ⟨4, 0, none⟩ = some ev ∧ (ev = .nilIface ∨ ∃ te pe, ev = .iface te pe)
  max : ∃ m, w.cell? ⟨0, 0, none⟩ = some (.int .i64 m)
theorem Tabs.below {w w' : World} (h : Tabs w) (hb : Below w.heap.size w w') : Tabs w' :=
  ⟨h.pow.below hb, by
    obtain ⟨ev, h1, h2⟩ := h.rng
    exact ⟨ev, by rw [hb.cell (p := ⟨5, 0, none⟩) (block_lt h1)]; exact h1, h2⟩, by
    obtain ⟨ev, h1, h2⟩ := h.stx
    exact ⟨ev, by rw [hb.cell (p := ⟨4, 0, none⟩) (block_lt h1)]; exact h1, h2⟩, by
    obtain ⟨m, h1⟩ := h.max
    exact ⟨m, by rw [hb.cell (p := ⟨0, 0, none⟩) (block_lt h1)]; exact h1⟩⟩
theorem max_of {w : World} (h : w.ShapedOpen Tryz.prog) : ∃ m, w.cell? ⟨0, 0, none⟩ = some (.int .i64 m) := Go.Proofs.cell_of_shapedOpen_int (zero := #[.int .i64 0]) (t := 3) h (of_decide_eq_true (by kernel_rfl)) (by kernel_rfl) rfl (by kernel_rfl) (by kernel_rfl) Tryz.underlying3
abbrev bl (s : ByteArray) : List UInt8 := s.data.toList
theorem bl_inj {s t : ByteArray} (h : bl s = bl t) : s = t := by
  apply ByteArray.ext; apply Array.ext'; exact h
theorem bl_itS (n : Int) : bl (itS n) = Lib.itoa n := itS_list n
theorem bl_len (s : ByteArray) : (bl s).length = s.size := by unfold bl ByteArray.size; exact Array.length_toList
theorem itS_iff {v : Int} {s : ByteArray} : itS v = s ↔ Lib.itoa v = bl s := ⟨fun h => by rw [← h, bl_itS], fun h => bl_inj (by rw [bl_itS, h])⟩
theorem rdN_ok {s : ByteArray} {v : Int} (e : Lib.parseIntB 64 (bl s) = .ok v) : rdN (bl s) = if itS v = s then some v else none := by
  unfold rdN; rw [e]; simp only [itS_iff]
theorem rdN_bad {s : ByteArray} (e : ∀ v, Lib.parseIntB 64 (bl s) ≠ .ok v) : rdN (bl s) = none := by
  unfold rdN
  cases h : Lib.parseIntB 64 (bl s) with
  | ok v => exact absurd h (e v)
  | _ => rfl
theorem sbeq_f {a b : ByteArray} (h : a ≠ b) : (a.toList == b.toList) = false := by
  rw [Go.ByteArray.toList_eq, Go.ByteArray.toList_eq]
  simp only [beq_eq_false_iff_ne, ne_eq]
  exact fun e => h (bl_inj e)
/-- a text of moderate size -/
abbrev Mod (s : ByteArray) : Prop := s.size ≤ 1048600
/-- strconv.ParseInt(s, 10, 64): the number and no error, or an error -/
theorem parseInt64 (s : ByteArray) (w : World) (hs : Mod s) (ht : Tabs w) :
    Calls Tryz.prog 66 #[.string s, .int .i64 10, .int .i64 64] w fun e w' =>
      ((∃ v, Lib.parseIntB 64 (bl s) = .ok v ∧ e = .returned (.tuple #[.int .i64 v, .nilIface])) ∨ ((∀ v, Lib.parseIntB 64 (bl s) ≠ .ok v) ∧ ∃ (n : Int) (te : TypeId) (pe : Value), e = .returned (.tuple #[.int .i64 n, .iface te pe]))) ∧ Below w.heap.size w w' := by
  unfold Mod at hs
  cases h : Lib.parseIntB 64 (bl s) with
  | ok v =>
    refine (Tryz.strconv_ParseInt_10_at64_ok s (by omega) v h w).mono ?_
    rintro e w' ⟨rfl, h2⟩
    refine ⟨.inl ⟨v, rfl, rfl⟩, ?_⟩
    rcases h2 with rfl | ⟨t, rfl⟩
    · exact Below.refl _ _
    · exact Lib.bytesWorld_below _ _ _
  | range =>
    obtain ⟨ev, h1, h2⟩ := ht.rng
    refine (Tryz.strconv_ParseInt_10_at64_range s (by omega) h ev w h1 h2).mono ?_
    rintro e w' ⟨N, rfl, -, -, hb⟩
    exact ⟨.inr ⟨(fun v q => by cases q), _, _, _, rfl⟩, hb⟩
  | _ =>
    obtain ⟨ev, h1, h2⟩ := ht.stx
    refine (Any.strconv_ParseInt_10_at64_syntax Tryz.laysC174 s (by omega) h ev w h1 h2).mono ?_
    rintro e w' ⟨N, rfl, -, -, hb⟩
    exact ⟨.inr ⟨(fun v q => by cases q), _, _, _, rfl⟩, hb⟩
set_option maxRecDepth 100000 in
set_option maxHeartbeats 1000000 in
theorem impl_readNumber (s : ByteArray) (w : World) (hs : Mod s) (ht : Tabs w) :
    Calls Tryz.prog 44 #[.string s] w fun e w' => e = .returned (.tuple #[.int .i64 ((rdN (bl s)).getD 0), .bool (rdN (bl s)).isSome]) ∧ Below w.heap.size w w' := by
  have HT := Lib.hid ht
  have HP := Lib.hid (parseInt64 s w hs ht)
  clear ht
  go_enter Tryz.func44, Tryz.ntmps44
  go_wp2_with fail
  refine HP.out.mono ?_
  rintro e w1 ⟨h | ⟨h, n, te, pe, rfl⟩, hb1⟩
  · obtain ⟨v, hv, rfl⟩ := h
    have hb := Lib.parseIntB_bounds hv
    have HR := Lib.hid (rdN_ok hv)
    clear hv
    have HT1 := Lib.hid (HT.out.below hb1)
    have HB1 := Lib.hid hb1
    by_cases hq : itS v = s
    · subst hq
      have HR2 := HR.out
      rw [if_pos rfl] at HR2
      have HRR := Lib.hid HR2
      clear hb1 HR2
      go_wp2_with fail
      refine (impl_decimal v _ (by omega) (by omega) HT1.out.pow).mono ?_
      rintro e w2 ⟨rfl, hb2⟩
      go_wp2
      go_ret2
      rw [HRR.out]
      exact ⟨rfl, HB1.out.trans (hb2.mono HB1.out.size)⟩
    · have HR2 := HR.out
      rw [if_neg hq] at HR2
      have HRR := Lib.hid HR2
      have q1 := sbeq_f hq
      clear hb1 HR2
      go_wp2_with fail
      refine (impl_decimal v _ (by omega) (by omega) HT1.out.pow).mono ?_
      rintro e w2 ⟨rfl, hb2⟩
      go_wp2
      go_ret2
      rw [HRR.out]
      exact ⟨rfl, HB1.out.trans (hb2.mono HB1.out.size)⟩
  · have HR := Lib.hid (rdN_bad h)
    have HB1 := Lib.hid hb1
    clear h hb1
    go_wp2
    go_ret2
    rw [HR.out]
    exact ⟨rfl, HB1.out⟩
abbrev sV (s : ByteArray) : Value := .string s
/-- numbers read, or nothing -/
def NumsR (o : Option (List Int)) (w : World) (e : Ending) (w' : World) : Prop :=
  match o with
  | some l => ∃ A c, e = .returned (.tuple #[.slice A l.length c, .bool true]) ∧ Rd w' A (l.map iV) ∧ Below w.heap.size w w'
  | none => e = .returned (.tuple #[.slice none 0 0, .bool false]) ∧ Below w.heap.size w w'
theorem NumsR.some_ {o : Option (List Int)} {w w' : World} {e : Ending} {l : List Int} (h : o = some l) (hx : ∃ A c, e = .returned (.tuple #[.slice A l.length c, .bool true]) ∧ Rd w' A (l.map iV) ∧ Below w.heap.size w w') : NumsR o w e w' := by subst h; exact hx
theorem NumsR.none_ {o : Option (List Int)} {w w' : World} {e : Ending} (h : o = none) (hx : e = .returned (.tuple #[.slice none 0 0, .bool false]) ∧ Below w.heap.size w w') : NumsR o w e w' := by subst h; exact hx
theorem words_at {w : World} {b off : Nat} {l : List ByteArray} (h : RdAt w b off (l.map sV)) {k : Nat} {s : ByteArray} (hk : l[k]? = some s) : w.cell? ⟨b, off + k, none⟩ = some (.string s) :=
  h k _ (by rw [List.getElem?_map, hk]; rfl)
theorem mapO_at {f : List UInt8 → Option Int} {ws : List ByteArray} {k : Nat} {s : ByteArray} {acc : List Int} {v : Int} (hk : ws[k]? = some s) (ha : mapO f ((ws.take k).map bl) = some acc) (hv : f (bl s) = some v) : mapO f ((ws.take (k + 1)).map bl) = some (acc ++ [v]) := by
  rw [List.take_add_one, hk, List.map_append]; exact mapO_snoc ha hv
theorem mapO_no {f : List UInt8 → Option Int} {ws : List ByteArray} {k : Nat} {s : ByteArray} (hk : ws[k]? = some s) (hv : f (bl s) = none) : mapO f (ws.map bl) = none :=
  mapO_none hv _ (List.mem_map.2 ⟨s, List.mem_of_getElem? hk, rfl⟩)
set_option maxRecDepth 100000 in
set_option maxHeartbeats 2000000 in
theorem impl_readNumbers (A : Option Addr) (c : Nat) (ws : List ByteArray) (w : World) (h : Rd w A (ws.map sV)) (hl : ws.length ≤ 1048601) (hm : ∀ s ∈ ws, Mod s) (ht : Tabs w) :
    Calls Tryz.prog 19 #[.slice A ws.length c] w (NumsR (mapO rdN (ws.map bl)) w) := by
  have hmk := make_rule (P := Tryz.prog) info_i64 Tryz.underlying38 ws.length (by omega) (by omega)
  have H := Lib.hid h
  have HT := Lib.hid ht
  have HM := Lib.hid hm
  clear h ht hm
  go_enter Tryz.func19, Tryz.ntmps19
  go_wp2
  have ha := Arr.made w (.int .i64 0) ws.length 1 2 rfl (by omega)
  have hb0 : Below w.heap.size w (w.alloc (.cells (madeCells (Value.int .i64 0).cells (ws.length * 1)) 2)) := (Below.refl _ _).alloc (Nat.le_refl _) _
  clear hmk
  go_loopw [14] (fun v wr => ∃ (k : Nat) (acc : List Int), k ≤ ws.length ∧ v = .int .i64 k ∧ acc.length = k ∧ mapO rdN ((ws.take k).map bl) = some acc ∧ Arr wr w.heap.size (ws.length * 1) (acc.map iV) ∧ Below w.heap.size w wr) (fun v _ => ws.length - (intOf v).toNat)
  case atStart => exact ⟨0, [], by omega, rfl, rfl, rfl, by simpa [Value.cells] using ha, by simpa [Value.cells] using hb0⟩
  case round =>
    obtain ⟨k, acc, hk, rfl, hac, hF, hA, hbw⟩ := hrel
    have HA := Lib.hid hA
    have HF := Lib.hid hF
    have hbH := Lib.hid hbw
    clear ha hb0 hF
    by_cases hlt : k < ws.length
    · obtain ⟨s, hs⟩ := get_some hlt
      obtain ⟨b, off, rfl, hb, hat⟩ := H.out.opened (k := k) (by simpa using hlt)
      have t0 := words_at (hat.below hbw hb) hs
      have HS := Lib.hid hs
      have HMS := HM.out s (List.mem_of_getElem? hs)
      have HTW := Lib.hid (HT.out.below hbw)
      clear hs hat hA hbw
      go_wp2_with fail
      refine (impl_readNumber s _ HMS HTW.out).mono ?_
      rintro e wn ⟨rfl, hbn⟩
      have HB2 := Lib.hid (Below.via hbH.out hbn hbH.out.size)
      have hA2 := HA.out.below hbn HA.out.lt
      have HA2 := Lib.hid hA2
      obtain ⟨u, t1⟩ := hA2.some_ (j := k) (by omega)
      have t2 := hA2.free (j := k) (by omega)
      clear hA2 hbn
      cases hv : rdN (bl s) with
      | none =>
        have HV := Lib.hid hv
        clear hv
        go_wp2
        go_ret2
        exact NumsR.none_ (mapO_no HS.out HV.out) ⟨rfl, HB2.out⟩
      | some n =>
        have HV := Lib.hid hv
        clear hv
        go_wp2
        go_roundw
        case rel =>
          refine ⟨k + 1, acc ++ [n], by omega, by go_num, by simp [hac], mapO_at HS.out HF.out HV.out, ?_, HB2.out.setCell (by simp) _⟩
          rw [List.map_append]
          exact HA2.out.push k (by simp [hac]) (by omega) _
        case measure => simp [intOf]; omega
    · have hkl : k = ws.length := by omega
      go_wp2
      go_ret2
      refine NumsR.some_ (l := acc) ?_ ⟨some ⟨w.heap.size, 0, none⟩, ws.length, ?_, HA.out.rd, hbH.out⟩
      · have := HF.out
        rw [List.take_of_length_le (by omega)] at this
        exact this
      · rw [hac, hkl]; rfl
theorem bl_get {s : ByteArray} {k : Nat} (h : k < s.size) : (bl s)[k]? = some s[k] := by
  have h' : k < s.data.size := h
  rw [show bl s = s.data.toList from rfl, Array.getElem?_toList, Array.getElem?_eq_getElem h']; rfl
theorem dgV_step {s : ByteArray} {k : Nat} (h : k < s.size) : dgV 0 ((bl s).take (k + 1)) = dgV 0 ((bl s).take k) * 10 + (s[k].toNat - 48) := by
  rw [List.take_add_one, bl_get h]; exact dgV_snoc _ _ _
theorem take_dig {s : ByteArray} {k : Nat} (hall : ∀ i (h : i < s.size), i < k → isD s[i]) : ∀ c ∈ (bl s).take k, isD c := by
  intro c hc
  obtain ⟨i, hi, rfl⟩ := List.getElem_of_mem hc
  rw [List.length_take] at hi
  have hs : i < s.size := by have := bl_len s; omega
  have h1 := bl_get hs
  have h2 : ((bl s).take k)[i]? = some s[i] := by rw [List.getElem?_take, if_pos (by omega)]; exact h1
  have h3 := List.getElem?_eq_getElem (l := (bl s).take k) (i := i) (by rw [List.length_take]; omega)
  rw [h2] at h3
  rw [← Option.some.inj h3]
  exact hall i hs (by omega)
theorem dgV_bd {s : ByteArray} {k : Nat} (hall : ∀ i (h : i < s.size), i < k → isD s[i]) (hk : k ≤ 18) : dgV 0 ((bl s).take k) < 1000000000000000000 := by
  have h1 := dgV_lt _ (take_dig hall) 0 0 (by simp)
  have h2 : 10 ^ (0 + ((bl s).take k).length) ≤ 10 ^ 18 := Nat.pow_le_pow_right (by omega) (by rw [List.length_take]; omega)
  have : (10 : Nat) ^ 18 = 1000000000000000000 := by decide
  omega
theorem dgV_be {s : ByteArray} {k : Nat} (hall : ∀ i (h : i < s.size), i < k → isD s[i]) (hk : k ≤ 17) : dgV 0 ((bl s).take k) < 100000000000000000 := by
  have h1 := dgV_lt _ (take_dig hall) 0 0 (by simp)
  have h2 : 10 ^ (0 + ((bl s).take k).length) ≤ 10 ^ 17 := Nat.pow_le_pow_right (by omega) (by rw [List.length_take]; omega)
  have : (10 : Nat) ^ 17 = 100000000000000000 := by decide
  omega
theorem rdV_short {s : ByteArray} (h : ¬ (1 ≤ s.size ∧ s.size ≤ 18)) : rdV (bl s) = none := by
  unfold rdV; rw [bl_len, if_neg (fun q => h ⟨q.1, q.2.1⟩)]
theorem rdV_char {s : ByteArray} {k : Nat} (h : k < s.size) (hc : ¬ isD s[k]) : rdV (bl s) = none := by
  unfold rdV; rw [if_neg (fun q => hc (q.2.2.1 _ (List.mem_of_getElem? (bl_get h))))]
theorem rdV_end {s : ByteArray} (h1 : 1 ≤ s.size) (h2 : s.size ≤ 18) (hall : ∀ i (h : i < s.size), isD s[i]) : rdV (bl s) = if itS (dgV 0 (bl s) : Int) = s then some (dgV 0 (bl s) : Int) else none := by
  have hd := take_dig (s := s) (k := s.size) (fun i h _ => hall i h)
  rw [List.take_of_length_le (by rw [bl_len]; exact Nat.le_refl _)] at hd
  have e : (itS (dgV 0 (bl s) : Int) = s) = (Lib.decDigits (dgV 0 (bl s)) = bl s) := by
    rw [eq_iff_iff, itS_iff, Lib.itoa_nonneg]
  unfold rdV
  simp only [e]
  by_cases q : Lib.decDigits (dgV 0 (bl s)) = bl s
  · rw [if_pos q, if_pos ⟨by rw [bl_len]; exact h1, by rw [bl_len]; exact h2, hd, q⟩]
  · rw [if_neg q, if_neg (fun z => q z.2.2.2)]
set_option maxRecDepth 100000 in
set_option maxHeartbeats 2000000 in
theorem spec_l01Value (s : ByteArray) (w : World) (hs : Mod s) :
    Calls Tryz.prog 46 #[.string s] w fun e w' => ∃ v : Int, e = .returned (.tuple #[.int .i64 v, .bool (rdV (bl s)).isSome]) ∧ (∀ n, rdV (bl s) = some n → v = n) ∧ Below w.heap.size w w' := by
  unfold Mod at hs
  by_cases h1 : s.size < 1
  · have HR := Lib.hid (rdV_short (s := s) (by omega))
    go_enter Tryz.func46, Tryz.ntmps46
    go_wp2
    go_ret2
    rw [HR.out]
    exact ⟨_, rfl, (fun n h => by cases h), Below.refl _ _⟩
  by_cases h8 : 18 < s.size
  · have HR := Lib.hid (rdV_short (s := s) (by omega))
    go_enter Tryz.func46, Tryz.ntmps46
    go_wp2
    go_ret2
    rw [HR.out]
    exact ⟨_, rfl, (fun n h => by cases h), Below.refl _ _⟩
  have b1 : decide ((s.size : Int) < 1) = false := by simp; omega
  have b8 : decide (18 < (s.size : Int)) = false := by simp; omega
  go_enter Tryz.func46, Tryz.ntmps46
  go_wp2
  go_loop [4, 5] (fun u v => ∃ k : Nat, k ≤ s.size ∧ v = .int .i64 k ∧ u = .int .i64 (dgV 0 ((bl s).take k) : Nat) ∧ ∀ i (h : i < s.size), i < k → isD s[i]) (fun _ v => s.size - (intOf v).toNat)
  case atStart => exact ⟨0, by omega, rfl, by rw [List.take_zero, dgV_nil]; rfl, fun i h h0 => by omega⟩
  case round =>
    obtain ⟨k, hk, rfl, rfl, hall⟩ := hrel
    have HL := Lib.hid hall
    have hbd := dgV_bd hall (by omega)
    have hbe : k ≤ 17 → dgV 0 ((bl s).take k) < 100000000000000000 := fun h => dgV_be hall h
    clear hall
    by_cases hlt : k < s.size
    · by_cases hc : isD s[k]
      · have HC := Lib.hid hc
        have HD := Lib.hid (dgV_step hlt)
        unfold isD at hc
        have hbe := hbe (by omega)
        generalize dgV 0 ((bl s).take k) = D at *
        have hw1 : IntKind.u8.wrap ((s[k].toNat : Int) - 48) = (s[k].toNat : Int) - 48 := by unfold IntKind.wrap; simp [IntKind.signed, IntKind.bits]; omega
        have hw2 : IntKind.i64.wrap (10 * (D : Int)) = 10 * (D : Int) := IntWalk.i64_in _ ⟨by omega, by omega⟩
        have hw3 : IntKind.i64.wrap (10 * (D : Int) + ((s[k].toNat : Int) - 48)) = 10 * (D : Int) + ((s[k].toNat : Int) - 48) := IntWalk.i64_in _ ⟨by omega, by omega⟩
        go_wp2
        all_goals first | (exfalso; simp at *; omega) | skip
        all_goals
          go_round
          case rel => exact ⟨k + 1, by omega, by go_num, by rw [HD.out]; go_num, fun i h hi => by
            by_cases e : i = k
            · subst e; exact HC.out
            · exact HL.out i h (by omega)⟩
          case measure => simp [intOf]; omega
      · have HR := Lib.hid (rdV_char hlt hc)
        unfold isD at hc
        go_wp2
        all_goals first | (exfalso; simp at *; omega) | skip
        all_goals go_ret2
        all_goals rw [HR.out]
        all_goals exact ⟨_, rfl, (fun n h => by cases h), Below.refl _ _⟩
    · have hkl : k = s.size := by omega
      subst hkl
      have hdd := rdV_end (s := s) (by omega) (by omega) (fun i h => HL.out i h h)
      rw [List.take_of_length_le (by rw [bl_len]; exact Nat.le_refl _)] at hbd
      have et : (bl s).take s.size = bl s := List.take_of_length_le (by rw [bl_len]; exact Nat.le_refl _)
      rw [et]
      generalize dgV 0 (bl s) = D at *
      by_cases hq : itS (D : Int) = s
      · rw [if_pos hq] at hdd
        have HR := Lib.hid hdd
        have HQ := Lib.hid hq
        have q1 : ((itS (D : Int)).toList == s.toList) = true := by rw [hq]; simp
        clear hdd hq
        go_wp2_with fail
        refine (spec_l01Dec D (by omega) _).mono ?_
        rintro e w2 ⟨rfl, hb2⟩
        go_wp2
        go_ret2
        rw [HR.out]
        exact ⟨_, rfl, (fun n h => by injection h), hb2⟩
      · rw [if_neg hq] at hdd
        have HR := Lib.hid hdd
        have q1 := sbeq_f hq
        clear hdd
        go_wp2_with fail
        refine (spec_l01Dec D (by omega) _).mono ?_
        rintro e w2 ⟨rfl, hb2⟩
        go_wp2
        go_ret2
        rw [HR.out]
        exact ⟨_, rfl, (fun n h => by cases h), hb2⟩
end Go.Proofs.YtbdacplndmnkhaaGreatDoor
namespace Go.Proofs.YtbdacplndmnkhaaGreatDoor
set_option linter.unusedVariables false
set_option linter.unusedSimpArgs false
open Go.RowKit
set_option maxRecDepth 100000 in
set_option maxHeartbeats 4000000 in
theorem spec_l03Numbers (A : Option Addr) (c : Nat) (ws : List ByteArray) (w : World) (h : Rd w A (ws.map sV)) (hl : ws.length ≤ 1048601) (hm : ∀ s ∈ ws, Mod s) :
    Calls Tryz.prog 25 #[.slice A ws.length c] w (NumsR (mapO rdV (ws.map bl)) w) := by
  have H := Lib.hid h
  have HM := Lib.hid hm
  clear h hm
  go_enter Tryz.func25, Tryz.ntmps25
  go_wp2
  go_loopw [4, 5] (fun u v wr => ∃ (k : Nat) (acc : List Int), k ≤ ws.length ∧ v = .int .i64 k ∧ acc.length = k ∧ mapO rdV ((ws.take k).map bl) = some acc ∧ Own wr w.heap.size 2 1 u acc.length (acc.map iV) ∧ Below w.heap.size w wr) (fun _ v _ => ws.length - (intOf v).toNat)
  case atStart => exact ⟨0, [], by omega, rfl, rfl, rfl, by simpa using Own.lit0 w w.heap.size 2 1 (Nat.le_refl _), (Below.refl _ _).alloc (Nat.le_refl _) _⟩
  case round =>
    obtain ⟨k, acc, hk, rfl, hac, hF, hO, hbw⟩ := hrel
    have HO := Lib.hid hO
    have HF := Lib.hid hF
    have hbH := Lib.hid hbw
    clear hF hO
    by_cases hlt : k < ws.length
    · obtain ⟨s, hs⟩ := get_some hlt
      obtain ⟨b, off, rfl, hb, hat⟩ := H.out.opened (k := k) (by simpa using hlt)
      have t0 := words_at (hat.below hbw hb) hs
      have HS := Lib.hid hs
      have HMS := HM.out s (List.mem_of_getElem? hs)
      clear hs hat hbw
      go_wp2_with fail
      refine (spec_l01Value s _ HMS).mono ?_
      rintro e wm ⟨v, rfl, hvv, hbm⟩
      have HB2 := Lib.hid (Below.via hbH.out hbm hbH.out.size)
      have HO2 := Lib.hid (HO.out.below hbm (Nat.le_refl _))
      have hzz : w.heap.size ≤ wm.heap.size := HB2.out.size
      clear hbm
      cases hv : rdV (bl s) with
      | none =>
        have HV := Lib.hid hv
        clear hv hvv
        go_wp2
        go_ret2
        exact NumsR.none_ (mapO_no HS.out HV.out) ⟨rfl, HB2.out⟩
      | some n =>
        obtain rfl := hvv n hv
        have HV := Lib.hid hv
        clear hv hvv
        go_wp2_with ((at_builtin; refine wp_app1 _ rfl (.tmp 25) (.tmp 27) 38 rfl (w.heap.size) info_i64 Tryz.underlying38 rfl (by omega) (by omega) _ (acc.length) _ rfl (HO2.out.alloc _) wm.heap.size 1 1 [iV (v)] rfl rfl (by intro j u hu; match j, hu with | 0, hu => (simp at hu; subst hu; simp) | j + 1, hu => simp at hu) (by simp [Value.oneCell']) (by omega) (by simp; omega) ?_; intro v' wn hO' hbn))
        go_roundw
        case rel =>
          refine ⟨k + 1, acc ++ [v], by omega, by go_num, by simp [hac], mapO_at HS.out HF.out HV.out, by simpa using hO', ?_⟩
          have h1 := HB2.out
          (repeat' (first | (with_reducible exact Below.refl _ _) | (with_reducible assumption) | (with_reducible refine Below.alloc ?_ ?_ _) | (with_reducible refine Below.drew ?_) | (with_reducible refine Below.drewN' ?_ _) | (with_reducible refine Below.setCell ?_ ?_ _) | (refine Below.via ?_ (by with_reducible assumption) ?_) | (with_reducible refine Below.via ?_ (Wd.h _) ?_) | go_size))
        case measure => simp [intOf]; try omega
    · have hkl : k = ws.length := by omega
      obtain ⟨A', c', rfl, -, hr, -⟩ := HO.out.val
      have HR := Lib.hid hr
      clear hr
      go_wp2
      go_ret2
      refine NumsR.some_ (l := acc) ?_ ⟨A', c', rfl, HR.out, hbH.out⟩
      have := HF.out
      rw [List.take_of_length_le (by omega)] at this
      exact this
theorem cut_hit {S : List UInt8} {c : UInt8} {fr k : Nat} {D R : List (List UInt8)} (hx : S[k]? = some c) (h : D ++ glue ((S.drop fr).take (k - fr)) (spl c (S.drop k)) = R) :
    (D ++ [(S.drop fr).take (k - fr)]) ++ glue ((S.drop (k + 1)).take (k + 1 - (k + 1))) (spl c (S.drop (k + 1))) = R := by
  rw [← h, drop_consI hx, spl_cons_eq, Nat.sub_self, List.take_zero, glue_nil (spl_ne c _)]
  simp [glue]
theorem cut_miss {S : List UInt8} {c x : UInt8} {fr k : Nat} {D R : List (List UInt8)} (hx : S[k]? = some x) (hc : x ≠ c) (hf : fr ≤ k) (h : D ++ glue ((S.drop fr).take (k - fr)) (spl c (S.drop k)) = R) :
    D ++ glue ((S.drop fr).take (k + 1 - fr)) (spl c (S.drop (k + 1))) = R := by
  have e : (S.drop fr)[k - fr]? = some x := by rw [List.getElem?_drop, show fr + (k - fr) = k by omega]; exact hx
  rw [← h, drop_consI hx, spl_cons_ne hc, glue_glue _ _ _ (spl_ne c _), show k + 1 - fr = (k - fr) + 1 by omega, List.take_add_one, e]
  rfl
theorem cut_end {S : List UInt8} {c : UInt8} {fr : Nat} {D R : List (List UInt8)} (h : D ++ glue ((S.drop fr).take (S.length - fr)) (spl c (S.drop S.length)) = R) :
    D ++ [(S.drop fr).take (S.length - fr)] = R := by
  rw [← h, List.drop_length]; simp [spl, glue]
theorem bl_extract (s : ByteArray) (a b : Nat) : bl (s.extract a b) = ((bl s).drop a).take (b - a) := by
  show (s.extract a b).data.toList = _
  rw [ByteArray.data_extract, Array.toList_extract, List.extract_eq_take_drop]
theorem spl_part : ∀ (c : UInt8) (l x : List UInt8), x ∈ spl c l → x.length ≤ l.length
  | c, [], x, h => by simp [spl] at h; subst h; simp
  | c, b :: l, x, h => by
    have ih := spl_part c l
    unfold spl at h
    split at h
    · rcases List.mem_cons.1 h with rfl | h'
      · simp
      · have := ih x h'; simp; omega
    · cases e : spl c l with
      | nil => exact absurd e (spl_ne c l)
      | cons y r =>
        rw [e] at h ih
        rcases List.mem_cons.1 h with rfl | h'
        · have := ih y (by simp); simp; omega
        · have := ih x (by simp [h']); simp; omega
/-- the words of a text, as it was cut -/
structure Cut (s : ByteArray) (c : UInt8) (ws : List ByteArray) : Prop where
  eq : ws.map bl = spl c (bl s)
theorem Cut.len {s : ByteArray} {c : UInt8} {ws : List ByteArray} (h : Cut s c ws) (hs : Mod s) : ws.length ≤ 1048601 := by
  have h1 := congrArg List.length h.eq
  have h2 := spl_length c (bl s)
  rw [List.length_map] at h1
  rw [bl_len] at h2
  unfold Mod at hs; omega
theorem Cut.mod {s : ByteArray} {c : UInt8} {ws : List ByteArray} (h : Cut s c ws) (hs : Mod s) : ∀ x ∈ ws, Mod x := by
  intro x hx
  have h1 : bl x ∈ spl c (bl s) := by rw [← h.eq]; exact List.mem_map.2 ⟨x, hx, rfl⟩
  have h2 := spl_part c _ _ h1
  rw [bl_len, bl_len] at h2
  unfold Mod at hs ⊢; omega
set_option maxRecDepth 100000 in
set_option maxHeartbeats 4000000 in
theorem spec_l01Split (s : ByteArray) (c : UInt8) (cn : Int) (w : World) (hc : cn = c.toNat) (hs : Mod s) :
    Calls Tryz.prog 26 #[.string s, .int .u8 cn] w fun e w' => ∃ A d ws, e = .returned (.slice A ws.length d) ∧ Cut s c ws ∧ Rd w' A (ws.map sV) ∧ Below w.heap.size w w' := by
  unfold Mod at hs
  have HCN := Lib.hid hc
  clear hc
  go_enter Tryz.func26, Tryz.ntmps26
  go_wp2
  go_loopw [5, 6, 7] (fun u f v wr => ∃ (k fr : Nat) (D : List ByteArray), k ≤ s.size + 1 ∧ fr ≤ k ∧ v = .int .i64 k ∧ f = .int .i64 fr ∧ D.length ≤ k ∧ (k ≤ s.size → D.map bl ++ glue (((bl s).drop fr).take (k - fr)) (spl c ((bl s).drop k)) = spl c (bl s)) ∧ (k = s.size + 1 → D.map bl = spl c (bl s)) ∧ Own wr w.heap.size 9 1 u D.length (D.map sV) ∧ Below w.heap.size w wr) (fun _ _ v _ => s.size + 1 - (intOf v).toNat)
  case atStart => exact ⟨0, 0, [], by omega, by omega, rfl, rfl, by simp, fun _ => by simp [glue_nil (spl_ne c _)], fun h => by omega, by simpa using Own.lit0 w w.heap.size 9 1 (Nat.le_refl _), (Below.refl _ _).alloc (Nat.le_refl _) _⟩
  case round =>
    obtain ⟨k, fr, D, hk, hfr, rfl, rfl, hD, hF, hE, hO, hbw⟩ := hrel
    have HO := Lib.hid hO
    have hbH := Lib.hid hbw
    have HF := Lib.hid hF
    have HE := Lib.hid hE
    have hzz : w.heap.size ≤ wr.heap.size := hbw.size
    clear hF hE hO hbw
    by_cases hle : k ≤ s.size
    · have HF2 := Lib.hid (HF.out hle)
      have hsl := run_slice_string (P := Tryz.prog) wr 9 s .i64 .i64 fr k Tryz.underlying9 (by omega) (by omega) (by omega)
      simp only [Int.toNat_natCast] at hsl
      by_cases hend : k = s.size
      · subst hend
        go_wp2_with ((at_builtin; refine wp_app1 _ rfl (.tmp 26) (.tmp 31) 46 rfl (w.heap.size) info_str Tryz.underlying46 rfl (by omega) (by omega) _ (D.length) _ rfl (HO.out.alloc _) wr.heap.size 1 1 [sV (s.extract fr s.size)] rfl rfl (by intro j u hu; match j, hu with | 0, hu => (simp at hu; subst hu; simp) | j + 1, hu => simp at hu) (by simp [Value.oneCell']) (by omega) (by simp; omega) ?_; intro v' wn hO' hbn))
        go_roundw
        case rel =>
          refine ⟨s.size + 1, s.size + 1, D ++ [s.extract fr s.size], by omega, by omega, by go_num, by go_num, by simp; omega, fun h => by omega, fun _ => ?_, by simpa using hO', ?_⟩
          · have e := HF2.out
            have e1 : D.map bl ++ glue (((bl s).drop fr).take ((bl s).length - fr)) (spl c ((bl s).drop (bl s).length)) = spl c (bl s) := by rw [bl_len]; exact e
            have e2 := cut_end e1
            rw [List.map_append, ← e2, List.map_cons, List.map_nil, bl_extract, bl_len]
          · have h1 := hbH.out
            (repeat' (first | (with_reducible exact Below.refl _ _) | (with_reducible assumption) | (with_reducible refine Below.alloc ?_ ?_ _) | (with_reducible refine Below.drew ?_) | (with_reducible refine Below.drewN' ?_ _) | (with_reducible refine Below.setCell ?_ ?_ _) | (refine Below.via ?_ (by with_reducible assumption) ?_) | (with_reducible refine Below.via ?_ (Wd.h _) ?_) | go_size))
        case measure => simp [intOf]; try omega
      · have hlt : k < s.size := by omega
        by_cases hcc : s[k] = c
        · have g2 : ((c.toNat : Int) == cn) = true := by rw [HCN.out]; simp
          have HX := Lib.hid (show (bl s)[k]? = some c by rw [bl_get hlt, hcc])
          go_wp2_with ((at_builtin; refine wp_app1 _ rfl (.tmp 26) (.tmp 31) 46 rfl (w.heap.size) info_str Tryz.underlying46 rfl (by omega) (by omega) _ (D.length) _ rfl (HO.out.alloc _) wr.heap.size 1 1 [sV (s.extract fr k)] rfl rfl (by intro j u hu; match j, hu with | 0, hu => (simp at hu; subst hu; simp) | j + 1, hu => simp at hu) (by simp [Value.oneCell']) (by omega) (by simp; omega) ?_; intro v' wn hO' hbn))
          go_roundw
          case rel =>
            refine ⟨k + 1, k + 1, D ++ [s.extract fr k], by omega, by omega, by go_num, by go_num, by simp; omega, fun h => ?_, fun h => by omega, by simpa using hO', ?_⟩
            · rw [List.map_append, List.map_cons, List.map_nil, bl_extract]
              exact cut_hit HX.out HF2.out
            · have h1 := hbH.out
              (repeat' (first | (with_reducible exact Below.refl _ _) | (with_reducible assumption) | (with_reducible refine Below.alloc ?_ ?_ _) | (with_reducible refine Below.drew ?_) | (with_reducible refine Below.drewN' ?_ _) | (with_reducible refine Below.setCell ?_ ?_ _) | (refine Below.via ?_ (by with_reducible assumption) ?_) | (with_reducible refine Below.via ?_ (Wd.h _) ?_) | go_size))
          case measure => simp [intOf]; try omega
        · have g2 : ((s[k].toNat : Int) == cn) = false := by
            rw [HCN.out]; simp only [beq_eq_false_iff_ne, ne_eq]
            intro q; exact hcc (UInt8.toNat_inj.1 (by omega))
          have HX := Lib.hid (bl_get hlt)
          go_wp2
          go_roundw
          case rel => exact ⟨k + 1, fr, D, by omega, by omega, by go_num, rfl, by omega, fun h => cut_miss HX.out hcc hfr HF2.out, fun h => by omega, HO.out, hbH.out⟩
          case measure => simp [intOf]; try omega
    · have HC := Lib.hid (HE.out (by omega))
      obtain ⟨A', c', rfl, -, hr, -⟩ := HO.out.val
      have HR := Lib.hid hr
      clear hr
      go_wp2
      go_ret
      exact ⟨A', c', D, rfl, ⟨HC.out⟩, HR.out, hbH.out⟩
theorem split_one (s : ByteArray) (c : UInt8) (w : World) (hs : Mod s) (ht : Tabs w) :
    Calls Tryz.prog 18 #[.string s, .string ⟨#[c]⟩] w fun e w' => ∃ A d ws, e = .returned (.slice A ws.length d) ∧ Cut s c ws ∧ Rd w' A (ws.map sV) ∧ Below w.heap.size w w' := by
  unfold Mod at hs
  obtain ⟨m, hm⟩ := ht.max
  refine (Tryz.strings_Split s ⟨#[c]⟩ m w (by omega) hm (by show 1 ≤ 1; omega)).mono ?_
  rintro e w' ⟨rfl, rfl⟩
  have hl : (Lib.splitB ⟨#[c]⟩ 0 (Lib.countB s ⟨#[c]⟩) s).length = Lib.countB s ⟨#[c]⟩ + 1 := Lib.splitB_all ⟨#[c]⟩ (by show 1 ≤ 1; omega) 0 _ s rfl
  refine ⟨some ⟨w.heap.size, 0, none⟩, Lib.countB s ⟨#[c]⟩ + 1, Lib.splitB ⟨#[c]⟩ 0 (Lib.countB s ⟨#[c]⟩) s, by rw [hl], ⟨splitB_spl c s⟩, ?_, (Below.refl _ _).alloc (Nat.le_refl _) _⟩
  exact Rd.mk (fun j v e => by rw [Nat.zero_add]; simp; simpa using e) (by simp)
end Go.Proofs.YtbdacplndmnkhaaGreatDoor

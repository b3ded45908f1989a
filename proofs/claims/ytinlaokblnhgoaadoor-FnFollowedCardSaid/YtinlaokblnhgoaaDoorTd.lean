/- Numbers in decimal: impl.decimal, spec.l01Dec. -/
import Derived.Test.YtinlaokblnhgoaaDoorSf
import Derived.Test.YtinlaokblnhgoaaDoorTb
import Derived.Lib.AppendIntMem
import Derived.Lib.ItoaLen
import Derived.Lib.ItoaMem
import Derived.Laws.BytesArg
namespace Go.Proofs.YtinlaokblnhgoaaDoor
set_option linter.unusedVariables false
set_option linter.unusedSimpArgs false
open Go.RowKit
abbrev Pow (w : World) : Prop := Lib.TabIs Tryd.prog w "internal/strconv.uint64pow10" .u64 Lib.pow10Tab
theorem gPow : Tryd.prog.globalNamed "internal/strconv.uint64pow10" = some 1 := by kernel_rfl
theorem Pow.below {w w' : World} (h : Pow w) (hb : Below w.heap.size w w') : Pow w' := Lib.tabBelow_of_tabIs h w' hb
/-- a number's text -/
def itS (n : Int) : ByteArray := ⟨(Lib.itoa n).toArray⟩
theorem itS_list (n : Int) : (itS n).data.toList = Lib.itoa n := by simp [itS]
theorem itS_size (n : Int) : (itS n).size = (Lib.itoa n).length := by simp [itS, ByteArray.size]
set_option maxRecDepth 100000 in
theorem impl_decimal (n : Int) (w : World) (h0 : -9223372036854775808 ≤ n) (h1 : n ≤ 9223372036854775807) (ht : Pow w) :
    Calls Tryd.prog 33 #[.int .i64 n] w fun e w' => e = .returned (.string (itS n)) ∧ Below w.heap.size w w' := by
  have HT := Lib.hid ht
  clear ht
  go_enter Tryd.func33, Tryd.ntmps33
  go_wp2_with ((go_at_call 37; refine (Tryd.strconv_FormatInt_10 n h0 h1 _ HT.out).mono ?_; rintro e w1 ⟨rfl, k, os, rfl⟩))
  go_ret
  exact ⟨rfl, Lib.below_grow _ _ (Nat.le_refl _) _ _⟩
/-- a drawn region that makes one block -/
structure W1 (w0 : World) (kb : Nat) (v : List Value) (L : Nat → Bool) (b : Nat) (w : World) : Prop where
  bl : Below w0.heap.size w0 w
  bx : L kb = true → w0.heap.size ≤ b ∧ Bx w b v
theorem W1.start {w0 w : World} {kb b : Nat} {v : List Value} (h : Below w0.heap.size w0 w) : W1 w0 kb v (fun _ => false) b w := ⟨h, fun h => by cases h⟩
theorem W1.below {w0 w w' : World} {kb b i : Nat} {v : List Value} {L : Nat → Bool} (h : W1 w0 kb v L b w) (hi : kb ≠ i) (hb : Below w.heap.size w w') : W1 w0 kb v (upd L i) b w' :=
  ⟨h.bl.trans (hb.mono h.bl.size), by rw [upd_ne hi]; exact fun e => ⟨(h.bx e).1, (h.bx e).2.below hb (h.bx e).2.lt⟩⟩
theorem W1.pure {w0 w : World} {kb b i : Nat} {v : List Value} {L : Nat → Bool} (h : W1 w0 kb v L b w) (hi : kb ≠ i) : W1 w0 kb v (upd L i) b w := h.below hi (Below.refl _ _)
theorem W1.made {w0 w w' : World} {kb b : Nat} {v : List Value} {L : Nat → Bool} (h : W1 w0 kb v L b w) (hb : Below w.heap.size w w') (hx : Bx w' w.heap.size v) : W1 w0 kb v (upd L kb) w.heap.size w' :=
  ⟨h.bl.trans (hb.mono h.bl.size), fun _ => ⟨h.bl.size, hx⟩⟩
theorem byte_conv {b : Nat} {x : Int} {w : World} (h : w.cell? ⟨b, 0, none⟩ = some (.int .u8 x)) : (convert 22 9 (.slice (some ⟨b, 0, none⟩) 1 1)).run Tryd.prog w = .ok (.string (strOfNums [x])) w :=
  run_convert_bytes_arg w 22 5 Tryd.underlying22 Tryd.underlying5 b 0 1 1 [x] rfl (fun i hi => by
    obtain rfl : i = 0 := by omega
    simpa using h) 9 Tryd.underlying9
theorem byte1_rule' (n : Int) (w : World) : (convert 22 9 (.slice (some ⟨w.heap.size, 0, none⟩) 1 1)).run Tryd.prog (w.alloc (.cells #[.int .u8 n] 5)) = .ok (.string (strOfNums [n])) (w.alloc (.cells #[.int .u8 n] 5)) :=
  byte_conv (by simp)
theorem itoa_dig {n : Nat} (h : n < 10) : strOfNums [48 + (n : Int)] = itS n := by
  simp only [itS, Lib.itoa_nonneg, Lib.decDigits_one h, strOfNums, List.map_cons, List.map_nil]
  congr 4
theorem itoa_step {n : Nat} (h : ¬ n < 10) : itS ((n / 10 : Nat) : Int) ++ strOfNums [48 + ((n % 10 : Nat) : Int)] = itS n := by
  have e : Lib.decDigits n = Lib.decDigits (n / 10) ++ [UInt8.ofNat (48 + n % 10)] := by rw [Lib.decDigits, dif_neg h]
  have e2 : (48 + ((n % 10 : Nat) : Int)).toNat = 48 + n % 10 := by omega
  simp only [itS, Lib.itoa_nonneg, e, strOfNums, List.map_cons, List.map_nil, e2]
  simp [ByteArray.append_eq, ByteArray.ext_iff]
set_option maxRecDepth 100000 in
set_option maxHeartbeats 2000000 in
theorem spec_l01Dec : ∀ (n : Nat), n ≤ 9223372036854775807 → ∀ w : World,
    Calls Tryd.prog 29 #[.int .i64 (n : Int)] w fun e w' => e = .returned (.string (itS n)) ∧ Below w.heap.size w w' := by
  intro n
  induction n using Nat.strongRecOn with
  | ind n ih =>
  intro hn w
  have IH := Lib.hid ih
  clear ih
  by_cases hlt : n < 10
  · have g1 : (n : Int) < 10 := by omega
    have hcv := byte1_rule' (48 + (n : Int)) w
    rw [itoa_dig hlt] at hcv
    go_enter Tryd.func29, Tryd.ntmps29
    go_wp2
    go_ret
    exact ⟨rfl, by (repeat' (first | (with_reducible exact Below.refl _ _) | (with_reducible assumption) | (with_reducible refine Below.alloc ?_ ?_ _) | (with_reducible refine Below.drew ?_) | (with_reducible refine Below.drewN' ?_ _) | (with_reducible refine Below.setCell ?_ ?_ _) | (refine Below.via ?_ (by with_reducible assumption) ?_) | (with_reducible refine Below.via ?_ (Wd.h _) ?_) | go_size))⟩
  · have g1 : ¬ (n : Int) < 10 := by omega
    have ST := Lib.hid (itoa_step hlt)
    go_enter Tryd.func29, Tryd.ntmps29
    go_wp2_with fail
    refine wp_region_tb (R := Nat) [some 10, some 11, some 12, some 13, some 14, some 15, some 16, some 17, some 18, some 19, some 2] _ (by intro u; simp only [frs, Act.put, List.setIfInBounds_toArray, List.set_cons_zero, List.set_cons_succ, Nat.reduceAdd]; exact rfl) (fun ρ j => ([.int .i64 (n : Int), .int .i64 ((n : Int) / 10), .string (itS ((n : Int) / 10)), .int .i64 (n : Int), .int .i64 ((n : Int) % 10), .int .i64 (48 + (n : Int) % 10), .int .u8 (48 + (n : Int) % 10), .slice (some ⟨ρ, 0, none⟩) 1 1, .string (strOfNums [48 + (n : Int) % 10]), .string (itS ((n : Int) / 10) ++ strOfNums [48 + (n : Int) % 10]), .string (itS ((n : Int) / 10) ++ strOfNums [48 + (n : Int) % 10])] : List Value).getD j undef) (W1 w 7 [.int .u8 (48 + (n : Int) % 10)]) (by kernel_rfl) (by kernel_rfl) 0 (W1.start (Below.drew (Below.refl _ _))) ?_ ?_
    · intro ii hii L ρ u wx hl hp hc hu hn hW
      have hii : ii < 11 := hii
      have HNo := Lib.hid hn
      clear hn
      have hii : ii = 0 ∨ ii = 1 ∨ ii = 2 ∨ ii = 3 ∨ ii = 4 ∨ ii = 5 ∨ ii = 6 ∨ ii = 7 ∨ ii = 8 ∨ ii = 9 ∨ ii = 10 := by omega
      rcases hii with rfl | rfl | rfl | rfl | rfl | rfl | rfl | rfl | rfl | rfl | rfl
      · refine wpOp_go (E := True) rfl rfl (fun K' hK => ?_)
        go_simp
        refine hK.out _ _ ⟨ρ, (by simp only [put]; rfl), fun _ _ => rfl, hW.pure (by omega)⟩
      · have e0 : u 0 = .int .i64 (n : Int) := hu 0 (all_of hp (by kernel_rfl))
        have hw1 : IntKind.i64.wrap ((n : Int) / 10) = (n : Int) / 10 := IntWalk.i64_in _ ⟨by omega, by omega⟩
        refine wpOp_go (E := True) rfl rfl (fun K' hK => ?_)
        go_simp
        refine hK.out _ _ ⟨ρ, (by simp only [put, e0, hw1]; rfl), fun _ _ => rfl, hW.pure (by omega)⟩
      · have e1 : u 1 = .int .i64 ((n : Int) / 10) := hu 1 (all_of hp (by kernel_rfl))
        refine wpOp_go (E := True) rfl rfl (fun K' hK => ?_)
        go_simp
        go_at_call 29
        have hih := IH.out (n / 10) (by omega) (by omega) wx
        rw [show ((n / 10 : Nat) : Int) = (n : Int) / 10 by omega] at hih
        refine hih.mono ?_
        rintro e' w5 ⟨rfl, hb5⟩
        refine hK.out _ _ ⟨ρ, (by simp only [put, e1]; rfl), fun _ _ => rfl, hW.below (by omega) hb5⟩
      · refine wpOp_go (E := True) rfl rfl (fun K' hK => ?_)
        go_simp
        refine hK.out _ _ ⟨ρ, (by simp only [put]; rfl), fun _ _ => rfl, hW.pure (by omega)⟩
      · have e3 : u 3 = .int .i64 (n : Int) := hu 3 (all_of hp (by kernel_rfl))
        refine wpOp_go (E := True) rfl rfl (fun K' hK => ?_)
        go_simp
        refine hK.out _ _ ⟨ρ, (by simp only [put, e3]; rfl), fun _ _ => rfl, hW.pure (by omega)⟩
      · have e4 : u 4 = .int .i64 ((n : Int) % 10) := hu 4 (all_of hp (by kernel_rfl))
        have hw5 : IntKind.i64.wrap (48 + (n : Int) % 10) = 48 + (n : Int) % 10 := IntWalk.i64_in _ ⟨by omega, by omega⟩
        refine wpOp_go (E := True) rfl rfl (fun K' hK => ?_)
        go_simp
        refine hK.out _ _ ⟨ρ, (by simp only [put, e4, hw5]; rfl), fun _ _ => rfl, hW.pure (by omega)⟩
      · have e5 : u 5 = .int .i64 (48 + (n : Int) % 10) := hu 5 (all_of hp (by kernel_rfl))
        have hw6 : IntKind.u8.wrap (48 + (n : Int) % 10) = 48 + (n : Int) % 10 := by unfold IntKind.wrap; simp [IntKind.signed, IntKind.bits]; omega
        refine wpOp_go (E := True) rfl rfl (fun K' hK => ?_)
        go_simp
        refine hK.out _ _ ⟨ρ, (by simp only [put, e5, hw6]; rfl), fun _ _ => rfl, hW.pure (by omega)⟩
      · have e6 : u 6 = .int .u8 (48 + (n : Int) % 10) := hu 6 (all_of hp (by kernel_rfl))
        refine wpOp_go (E := True) rfl rfl (fun K' hK => ?_)
        go_simp
        generalize hW5 : World.alloc wx _ = w5
        have hb5 : Below wx.heap.size wx w5 := by rw [← hW5]; (repeat' (first | (with_reducible exact Below.refl _ _) | (with_reducible assumption) | (with_reducible refine Below.alloc ?_ ?_ _) | (with_reducible refine Below.drew ?_) | (with_reducible refine Below.drewN' ?_ _) | (with_reducible refine Below.setCell ?_ ?_ _) | (refine Below.via ?_ (by with_reducible assumption) ?_) | (with_reducible refine Below.via ?_ (Wd.h _) ?_) | go_size))
        have hx5 : Bx w5 wx.heap.size [.int .u8 (48 + (n : Int) % 10)] := by rw [← hW5]; exact bx1 (by simp) (by simp) (by simp)
        clear hW5
        refine hK.out _ _ ⟨wx.heap.size, (by simp only [put, e6]; rfl), fun j hj => by
            have n8 : L 8 = false := no_later hc hl (by kernel_rfl)
            have n9 : L 9 = false := no_later hc n8 (by kernel_rfl)
            have n10 : L 10 = false := no_later hc n9 (by kernel_rfl)
            match j, hj with
            | 0, _ => rfl
            | 1, _ => rfl
            | 2, _ => rfl
            | 3, _ => rfl
            | 4, _ => rfl
            | 5, _ => rfl
            | 6, _ => rfl
            | 7, hj => rw [hl] at hj; cases hj
            | 8, hj => rw [n8] at hj; cases hj
            | 9, hj => rw [n9] at hj; cases hj
            | 10, hj => rw [n10] at hj; cases hj
            | _ + 11, _ => rfl, hW.made hb5 hx5⟩
      · have e7 : u 7 = .slice (some ⟨ρ, 0, none⟩) 1 1 := hu 7 (all_of hp (by kernel_rfl))
        have hcv := byte_conv ((hW.bx (all_of hp (show (before _ 8).contains 7 = true by kernel_rfl))).2.cell 0 rfl)
        refine wpOp_go (E := True) rfl rfl (fun K' hK => ?_)
        go_simp
        refine hK.out _ _ ⟨ρ, (by simp only [put, e7]; rfl), fun _ _ => rfl, hW.pure (by omega)⟩
      · have e2 : u 2 = .string (itS ((n : Int) / 10)) := hu 2 (all_of hp (by kernel_rfl))
        have e8 : u 8 = .string (strOfNums [48 + (n : Int) % 10]) := hu 8 (all_of hp (by kernel_rfl))
        have hns : ¬ 9223372036854775807 < (itS ((n : Int) / 10)).size + (strOfNums [48 + (n : Int) % 10]).size := by have := Lib.itoa_length_le ((n : Int) / 10) (by omega) (by omega); rw [itS_size, strOfNums_size]; simp; omega
        refine wpOp_go (E := True) rfl rfl (fun K' hK => ?_)
        go_simp
        refine hK.out _ _ ⟨ρ, (by simp only [put, e2, e8]; rfl), fun _ _ => rfl, hW.pure (by omega)⟩
      · have e9 : u 9 = .string (itS ((n : Int) / 10) ++ strOfNums [48 + (n : Int) % 10]) := hu 9 (all_of hp (by kernel_rfl))
        refine wpOp_go (E := True) rfl rfl (fun K' hK => ?_)
        go_simp
        refine hK.out _ _ ⟨ρ, (by simp only [put, e9]; rfl), fun _ _ => rfl, hW.pure (by omega)⟩
    · intro L ρ u wx hall hu hW
      have e10 : u 10 = .string (itS n) := by
        have e := hu 10 (by show 10 < 11; omega)
        rw [e]
        show Value.string (itS ((n : Int) / 10) ++ strOfNums [48 + (n : Int) % 10]) = _
        have s := ST.out
        rw [show ((n / 10 : Nat) : Int) = (n : Int) / 10 by omega, show ((n % 10 : Nat) : Int) = (n : Int) % 10 by omega] at s
        rw [s]
      rw [e10]
      have hbl := hW.bl
      clear hu hall hW e10
      go_wp2
      go_ret
      exact ⟨rfl, hbl⟩
end Go.Proofs.YtinlaokblnhgoaaDoor

/- The draws of contracts' texts; the plain law of a contract's text. -/
import Derived.Test.YtbdacplndmnkhaaGreatDoorDac
import Derived.Test.YtbdacplndmnkhaaGreatDoorMxT2
import Derived.Test.YtbdacplndmnkhaaGreatDoorMxT3
namespace Go.Proofs.YtbdacplndmnkhaaGreatDoor
set_option linter.unusedVariables false
set_option linter.unusedSimpArgs false
open Go.RowKit
theorem ct_back {c : Ctr} (h : c.sm) (hn : (ctN c).any (fun x => decide (x < 0)) = false) : rcL (mapO rdV (spl 32 (bl (ctT c)))) = some c := by
  have hs := h
  obtain ⟨⟨a1, a2⟩, ⟨b1, b2⟩, ⟨c1, c2⟩, ⟨d1, d2⟩, ⟨e1, e2⟩, ⟨f1, f2⟩, ⟨g1, g2⟩, ⟨i1, i2⟩⟩ := h
  have h0 : ∀ x ∈ ctN c, 0 ≤ x ∧ x ≤ 1000000000 := by
    intro x hx
    have h1 : ¬ x < 0 := fun q => by
      have h2 : (ctN c).any (fun x => decide (x < 0)) = true := List.any_eq_true.2 ⟨x, hx, by simpa using q⟩
      rw [hn] at h2; cases h2
    simp only [ctN, List.mem_cons, List.not_mem_nil, or_false] at hx
    rcases hx with rfl | rfl | rfl | rfl | rfl | rfl | rfl | rfl <;> omega
  rw [ct_pos hn]
  have e : spl 32 (bl (joinN (ctN c) spc)) = (ctN c).map Lib.itoa := by
    unfold ctN
    exact joinN_split (c := 32) rfl (fun n => itoa_sls (by decide))
  rw [e, (mapO_NV _ _).2 ⟨mapO_itoa (fun x hx => by have := h0 x hx; omega), fun x hx => (h0 x hx).1, fun w hw => by
    obtain ⟨x, hx, rfl⟩ := List.mem_map.1 hw
    exact itoa18 (h0 x hx).1 (h0 x hx).2⟩]
  rfl
theorem ct_none : rcL (mapO rdV (spl 32 (bl ⟨#[]⟩))) = none := by
  have e : rdV [] = none := by unfold rdV; rfl
  show rcL (mapO rdV [[]]) = none
  rw [mapO_none e [[]] (by simp)]
  rfl
theorem ctT_le {c : Ctr} (h : c.sm) : (ctT c).size ≤ 1000 := by
  obtain ⟨⟨a1, a2⟩, ⟨b1, b2⟩, ⟨c1, c2⟩, ⟨d1, d2⟩, ⟨e1, e2⟩, ⟨f1, f2⟩, ⟨g1, g2⟩, ⟨i1, i2⟩⟩ := h
  unfold ctT
  split
  · decide
  · have h2 := join_le (l := (ctN c).map Lib.itoa) (sep := spc.data.toList) (b := 21) (fun x hx => by
      obtain ⟨y, hy, rfl⟩ := List.mem_map.1 hx
      refine itoa_le ?_
      simp only [ctN, List.mem_cons, List.not_mem_nil, or_false] at hy
      rcases hy with rfl | rfl | rfl | rfl | rfl | rfl | rfl | rfl <;> omega) (by decide)
    rw [List.length_map] at h2
    have e : (joinN (ctN c) spc).size = (Lib.join ((ctN c).map Lib.itoa) spc.data.toList).length := by simp [joinN, ByteArray.size]
    have e8 : (ctN c).length = 8 := rfl
    rw [e8] at h2
    rw [e]; omega
def dmgS : List ByteArray := [⟨#[48]⟩, ⟨#[49]⟩, ⟨#[32]⟩, ⟨#[46]⟩, ⟨#[45]⟩, ⟨#[97]⟩, ⟨#[47]⟩, ⟨#[10]⟩]
theorem dmgS_sz (k : Nat) : (dmgS.getD k ⟨#[]⟩).size ≤ 1 := by
  match k with
  | 0 => decide
  | 1 => decide
  | 2 => decide
  | 3 => decide
  | 4 => decide
  | 5 => decide
  | 6 => decide
  | 7 => decide
  | k + 8 =>
    have e : dmgS.getD (k + 8) ⟨#[]⟩ = ⟨#[]⟩ := by simp [dmgS]
    rw [e]; decide
theorem dmgS_at (k : Nat) (h : k < 8) : (#[Value.string ⟨#[48]⟩, .string ⟨#[49]⟩, .string ⟨#[32]⟩, .string ⟨#[46]⟩, .string ⟨#[45]⟩, .string ⟨#[97]⟩, .string ⟨#[47]⟩, .string ⟨#[10]⟩] : Array Value)[k]? = some (.string (dmgS.getD k ⟨#[]⟩)) := by
  match k, h with
  | 0, _ => rfl
  | 1, _ => rfl
  | 2, _ => rfl
  | 3, _ => rfl
  | 4, _ => rfl
  | 5, _ => rfl
  | 6, _ => rfl
  | 7, _ => rfl
/-- the region that puts a byte into a text -/
structure WD6 (p : Nat) (w0 : World) (L : Nat → Bool) (ρ : Nat × Nat) (w : World) : Prop where
  kp : Keep (· = p) w0 w
  src : Src w p
  bk : L 3 = true → w0.heap.size ≤ ρ.1 ∧ ∀ j, j < 8 → w.cell? ⟨ρ.1, j, none⟩ = some (.string (dmgS.getD j ⟨#[]⟩))
  lt : L 3 = true → ρ.1 < w.heap.size
  rn : L 5 = true → ρ.2 < 8
section
variable {p : Nat} {w0 w w' : World} {L : Nat → Bool} {ρ : Nat × Nat}
theorem WD6.start (hk : Keep (· = p) w0 w) (hs : Src w p) : WD6 p w0 (fun _ => false) ρ w := ⟨hk, hs, (fun e => by cases e), (fun e => by cases e), (fun e => by cases e)⟩
theorem WD6.pure (h : WD6 p w0 L ρ w) {i : Nat} (h3 : 3 ≠ i) (h5 : 5 ≠ i) : WD6 p w0 (upd L i) ρ w := by
  constructor <;> try simp only [upd_ne h3, upd_ne h5]
  · exact h.kp
  · exact h.src
  · exact h.bk
  · exact h.lt
  · exact h.rn
theorem WD6.call (h : WD6 p w0 L ρ w) (hp : p < w0.heap.size) (hk : Keep (· = p) w w') (hs : Src w' p) {r : Nat} (hr : r < 8) : WD6 p w0 (upd L 5) (ρ.1, r) w' := by
  refine ⟨h.kp.trans hk, hs, ?_, ?_, fun _ => hr⟩
  · rw [upd_ne (by omega)]
    intro e
    obtain ⟨q1, q2⟩ := h.bk e
    exact ⟨q1, fun j hj => (hk.cell _ _ (h.lt e) (by omega)).trans (q2 j hj)⟩
  · rw [upd_ne (by omega)]; exact fun e => Nat.lt_of_lt_of_le (h.lt e) hk.size
theorem WD6.lit (h : WD6 p w0 L ρ w) (hb : Below w.heap.size w w') (hlt : w.heap.size < w'.heap.size) (hc : ∀ j, j < 8 → w'.cell? ⟨w.heap.size, j, none⟩ = some (.string (dmgS.getD j ⟨#[]⟩))) : WD6 p w0 (upd L 3) (w.heap.size, ρ.2) w' :=
  ⟨h.kp.via hb, h.src.below hb, fun _ => ⟨h.kp.size, hc⟩, fun _ => hlt, by rw [upd_ne (by omega)]; exact h.rn⟩
end
/-- the last region of DrawIsContract -/
structure WIC (b1 b2 p : Nat) (x1 y1 x2 : List Value) (w0 : World) (L : Nat → Bool) (ρ : Ctr) (w : World) : Prop where
  kp : Keep (fun k => k = b1 ∨ k = b2 ∨ k = p) w0 w
  src : L 4 = false → L 5 = false → Src w p
  a0 : L 4 = false → Bx w b1 x1
  a1 : L 4 = true → Bx w b1 y1
  c0 : L 5 = false → Bx w b2 x2
  c1 : L 5 = true → Bx w b2 ρ.cells
  sm : L 3 = true → ρ.sm
section
variable {b1 b2 p : Nat} {x1 y1 x2 : List Value} {w0 w w' : World} {L : Nat → Bool} {ρ : Ctr}
theorem WIC.start (hk : Keep (fun k => k = b1 ∨ k = b2 ∨ k = p) w0 w) (hs : Src w p) (h1 : Bx w b1 x1) (h2 : Bx w b2 x2) : WIC b1 b2 p x1 y1 x2 w0 (fun _ => false) ρ w :=
  ⟨hk, fun _ _ => hs, fun _ => h1, (fun e => by cases e), fun _ => h2, (fun e => by cases e), (fun e => by cases e)⟩
theorem WIC.pure (h : WIC b1 b2 p x1 y1 x2 w0 L ρ w) {i : Nat} (h0 : [3, 4, 5].contains i = false) : WIC b1 b2 p x1 y1 x2 w0 (upd L i) ρ w := by
  simp at h0
  obtain ⟨h3, h4, h5⟩ := h0
  constructor <;> try simp only [upd_ne (Ne.symm h3), upd_ne (Ne.symm h4), upd_ne (Ne.symm h5)]
  · exact h.kp
  · exact h.src
  · exact h.a0
  · exact h.a1
  · exact h.c0
  · exact h.c1
  · exact h.sm
theorem WIC.call (h : WIC b1 b2 p x1 y1 x2 w0 L ρ w) (hp1 : p ≠ b1) (hp2 : p ≠ b2) (h5 : L 5 = false) (hk : Keep (· = p) w w') (hs : Src w' p) {y : Ctr} (hy : y.sm) : WIC b1 b2 p x1 y1 x2 w0 (upd L 3) y w' := by
  refine ⟨h.kp.trans (hk.mono fun k q => .inr (.inr q)), fun _ _ => hs, ?_, ?_, ?_, ?_, fun _ => hy⟩
  · rw [upd_ne (by omega)]; exact fun e => (h.a0 e).keep hk (by omega)
  · rw [upd_ne (by omega)]; exact fun e => (h.a1 e).keep hk (by omega)
  · rw [upd_ne (by omega)]; exact fun e => (h.c0 e).keep hk (by omega)
  · rw [upd_ne (by omega)]; intro e; rw [h5] at e; cases e
theorem WIC.st1 (h : WIC b1 b2 p x1 y1 x2 w0 L ρ w) (hb : b1 ≠ b2) (hk : Keep (· = b1) w w') (hx : Bx w' b1 y1) : WIC b1 b2 p x1 y1 x2 w0 (upd L 4) ρ w' := by
  refine ⟨h.kp.trans (hk.mono fun k q => .inl q), (fun e => by rw [upd_self] at e; cases e), (fun e => by rw [upd_self] at e; cases e), fun _ => hx, ?_, ?_, ?_⟩
  · rw [upd_ne (by omega)]; exact fun e => (h.c0 e).keep hk (by omega)
  · rw [upd_ne (by omega)]; exact fun e => (h.c1 e).keep hk (by omega)
  · rw [upd_ne (by omega)]; exact h.sm
theorem WIC.st2 (h : WIC b1 b2 p x1 y1 x2 w0 L ρ w) (hb : b1 ≠ b2) (hk : Keep (· = b2) w w') (hx : Bx w' b2 ρ.cells) : WIC b1 b2 p x1 y1 x2 w0 (upd L 5) ρ w' := by
  refine ⟨h.kp.trans (hk.mono fun k q => .inr (.inl q)), (fun _ e => by rw [upd_self] at e; cases e), ?_, ?_, (fun e => by rw [upd_self] at e; cases e), fun _ => hx, ?_⟩
  · rw [upd_ne (by omega)]; exact fun e => (h.a0 e).keep hk (by omega)
  · rw [upd_ne (by omega)]; exact fun e => (h.a1 e).keep hk (by omega)
  · rw [upd_ne (by omega)]; exact h.sm
end
theorem fill8D {w wr : World} {b B : Nat} {z0 z1 z2 z3 z4 z5 z6 z7 : Value} (hB : Below B w wr) (hb : B ≤ b) (h : Bx wr b [z0, z1, z2, z3, z4, z5, z6, z7]) (v0 v1 v2 v3 v4 v5 v6 v7 : Value) : Bx ((((((((wr.setCell ⟨b, 0, none⟩ v0).setCell ⟨b, 1, none⟩ v1).setCell ⟨b, 2, none⟩ v2).setCell ⟨b, 3, none⟩ v3).setCell ⟨b, 4, none⟩ v4).setCell ⟨b, 5, none⟩ v5).setCell ⟨b, 6, none⟩ v6).setCell ⟨b, 7, none⟩ v7) b [v0, v1, v2, v3, v4, v5, v6, v7] ∧ Below B w ((((((((wr.setCell ⟨b, 0, none⟩ v0).setCell ⟨b, 1, none⟩ v1).setCell ⟨b, 2, none⟩ v2).setCell ⟨b, 3, none⟩ v3).setCell ⟨b, 4, none⟩ v4).setCell ⟨b, 5, none⟩ v5).setCell ⟨b, 6, none⟩ v6).setCell ⟨b, 7, none⟩ v7) :=
  ⟨bx_fill8 h v0 v1 v2 v3 v4 v5 v6 v7, (Below.setCell (Below.setCell (Below.setCell (Below.setCell (Below.setCell (Below.setCell (Below.setCell (Below.setCell hB hb v0) hb v1) hb v2) hb v3) hb v4) hb v5) hb v6) hb v7)⟩
theorem keep2C {w : World} {b : Nat} (v0 v1 : Value) : Keep (· = b) w ((w.setCell ⟨b, 0, none⟩ v0).setCell ⟨b, 1, none⟩ v1) := ((Keep.refl (· = b) w).setCell rfl v0).setCell rfl v1
theorem bx_fill2C {w : World} {b : Nat} {z0 z1 : Value} (h : Bx w b [z0, z1]) (v0 v1 : Value) : Bx ((w.setCell ⟨b, 0, none⟩ v0).setCell ⟨b, 1, none⟩ v1) b [v0, v1] :=
  (h.set_ 0 v0 (by simp)).set_ 1 v1 (by simp)
theorem str_app (a b : ByteArray) : (a ++ b).size = a.size + b.size := by simp
set_option maxRecDepth 100000 in
set_option maxHeartbeats 8000000 in
theorem spec_l01Damage (p : Nat) (t : ByteArray) (w : World) (h : Src w p) (ht : t.size ≤ 1000000) :
    Calls Tryz.prog 24 #[.pointer (some ⟨p, 0, none⟩), .string t] w fun e w' => ∃ u : ByteArray, e = .returned (.string u) ∧ u.size ≤ t.size + 1 ∧ Src w' p ∧ Keep (· = p) w w' := by
  have hp := h.lt
  have HS := Lib.hid h
  clear h
  go_enter Tryz.func24, Tryz.ntmps24
  go_wp2_with fail
  refine (spec_l01Next p _ _ HS.out (by omega)).mono ?_
  rintro e w1 ⟨k, rfl, ka, ka1, kb, hs1, hk1⟩
  have kc : k < (t.size : Int) + 1 := by
    by_cases h1 : (t.size : Int) + 1 ≤ 1
    · have := ka1 h1; omega
    · exact kb (by omega)
  have HS1 := Lib.hid hs1
  have HK1 := Lib.hid hk1
  have hz1 := hk1.size
  clear hs1 hk1 kb ka1 HS
  obtain ⟨k, rfl⟩ : ∃ n : Nat, k = n := ⟨k.toNat, by omega⟩
  have hkt : k ≤ t.size := by omega
  go_wp2_with fail
  refine (spec_l01Next p _ _ HS1.out (by omega)).mono ?_
  rintro e w2 ⟨z, rfl, za, _, zb, hs2, hk2⟩
  have HS2 := Lib.hid hs2
  have HK2 := Lib.hid (HK1.out.trans hk2)
  have hz2 := hk2.size
  clear hs2 hk2 zb HS1 HK1
  by_cases e0 : z = 0
  · subst e0
    go_wp2
    go_ret
    exact ⟨_, rfl, by simp; omega, HS2.out, HK2.out⟩
  by_cases e1 : z = 1
  · subst e1
    go_wp2_with fail
    refine wp_region_tb (R := Nat × Nat) [some 20, some 21, some 22, some 23, some 24, some 25, some 26, some 27, some 28, some 29, some 30, some 31, some 32, some 4] _ (by intro u; simp only [frs, Act.put, List.setIfInBounds_toArray, List.set_cons_zero, List.set_cons_succ, Nat.reduceAdd]; exact rfl) (fun ρ j => ([.string t, .int .i64 k, .string (t.extract 0 k), .slice (some ⟨ρ.1, 0, none⟩) 8 8, .pointer (some ⟨p, 0, none⟩), .int .i64 (ρ.2 : Nat), .pointer (some ⟨ρ.1, ρ.2, none⟩), .string (dmgS.getD ρ.2 ⟨#[]⟩), .string (t.extract 0 k ++ dmgS.getD ρ.2 ⟨#[]⟩), .string t, .int .i64 k, .string (t.extract k t.size), .string (t.extract 0 k ++ dmgS.getD ρ.2 ⟨#[]⟩ ++ t.extract k t.size), .string (t.extract 0 k ++ dmgS.getD ρ.2 ⟨#[]⟩ ++ t.extract k t.size)] : List Value).getD j undef) (WD6 p w2) (by kernel_rfl) (by kernel_rfl) (0, 0) (WD6.start (Keep.drew (Keep.refl _ _)) (HS2.out.below (Below.drew (Below.refl _ _)))) ?_ ?_
    · intro ii hii L ρ u wx hl hp hc hu hn hW
      have hii : ii < 14 := hii
      have HNo := Lib.hid hn
      clear hn
      have hii : ii = 0 ∨ ii = 1 ∨ ii = 2 ∨ ii = 3 ∨ ii = 4 ∨ ii = 5 ∨ ii = 6 ∨ ii = 7 ∨ ii = 8 ∨ ii = 9 ∨ ii = 10 ∨ ii = 11 ∨ ii = 12 ∨ ii = 13 := by omega
      rcases hii with rfl | rfl | rfl | rfl | rfl | rfl | rfl | rfl | rfl | rfl | rfl | rfl | rfl | rfl
      · refine wpOp_go (E := True) rfl rfl (fun K' hK => ?_)
        go_simp
        refine hK.out _ _ ⟨ρ, (by simp only [put]; rfl), fun _ _ => rfl, hW.pure (by omega) (by omega)⟩
      · refine wpOp_go (E := True) rfl rfl (fun K' hK => ?_)
        go_simp
        refine hK.out _ _ ⟨ρ, (by simp only [put]; rfl), fun _ _ => rfl, hW.pure (by omega) (by omega)⟩
      · have e0 : u 0 = .string t := hu 0 (all_of hp (by kernel_rfl))
        have e1 : u 1 = .int .i64 k := hu 1 (all_of hp (by kernel_rfl))
        refine wpOp_go (E := True) rfl rfl (fun K' hK => ?_)
        go_simp
        refine hK.out _ _ ⟨ρ, (by simp only [put, e0, e1]; rfl), fun _ _ => rfl, hW.pure (by omega) (by omega)⟩
      · refine wpOp_go (E := True) rfl rfl (fun K' hK => ?_)
        go_simp
        have hc5 : ∀ j, j < 8 → (World.alloc wx (.cells #[Value.string ⟨#[48]⟩, .string ⟨#[49]⟩, .string ⟨#[32]⟩, .string ⟨#[46]⟩, .string ⟨#[45]⟩, .string ⟨#[97]⟩, .string ⟨#[47]⟩, .string ⟨#[10]⟩] 9)).cell? ⟨wx.heap.size, j, none⟩ = some (.string (dmgS.getD j ⟨#[]⟩)) := fun j hj => Eq.trans (by simp) (dmgS_at j hj)
        generalize hW5 : World.alloc wx _ = w5 at *
        have hb5 : Below wx.heap.size wx w5 := by rw [← hW5]; (repeat' (first | (with_reducible exact Below.refl _ _) | (with_reducible assumption) | (with_reducible refine Below.alloc ?_ ?_ _) | (with_reducible refine Below.drew ?_) | (with_reducible refine Below.drewN' ?_ _) | (with_reducible refine Below.setCell ?_ ?_ _) | (refine Below.via ?_ (by with_reducible assumption) ?_) | (with_reducible refine Below.via ?_ (Wd.h _) ?_) | go_size))
        have hl5 : wx.heap.size < w5.heap.size := by rw [← hW5]; simp
        clear hW5
        refine hK.out _ _ ⟨(wx.heap.size, ρ.2), (by simp only [put]; rfl), fun j hj => by
            have n6 : L 6 = false := no_later hc hl (by kernel_rfl)
            have n7 : L 7 = false := no_later hc n6 (by kernel_rfl)
            have n8 : L 8 = false := no_later hc n7 (by kernel_rfl)
            have n12 : L 12 = false := no_later hc n8 (by kernel_rfl)
            have n13 : L 13 = false := no_later hc n12 (by kernel_rfl)
            match j, hj with
            | 0, _ => rfl
            | 1, _ => rfl
            | 2, _ => rfl
            | 3, hj => rw [hl] at hj; cases hj
            | 4, _ => rfl
            | 5, _ => rfl
            | 6, hj => rw [n6] at hj; cases hj
            | 7, hj => rw [n7] at hj; cases hj
            | 8, hj => rw [n8] at hj; cases hj
            | 9, _ => rfl
            | 10, _ => rfl
            | 11, _ => rfl
            | 12, hj => rw [n12] at hj; cases hj
            | 13, hj => rw [n13] at hj; cases hj
            | _ + 14, _ => rfl, hW.lit hb5 hl5 hc5⟩
      · refine wpOp_go (E := True) rfl rfl (fun K' hK => ?_)
        go_simp
        refine hK.out _ _ ⟨ρ, (by simp only [put]; rfl), fun _ _ => rfl, hW.pure (by omega) (by omega)⟩
      · have e4 : u 4 = .pointer (some ⟨p, 0, none⟩) := hu 4 (all_of hp (by kernel_rfl))
        refine wpOp_go (E := True) rfl rfl (fun K' hK => ?_)
        go_simp
        go_at_call 23
        refine (spec_l01Next p _ _ hW.src (by omega)).mono ?_
        rintro e' w6 ⟨r, rfl, ra, _, rb, hs6, hk6⟩
        have rc := rb (by omega)
        obtain ⟨r, rfl⟩ : ∃ n : Nat, r = n := ⟨r.toNat, by omega⟩
        refine hK.out _ _ ⟨(ρ.1, r), (by simp only [put, e4]; rfl), fun j hj => by
            have n6 : L 6 = false := no_later hc hl (by kernel_rfl)
            have n7 : L 7 = false := no_later hc n6 (by kernel_rfl)
            have n8 : L 8 = false := no_later hc n7 (by kernel_rfl)
            have n12 : L 12 = false := no_later hc n8 (by kernel_rfl)
            have n13 : L 13 = false := no_later hc n12 (by kernel_rfl)
            match j, hj with
            | 0, _ => rfl
            | 1, _ => rfl
            | 2, _ => rfl
            | 3, _ => rfl
            | 4, _ => rfl
            | 5, hj => rw [hl] at hj; cases hj
            | 6, hj => rw [n6] at hj; cases hj
            | 7, hj => rw [n7] at hj; cases hj
            | 8, hj => rw [n8] at hj; cases hj
            | 9, _ => rfl
            | 10, _ => rfl
            | 11, _ => rfl
            | 12, hj => rw [n12] at hj; cases hj
            | 13, hj => rw [n13] at hj; cases hj
            | _ + 14, _ => rfl, hW.call (by omega) hk6 hs6 (by omega)⟩
      · have e3 : u 3 = .slice (some ⟨ρ.1, 0, none⟩) 8 8 := hu 3 (all_of hp (by kernel_rfl))
        have e5 : u 5 = .int .i64 (ρ.2 : Nat) := hu 5 (all_of hp (by kernel_rfl))
        have hrn := hW.rn (all_of hp (show (before _ 6).contains 5 = true by kernel_rfl))
        have g6 : ((ρ.2 : Nat) : Int) < 8 := by omega
        refine wpOp_go (E := True) rfl rfl (fun K' hK => ?_)
        go_simp
        refine hK.out _ _ ⟨ρ, (by simp only [put, e3, e5]; rfl), fun _ _ => rfl, hW.pure (by omega) (by omega)⟩
      · have e6 : u 6 = .pointer (some ⟨ρ.1, ρ.2, none⟩) := hu 6 (all_of hp (by kernel_rfl))
        have hrn := hW.rn (all_of (hc 6 (all_of hp (show (before _ 7).contains 6 = true by kernel_rfl))) (show (before _ 6).contains 5 = true by kernel_rfl))
        have hbk := (hW.bk (all_of (hc 6 (all_of hp (show (before _ 7).contains 6 = true by kernel_rfl))) (show (before _ 6).contains 3 = true by kernel_rfl))).2 ρ.2 hrn
        refine wpOp_go (E := True) rfl rfl (fun K' hK => ?_)
        go_simp
        refine hK.out _ _ ⟨ρ, (by simp only [put, e6]; rfl), fun _ _ => rfl, hW.pure (by omega) (by omega)⟩
      · have e2 : u 2 = .string (t.extract 0 k) := hu 2 (all_of hp (by kernel_rfl))
        have e7 : u 7 = .string (dmgS.getD ρ.2 ⟨#[]⟩) := hu 7 (all_of hp (by kernel_rfl))
        have hq8 : (dmgS[ρ.2]?.getD ⟨#[]⟩).size ≤ 1 := by have := dmgS_sz ρ.2; simpa using this
        have hs8 : ¬ 9223372036854775807 < k + (dmgS[ρ.2]?.getD ⟨#[]⟩).size := by omega
        refine wpOp_go (E := True) rfl rfl (fun K' hK => ?_)
        go_simp
        refine hK.out _ _ ⟨ρ, (by simp only [put, e2, e7]; rfl), fun _ _ => rfl, hW.pure (by omega) (by omega)⟩
      · refine wpOp_go (E := True) rfl rfl (fun K' hK => ?_)
        go_simp
        refine hK.out _ _ ⟨ρ, (by simp only [put]; rfl), fun _ _ => rfl, hW.pure (by omega) (by omega)⟩
      · refine wpOp_go (E := True) rfl rfl (fun K' hK => ?_)
        go_simp
        refine hK.out _ _ ⟨ρ, (by simp only [put]; rfl), fun _ _ => rfl, hW.pure (by omega) (by omega)⟩
      · have e9 : u 9 = .string t := hu 9 (all_of hp (by kernel_rfl))
        have e10 : u 10 = .int .i64 k := hu 10 (all_of hp (by kernel_rfl))
        refine wpOp_go (E := True) rfl rfl (fun K' hK => ?_)
        go_simp
        refine hK.out _ _ ⟨ρ, (by simp only [put, e9, e10]; rfl), fun _ _ => rfl, hW.pure (by omega) (by omega)⟩
      · have e8 : u 8 = .string (t.extract 0 k ++ dmgS.getD ρ.2 ⟨#[]⟩) := hu 8 (all_of hp (by kernel_rfl))
        have e11 : u 11 = .string (t.extract k t.size) := hu 11 (all_of hp (by kernel_rfl))
        have hq8 : (dmgS[ρ.2]?.getD ⟨#[]⟩).size ≤ 1 := by have := dmgS_sz ρ.2; simpa using this
        have hs8 : ¬ 9223372036854775807 < k + (dmgS[ρ.2]?.getD ⟨#[]⟩).size + (t.size - k) := by omega
        refine wpOp_go (E := True) rfl rfl (fun K' hK => ?_)
        go_simp
        refine hK.out _ _ ⟨ρ, (by simp only [put, e8, e11]; rfl), fun _ _ => rfl, hW.pure (by omega) (by omega)⟩
      · have e12 : u 12 = .string (t.extract 0 k ++ dmgS.getD ρ.2 ⟨#[]⟩ ++ t.extract k t.size) := hu 12 (all_of hp (by kernel_rfl))
        refine wpOp_go (E := True) rfl rfl (fun K' hK => ?_)
        go_simp
        refine hK.out _ _ ⟨ρ, (by simp only [put, e12]; rfl), fun _ _ => rfl, hW.pure (by omega) (by omega)⟩
    · intro L ρ u wx hall hu hW
      have e13 : u 13 = .string (t.extract 0 k ++ dmgS.getD ρ.2 ⟨#[]⟩ ++ t.extract k t.size) := hu 13 (by show 13 < 14; omega)
      rw [e13]
      have hsz := dmgS_sz ρ.2
      have HKW := Lib.hid (HK2.out.trans hW.kp)
      have HSW := Lib.hid hW.src
      clear hu hall hW e13
      go_wp2
      go_ret
      exact ⟨_, rfl, by simp only [str_app, ByteArray.size_extract]; omega, HSW.out, HKW.out⟩
  by_cases e2 : z = 2
  · subst e2
    by_cases hlt : k < t.size
    · go_wp2_with fail
      ((refine wp_region_wd (by kernel_rfl) (by kernel_rfl) ?_); (repeat (go_big_quiet_step ((first | fail)))); (refine wpQuiet_nil ?_); rintro w9 ⟨⟨w'', hbw9⟩, hw''⟩; obtain rfl : w9 = w'' := hw''; have hzw9 := hbw9.size; (try simp at hzw9))
      go_wp2
      go_ret
      exact ⟨_, rfl, by simp; omega, HS2.out.below hbw9, HK2.out.via hbw9⟩
    · go_wp2
      go_ret
      exact ⟨_, rfl, by simp, HS2.out, HK2.out⟩
  have b0 : (z == 0) = false := by simpa using e0
  have b1 : (z == 1) = false := by simpa using e1
  have b2 : (z == 2) = false := by simpa using e2
  go_wp2
  go_ret
  exact ⟨_, rfl, by simp, HS2.out, HK2.out⟩
set_option maxRecDepth 100000 in
set_option maxHeartbeats 8000000 in
theorem spec_DrawIsContract (A0 : Option Addr) (c0 : Nat) (l0 : List Int) (w : World) (h : BytesIn w A0 l0) (hl : l0.length ≤ 4096) :
    Calls Tryz.prog 15 #[.slice A0 l0.length c0] w fun e w' => ∃ (x0 x1 : Value) (y : Ctr), e = .returned (.tuple #[.agg #[x0, x1], y.val]) ∧ (∃ a n c, x0 = .slice a n c) ∧ (∃ a n c, x1 = .slice a n c) ∧ y.sm ∧ Below w.heap.size w w' := by
  have HI := Lib.hid h
  clear h
  go_enter Tryz.func15, Tryz.ntmps15
  go_wp2_with fail
  refine (spec_l01From A0 c0 l0 _ (HI.out.below (by (repeat' (first | (with_reducible exact Below.refl _ _) | (with_reducible assumption) | (with_reducible refine Below.alloc ?_ ?_ _) | (with_reducible refine Below.drew ?_) | (with_reducible refine Below.drewN' ?_ _) | (with_reducible refine Below.setCell ?_ ?_ _) | (refine Below.via ?_ (by with_reducible assumption) ?_) | (with_reducible refine Below.via ?_ (Wd.h _) ?_) | go_size)))) hl).mono ?_
  rintro e w1 ⟨rfl, hs1, hb1⟩
  have hs1 : Src w1 (w.heap.size + 2) := by simpa using hs1
  have HS1 := Lib.hid hs1
  have hp1 := hs1.lt
  clear hs1
  (obtain ⟨hcn, hfn⟩ := bcell hb1; have hz1 := hb1.size; (try simp at hz1); have Ncw0_0 := hcn (w.heap.size) (0) (by first | omega | (simp; done) | (simp; omega)); have Nfw0_0 := hfn (w.heap.size) (0) (by first | omega | (simp; done) | (simp; omega)); have Nhy0 : w.heap.size < w1.heap.size := (by omega); have Ncw0_1 := hcn (w.heap.size) (1) (by first | omega | (simp; done) | (simp; omega)); have Nfw0_1 := hfn (w.heap.size) (1) (by first | omega | (simp; done) | (simp; omega)); have Ncw1_0 := hcn (w.heap.size + 1) (0) (by first | omega | (simp; done) | (simp; omega)); have Nfw1_0 := hfn (w.heap.size + 1) (0) (by first | omega | (simp; done) | (simp; omega)); have Nhy1 : w.heap.size + 1 < w1.heap.size := (by omega); have Ncw1_1 := hcn (w.heap.size + 1) (1) (by first | omega | (simp; done) | (simp; omega)); have Nfw1_1 := hfn (w.heap.size + 1) (1) (by first | omega | (simp; done) | (simp; omega)); have Ncw1_2 := hcn (w.heap.size + 1) (2) (by first | omega | (simp; done) | (simp; omega)); have Nfw1_2 := hfn (w.heap.size + 1) (2) (by first | omega | (simp; done) | (simp; omega)); have Ncw1_3 := hcn (w.heap.size + 1) (3) (by first | omega | (simp; done) | (simp; omega)); have Nfw1_3 := hfn (w.heap.size + 1) (3) (by first | omega | (simp; done) | (simp; omega)); have Ncw1_4 := hcn (w.heap.size + 1) (4) (by first | omega | (simp; done) | (simp; omega)); have Nfw1_4 := hfn (w.heap.size + 1) (4) (by first | omega | (simp; done) | (simp; omega)); have Ncw1_5 := hcn (w.heap.size + 1) (5) (by first | omega | (simp; done) | (simp; omega)); have Nfw1_5 := hfn (w.heap.size + 1) (5) (by first | omega | (simp; done) | (simp; omega)); have Ncw1_6 := hcn (w.heap.size + 1) (6) (by first | omega | (simp; done) | (simp; omega)); have Nfw1_6 := hfn (w.heap.size + 1) (6) (by first | omega | (simp; done) | (simp; omega)); have Ncw1_7 := hcn (w.heap.size + 1) (7) (by first | omega | (simp; done) | (simp; omega)); have Nfw1_7 := hfn (w.heap.size + 1) (7) (by first | omega | (simp; done) | (simp; omega)); simp [go_sem] at Ncw0_0 Nfw0_0 Ncw0_1 Nfw0_1 Ncw1_0 Nfw1_0 Ncw1_1 Nfw1_1 Ncw1_2 Nfw1_2 Ncw1_3 Nfw1_3 Ncw1_4 Nfw1_4 Ncw1_5 Nfw1_5 Ncw1_6 Nfw1_6 Ncw1_7 Nfw1_7; clear hcn hfn; have cw0_0 := Ncw0_0; have fw0_0 := Nfw0_0; have cw0_1 := Ncw0_1; have fw0_1 := Nfw0_1; have cw1_0 := Ncw1_0; have fw1_0 := Nfw1_0; have cw1_1 := Ncw1_1; have fw1_1 := Nfw1_1; have cw1_2 := Ncw1_2; have fw1_2 := Nfw1_2; have cw1_3 := Ncw1_3; have fw1_3 := Nfw1_3; have cw1_4 := Ncw1_4; have fw1_4 := Nfw1_4; have cw1_5 := Ncw1_5; have fw1_5 := Nfw1_5; have cw1_6 := Ncw1_6; have fw1_6 := Nfw1_6; have cw1_7 := Ncw1_7; have fw1_7 := Nfw1_7; have hy0 := Nhy0; have hy1 := Nhy1; clear Ncw0_0 Nfw0_0 Ncw0_1 Nfw0_1 Ncw1_0 Nfw1_0 Ncw1_1 Nfw1_1 Ncw1_2 Nfw1_2 Ncw1_3 Nfw1_3 Ncw1_4 Nfw1_4 Ncw1_5 Nfw1_5 Ncw1_6 Nfw1_6 Ncw1_7 Nfw1_7 Nhy0 Nhy1)
  have X0 := Lib.hid (show Bx w1 w.heap.size [.slice none 0 0, .slice none 0 0] from bx2 hy0 cw0_0 fw0_0 cw0_1 fw0_1)
  have X1 := Lib.hid (show Bx w1 (w.heap.size + 1) [.int .i64 0, .int .i64 0, .int .i64 0, .int .i64 0, .int .i64 0, .int .i64 0, .int .i64 0, .int .i64 0] from bx8 hy1 cw1_0 fw1_0 cw1_1 fw1_1 cw1_2 fw1_2 cw1_3 fw1_3 cw1_4 fw1_4 cw1_5 fw1_5 cw1_6 fw1_6 cw1_7 fw1_7)
  have HBW := Lib.hid (show Below w.heap.size w w1 by (repeat' (first | (with_reducible exact Below.refl _ _) | (with_reducible assumption) | (with_reducible refine Below.alloc ?_ ?_ _) | (with_reducible refine Below.drew ?_) | (with_reducible refine Below.drewN' ?_ _) | (with_reducible refine Below.setCell ?_ ?_ _) | (refine Below.via ?_ (by with_reducible assumption) ?_) | (with_reducible refine Below.via ?_ (Wd.h _) ?_) | go_size)))
  clear hb1 hy0 cw0_0 fw0_0 cw0_1 fw0_1 hy1 cw1_0 fw1_0 cw1_1 fw1_1 cw1_2 fw1_2 cw1_3 fw1_3 cw1_4 fw1_4 cw1_5 fw1_5 cw1_6 fw1_6 cw1_7 fw1_7
  go_wp2_with fail
  refine (spec_l05DrawChord (w.heap.size + 2) _ HS1.out).mono ?_
  rintro e w2 ⟨A, Bq, c, d, N, x, rfl, hD⟩
  have Y0 := Lib.hid (X0.out.keep hD.kp (by omega))
  have Y1 := Lib.hid (X1.out.keep hD.kp (by omega))
  have HS2 := Lib.hid hD.src
  have HB2 := Lib.hid (show Below w.heap.size w w2 from hD.kp.below HBW.out (by omega) (by intro k q; omega))
  have hnl := hD.nl
  have hz2 := hD.kp.size
  clear hD X0 X1 HS1 HBW
  go_wp2_with fail
  generalize hW : World.alloc w2 _ = w3
  have hb3 : Below w2.heap.size w2 w3 := by rw [← hW]; (repeat' (first | (with_reducible exact Below.refl _ _) | (with_reducible assumption) | (with_reducible refine Below.alloc ?_ ?_ _) | (with_reducible refine Below.drew ?_) | (with_reducible refine Below.drewN' ?_ _) | (with_reducible refine Below.setCell ?_ ?_ _) | (refine Below.via ?_ (by with_reducible assumption) ?_) | (with_reducible refine Below.via ?_ (Wd.h _) ?_) | go_size))
  have X5 := Lib.hid (show Bx w3 w2.heap.size [.slice A N.nodes.length c, .slice Bq N.pipes.length d] by rw [← hW]; exact bx2 (by simp) (by simp) (by simp) (by simp) (by simp))
  have Z0 := Lib.hid (Y0.out.below hb3 Y0.out.lt)
  have Z1 := Lib.hid (Y1.out.below hb3 Y1.out.lt)
  have HS3 := Lib.hid (HS2.out.below hb3)
  have HB3 := Lib.hid (HB2.out.trans (hb3.mono (by omega)))
  have hz3 := X5.out.lt
  clear hW hb3 Y0 Y1 HS2 HB2
  refine wp_region_tb (R := Ctr) [some 14, some 15, some 16, some 17, none, none] _ (by intro u; simp only [frs, Act.put, List.setIfInBounds_toArray, List.set_cons_zero, List.set_cons_succ, Nat.reduceAdd]; exact rfl) (fun ρ j => ([.agg #[.slice A N.nodes.length c, .slice Bq N.pipes.length d], .pointer (some ⟨w.heap.size + 2, 0, none⟩), .agg #[.slice A N.nodes.length c, .slice Bq N.pipes.length d], ρ.val, undef, undef] : List Value).getD j undef) (WIC w.heap.size (w.heap.size + 1) (w.heap.size + 2) [.slice none 0 0, .slice none 0 0] [.slice A N.nodes.length c, .slice Bq N.pipes.length d] [.int .i64 0, .int .i64 0, .int .i64 0, .int .i64 0, .int .i64 0, .int .i64 0, .int .i64 0, .int .i64 0] w3) (by kernel_rfl) (by kernel_rfl) ⟨0, 0, 0, 0, 0, 0, 0, 0⟩ (WIC.start (Keep.drew (Keep.refl _ _)) (HS3.out.below (Below.drew (Below.refl _ _))) (Z0.out.below (Below.drew (Below.refl w3.heap.size w3)) (by omega)) (Z1.out.below (Below.drew (Below.refl w3.heap.size w3)) (by omega))) ?_ ?_
  · intro ii hii L ρ u wx hl hp hc hu hn hW
    have hii : ii < 6 := hii
    have HNo := Lib.hid hn
    clear hn
    have hb6 := X5.out.keep hW.kp (by omega)
    have z60 := hb6.cell 0 rfl
    have z61 := hb6.cell 1 rfl
    have hii : ii = 0 ∨ ii = 1 ∨ ii = 2 ∨ ii = 3 ∨ ii = 4 ∨ ii = 5 := by omega
    rcases hii with rfl | rfl | rfl | rfl | rfl | rfl
    · refine wpOp_go (E := True) rfl rfl (fun K' hK => ?_)
      go_simp
      refine hK.out _ _ ⟨ρ, (by simp only [put]; rfl), fun _ _ => rfl, hW.pure rfl⟩
    · refine wpOp_go (E := True) rfl rfl (fun K' hK => ?_)
      go_simp
      refine hK.out _ _ ⟨ρ, (by simp only [put]; rfl), fun _ _ => rfl, hW.pure rfl⟩
    · refine wpOp_go (E := True) rfl rfl (fun K' hK => ?_)
      go_simp
      refine hK.out _ _ ⟨ρ, (by simp only [put]; rfl), fun _ _ => rfl, hW.pure rfl⟩
    · have e1 : u 1 = .pointer (some ⟨w.heap.size + 2, 0, none⟩) := hu 1 (all_of hp (by kernel_rfl))
      have e2 : u 2 = .agg #[.slice A N.nodes.length c, .slice Bq N.pipes.length d] := hu 2 (all_of hp (by kernel_rfl))
      have n4 : L 4 = false := no_later hc hl (by kernel_rfl)
      have n5 : L 5 = false := no_later hc n4 (by kernel_rfl)
      have HSR := Lib.hid (hW.src n4 n5)
      refine wpOp_go (E := True) rfl rfl (fun K' hK => ?_)
      go_simp
      refine (spec_l20DrawOne (w.heap.size + 2) A Bq _ c _ d _ HSR.out hnl).mono ?_
      rintro e' w6 ⟨y, rfl, hy, hs6, hk6⟩
      refine hK.out _ _ ⟨y, (by simp only [put, e1, e2]; rfl), fun j hj => by
          have n5 : L 5 = false := no_later hc hl (by kernel_rfl)
          match j, hj with
          | 0, _ => rfl
          | 1, _ => rfl
          | 2, _ => rfl
          | 3, hj => rw [hl] at hj; cases hj
          | 4, _ => rfl
          | 5, hj => rw [n5] at hj; cases hj
          | _ + 6, _ => rfl, hW.call (by omega) (by omega) n5 hk6 hs6 hy⟩
    · have e0 : u 0 = .agg #[.slice A N.nodes.length c, .slice Bq N.pipes.length d] := hu 0 (all_of hp (by kernel_rfl))
      have hq := hW.a0 hl
      have hq0 := hq.cell 0 rfl
      have hq1 := hq.cell 1 rfl
      have hf0 := hq.frozen 0 rfl
      have hf1 := hq.frozen 1 rfl
      refine wpOp_go (E := True) rfl rfl (fun K' hK => ?_)
      go_simp
      refine hK.out _ _ ⟨ρ, (by simp only [put, e0]; rfl), fun _ _ => rfl, hW.st1 (by omega) (keep2C _ _) (bx_fill2C hq _ _)⟩
    · have e3 : u 3 = ρ.val := hu 3 (all_of hp (by kernel_rfl))
      have hq := hW.c0 hl
      have hq0 := hq.cell 0 rfl
      have hf0 := hq.frozen 0 rfl
      have hq1 := hq.cell 1 rfl
      have hf1 := hq.frozen 1 rfl
      have hq2 := hq.cell 2 rfl
      have hf2 := hq.frozen 2 rfl
      have hq3 := hq.cell 3 rfl
      have hf3 := hq.frozen 3 rfl
      have hq4 := hq.cell 4 rfl
      have hf4 := hq.frozen 4 rfl
      have hq5 := hq.cell 5 rfl
      have hf5 := hq.frozen 5 rfl
      have hq6 := hq.cell 6 rfl
      have hf6 := hq.frozen 6 rfl
      have hq7 := hq.cell 7 rfl
      have hf7 := hq.frozen 7 rfl
      refine wpOp_go (E := True) rfl rfl (fun K' hK => ?_)
      go_simp
      refine hK.out _ _ ⟨ρ, (by simp only [put, e3]; rfl), fun _ _ => rfl, hW.st2 (by omega) (keep8 _ _ _ _ _ _ _ _) (bx_fill8 hq _ _ _ _ _ _ _ _)⟩
  · intro L ρ u wx hall hu hW
    have hx0 := hW.a1 (hall 4 (by show 4 < 6; omega))
    have hx1 := hW.c1 (hall 5 (by show 5 < 6; omega))
    have hsm := hW.sm (hall 3 (by show 3 < 6; omega))
    have k0 := hx0.cell 0 rfl
    have k1 := hx0.cell 1 rfl
    have q0 := hx1.cell 0 rfl
    have q1 := hx1.cell 1 rfl
    have q2 := hx1.cell 2 rfl
    have q3 := hx1.cell 3 rfl
    have q4 := hx1.cell 4 rfl
    have q5 := hx1.cell 5 rfl
    have q6 := hx1.cell 6 rfl
    have q7 := hx1.cell 7 rfl
    have HKP := Lib.hid (hW.kp.below HB3.out (by omega) (by intro k q; omega))
    clear hu hall hW hx0 hx1
    go_wp2
    refine bodyPost_ret (v := .tuple #[.agg #[.slice A N.nodes.length c, .slice Bq N.pipes.length d], ρ.val]) (by simp [results, Tryz.results15, go_sem, k0, k1, q0, q1, q2, q3, q4, q5, q6, q7]; try rfl) rfl ?_
    exact ⟨_, _, ρ, rfl, ⟨_, _, _, rfl⟩, ⟨_, _, _, rfl⟩, hsm, HKP.out⟩
end Go.Proofs.YtbdacplndmnkhaaGreatDoor

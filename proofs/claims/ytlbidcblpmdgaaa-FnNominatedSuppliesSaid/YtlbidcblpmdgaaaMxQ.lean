/- The search, the components and the count of a network: what they hand back is what the plain law says. -/
import Derived.Test.YtlbidcblpmdgaaaGs
import Derived.Test.YtlbidcblpmdgaaaGu
namespace Go.Proofs.Ytlbidcblpmdgaaa
set_option linter.unusedVariables false
set_option linter.unusedSimpArgs false
open Go.RowKit
/-- a set of nodes that no pipe leaves -/
def Clo (N : Net) (C : Int → Prop) : Prop := ∀ p ∈ N.pipes, (C p.f ↔ C p.t)
theorem Clo.not {N : Net} {C : Int → Prop} (h : Clo N C) : Clo N (fun x => ¬ C x) := fun p hp => not_congr (h p hp)
/-- the other ends of the pipes at x are in O -/
def Nb (N : Net) (x : Int) (O : List Int) : Prop := ∀ p ∈ N.pipes, (p.f = x → p.t ∈ O) ∧ (p.t = x → p.f ∈ O)
theorem Nb.snoc {N : Net} {x y : Int} {O : List Int} (h : Nb N x O) : Nb N x (O ++ [y]) := fun p hp => ⟨fun e => List.mem_append_left _ ((h p hp).1 e), fun e => List.mem_append_left _ ((h p hp).2 e)⟩
/-- all pipes at a node are listed -/
def AtAll (N : Net) (x : Int) (l : List Int) : Prop := ∀ (q : Nat) (p : Pp), N.pipes[q]? = some p → (p.f = x ∨ p.t = x) → (q : Int) ∈ l
/-- a search under way: k nodes of O are done -/
structure Sr (N : Net) (node : Int) (S : List Bool) (O : List Int) (k : Nat) : Prop where
  hd : node ∈ O
  sd : ∀ C : Int → Prop, Clo N C → C node → ∀ y ∈ O, C y
  io : ∀ v : Nat, S[v]? = some true → (v : Int) ∈ O
  dn : ∀ j x, j < k → O[j]? = some x → Nb N x O
theorem Sr.start {N : Net} {n node : Nat} : Sr N node ((List.replicate n false).set node true) [(node : Int)] 0 := by
  refine ⟨by simp, fun C _ h y hy => by rw [List.mem_singleton.1 hy]; exact h, fun v hv => ?_, fun j x h => by omega⟩
  by_cases e : node = v
  · subst e; simp
  · rw [List.getElem?_set_ne e] at hv
    simp [List.getElem?_replicate] at hv
theorem Sr.push {N : Net} {node x : Int} {S : List Bool} {O : List Int} {k tn : Nat} {p : Pp} (h : Sr N node S O k) (hx : O[k]? = some x) (hp : p ∈ N.pipes) (hft : p.f = x ∨ p.t = x) (ht : p.f + p.t - x = tn) : Sr N node (S.set tn true) (O ++ [(tn : Int)]) k := by
  have hk : k < O.length := (List.getElem?_eq_some_iff.1 hx).1
  refine ⟨List.mem_append_left _ h.hd, fun C hC hn y hy => ?_, fun v hv => ?_, fun j y hj hy => ?_⟩
  · rcases List.mem_append.1 hy with hy | hy
    · exact h.sd C hC hn y hy
    · have e : y = tn := List.mem_singleton.1 hy
      have hxC := h.sd C hC hn x (List.mem_of_getElem? hx)
      have hc := hC p hp
      rcases hft with hf | hf
      · have e2 : y = p.t := by omega
        rw [e2]; exact hc.1 (by rw [hf]; exact hxC)
      · have e2 : y = p.f := by omega
        rw [e2]; exact hc.2 (by rw [hf]; exact hxC)
  · by_cases e : tn = v
    · subst e; simp
    · rw [List.getElem?_set_ne e] at hv
      exact List.mem_append_left _ (h.io v hv)
  · rw [List.getElem?_append_left (by omega)] at hy
    exact (h.dn j y hj hy).snoc
/-- the pipes at x that are done: i of the list -/
def SrI (N : Net) (x : Int) (la O : List Int) (i : Nat) : Prop := ∀ j (q : Nat) p, j < i → la[j]? = some (q : Int) → N.pipes[q]? = some p → p.f + p.t - x ∈ O
theorem SrI.start {N : Net} {x : Int} {la O : List Int} : SrI N x la O 0 := fun j q p h => by omega
theorem SrI.app {N : Net} {x y : Int} {la O : List Int} {i : Nat} (h : SrI N x la O i) : SrI N x la (O ++ [y]) i := fun j q p a b c => List.mem_append_left _ (h j q p a b c)
theorem SrI.step {N : Net} {x t : Int} {la O : List Int} {i q : Nat} {p : Pp} (h : SrI N x la O i) (hy : la[i]? = some (q : Int)) (hq : N.pipes[q]? = some p) (ht : p.f + p.t - x = t) (hm : t ∈ O) : SrI N x la O (i + 1) := by
  intro j q' p' hj hy' hp'
  by_cases e : j = i
  · subst e
    rw [hy] at hy'
    have e2 : q = q' := by injection hy' with e3; omega
    subst e2
    rw [hq] at hp'
    injection hp' with e3
    subst e3
    rw [ht]; exact hm
  · exact h j q' p' (by omega) hy' hp'
theorem Sr.next {N : Net} {node x : Int} {S : List Bool} {la O : List Int} {k : Nat} (h : Sr N node S O k) (hx : O[k]? = some x) (hA : AtAll N x la) (hI : SrI N x la O la.length) : Sr N node S O (k + 1) := by
  refine ⟨h.hd, h.sd, h.io, fun j y hj hy => ?_⟩
  by_cases e : j = k
  · subst e
    rw [hx] at hy
    injection hy with e2
    subst e2
    intro p hp
    obtain ⟨q, hq⟩ := List.mem_iff_getElem?.1 hp
    refine ⟨fun e => ?_, fun e => ?_⟩
    · obtain ⟨j2, hj2⟩ := List.mem_iff_getElem?.1 (hA q p hq (.inl e))
      have := hI j2 q p (List.getElem?_eq_some_iff.1 hj2).1 hj2 hq
      rwa [show p.f + p.t - x = p.t by omega] at this
    · obtain ⟨j2, hj2⟩ := List.mem_iff_getElem?.1 (hA q p hq (.inr e))
      have := hI j2 q p (List.getElem?_eq_some_iff.1 hj2).1 hj2 hq
      rwa [show p.f + p.t - x = p.f by omega] at this
  · exact h.dn j y (by omega) hy
/-- what a search from a node hands back -/
structure SrR (N : Net) (node : Int) (O : List Int) : Prop where
  hd : node ∈ O
  sd : ∀ C : Int → Prop, Clo N C → C node → ∀ y ∈ O, C y
  cl : Clo N (fun y => y ∈ O)
theorem Sr.done {N : Net} {node : Int} {S : List Bool} {O : List Int} (h : Sr N node S O O.length) : SrR N node O := by
  refine ⟨h.hd, h.sd, fun p hp => ⟨fun hf => ?_, fun hf => ?_⟩⟩
  · obtain ⟨j, hj⟩ := List.mem_iff_getElem?.1 hf
    exact (h.dn j _ (List.getElem?_eq_some_iff.1 hj).1 hj p hp).1 rfl
  · obtain ⟨j, hj⟩ := List.mem_iff_getElem?.1 hf
    exact (h.dn j _ (List.getElem?_eq_some_iff.1 hj).1 hj p hp).2 rfl
/-- the nodes of O get k -/
def setO (l : List Int) (k : Int) : List Int → List Int
  | [] => l
  | x :: O => setO (l.set x.toNat k) k O
theorem setO_len {k : Int} : ∀ (O l : List Int), (setO l k O).length = l.length
  | [], l => rfl
  | x :: O, l => by rw [setO, setO_len O]; simp
theorem setO_get {k : Int} {v : Nat} : ∀ (O l : List Int), (∀ y ∈ O, 0 ≤ y) → v < l.length → ((v : Int) ∈ O → (setO l k O)[v]? = some k) ∧ (¬ (v : Int) ∈ O → (setO l k O)[v]? = l[v]?)
  | [], l, _, _ => ⟨fun h => by simp at h, fun _ => rfl⟩
  | x :: O, l, h, hv => by
    have ih := setO_get (k := k) (v := v) O (l.set x.toNat k) (fun y hy => h y (List.mem_cons_of_mem _ hy)) (by simpa using hv)
    have hx := h x (List.mem_cons_self)
    refine ⟨fun hm => ?_, fun hm => ?_⟩
    · by_cases hO : (v : Int) ∈ O
      · exact ih.1 hO
      · rw [setO, ih.2 hO]
        have e : x.toNat = v := by
          rcases List.mem_cons.1 hm with e | e
          · omega
          · exact absurd e hO
        subst e
        rw [List.getElem?_set_self hv]
    · have h1 : ¬ (v : Int) ∈ O := fun q => hm (List.mem_cons_of_mem _ q)
      have h2 : ¬ x.toNat = v := fun q => hm (by rw [show (v : Int) = x by omega]; exact List.mem_cons_self)
      rw [setO, ih.2 h1, List.getElem?_set_ne h2]
/-- the components found up to node k -/
structure Cm (N : Net) (l : List Int) (k : Nat) : Prop where
  len : l.length = N.nodes.length
  bd : ∀ (v : Nat) y, l[v]? = some y → y < N.nodes.length
  cl : Clo N (fun v => ∃ y, l[v.toNat]? = some y ∧ 0 ≤ y)
  eq : ∀ (v : Nat) y, l[v]? = some y → 0 ≤ y → ∀ C : Int → Prop, Clo N C → (C y ↔ C v)
  rt : ∀ (v : Nat) y, l[v]? = some y → 0 ≤ y → l[y.toNat]? = some y
  dn : ∀ (v : Nat) y, v < k → l[v]? = some y → 0 ≤ y
theorem Cm.start {N : Net} : Cm N (List.replicate N.nodes.length (-1)) 0 := by
  have e : ∀ (v : Nat) (y : Int), (List.replicate N.nodes.length (-1 : Int))[v]? = some y → y = -1 := fun v y h => by
    rw [List.getElem?_replicate] at h
    split at h
    · injection h with h; exact h.symm
    · cases h
  refine ⟨by simp, fun v y h => by have := e v y h; omega, fun p hp => ⟨?_, ?_⟩, fun v y h h0 => by have := e v y h; omega, fun v y h h0 => by have := e v y h; omega, fun v y h => by omega⟩
  · rintro ⟨y, hy, h0⟩; have := e _ y hy; omega
  · rintro ⟨y, hy, h0⟩; have := e _ y hy; omega
theorem Cm.skip {N : Net} {l : List Int} {k : Nat} {y : Int} (h : Cm N l k) (hy : l[k]? = some y) (h0 : 0 ≤ y) : Cm N l (k + 1) :=
  ⟨h.len, h.bd, h.cl, h.eq, h.rt, fun v z hv hz => by
    by_cases e : v = k
    · subst e; rw [hy] at hz; injection hz with e2; omega
    · exact h.dn v z (by omega) hz⟩
theorem Cm.step {N : Net} {l O : List Int} {k : Nat} {y : Int} (h : Cm N l k) (hO : N.Ok) (hk : k < N.nodes.length) (hy : l[k]? = some y) (h0 : ¬ 0 ≤ y) (hS : SrR N k O) (hb : ∀ y ∈ O, 0 ≤ y ∧ y < N.nodes.length) : Cm N (setO l k O) (k + 1) := by
  have hl := h.len
  have hft : ∀ p ∈ N.pipes, 0 ≤ p.f ∧ p.f < N.nodes.length ∧ 0 ≤ p.t ∧ p.t < N.nodes.length := fun p hp => by
    have := hO.pipes p hp
    simp only [pipeB, Bool.and_eq_true, inB_iff] at this
    omega
  have hlen : (setO l k O).length = N.nodes.length := by rw [setO_len, hl]
  have gm : ∀ v : Nat, (v : Int) ∈ O → (setO l k O)[v]? = some (k : Int) := fun v hv => (setO_get O l (fun y hy => (hb y hy).1) (by have := hb _ hv; omega)).1 hv
  have gn : ∀ v : Nat, ¬ (v : Int) ∈ O → (setO l k O)[v]? = l[v]? := fun v hv => by
    by_cases hlt : v < l.length
    · exact (setO_get O l (fun y hy => (hb y hy).1) hlt).2 hv
    · rw [List.getElem?_eq_none (by omega), List.getElem?_eq_none (by omega)]
  have hnD : ∀ y ∈ O, ¬ ∃ z, l[y.toNat]? = some z ∧ 0 ≤ z := hS.sd _ h.cl.not (by
    rintro ⟨z, hz, hz0⟩
    rw [Int.toNat_natCast, hy] at hz
    injection hz with e; omega)
  refine ⟨hlen, fun v z hz => ?_, fun p hp => ?_, fun v z hz hz0 C hC => ?_, fun v z hz hz0 => ?_, fun v z hv hz => ?_⟩
  · by_cases hm : (v : Int) ∈ O
    · rw [gm v hm] at hz; injection hz with e; omega
    · rw [gn v hm] at hz; exact h.bd v z hz
  · obtain ⟨f0, f1, t0, t1⟩ := hft p hp
    have hkey : ∀ x : Int, 0 ≤ x → ((∃ z, (setO l k O)[x.toNat]? = some z ∧ 0 ≤ z) ↔ (x ∈ O ∨ ∃ z, l[x.toNat]? = some z ∧ 0 ≤ z)) := by
      intro x hx
      by_cases hm : x ∈ O
      · have e : ((x.toNat : Nat) : Int) = x := by omega
        rw [gm x.toNat (by rw [e]; exact hm)]
        exact ⟨fun _ => .inl hm, fun _ => ⟨_, rfl, by omega⟩⟩
      · have e : ((x.toNat : Nat) : Int) = x := by omega
        rw [gn x.toNat (by rw [e]; exact hm)]
        exact ⟨fun q => .inr q, fun q => q.resolve_left hm⟩
    show (∃ z, (setO l k O)[p.f.toNat]? = some z ∧ 0 ≤ z) ↔ (∃ z, (setO l k O)[p.t.toNat]? = some z ∧ 0 ≤ z)
    rw [hkey _ f0, hkey _ t0]
    have a := hS.cl p hp
    have b := h.cl p hp
    dsimp only at a b
    rw [a, b]
  · by_cases hm : (v : Int) ∈ O
    · rw [gm v hm] at hz
      injection hz with e
      subst e
      refine ⟨fun hc => hS.sd C hC hc _ hm, fun hc => ?_⟩
      exact Classical.byContradiction fun hn => hS.sd _ hC.not hn _ hm hc
    · rw [gn v hm] at hz; exact h.eq v z hz hz0 C hC
  · by_cases hm : (v : Int) ∈ O
    · rw [gm v hm] at hz
      injection hz with e
      subst e
      rw [Int.toNat_natCast]; exact gm k hS.hd
    · rw [gn v hm] at hz
      have hr := h.rt v z hz hz0
      have e : ((z.toNat : Nat) : Int) = z := by omega
      rw [gn z.toNat (by rw [e]; exact fun hmz => hnD z hmz ⟨z, hr, hz0⟩)]
      exact hr
  · by_cases hm : (v : Int) ∈ O
    · rw [gm v hm] at hz; injection hz with e; omega
    · rw [gn v hm] at hz
      refine h.dn v z ?_ hz
      have : v ≠ k := fun e => hm (by rw [e]; exact hS.hd)
      omega
/-- how many nodes up to k are the least of their components -/
def cntR (l : List Int) (k : Nat) : Nat := (List.range k).countP (fun i : Nat => decide (l[i]? = some (i : Int)))
theorem cntR_succ {l : List Int} {k : Nat} : cntR l (k + 1) = cntR l k + (if l[k]? = some (k : Int) then 1 else 0) := by
  unfold cntR
  rw [List.range_succ, List.countP_append, List.countP_singleton]
  simp
theorem cntR_le {l : List Int} {k : Nat} : cntR l k ≤ k := by
  unfold cntR
  have := List.countP_le_length (p := fun i : Nat => decide (l[i]? = some (i : Int))) (l := List.range k)
  simpa using this
theorem cntR_one {l : List Int} {k a b : Nat} (h : cntR l k = 1) (ha : a < k) (hb : b < k) (ea : l[a]? = some (a : Int)) (eb : l[b]? = some (b : Int)) : a = b := by
  unfold cntR at h
  rw [List.countP_eq_length_filter] at h
  obtain ⟨r, hr⟩ := List.length_eq_one_iff.1 h
  have h1 : a ∈ (List.range k).filter (fun i : Nat => decide (l[i]? = some (i : Int))) := List.mem_filter.2 ⟨by simpa using ha, by simpa using ea⟩
  have h2 : b ∈ (List.range k).filter (fun i : Nat => decide (l[i]? = some (i : Int))) := List.mem_filter.2 ⟨by simpa using hb, by simpa using eb⟩
  rw [hr] at h1 h2
  rw [List.mem_singleton.1 h1, List.mem_singleton.1 h2]
/-- a network in one piece -/
def Conn (N : Net) : Prop := ∀ C : Int → Prop, Clo N C → ∀ u v : Nat, u < N.nodes.length → v < N.nodes.length → C u → C v
theorem Cm.conn {N : Net} {l : List Int} (h : Cm N l N.nodes.length) (hc : cntR l N.nodes.length = 1) : Conn N := by
  intro C hC u v hu hv hCu
  have hl := h.len
  obtain ⟨y, hy⟩ := get_some (l := l) (k := u) (by omega)
  obtain ⟨z, hz⟩ := get_some (l := l) (k := v) (by omega)
  have y0 := h.dn u y hu hy
  have z0 := h.dn v z hv hz
  have y1 := h.bd u y hy
  have z1 := h.bd v z hz
  have ey : ((y.toNat : Nat) : Int) = y := by omega
  have ez : ((z.toNat : Nat) : Int) = z := by omega
  have hyz : y.toNat = z.toNat := cntR_one hc (by omega) (by omega) (by rw [ey]; exact h.rt u y hy y0) (by rw [ez]; exact h.rt v z hz z0)
  have e : y = z := by omega
  subst e
  exact (h.eq v y hz z0 C hC).1 ((h.eq u y hy y0 C hC).2 hCu)
/-- in a network in one piece a search finds all nodes -/
theorem SrR.all {N : Net} {node : Nat} {O : List Int} (h : SrR N node O) (hC : Conn N) (hn : node < N.nodes.length) {v : Nat} (hv : v < N.nodes.length) : (v : Int) ∈ O :=
  hC _ h.cl node v hn hv h.hd
theorem setO_all {N : Net} {O l : List Int} {k : Int} (hl : l.length = N.nodes.length) (hb : ∀ y ∈ O, 0 ≤ y) (ha : ∀ v : Nat, v < N.nodes.length → (v : Int) ∈ O) : setO l k O = List.replicate N.nodes.length k := by
  apply List.ext_getElem?
  intro v
  by_cases hv : v < N.nodes.length
  · rw [(setO_get O l hb (by omega)).1 (ha v hv), List.getElem?_replicate, if_pos hv]
  · rw [List.getElem?_eq_none (by rw [setO_len]; omega), List.getElem?_eq_none (by simp; omega)]
theorem setO_drop {l O : List Int} {k x : Int} {j : Nat} (h : O[j]? = some x) : setO l k (O.drop j) = setO (l.set x.toNat k) k (O.drop (j + 1)) := by
  have hj : j < O.length := (List.getElem?_eq_some_iff.1 h).1
  have e : O[j] = x := (List.getElem?_eq_some_iff.1 h).2
  rw [List.drop_eq_getElem_cons hj, e, setO]
theorem setO_end {l O : List Int} {k : Int} {j : Nat} (h : ¬ j < O.length) : setO l k (O.drop j) = l := by
  rw [List.drop_eq_nil_of_le (by omega), setO]
end Go.Proofs.Ytlbidcblpmdgaaa
namespace Go.Proofs.Ytlbidcblpmdgaaa
set_option linter.unusedVariables false
set_option linter.unusedSimpArgs false
open Go.RowKit
/-- the first k pipes at a node are listed -/
def AtDn (N : Net) (node : Int) (l : List Int) (k : Nat) : Prop := ∀ (q : Nat) (p : Pp), q < k → N.pipes[q]? = some p → (p.f = node ∨ p.t = node) → (q : Int) ∈ l
theorem AtDn.snoc {N : Net} {node : Int} {l : List Int} {k : Nat} (h : AtDn N node l k) : AtDn N node (l ++ [(k : Int)]) (k + 1) := fun q p hq hp hn => by
  by_cases e : q = k
  · subst e; simp
  · exact List.mem_append_left _ (h q p (by omega) hp hn)
theorem AtDn.skip {N : Net} {node : Int} {l : List Int} {k : Nat} {x : Pp} (h : AtDn N node l k) (hx : N.pipes[k]? = some x) (hn : ¬ (x.f = node ∨ x.t = node)) : AtDn N node l (k + 1) := fun q p hq hp hft => by
  by_cases e : q = k
  · subst e; rw [hx] at hp; injection hp with e2; subst e2; exact absurd hft hn
  · exact h q p (by omega) hp hft
theorem AtDn.all {N : Net} {node : Int} {l : List Int} {k : Nat} (h : AtDn N node l k) (hk : ¬ k < N.pipes.length) : AtAll N node l := fun q p hp hn => h q p (by have := (List.getElem?_eq_some_iff.1 hp).1; omega) hp hn
set_option maxRecDepth 100000 in
set_option maxHeartbeats 4000000 in
theorem spec_l02AtC (A B : Option Addr) (n c m d : Nat) (N : Net) (node : Int) (w : World) (hN : NetAt w A B N) (hn : n = N.nodes.length) (hm : m = N.pipes.length) :
    Calls Try.prog 71 #[netV A B n c m d, .int .i64 node] w fun e w' => ∃ (v : Value) (l : List Int), e = .returned v ∧ AtOk N node l ∧ AtAll N node l ∧ l.length ≤ N.pipes.length ∧ Own w' w.heap.size 2 1 v l.length (l.map iV) ∧ Below w.heap.size w w' := by
  subst hn hm
  have HN := Lib.hid hN
  have hlp := hN.lp
  have H0 := Lib.hid (Own.lit0 (w.alloc (.cells #[.slice A N.nodes.length c, .slice B N.pipes.length d] 27)) (w.heap.size + 1) 2 1 (by simp))
  clear hN
  go_enter Try.func71, Try.ntmps71
  go_wp2
  go_loopw [5, 6] (fun u v wr => ∃ (k : Nat) (l : List Int), k ≤ N.pipes.length ∧ v = .int .i64 k ∧ l.length ≤ k ∧ AtOk N node l ∧ AtDn N node l k ∧ Own wr (w.heap.size + 1) 2 1 u l.length (l.map iV) ∧ Bx wr w.heap.size [.slice A N.nodes.length c, .slice B N.pipes.length d] ∧ Below w.heap.size w wr) (fun _ v _ => N.pipes.length - (intOf v).toNat)
  case atStart => exact ⟨0, [], by omega, rfl, by simp, (fun x hx => by simp at hx), (fun q p h => by omega), by simpa using H0.out, (bx2 (by first | exact hy0 | go_size) (by first | (with_reducible exact cw0_0) | go_cell_look | (simp [go_sem, hy0, cw0_0, fw0_0, cw0_1, fw0_1]; done) | (simp [go_sem]; done)) (by first | (with_reducible exact fw0_0) | (simp only [World.frozen?_setCell, fw0_0]; done) | (simp [go_sem, hy0, cw0_0, fw0_0, cw0_1, fw0_1]; done) | (simp [go_sem]; done)) (by first | (with_reducible exact cw0_1) | go_cell_look | (simp [go_sem, hy0, cw0_0, fw0_0, cw0_1, fw0_1]; done) | (simp [go_sem]; done)) (by first | (with_reducible exact fw0_1) | (simp only [World.frozen?_setCell, fw0_1]; done) | (simp [go_sem, hy0, cw0_0, fw0_0, cw0_1, fw0_1]; done) | (simp [go_sem]; done))), by (repeat' (first | (with_reducible exact Below.refl _ _) | (with_reducible assumption) | (with_reducible refine Below.alloc ?_ ?_ _) | (with_reducible refine Below.drew ?_) | (with_reducible refine Below.drewN' ?_ _) | (with_reducible refine Below.setCell ?_ ?_ _) | (refine Below.via ?_ (by with_reducible assumption) ?_) | (with_reducible refine Below.via ?_ (Wd.h _) ?_) | go_size))⟩
  case round =>
    clear H0
    obtain ⟨k, l, hk, rfl, hl, hat, hdn, hO, hB, hbw⟩ := hrel
    have HDN := Lib.hid hdn
    clear hdn
    have hbH := Lib.hid hbw
    have HAT := Lib.hid hat
    have HOW := Lib.hid hO
    have HBX := Lib.hid hB
    have hy0 := hB.lt; have cw0_0 := hB.cell 0 rfl; have fw0_0 := hB.frozen 0 rfl; have cw0_1 := hB.cell 1 rfl; have fw0_1 := hB.frozen 1 rfl
    have hyr := hy0
    clear hat hO hB
    by_cases hlt : k < N.pipes.length
    · have HP := Lib.hid HN.out.pipes
      obtain ⟨x, hx⟩ := get_some hlt; obtain ⟨bx, offx, rfl, hbx, hat⟩ := HP.out.opened (k := k) (by rw [flat_len Pp.len]; omega); have hat' := hat.below hbw hbx; have hybx : bx < wr.heap.size := Nat.lt_of_lt_of_le hbx hbw.size; have hzw := hbw.size; have t0 := hat'.elem0 Pp.len hx rfl; have t1 := hat'.elem Pp.len hx 1 rfl; have t2 := hat'.elem Pp.len hx 2 rfl; have t3 := hat'.elem Pp.len hx 3 rfl; have t4 := hat'.elem Pp.len hx 4 rfl; have HX := Lib.hid hx; have HD := Lib.hid (drop_cons hx); have gx : (k : Int) < _ := Int.ofNat_lt.2 hlt; clear hx hat hat'
      clear hbw
      by_cases h1 : x.f = node ∨ x.t = node
      · have H1 := Lib.hid h1
        rcases h1 with h1 | h1
        · have b1 : (x.f == node) = true := by simpa using h1
          clear h1
          go_wp2_with ((at_builtin; refine wp_app1x _ rfl (.tmp 33) (.tmp 35) 32 rfl (w.heap.size + 1) info_i64 Try.underlying32 rfl (by omega) (by omega) _ _ _ rfl (HOW.out.alloc _) _ 1 1 [iV k] rfl rfl (by intro j u hu; match j, hu with | 0, hu => (simp at hu; subst hu; simp) | j + 1, hu => simp at hu) (by simp [Value.oneCell']) (by omega) (by omega) (by simp; omega) ?_; intro v3 w3 hO3 hb3 hF3))
          have hb4 := (Below.alloc (Below.refl (w.heap.size + 1) wr) (by omega) _).trans hb3
          have HB3 := Lib.hid (HBX.out.below hb4 (by omega))
          go_roundw
          case rel => exact ⟨k + 1, l ++ [(k : Int)], by omega, by go_num, by simp; omega, HAT.out.snoc HX.out H1.out, HDN.out.snoc, by simpa using hO3, HB3.out, by have h1 := hbH.out; exact h1.trans (hb4.mono (by omega))⟩
          case measure => simp [intOf]; omega
        · have b2 : (x.t == node) = true := by simpa using h1
          clear h1
          cases b1 : (x.f == node)
          all_goals
            go_wp2_with ((at_builtin; refine wp_app1x _ rfl (.tmp 33) (.tmp 35) 32 rfl (w.heap.size + 1) info_i64 Try.underlying32 rfl (by omega) (by omega) _ _ _ rfl (HOW.out.alloc _) _ 1 1 [iV k] rfl rfl (by intro j u hu; match j, hu with | 0, hu => (simp at hu; subst hu; simp) | j + 1, hu => simp at hu) (by simp [Value.oneCell']) (by omega) (by omega) (by simp; omega) ?_; intro v3 w3 hO3 hb3 hF3))
            have hb4 := (Below.alloc (Below.refl (w.heap.size + 1) wr) (by omega) _).trans hb3
            have HB3 := Lib.hid (HBX.out.below hb4 (by omega))
            go_roundw
            case rel => exact ⟨k + 1, l ++ [(k : Int)], by omega, by go_num, by simp; omega, HAT.out.snoc HX.out H1.out, HDN.out.snoc, by simpa using hO3, HB3.out, by have h1 := hbH.out; exact h1.trans (hb4.mono (by omega))⟩
            case measure => simp [intOf]; omega
      · have b1 : (x.f == node) = false := by simpa using fun h => h1 (Or.inl h)
        have b2 : (x.t == node) = false := by simpa using fun h => h1 (Or.inr h)
        have HN1 := Lib.hid h1
        clear h1
        go_wp2
        go_roundw
        case rel => exact ⟨k + 1, l, by omega, by go_num, by omega, HAT.out, HDN.out.skip HX.out HN1.out, HOW.out, HBX.out, hbH.out⟩
        case measure => simp [intOf]; omega
    · clear hbw
      go_wp2
      go_ret
      exact ⟨_, l, rfl, HAT.out, HDN.out.all (by omega), by omega, HOW.out.lowG (by omega), hbH.out⟩
set_option maxRecDepth 100000 in
set_option maxHeartbeats 8000000 in
theorem spec_l04SearchC (A B : Option Addr) (n c m d : Nat) (N : Net) (node : Nat) (w : World) (hN : NetAt w A B N) (hn : n = N.nodes.length) (hm : m = N.pipes.length) (hO : N.Ok) (hnode : node < N.nodes.length) :
    Calls Try.prog 58 #[netV A B n c m d, .int .i64 (node : Int)] w fun e w' => ∃ (A1 A2 : Option Addr) (c1 c2 : Nat) (E O : List Int), e = .returned (.tuple #[.slice A1 E.length c1, .slice A2 O.length c2]) ∧ E.length = N.nodes.length ∧ (∀ y ∈ E, -1 ≤ y ∧ y < N.pipes.length) ∧ O.length ≤ N.nodes.length ∧ (∀ y ∈ O, 0 ≤ y ∧ y < N.nodes.length) ∧ SrR N node O ∧ Rd w' A1 (E.map iV) ∧ Rd w' A2 (O.map iV) ∧ (∀ b off, A1 = some ⟨b, off, none⟩ → w.heap.size ≤ b) ∧ (∀ b off, A2 = some ⟨b, off, none⟩ → w.heap.size ≤ b) ∧ Below w.heap.size w w' := by
  subst hn hm
  have HN := Lib.hid hN
  have HO := Lib.hid hO
  have hln := hN.ln
  have hlp := hN.lp
  have hp1 := hO.p1
  have hn2 := hO.n2
  clear hN hO
  have hmk := make_i64 N.nodes.length (by omega)
  have hmb := make_bl N.nodes.length (by omega)
  go_enter Try.func58, Try.ntmps58
  go_wp2_with fail
  have HA1 := Lib.hid (Arr.madeI (w.alloc (.cells #[.slice A N.nodes.length c, .slice B N.pipes.length d] 27)) N.nodes.length 2)
  have HA2 := Lib.hid (Arr.madeB ((w.alloc (.cells #[.slice A N.nodes.length c, .slice B N.pipes.length d] 27)).alloc (.cells (madeCells #[Value.int .i64 0] N.nodes.length) 2)) N.nodes.length 4)
  clear hmk hmb
  go_loopw [8] (fun v wr => ∃ k : Nat, k ≤ N.nodes.length ∧ v = .int .i64 k ∧ Arr wr (w.heap.size + 1) N.nodes.length ((filM N.nodes.length k).map iV) ∧ Arr wr (w.heap.size + 1 + 1) N.nodes.length ((List.replicate N.nodes.length false).map blV) ∧ Bx wr w.heap.size [.slice A N.nodes.length c, .slice B N.pipes.length d] ∧ Below w.heap.size w wr) (fun v _ => N.nodes.length - (intOf v).toNat)
  case atStart => exact ⟨0, by omega, rfl, by simpa [filM] using HA1.out.alloc _, by simpa using HA2.out, (bx2 (by first | exact hy0 | go_size) (by first | (with_reducible exact cw0_0) | go_cell_look | (simp [go_sem, hy0, cw0_0, fw0_0, cw0_1, fw0_1]; done) | (simp [go_sem]; done)) (by first | (with_reducible exact fw0_0) | (simp only [World.frozen?_setCell, fw0_0]; done) | (simp [go_sem, hy0, cw0_0, fw0_0, cw0_1, fw0_1]; done) | (simp [go_sem]; done)) (by first | (with_reducible exact cw0_1) | go_cell_look | (simp [go_sem, hy0, cw0_0, fw0_0, cw0_1, fw0_1]; done) | (simp [go_sem]; done)) (by first | (with_reducible exact fw0_1) | (simp only [World.frozen?_setCell, fw0_1]; done) | (simp [go_sem, hy0, cw0_0, fw0_0, cw0_1, fw0_1]; done) | (simp [go_sem]; done))), by (repeat' (first | (with_reducible exact Below.refl _ _) | (with_reducible assumption) | (with_reducible refine Below.alloc ?_ ?_ _) | (with_reducible refine Below.drew ?_) | (with_reducible refine Below.drewN' ?_ _) | (with_reducible refine Below.setCell ?_ ?_ _) | (refine Below.via ?_ (by with_reducible assumption) ?_) | (with_reducible refine Below.via ?_ (Wd.h _) ?_) | go_size))⟩
  case round =>
    clear HA1 HA2
    obtain ⟨k, hk, rfl, hA1, hA2, hB, hbw⟩ := hrel
    have hbH := Lib.hid hbw
    have H1 := Lib.hid hA1
    have H2 := Lib.hid hA2
    have HB := Lib.hid hB
    have hlt1 := hA1.lt
    have hlt2 := hA2.lt
    clear hA1 hA2 hB hbw
    by_cases hlt : k < N.nodes.length
    · have g1 : (k : Int) < N.nodes.length := by omega
      obtain ⟨y, hy⟩ := get_some (l := filM N.nodes.length k) (k := k) (by rw [filM_len (by omega)]; exact hlt)
      have s0 := ints_cell H1.out hy
      have s1 := H1.out.free (j := k) hlt
      clear hy
      go_wp2
      go_roundw
      case rel =>
        refine ⟨k + 1, by omega, by go_num, ?_, H2.out.far (by simp) _, ?_, (hbH.out).setCell (by simp) _⟩
        · have := H1.out.setAt hlt (.int .i64 (-1))
          rw [← filM_set hlt, map_set_iV]; exact this
        · have hk1 : Keep (fun z => z = w.heap.size + 1) wr (wr.setCell ⟨w.heap.size + 1, k, none⟩ (.int .i64 (-1))) := (Keep.refl (fun z => z = w.heap.size + 1) wr).setCell (p := ⟨w.heap.size + 1, k, none⟩) rfl _
          exact HB.out.keep hk1 (by omega)
      case measure => simp [intOf]; omega
    · obtain rfl : k = N.nodes.length := by omega
      have g1 : ¬ (N.nodes.length : Int) < N.nodes.length := by omega
      have g2 : (node : Int) < N.nodes.length := by omega
      have s0 := bls_cell H2.out (k := node) (b := false) (by simp [hnode])
      have s1 := H2.out.free (j := node) hnode
      go_wp2_with fail
      generalize hW : World.alloc (World.setCell wr _ _) _ = wx
      have HS := Lib.hid (show Arr (World.setCell wr ⟨w.heap.size + 1 + 1, node, none⟩ (.bool true)) (w.heap.size + 1 + 1) N.nodes.length (((List.replicate N.nodes.length false).set node true).map blV) by rw [map_set_bl]; exact H2.out.setAt hnode _)
      have HX := Lib.hid (show GsI w A B c d N (.slice (some ⟨wr.heap.size, 0, none⟩) 1 1) (filM N.nodes.length N.nodes.length) ((List.replicate N.nodes.length false).set node true) [(node : Int)] wx by
        have e1 : filM N.nodes.length N.nodes.length = List.replicate N.nodes.length (-1) := by simp [filM]
        have e2 : ((List.replicate N.nodes.length false).set node true).count true = 1 := by rw [cnt_set (by simp [hnode])]; simp [List.count_replicate]
        have hk1 : Keep (fun z => z = w.heap.size + 1 + 1) wr (World.setCell wr ⟨w.heap.size + 1 + 1, node, none⟩ (.bool true)) := (Keep.refl (fun z => z = w.heap.size + 1 + 1) wr).setCell (p := ⟨w.heap.size + 1 + 1, node, none⟩) rfl _
        refine ⟨by rw [e1]; simp, fun y hy => ?_, by simp, by rw [e2]; rfl, fun y hy => ?_, ?_, ?_, ?_, ?_, ?_, ?_⟩
        · rw [e1] at hy; have := List.eq_of_mem_replicate hy; omega
        · have := List.mem_singleton.1 hy; omega
        · rw [← hW]
          have := World.ownsRow_lit (base := w.heap.size + 3) (e := 2) (size := 1) (World.setCell wr ⟨w.heap.size + 1 + 1, node, none⟩ (.bool true)) #[iV node] 1 (by simp; omega) (by simp [maxLen]) (by simp)
          rw [show (World.setCell wr ⟨w.heap.size + 1 + 1, node, none⟩ (.bool true)).heap.size = wr.heap.size by simp] at this
          exact this
        · rw [← hW]; exact (H1.out.keep hk1 (by omega)).alloc _
        · rw [← hW]; exact HS.out.alloc _
        · rw [← hW]; exact (HB.out.keep hk1 (by omega)).below (Below.alloc (Below.refl _ _) (Nat.le_refl _) _) (by simp; omega)
        · rw [← hW]; exact (hbH.out.setCell (by simp; omega) _).alloc (by simp; omega) _
        · rw [← hW]; simp; omega)
      clear hW H1 H2 HB HS s0 s1 hbH
      go_wp2_with fail
      go_loopw [9, 10, 11, 12, 13] (fun u t _ _ _ wv => ∃ (k : Nat) (E : List Int) (S : List Bool) (O : List Int), t = .int .i64 k ∧ k ≤ O.length ∧ Sr N node S O k ∧ GsI w A B c d N u E S O wv) (fun _ t _ _ _ _ => N.nodes.length - (intOf t).toNat)
      case atStart => exact ⟨0, _, _, _, rfl, by simp, Sr.start, HX.out⟩
      case round =>
        clear HX
        obtain ⟨k, E, S, O, rfl, hk, hsr, hI⟩ := hrel
        have HSR := Lib.hid hsr
        clear hsr
        have HK := Lib.hid hI
        have hle := hI.le
        clear hI
        by_cases hlt : k < O.length
        · obtain ⟨x, hx⟩ := get_some hlt
          obtain ⟨x0, x1⟩ := HK.out.ob x (List.mem_of_getElem? hx)
          obtain ⟨g, cap, hu9, hgb, hcap, harr⟩ := HK.out.o.arr (by omega)
          have HARR := Lib.hid harr
          have HXk := Lib.hid hx
          have g1 : (k : Int) < O.length := by omega
          clear harr hx
          subst hu9
          have HPP := Lib.hid (show ∀ (w5 : World) (v : Value) (l : List Int) (wx : World), wr.heap.size ≤ wx.heap.size → Own w5 wx.heap.size 2 1 v l.length (l.map iV) → Apart (.slice (some ⟨g, 0, none⟩) O.length cap) v from fun w5 v l wx hz ho g' hg hv => by
            have h1 := World.ownsRow.lt HK.out.o g' hg
            have h2 := World.ownsRow.lt ho g' hv
            omega)
          go_wp2_with fail
          refine wp_region_tb (R := Value × List Int) [some 42, some 43, some 44, some 45, some 46, some 47, some 11] _ (by intro u; simp only [frs, Act.put, List.setIfInBounds_toArray, List.set_cons_zero, List.set_cons_succ, Nat.reduceAdd]; exact rfl) (fun ρ j => ([.agg #[.slice A N.nodes.length c, .slice B N.pipes.length d], .slice (some ⟨g, 0, none⟩) O.length cap, .int .i64 k, .pointer (some ⟨g, k, none⟩), .int .i64 x, ρ.1, ρ.1] : List Value).getD j undef) (WC 5 (fun v l wt => AtOk N x l ∧ AtAll N x l ∧ l.length ≤ N.pipes.length ∧ Own wt (w.heap.size + 3) 2 1 v l.length (l.map iV) ∧ Apart (.slice (some ⟨g, 0, none⟩) O.length cap) v) wr) (by kernel_rfl) (by kernel_rfl) (undef, []) (WC.start (Below.drew (Below.refl _ _))) ?_ ?_
          · intro ii hii L ρ u wx hl hp hc hu hn hW
            have hii : ii < 7 := hii
            have HNo := Lib.hid hn
            clear hn
            have hzx := hW.bl.size
            have hii : ii = 0 ∨ ii = 1 ∨ ii = 2 ∨ ii = 3 ∨ ii = 4 ∨ ii = 5 ∨ ii = 6 := by omega
            rcases hii with rfl | rfl | rfl | rfl | rfl | rfl | rfl
            · have hbx := HK.out.bx.below hW.bl HK.out.bx.lt
              have xx0 := hbx.cell 0 rfl
              have xx1 := hbx.cell 1 rfl
              refine wpOp_go (E := True) rfl rfl (fun K' hK => ?_)
              go_simp
              refine hK.out _ _ ⟨ρ, (by simp only [put]; rfl), fun _ _ => rfl, hW.pure (by omega)⟩
            · refine wpOp_go (E := True) rfl rfl (fun K' hK => ?_)
              go_simp
              refine hK.out _ _ ⟨ρ, (by simp only [put]; rfl), fun _ _ => rfl, hW.pure (by omega)⟩
            · refine wpOp_go (E := True) rfl rfl (fun K' hK => ?_)
              go_simp
              refine hK.out _ _ ⟨ρ, (by simp only [put]; rfl), fun _ _ => rfl, hW.pure (by omega)⟩
            · have e1 : u 1 = .slice (some ⟨g, 0, none⟩) O.length cap := hu 1 (all_of hp (by kernel_rfl))
              have e2 : u 2 = .int .i64 k := hu 2 (all_of hp (by kernel_rfl))
              refine wpOp_go (E := True) rfl rfl (fun K' hK => ?_)
              go_simp
              refine hK.out _ _ ⟨ρ, (by simp only [put, e1, e2]; rfl), fun _ _ => rfl, hW.pure (by omega)⟩
            · have e3 : u 3 = .pointer (some ⟨g, k, none⟩) := hu 3 (all_of hp (by kernel_rfl))
              have t_0 := ints_cell (HARR.out.below hW.bl HARR.out.lt) HXk.out
              refine wpOp_go (E := True) rfl rfl (fun K' hK => ?_)
              go_simp
              refine hK.out _ _ ⟨ρ, (by simp only [put, e3]; rfl), fun _ _ => rfl, hW.pure (by omega)⟩
            · have e0 : u 0 = .agg #[.slice A N.nodes.length c, .slice B N.pipes.length d] := hu 0 (all_of hp (by kernel_rfl))
              have e4 : u 4 = .int .i64 x := hu 4 (all_of hp (by kernel_rfl))
              refine wpOp_go (E := True) rfl rfl (fun K' hK => ?_)
              go_simp
              go_at_call 71
              refine (spec_l02AtC A B _ c _ d N x _ ((HN.out.below HK.out.bl).below hW.bl) rfl rfl).mono ?_
              rintro e' w5 ⟨v5, l5, rfl, hat5, hal5, hl5, hO5, hb5⟩
              refine hK.out _ _ ⟨(v5, l5), (by simp only [put, e0, e4]; rfl), fun j hj => by
                  have n6 : L 6 = false := no_later hc hl (by kernel_rfl)
                  match j, hj with
                  | 0, _ => rfl
                  | 1, _ => rfl
                  | 2, _ => rfl
                  | 3, _ => rfl
                  | 4, _ => rfl
                  | 5, hj => rw [hl] at hj; cases hj
                  | 6, hj => rw [n6] at hj; cases hj
                  | _ + 7, _ => rfl, hW.call hb5 ⟨hat5, hal5, hl5, hO5.lowG (by have := HK.out.sz; omega), HPP.out w5 v5 l5 wx hzx hO5⟩⟩
            · have e5 : u 5 = ρ.1 := hu 5 (all_of hp (by kernel_rfl))
              refine wpOp_go (E := True) rfl rfl (fun K' hK => ?_)
              go_simp
              refine hK.out _ _ ⟨ρ, (by simp only [put, e5]; rfl), fun _ _ => rfl, hW.pure (by omega)⟩
          · intro L ρ u wx hall hu hW
            obtain ⟨hat, hal, hll, hown, hap⟩ := hW.pc (hall 5 (by show 5 < 7; omega))
            have e6 : u 6 = ρ.1 := hu 6 (by show 6 < 7; omega)
            have HK2 := Lib.hid (HK.out.below hW.bl)
            rw [e6]
            generalize ρ.1 = va at *
            generalize ρ.2 = la at *
            have HAT := Lib.hid hat
            have HAL := Lib.hid hal
            clear hal
            have HOW := Lib.hid hown
            have HAP := Lib.hid hap
            clear hu hall hW HK HARR HPP e6 hat hown hap
            go_wp2_with fail
            go_loopw [9, 12, 13] (fun u t _ wv => ∃ (i : Nat) (E : List Int) (S : List Bool) (O' : List Int), t = .int .i64 i ∧ i ≤ la.length ∧ k < O'.length ∧ O'[k]? = some x ∧ Sr N node S O' k ∧ SrI N x la O' i ∧ GsI w A B c d N u E S O' wv ∧ Own wv (w.heap.size + 3) 2 1 va la.length (la.map iV) ∧ Apart u va) (fun _ t _ _ => la.length - (intOf t).toNat)
            case atStart => exact ⟨0, E, S, O, rfl, by omega, hlt, HXk.out, HSR.out, SrI.start, HK2.out, HOW.out, HAP.out⟩
            case round =>
              clear HK2 HOW HAP HXk HSR hgb hcap hlt g1
              obtain ⟨i, E, S, O, rfl, hi, hkO, hx, hsr, hsi, hI, hown, hap⟩ := hrel
              have HSR := Lib.hid hsr
              have HSI := Lib.hid hsi
              clear hsr hsi
              have HK := Lib.hid hI
              have HOW := Lib.hid hown
              have HAP := Lib.hid hap
              have HXk := Lib.hid hx
              have hle := hI.le
              have hsz := hI.sz
              clear hI hown hap hx
              by_cases hlt : i < la.length
              · obtain ⟨y, hy⟩ := get_some hlt
                obtain ⟨q, p, rfl, hq, hft⟩ := HAT.out y (List.mem_of_getElem? hy)
                obtain ⟨p1, p2, p3, p4⟩ := pipe_ftG HO.out (List.mem_of_getElem? hq)
                have hqlt : q < N.pipes.length := (List.getElem?_eq_some_iff.1 hq).1
                obtain ⟨tn, htn⟩ : ∃ tn : Nat, p.f + p.t - x = tn := ⟨(p.f + p.t - x).toNat, by rcases hft with h | h <;> omega⟩
                have htl : tn < N.nodes.length := by rcases hft with h | h <;> omega
                obtain ⟨ga, ca, hva, hgab, hca, haa⟩ := HOW.out.arr (by omega)
                obtain ⟨g2, cap2, hu9, hgb, hcap, harr⟩ := HK.out.o.arr (by omega)
                have HAA := Lib.hid haa
                have HARR := Lib.hid harr
                have HY := Lib.hid hy
                have HQ := Lib.hid hq
                have HTN := Lib.hid htn
                have HFT := Lib.hid hft
                have g1 : (i : Int) < la.length := by omega
                have g2' : (k : Int) < O.length := by omega
                have g3 : (tn : Int) < N.nodes.length := by omega
                clear haa harr hy hq htn hft
                subst hva hu9
                go_wp2_with fail
                refine wp_region_tb (R := Value × List Int) [some 54, some 55, some 56, some 57, some 58, some 59, some 60, some 61, some 62, some 63, some 13] _ (by intro u; simp only [frs, Act.put, List.setIfInBounds_toArray, List.set_cons_zero, List.set_cons_succ, Nat.reduceAdd]; exact rfl) (fun ρ j => ([.agg #[.slice A N.nodes.length c, .slice B N.pipes.length d], .slice (some ⟨ga, 0, none⟩) la.length ca, .int .i64 i, .pointer (some ⟨ga, i, none⟩), .int .i64 (q : Nat), .slice (some ⟨g2, 0, none⟩) O.length cap2, .int .i64 k, .pointer (some ⟨g2, k, none⟩), .int .i64 x, .int .i64 (tn : Nat), .int .i64 (tn : Nat)] : List Value).getD j undef) (WC 9 (fun _ _ _ => True) wr) (by kernel_rfl) (by kernel_rfl) (undef, []) (WC.start (Below.drew (Below.refl _ _))) ?_ ?_
                · intro ii hii L ρ u wx hl hp hc hu hn hW
                  have hii : ii < 11 := hii
                  have HNo := Lib.hid hn
                  clear hn
                  have hzx := hW.bl.size
                  have hii : ii = 0 ∨ ii = 1 ∨ ii = 2 ∨ ii = 3 ∨ ii = 4 ∨ ii = 5 ∨ ii = 6 ∨ ii = 7 ∨ ii = 8 ∨ ii = 9 ∨ ii = 10 := by omega
                  rcases hii with rfl | rfl | rfl | rfl | rfl | rfl | rfl | rfl | rfl | rfl | rfl
                  · have hbx := HK.out.bx.below hW.bl HK.out.bx.lt
                    have xx0 := hbx.cell 0 rfl
                    have xx1 := hbx.cell 1 rfl
                    refine wpOp_go (E := True) rfl rfl (fun K' hK => ?_)
                    go_simp
                    refine hK.out _ _ ⟨ρ, (by simp only [put]; rfl), fun _ _ => rfl, hW.pure (by omega)⟩
                  · refine wpOp_go (E := True) rfl rfl (fun K' hK => ?_)
                    go_simp
                    refine hK.out _ _ ⟨ρ, (by simp only [put]; rfl), fun _ _ => rfl, hW.pure (by omega)⟩
                  · refine wpOp_go (E := True) rfl rfl (fun K' hK => ?_)
                    go_simp
                    refine hK.out _ _ ⟨ρ, (by simp only [put]; rfl), fun _ _ => rfl, hW.pure (by omega)⟩
                  · have e1 : u 1 = .slice (some ⟨ga, 0, none⟩) la.length ca := hu 1 (all_of hp (by kernel_rfl))
                    have e2 : u 2 = .int .i64 i := hu 2 (all_of hp (by kernel_rfl))
                    refine wpOp_go (E := True) rfl rfl (fun K' hK => ?_)
                    go_simp
                    refine hK.out _ _ ⟨ρ, (by simp only [put, e1, e2]; rfl), fun _ _ => rfl, hW.pure (by omega)⟩
                  · have e3 : u 3 = .pointer (some ⟨ga, i, none⟩) := hu 3 (all_of hp (by kernel_rfl))
                    have t_0 := ints_cell (HAA.out.below hW.bl HAA.out.lt) HY.out
                    refine wpOp_go (E := True) rfl rfl (fun K' hK => ?_)
                    go_simp
                    refine hK.out _ _ ⟨ρ, (by simp only [put, e3]; rfl), fun _ _ => rfl, hW.pure (by omega)⟩
                  · refine wpOp_go (E := True) rfl rfl (fun K' hK => ?_)
                    go_simp
                    refine hK.out _ _ ⟨ρ, (by simp only [put]; rfl), fun _ _ => rfl, hW.pure (by omega)⟩
                  · refine wpOp_go (E := True) rfl rfl (fun K' hK => ?_)
                    go_simp
                    refine hK.out _ _ ⟨ρ, (by simp only [put]; rfl), fun _ _ => rfl, hW.pure (by omega)⟩
                  · have e5 : u 5 = .slice (some ⟨g2, 0, none⟩) O.length cap2 := hu 5 (all_of hp (by kernel_rfl))
                    have e6 : u 6 = .int .i64 k := hu 6 (all_of hp (by kernel_rfl))
                    refine wpOp_go (E := True) rfl rfl (fun K' hK => ?_)
                    go_simp
                    refine hK.out _ _ ⟨ρ, (by simp only [put, e5, e6]; rfl), fun _ _ => rfl, hW.pure (by omega)⟩
                  · have e7 : u 7 = .pointer (some ⟨g2, k, none⟩) := hu 7 (all_of hp (by kernel_rfl))
                    have t_0 := ints_cell (HARR.out.below hW.bl HARR.out.lt) HXk.out
                    refine wpOp_go (E := True) rfl rfl (fun K' hK => ?_)
                    go_simp
                    refine hK.out _ _ ⟨ρ, (by simp only [put, e7]; rfl), fun _ _ => rfl, hW.pure (by omega)⟩
                  · have e0 : u 0 = .agg #[.slice A N.nodes.length c, .slice B N.pipes.length d] := hu 0 (all_of hp (by kernel_rfl))
                    have e4 : u 4 = .int .i64 (q : Nat) := hu 4 (all_of hp (by kernel_rfl))
                    have e8 : u 8 = .int .i64 x := hu 8 (all_of hp (by kernel_rfl))
                    refine wpOp_go (E := True) rfl rfl (fun K' hK => ?_)
                    go_simp
                    go_at_call 72
                    refine (spec_l02Other A B _ c _ d N q p x _ ((HN.out.below HK.out.bl).below hW.bl) rfl HQ.out ⟨p1, by omega⟩ ⟨p3, by omega⟩ ⟨x0, by omega⟩).mono ?_
                    rintro e' w5 ⟨rfl, hb5⟩
                    rw [HTN.out]
                    refine hK.out _ _ ⟨ρ, (by simp only [put, e0, e4, e8]; rfl), fun _ _ => rfl, hW.call (v := ρ.1) (l := ρ.2) hb5 trivial⟩
                  · have e9 : u 9 = .int .i64 (tn : Nat) := hu 9 (all_of hp (by kernel_rfl))
                    refine wpOp_go (E := True) rfl rfl (fun K' hK => ?_)
                    go_simp
                    refine hK.out _ _ ⟨ρ, (by simp only [put, e9]; rfl), fun _ _ => rfl, hW.pure (by omega)⟩
                · intro L ρ u wx hall hu hW
                  have e10 : u 10 = .int .i64 (tn : Nat) := hu 10 (by show 10 < 11; omega)
                  have HK3 := Lib.hid (HK.out.below hW.bl)
                  have HOW3 := Lib.hid (HOW.out.below hW.bl (Nat.le_refl _))
                  have HAA3 := Lib.hid (HAA.out.below hW.bl HAA.out.lt)
                  have hz3 := HK3.out.sz
                  clear hu hall hW HK HOW HAA HARR
                  obtain ⟨b, hb⟩ := get_some (l := S) (k := tn) (by rw [HK3.out.sl]; exact htl)
                  have s0 := bls_cell HK3.out.a2 hb
                  have HS0 := Lib.hid hb
                  clear hb
                  rw [e10]
                  clear e10
                  cases b
                  · obtain ⟨y0, hy0⟩ := get_some (l := E) (k := tn) (by rw [HK3.out.el]; exact htl)
                    have s1 := HK3.out.a2.free (j := tn) htl
                    have s2 := ints_cell HK3.out.a1 hy0
                    have s3 := HK3.out.a1.free (j := tn) htl
                    have s4 := ints_cell HAA3.out HY.out
                    have n1 : ¬ ga = w.heap.size + 1 + 1 := by omega
                    have n2 : ¬ w.heap.size + 1 + 1 = ga := by omega
                    have n3 : ¬ ga = w.heap.size + 1 := by omega
                    have n4 : ¬ w.heap.size + 1 = ga := by omega
                    clear hy0
                    go_wp2_with ((at_builtin; refine wp_app1x _ rfl (.tmp 79) (.tmp 81) 32 rfl (w.heap.size + 3) info_i64 Try.underlying32 rfl (by omega) (by omega) _ _ _ rfl (((HK3.out.o.set_below (a := ⟨w.heap.size + 1 + 1, tn, none⟩) (by simp) (.bool true)).set_below (a := ⟨w.heap.size + 1, tn, none⟩) (by simp) (.int .i64 (q : Nat))).alloc _) _ 1 1 [iV tn] rfl rfl (by intro j u hu; match j, hu with | 0, hu => (simp at hu; subst hu; exact cell_new1 _ _ _ _ (by simp)) | j + 1, hu => simp at hu) (by simp [Value.oneCell']) (by omega) (by omega) (by first | omega | (simp; done) | (simp; omega)) ?_; intro v6 w6 hO6 hb6 hF6))
                    have HP6 := Lib.hid (HK3.out.push HS0.out hqlt hO6 hb6)
                    have HOW6 := Lib.hid (hF6.own (((HOW3.out.set_below (a := ⟨w.heap.size + 1 + 1, tn, none⟩) (by simp) (.bool true)).set_below (a := ⟨w.heap.size + 1, tn, none⟩) (by simp) (.int .i64 (q : Nat))).alloc _) HAP.out)
                    have HAP6 := Lib.hid (hF6.apart (((HOW3.out.set_below (a := ⟨w.heap.size + 1 + 1, tn, none⟩) (by simp) (.bool true)).set_below (a := ⟨w.heap.size + 1, tn, none⟩) (by simp) (.int .i64 (q : Nat))).alloc _) HAP.out)
                    clear hO6 hb6 hF6
                    go_roundw
                    case rel => exact ⟨i + 1, _, _, O ++ [(tn : Int)], by go_num, by omega, by simp; omega, by rw [List.getElem?_append_left hkO]; exact HXk.out, HSR.out.push HXk.out (List.mem_of_getElem? HQ.out) HFT.out HTN.out, (HSI.out.app).step HY.out HQ.out HTN.out (by simp), HP6.out, HOW6.out, HAP6.out⟩
                    case measure => simp [intOf]; omega
                  · go_wp2
                    go_roundw
                    case rel => exact ⟨i + 1, E, S, O, by go_num, by omega, hkO, HXk.out, HSR.out, HSI.out.step HY.out HQ.out HTN.out (HSR.out.io tn HS0.out), HK3.out, HOW3.out, HAP.out⟩
                    case measure => simp [intOf]; omega
              · have g1 : ¬ (i : Int) < la.length := by omega
                obtain ⟨Aa, ca, rfl, -, -, -⟩ := HOW.out.val
                go_wp2_with fail
                go_roundw
                case rel => exact ⟨k + 1, E, S, O, by go_num, by omega, HSR.out.next HXk.out HAL.out (by rw [show la.length = i by omega]; exact HSI.out), HK.out⟩
                case measure => simp [intOf]; omega
        · have hkE : k = O.length := by omega
          have g1 : ¬ (k : Int) < O.length := by omega
          obtain ⟨A2, c2, rfl, hc2, hR2, hb2⟩ := HK.out.o.val
          have HR2 := Lib.hid hR2
          have HB2 := Lib.hid hb2
          clear hR2 hb2
          go_wp2
          go_ret2
          have hE := HK.out.a1.rd
          exact ⟨some ⟨w.heap.size + 1, 0, none⟩, A2, N.nodes.length, c2, E, O, by rw [HK.out.el]; rfl, HK.out.el, HK.out.eb, HK.out.le, HK.out.ob, Sr.done (hkE ▸ HSR.out), hE, HR2.out, fun b off e => by injection e with e; injection e with e1; omega, fun b off e => by have := HB2.out b off e; omega, HK.out.bl⟩
set_option maxRecDepth 100000 in
set_option maxHeartbeats 4000000 in
theorem spec_l04ComponentsC (A B : Option Addr) (n c m d : Nat) (N : Net) (w : World) (hN : NetAt w A B N) (hn : n = N.nodes.length) (hm : m = N.pipes.length) (hO : N.Ok) :
    Calls Try.prog 43 #[netV A B n c m d] w fun e w' => ∃ (A1 : Option Addr) (c1 : Nat) (l : List Int), e = .returned (.slice A1 l.length c1) ∧ l.length = N.nodes.length ∧ Cm N l N.nodes.length ∧ Rd w' A1 (l.map iV) ∧ (∀ b off, A1 = some ⟨b, off, none⟩ → w.heap.size ≤ b) ∧ Below w.heap.size w w' := by
  subst hn hm
  have HN := Lib.hid hN
  have HO := Lib.hid hO
  have hln := hN.ln
  have hlp := hN.lp
  have hp1 := hO.p1
  have hn2 := hO.n2
  clear hN hO
  have hmk := make_i64 N.nodes.length (by omega)
  go_enter Try.func43, Try.ntmps43
  go_wp2_with fail
  have HA1 := Lib.hid (Arr.madeI (w.alloc (.cells #[.slice A N.nodes.length c, .slice B N.pipes.length d] 27)) N.nodes.length 2)
  clear hmk
  go_loopw [4] (fun v wr => ∃ (k : Nat) (l : List Int), k ≤ N.nodes.length ∧ v = .int .i64 k ∧ l.length = N.nodes.length ∧ l = filM N.nodes.length k ∧ Arr wr (w.heap.size + 1) N.nodes.length (l.map iV) ∧ Bx wr w.heap.size [.slice A N.nodes.length c, .slice B N.pipes.length d] ∧ Below w.heap.size w wr) (fun v _ => N.nodes.length - (intOf v).toNat)
  case atStart => exact ⟨0, List.replicate N.nodes.length 0, by omega, rfl, by simp, by simp [filM], by simpa using HA1.out, (bx2 (by first | exact hy0 | go_size) (by first | (with_reducible exact cw0_0) | go_cell_look | (simp [go_sem, hy0, cw0_0, fw0_0, cw0_1, fw0_1]; done) | (simp [go_sem]; done)) (by first | (with_reducible exact fw0_0) | (simp only [World.frozen?_setCell, fw0_0]; done) | (simp [go_sem, hy0, cw0_0, fw0_0, cw0_1, fw0_1]; done) | (simp [go_sem]; done)) (by first | (with_reducible exact cw0_1) | go_cell_look | (simp [go_sem, hy0, cw0_0, fw0_0, cw0_1, fw0_1]; done) | (simp [go_sem]; done)) (by first | (with_reducible exact fw0_1) | (simp only [World.frozen?_setCell, fw0_1]; done) | (simp [go_sem, hy0, cw0_0, fw0_0, cw0_1, fw0_1]; done) | (simp [go_sem]; done))), by (repeat' (first | (with_reducible exact Below.refl _ _) | (with_reducible assumption) | (with_reducible refine Below.alloc ?_ ?_ _) | (with_reducible refine Below.drew ?_) | (with_reducible refine Below.drewN' ?_ _) | (with_reducible refine Below.setCell ?_ ?_ _) | (refine Below.via ?_ (by with_reducible assumption) ?_) | (with_reducible refine Below.via ?_ (Wd.h _) ?_) | go_size))⟩
  case round =>
    clear HA1
    obtain ⟨k, l, hk, rfl, hl, hfl, hA1, hB, hbw⟩ := hrel
    have HFL := Lib.hid hfl
    clear hfl
    have hbH := Lib.hid hbw
    have H1 := Lib.hid hA1
    have HB := Lib.hid hB
    have hlt1 := hA1.lt
    have HLN := Lib.hid hl
    clear hA1 hB hbw hl
    by_cases hlt : k < N.nodes.length
    · have g1 : (k : Int) < N.nodes.length := by omega
      obtain ⟨y, hy⟩ := get_some (l := l) (k := k) (by rw [HLN.out]; exact hlt)
      have s0 := ints_cell H1.out hy
      have s1 := H1.out.free (j := k) hlt
      clear hy
      go_wp2
      go_roundw
      case rel =>
        refine ⟨k + 1, l.set k (-1), by omega, by go_num, by simpa using HLN.out, by rw [HFL.out, filM_set hlt], ?_, ?_, (hbH.out).setCell (by simp) _⟩
        · have := H1.out.setAt hlt (.int .i64 (-1))
          rw [map_set_iV]; exact this
        · have hk1 : Keep (fun z => z = w.heap.size + 1) wr (wr.setCell ⟨w.heap.size + 1, k, none⟩ (.int .i64 (-1))) := (Keep.refl (fun z => z = w.heap.size + 1) wr).setCell (p := ⟨w.heap.size + 1, k, none⟩) rfl _
          exact HB.out.keep hk1 (by omega)
      case measure => simp [intOf]; omega
    · obtain rfl : k = N.nodes.length := by omega
      have g1 : ¬ (N.nodes.length : Int) < N.nodes.length := by omega
      go_wp2_with fail
      go_loopw [5, 6, 7, 8] (fun v _ _ _ wv => ∃ (k : Nat) (l : List Int), k ≤ N.nodes.length ∧ v = .int .i64 k ∧ l.length = N.nodes.length ∧ Cm N l k ∧ Arr wv (w.heap.size + 1) N.nodes.length (l.map iV) ∧ Bx wv w.heap.size [.slice A N.nodes.length c, .slice B N.pipes.length d] ∧ Below w.heap.size w wv) (fun v _ _ _ _ => N.nodes.length - (intOf v).toNat)
      case atStart => exact ⟨0, l, by omega, rfl, HLN.out, by rw [HFL.out, show filM N.nodes.length N.nodes.length = List.replicate N.nodes.length (-1) by simp [filM]]; exact Cm.start, H1.out, HB.out, hbH.out⟩
      case round =>
        clear H1 HB hbH HLN hlt1 HFL
        obtain ⟨k, l, hk, rfl, hl, hcm, hA1, hB, hbw⟩ := hrel
        have HCM := Lib.hid hcm
        clear hcm
        have hbH := Lib.hid hbw
        have H1 := Lib.hid hA1
        have HB := Lib.hid hB
        have hlt1 := hA1.lt
        have HLN := Lib.hid hl
        have hy7 := hB.lt; have cw7_0 := hB.cell 0 rfl; have fw7_0 := hB.frozen 0 rfl; have cw7_1 := hB.cell 1 rfl; have fw7_1 := hB.frozen 1 rfl
        clear hA1 hB hbw hl
        by_cases hlt : k < N.nodes.length
        · have g2 : (k : Int) < N.nodes.length := by omega
          obtain ⟨y, hy⟩ := get_some (l := l) (k := k) (by rw [HLN.out]; exact hlt)
          have s0 := ints_cell H1.out hy
          have HY := Lib.hid hy
          clear hy
          by_cases hy0 : 0 ≤ y
          · go_wp2
            go_roundw
            case rel => exact ⟨k + 1, l, by omega, by go_num, HLN.out, HCM.out.skip HY.out hy0, H1.out, HB.out, hbH.out⟩
            case measure => simp [intOf]; omega
          · go_wp2_with fail
            refine (spec_l04SearchC A B _ c _ d N k _ (HN.out.below hbH.out) rfl rfl HO.out hlt).mono ?_
            rintro e w3 ⟨B1, B2, d1, d2, E, O, rfl, hel, heb, hol, hob, hsr, hR1, hR2, hb1, hb2, hb3⟩
            have HST := Lib.hid (HCM.out.step HO.out hlt HY.out (by omega) hsr hob)
            clear hsr
            have HOB := Lib.hid hob
            have HR2 := Lib.hid hR2
            have HB2 := Lib.hid (show ∀ b off, B2 = some ⟨b, off, none⟩ → w.heap.size + 1 < b from fun b off e => by have := hb2 b off e; omega)
            have H3 := Lib.hid (H1.out.below hb3 hlt1)
            have HB3 := Lib.hid (HB.out.below hb3 HB.out.lt)
            have hz3 := hb3.size
            have hbH3 := Lib.hid (hbH.out.trans (hb3.mono (by omega)))
            clear hel heb hob hR1 hR2 hb1 hb2 hb3 H1 HB hbH s0 cw7_0 cw7_1 fw7_0 fw7_1 hy7
            go_wp2_with fail
            go_loopw [8] (fun v wv => ∃ (j : Nat) (l' : List Int), j ≤ O.length ∧ v = .int .i64 j ∧ l'.length = N.nodes.length ∧ setO l' k (O.drop j) = setO l k O ∧ Arr wv (w.heap.size + 1) N.nodes.length (l'.map iV) ∧ Rd wv B2 (O.map iV) ∧ Bx wv w.heap.size [.slice A N.nodes.length c, .slice B N.pipes.length d] ∧ Below w.heap.size w wv) (fun v _ => O.length - (intOf v).toNat)
            case atStart => exact ⟨0, l, by omega, rfl, HLN.out, rfl, H3.out, HR2.out, HB3.out, hbH3.out⟩
            case round =>
              clear H3 HR2 HB3 hbH3 HLN hlt1
              obtain ⟨j, l', hj, rfl, hl, hso, hA1, hR, hB, hbw⟩ := hrel
              have HSO := Lib.hid hso
              clear hso
              have hbH := Lib.hid hbw
              have H1 := Lib.hid hA1
              have HR := Lib.hid hR
              have HB := Lib.hid hB
              have hlt1 := hA1.lt
              have HLN := Lib.hid hl
              clear hA1 hB hbw hl hR
              by_cases hlj : j < O.length
              · obtain ⟨x, hx⟩ := get_some hlj
                obtain ⟨x0, x1⟩ := HOB.out x (List.mem_of_getElem? hx)
                obtain ⟨q, rfl⟩ : ∃ q : Nat, x = q := ⟨x.toNat, by omega⟩
                have hql : q < N.nodes.length := by omega
                obtain ⟨b, off, rfl, hb, hat⟩ := HR.out.opened (k := j) (by simpa using hlj)
                have t0 := ints_at hat hx
                have hbn := HB2.out b off rfl
                obtain ⟨z, hz⟩ := get_some (l := l') (k := q) (by rw [HLN.out]; exact hql)
                have s0 := ints_cell H1.out hz
                have s1 := H1.out.free (j := q) hql
                have g3 : (j : Int) < O.length := by omega
                have HXJ := Lib.hid hx
                clear hat hx hz
                go_wp2
                go_roundw
                case rel =>
                  have hk1 : Keep (fun z => z = w.heap.size + 1) wr (wr.setCell ⟨w.heap.size + 1, q, none⟩ (.int .i64 k)) := (Keep.refl (fun z => z = w.heap.size + 1) wr).setCell (p := ⟨w.heap.size + 1, q, none⟩) rfl _
                  refine ⟨j + 1, l'.set q k, by omega, by go_num, by simpa using HLN.out, by have e := setO_drop (l := l') (k := (k : Int)) HXJ.out; rw [Int.toNat_natCast] at e; rw [← e]; exact HSO.out, ?_, HR.out.keep hk1 (fun b' off' e => by injection e with e; injection e with e1; omega), HB.out.keep hk1 (by omega), (hbH.out).setCell (by simp) _⟩
                  have := H1.out.setAt hql (.int .i64 k)
                  rw [map_set_iV]; exact this
                case measure => simp [intOf]; omega
              · have g3 : ¬ (j : Int) < O.length := by omega
                go_wp2_with fail
                go_roundw
                case rel => exact ⟨k + 1, l', by omega, by go_num, HLN.out, by have e := HSO.out; rw [setO_end (by omega)] at e; rw [e]; exact HST.out, H1.out, HB.out, hbH.out⟩
                case measure => simp [intOf]; omega
        · have g2 : ¬ (k : Int) < N.nodes.length := by omega
          go_wp2
          go_ret
          exact ⟨some ⟨w.heap.size + 1, 0, none⟩, N.nodes.length, l, by rw [HLN.out]; rfl, HLN.out, (show k = N.nodes.length by omega) ▸ HCM.out, H1.out.rd, fun b off e => by injection e with e; injection e with e1; omega, hbH.out⟩
set_option maxRecDepth 100000 in
set_option maxHeartbeats 2000000 in
theorem spec_l04Count (A B : Option Addr) (n c m d : Nat) (N : Net) (w : World) (hN : NetAt w A B N) (hn : n = N.nodes.length) (hm : m = N.pipes.length) (hO : N.Ok) :
    Calls Try.prog 28 #[netV A B n c m d] w fun e w' => ∃ z : Nat, e = .returned (.int .i64 z) ∧ (z = 1 → Conn N) ∧ Below w.heap.size w w' := by
  subst hn hm
  have HN := Lib.hid hN
  have HO := Lib.hid hO
  have hln := hN.ln
  clear hN hO
  go_enter Try.func28, Try.ntmps28
  go_wp2_with fail
  refine (spec_l04ComponentsC A B _ c _ d N _ (HN.out.below (by (repeat' (first | (with_reducible exact Below.refl _ _) | (with_reducible assumption) | (with_reducible refine Below.alloc ?_ ?_ _) | (with_reducible refine Below.drew ?_) | (with_reducible refine Below.drewN' ?_ _) | (with_reducible refine Below.setCell ?_ ?_ _) | (refine Below.via ?_ (by with_reducible assumption) ?_) | (with_reducible refine Below.via ?_ (Wd.h _) ?_) | go_size)))) rfl rfl HO.out).mono ?_
  rintro e w1 ⟨A1, c1, l, rfl, hl, hcm, hR, hRb, hb1⟩
  have HR := Lib.hid hR
  have HC := Lib.hid hcm
  have hbw1 : Below w.heap.size w w1 := by (repeat' (first | (with_reducible exact Below.refl _ _) | (with_reducible assumption) | (with_reducible refine Below.alloc ?_ ?_ _) | (with_reducible refine Below.drew ?_) | (with_reducible refine Below.drewN' ?_ _) | (with_reducible refine Below.setCell ?_ ?_ _) | (refine Below.via ?_ (by with_reducible assumption) ?_) | (with_reducible refine Below.via ?_ (Wd.h _) ?_) | go_size))
  have HB1 := Lib.hid hbw1
  have HL := Lib.hid hl
  clear hR hcm hRb hb1 hbw1
  have hll : l.length ≤ 1048576 := by rw [HL.out]; exact hln
  clear hl
  go_wp2
  go_loopw [4, 5] (fun u v wr => ∃ (k : Nat), k ≤ l.length ∧ v = .int .i64 k ∧ u = .int .i64 (cntR l k : Nat) ∧ Below w1.heap.size w1 wr) (fun _ v _ => l.length - (intOf v).toNat)
  case atStart => exact ⟨0, by omega, rfl, rfl, Below.refl _ _⟩
  case round =>
    obtain ⟨k, hk, rfl, rfl, hbw⟩ := hrel
    have hbH := Lib.hid hbw
    have hcl := cntR_le (l := l) (k := k)
    by_cases hlt : k < l.length
    · obtain ⟨y, hy⟩ := get_some hlt
      obtain ⟨b, off, rfl, hb, hat⟩ := HR.out.opened (k := k) (by simpa using hlt)
      have t0 := ints_at (hat.below hbw hb) hy
      have g1 : (k : Int) < l.length := by omega
      have HY := Lib.hid hy
      clear hy hat hbw
      by_cases e1 : y = k
      · have HS := Lib.hid (show cntR l (k + 1) = cntR l k + 1 by rw [cntR_succ, if_pos (by rw [HY.out, e1])])
        have b1 : (y == (k : Int)) = true := by simpa using e1
        clear e1
        go_wp2
        go_roundw
        case rel => exact ⟨k + 1, by omega, by go_num, by rw [HS.out]; go_num, hbH.out⟩
        case measure => simp [intOf]; omega
      · have HS := Lib.hid (show cntR l (k + 1) = cntR l k by rw [cntR_succ, if_neg (by rw [HY.out]; intro q; injection q with q; exact e1 q)]; rfl)
        have b1 : (y == (k : Int)) = false := by simpa using e1
        clear e1
        go_wp2
        go_roundw
        case rel => exact ⟨k + 1, by omega, by go_num, by rw [HS.out], hbH.out⟩
        case measure => simp [intOf]; omega
    · have g1 : ¬ (k : Int) < l.length := by omega
      clear hbw
      go_wp2
      go_ret
      refine ⟨cntR l k, rfl, fun h => HC.out.conn ?_, HB1.out.trans (hbH.out.mono HB1.out.size)⟩
      rw [← HL.out, show l.length = k by omega]; exact h
set_option maxRecDepth 100000 in
set_option maxHeartbeats 2000000 in
theorem spec_IsConnected (A B : Option Addr) (n c m d : Nat) (N : Net) (w : World) (hN : NetAt w A B N) (hn : n = N.nodes.length) (hm : m = N.pipes.length) (hO : N.Ok) :
    Calls Try.prog 13 #[netV A B n c m d] w fun e w' => ∃ b : Bool, e = .returned (.bool b) ∧ (b = true → Conn N) ∧ Below w.heap.size w w' := by
  subst hn hm
  have HN := Lib.hid hN
  have HO := Lib.hid hO
  clear hN hO
  have hb : netB N = true := netB_t HO.out
  go_enter Try.func13, Try.ntmps13
  go_wp2_with fail
  refine (spec_IsNetwork A B _ c _ d N _ (HN.out.below (by (repeat' (first | (with_reducible exact Below.refl _ _) | (with_reducible assumption) | (with_reducible refine Below.alloc ?_ ?_ _) | (with_reducible refine Below.drew ?_) | (with_reducible refine Below.drewN' ?_ _) | (with_reducible refine Below.setCell ?_ ?_ _) | (refine Below.via ?_ (by with_reducible assumption) ?_) | (with_reducible refine Below.via ?_ (Wd.h _) ?_) | go_size)))) rfl rfl).mono ?_
  rintro e w1 ⟨rfl, hb1⟩
  (obtain ⟨hcn, hfn⟩ := bcell hb1; have hz1 := hb1.size; (try simp at hz1); have Ncw0_0 := hcn (w.heap.size) (0) (by first | omega | (simp; done) | (simp; omega)); have Nfw0_0 := hfn (w.heap.size) (0) (by first | omega | (simp; done) | (simp; omega)); have Nhy0 : w.heap.size < w1.heap.size := (by omega); have Ncw0_1 := hcn (w.heap.size) (1) (by first | omega | (simp; done) | (simp; omega)); have Nfw0_1 := hfn (w.heap.size) (1) (by first | omega | (simp; done) | (simp; omega)); simp [go_sem] at Ncw0_0 Nfw0_0 Ncw0_1 Nfw0_1; clear hcn hfn; have cw0_0 := Ncw0_0; have fw0_0 := Nfw0_0; have cw0_1 := Ncw0_1; have fw0_1 := Nfw0_1; have hy0 := Nhy0; clear Ncw0_0 Nfw0_0 Ncw0_1 Nfw0_1 Nhy0)
  go_wp2_with fail
  refine (spec_l04Count A B _ c _ d N _ (HN.out.below (by (repeat' (first | (with_reducible exact Below.refl _ _) | (with_reducible assumption) | (with_reducible refine Below.alloc ?_ ?_ _) | (with_reducible refine Below.drew ?_) | (with_reducible refine Below.drewN' ?_ _) | (with_reducible refine Below.setCell ?_ ?_ _) | (refine Below.via ?_ (by with_reducible assumption) ?_) | (with_reducible refine Below.via ?_ (Wd.h _) ?_) | go_size)))) rfl rfl HO.out).mono ?_
  rintro e w2 ⟨z, rfl, hz, hb2⟩
  have HZ := Lib.hid hz
  clear hz
  by_cases e1 : z = 1
  · subst e1
    go_wp2
    go_ret
    exact ⟨true, rfl, fun _ => HZ.out (by simp), by (repeat' (first | (with_reducible exact Below.refl _ _) | (with_reducible assumption) | (with_reducible refine Below.alloc ?_ ?_ _) | (with_reducible refine Below.drew ?_) | (with_reducible refine Below.drewN' ?_ _) | (with_reducible refine Below.setCell ?_ ?_ _) | (refine Below.via ?_ (by with_reducible assumption) ?_) | (with_reducible refine Below.via ?_ (Wd.h _) ?_) | go_size))⟩
  · have b1 : ((z : Int) == 1) = false := by simp; omega
    go_wp2
    go_ret
    exact ⟨false, by simp [b1], (fun q => by cases q), by (repeat' (first | (with_reducible exact Below.refl _ _) | (with_reducible assumption) | (with_reducible refine Below.alloc ?_ ?_ _) | (with_reducible refine Below.drew ?_) | (with_reducible refine Below.drewN' ?_ _) | (with_reducible refine Below.setCell ?_ ?_ _) | (refine Below.via ?_ (by with_reducible assumption) ?_) | (with_reducible refine Below.via ?_ (Wd.h _) ?_) | go_size))⟩
end Go.Proofs.Ytlbidcblpmdgaaa

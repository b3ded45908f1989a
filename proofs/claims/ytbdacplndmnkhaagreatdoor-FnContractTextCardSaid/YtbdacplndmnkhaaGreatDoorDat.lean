/- The data of the program as plain records, and their cells. -/
import Derived.Test.YtbdacplndmnkhaaGreatDoorRd
namespace Go.Proofs.YtbdacplndmnkhaaGreatDoor
set_option linter.unusedVariables false
set_option linter.unusedSimpArgs false
open Go.RowKit
def i64B (n : Int) : Prop := -9223372036854775808 ≤ n ∧ n ≤ 9223372036854775807
structure Nd where
  name : ByteArray
  lo : Int
  hi : Int
abbrev Nd.val (x : Nd) : Value := .agg #[Value.string x.name, Value.int .i64 x.lo, Value.int .i64 x.hi]
def Nd.cells (x : Nd) : List Value := [Value.string x.name, Value.int .i64 x.lo, Value.int .i64 x.hi]
theorem Nd.len (x : Nd) : x.cells.length = 3 := rfl
def Nd.ok (x : Nd) : Prop := x.name.size ≤ 9223372036854775807 ∧ i64B x.lo ∧ i64B x.hi
structure Pp where
  f : Int
  t : Int
  k : Int
  vol : Int
  lim : Int
abbrev Pp.val (x : Pp) : Value := .agg #[Value.int .i64 x.f, Value.int .i64 x.t, Value.int .i64 x.k, Value.int .i64 x.vol, Value.int .i64 x.lim]
def Pp.cells (x : Pp) : List Value := [Value.int .i64 x.f, Value.int .i64 x.t, Value.int .i64 x.k, Value.int .i64 x.vol, Value.int .i64 x.lim]
theorem Pp.len (x : Pp) : x.cells.length = 5 := rfl
def Pp.ok (x : Pp) : Prop := i64B x.f ∧ i64B x.t ∧ i64B x.k ∧ i64B x.vol ∧ i64B x.lim
structure Ctr where
  sh : Int
  en : Int
  ex : Int
  am : Int
  cl : Int
  fr : Int
  to : Int
  pr : Int
abbrev Ctr.val (x : Ctr) : Value := .agg #[Value.int .i64 x.sh, Value.int .i64 x.en, Value.int .i64 x.ex, Value.int .i64 x.am, Value.int .i64 x.cl, Value.int .i64 x.fr, Value.int .i64 x.to, Value.int .i64 x.pr]
def Ctr.cells (x : Ctr) : List Value := [Value.int .i64 x.sh, Value.int .i64 x.en, Value.int .i64 x.ex, Value.int .i64 x.am, Value.int .i64 x.cl, Value.int .i64 x.fr, Value.int .i64 x.to, Value.int .i64 x.pr]
theorem Ctr.len (x : Ctr) : x.cells.length = 8 := rfl
def Ctr.ok (x : Ctr) : Prop := i64B x.sh ∧ i64B x.en ∧ i64B x.ex ∧ i64B x.am ∧ i64B x.cl ∧ i64B x.fr ∧ i64B x.to ∧ i64B x.pr
structure Nom where
  con : Int
  hr : Int
  sent : Int
  am : Int
abbrev Nom.val (x : Nom) : Value := .agg #[Value.int .i64 x.con, Value.int .i64 x.hr, Value.int .i64 x.sent, Value.int .i64 x.am]
def Nom.cells (x : Nom) : List Value := [Value.int .i64 x.con, Value.int .i64 x.hr, Value.int .i64 x.sent, Value.int .i64 x.am]
theorem Nom.len (x : Nom) : x.cells.length = 4 := rfl
def Nom.ok (x : Nom) : Prop := i64B x.con ∧ i64B x.hr ∧ i64B x.sent ∧ i64B x.am
structure Ord where
  sh : Int
  nd : Int
  am : Int
  cl : Int
abbrev Ord.val (x : Ord) : Value := .agg #[Value.int .i64 x.sh, Value.int .i64 x.nd, Value.int .i64 x.am, Value.int .i64 x.cl]
def Ord.cells (x : Ord) : List Value := [Value.int .i64 x.sh, Value.int .i64 x.nd, Value.int .i64 x.am, Value.int .i64 x.cl]
theorem Ord.len (x : Ord) : x.cells.length = 4 := rfl
def Ord.ok (x : Ord) : Prop := i64B x.sh ∧ i64B x.nd ∧ i64B x.am ∧ i64B x.cl
structure Net where
  nodes : List Nd
  pipes : List Pp
def SzPost (w : World) (left : Int) (n : Nat) (e : Ending) (w' : World) : Prop := ∃ r : Int, e = .returned (.int .i64 r) ∧ (r = -1 ∨ (0 ≤ r ∧ r + n ≤ left)) ∧ Below w.heap.size w w'
end Go.Proofs.YtbdacplndmnkhaaGreatDoor

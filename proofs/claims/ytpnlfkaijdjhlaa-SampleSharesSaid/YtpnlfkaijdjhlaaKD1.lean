/- What every seat's texts begin with. -/
import Derived.Test.YtpnlfkaijdjhlaaKTab
import Derived.IntWalk
namespace Go.Proofs.Ytpnlfkaijdjhlaa
set_option linter.all false
open Go.Abs

def ic (n : Int) : List IV := [.int n]
def ints (l : List Int) : IV := .sl (l.map ic)
theorem i64_ok {n : Int} (h : -9223372036854775808 ≤ n ∧ n ≤ 9223372036854775807) : IntKind.i64.wrap n = n := IntWalk.i64_in n h
end Go.Proofs.Ytpnlfkaijdjhlaa

namespace Go.Proofs.Ytpnlfkaijdjhlaa
set_option linter.all false
open Go.Abs

structure Place where
  (kind house mat : Int)
  deriving DecidableEq, Inhabited
structure Move where
  (day fr to scale reading : Int)
  all : Bool
  deriving DecidableEq, Inhabited
structure Cert where
  (scale fr until' grams perMille drift : Int)
  deriving DecidableEq, Inhabited
structure Recall where
  (scale since : Int)
  deriving DecidableEq, Inhabited
structure Purity where
  (move mat least most : Int)
  deriving DecidableEq, Inhabited
structure Evid where
  (mats houses scales : Int)
  places : List Place
  moves : List Move
  certs : List Cert
  recalls : List Recall
  purs : List Purity
  deriving DecidableEq, Inhabited
structure Sample where
  move : Int
  grams : List Int
  slack : Int
  deriving DecidableEq, Inhabited
structure Recipe where
  (fr to mat least most : Int)
  deriving DecidableEq, Inhabited
def Place.c (p : Place) : List IV := [.int p.kind, .int p.house, .int p.mat]
def Move.c (p : Move) : List IV := [.int p.day, .int p.fr, .int p.to, .int p.scale, .int p.reading, .bool p.all]
def Cert.c (p : Cert) : List IV := [.int p.scale, .int p.fr, .int p.until', .int p.grams, .int p.perMille, .int p.drift]
def Recall.c (p : Recall) : List IV := [.int p.scale, .int p.since]
def Purity.c (p : Purity) : List IV := [.int p.move, .int p.mat, .int p.least, .int p.most]
def Sample.c (p : Sample) : List IV := [.int p.move, ints p.grams, .int p.slack]
def Recipe.c (p : Recipe) : List IV := [.int p.fr, .int p.to, .int p.mat, .int p.least, .int p.most]
def Evid.c (e : Evid) : List IV := [.int e.mats, .int e.houses, .int e.scales, .sl (e.places.map Place.c), .sl (e.moves.map Move.c), .sl (e.certs.map Cert.c), .sl (e.recalls.map Recall.c), .sl (e.purs.map Purity.c)]
def Evid.iv (e : Evid) : IV := .agg e.c
theorem Place.len (p : Place) : p.c.length = 3 := rfl
theorem Move.len (p : Move) : p.c.length = 6 := rfl
theorem Cert.len (p : Cert) : p.c.length = 6 := rfl
theorem Recall.len (p : Recall) : p.c.length = 2 := rfl
theorem Purity.len (p : Purity) : p.c.length = 4 := rfl
theorem Sample.len (p : Sample) : p.c.length = 3 := rfl
theorem Recipe.len (p : Recipe) : p.c.length = 5 := rfl
def isum : List Int → Int
  | [] => 0
  | x :: r => x + isum r
theorem isum_append (a b : List Int) : isum (a ++ b) = isum a + isum b := by
  induction a with
  | nil => simp [isum]
  | cons x r ih => simp [isum, ih]; omega
theorem take_succ {α : Type} {l : List α} {i : Nat} {x : α} (h : l[i]? = some x) : l.take (i + 1) = l.take i ++ [x] := by
  rw [List.take_add_one, h]; rfl
theorem isum_take {l : List Int} {i : Nat} {x : Int} (h : l[i]? = some x) : isum (l.take (i + 1)) = isum (l.take i) + x := by
  rw [take_succ h, isum_append]; simp [isum]
end Go.Proofs.Ytpnlfkaijdjhlaa

/-
  The words in which disks are written.
-/
import Derived.Test.YtfphnpelampoeaaEvCode
import Derived.Test.YtfphnpelampoeaaEvAssume
namespace Go.Proofs.Ytfphnpelampoeaa
open Go.Ev

def nilC : C := .lit (.slice none 0 0)
def boolC (b : Bool) : C := .lit (.bool b)
def intC (n : Int) : C := .lit (.int .i64 n)
def byteC (n : Int) : C := .lit (.int .u8 n)
/-- bytes -/
def bytesC (l : List Int) : List C := l.map byteC
def bytesS (l : List Int) : C := .slice (bytesC l) l.length

/-- a sector: what is sure, its data, whether it is fresh -/
structure Sec where
  sure : List Int
  data : List Int
  fresh : Bool

def secC (s : Sec) : List C := [bytesS s.sure, bytesS s.data, boolC s.fresh]
def secsC (l : List Sec) : List C := l.flatMap secC
def secsS (l : List Sec) : C := .slice (secsC l) l.length

structure Dsk where
  secs : List Sec
  dead : Bool
  armed : Bool
  left : Int

def dskV (cs : List C) (n : Nat) (dead armed : Bool) (left : Int) : V := .agg [.slice cs n, boolC dead, boolC armed, intC left]

def diskV (d : Dsk) : V := .agg [secsS d.secs, boolC d.dead, boolC d.armed, intC d.left]

def iD (n : Int) : D := .c (intC n)
def bD (b : Bool) : D := .c (boolC b)

def S11 (n k : Nat) (cs : List C) : St := ⟨[(2, .loc 0 0), (4, .loc 1 0), (14, iD n), (15, iD k)], [(0, .box [.c nilC, bD false, bD false, iD 0]), (1, .box [.arr 2 0 n, bD false, bD false, iD 0]), (2, .arr cs 3 0 32)], 3, false⟩
def S12 (cs : List C) (n : Nat) (k : Nat) : St := ⟨[(31, .c (.slice cs n)), (32, iD n), (33, iD k)], [], 0, false⟩

end Go.Proofs.Ytfphnpelampoeaa

/-
  PLAIN: what the document's reader finds. No program in sight.
-/
import Derived.Test.YtajgikjmoeemnaaDoorRdB
import Derived.Test.YtajgikjmoeemnaaDoorPaN
namespace Go.Proofs.YtajgikjmoeemnaaDoor
set_option maxRecDepth 100000
set_option linter.unusedVariables false
set_option linter.unusedSimpArgs false
structure Sq where
  s : Qs
  t : Mg
  rs : List Rp
  y : List UInt8
def qrepV (l : List UInt8) (s : Qs) : Rp :=
  let s1 := rnP l s 6
  let s2 := rnP l s1 1
  let st := leN (rnV l s1 1)
  let s4 := rnP l (rnP l s2 6) 1
  ⟨(leN (rnV l s 6) : Nat), (st : Nat), if st = 2 ∨ st = 3 then (leN (rnV l s2 6) : Nat) else 0, if st = 2 ∨ st = 3 then (leN (rnV l (rnP l s2 6) 1) : Nat) else 0, if st = 2 then eqV l s4 else en0⟩
def qrepP (l : List UInt8) (s : Qs) : Qs :=
  let s1 := rnP l s 6
  let s2 := rnP l s1 1
  let st := leN (rnV l s1 1)
  let s4 := rnP l (rnP l s2 6) 1
  if st = 2 then eqP l s4 else if st = 3 then s4 else s2
def qrepsV (l : List UInt8) : Nat → Qs → List Rp
  | 0, s => []
  | k + 1, s => if s.b = false then qrepV l s :: qrepsV l k (qrepP l s) else []
def qrepsP (l : List UInt8) : Nat → Qs → Qs
  | 0, s => s
  | k + 1, s => if s.b = false then qrepsP l k (qrepP l s) else s
def qfld (l : List UInt8) (c : Nat) (x : Sq) : Sq :=
  if c = 115 then { x with s := rnP l x.s 6, t := { x.t with sq := (leN (rnV l x.s 6) : Nat) } }
  else if c = 111 then
    let s1 := rnP l x.s 1
    let s2 := xqP l s1
    let s3 := xqP l s2
    { x with s := xqP l s3, t := { x.t with ok := (leN (rnV l x.s 1) : Nat), o0 := bs (xqV l s1), o1 := bs (xqV l s2), o2 := bs (xqV l s3) } }
  else if c = 114 then
    let s1 := rnP l x.s 2
    let s2 := rnP l s1 1
    { x with s := xqP l s2, t := { x.t with re := (leN (rnV l x.s 2) : Nat), rf := ((leN (rnV l s1 1) : Nat) : Int) == 1, rv := bs (xqV l s2) } }
  else if c = 98 then { x with s := rnP l (rnP l x.s 6) 1, t := { x.t with br := (leN (rnV l x.s 6) : Nat), bp := (leN (rnV l (rnP l x.s 6) 1) : Nat) } }
  else if c = 105 then { x with s := rnP l x.s 6, t := { x.t with ix := (leN (rnV l x.s 6) : Nat) } }
  else if c = 122 then { x with s := rnP l x.s 6, t := { x.t with ix := (leN (rnV l x.s 6) : Nat) } }
  else if c = 99 then { x with s := rnP l x.s 6, t := { x.t with cm := (leN (rnV l x.s 6) : Nat) } }
  else if c = 110 then { x with s := rnP l x.s 6, t := { x.t with nc := (leN (rnV l x.s 6) : Nat) } }
  else if c = 101 then { x with s := eqP l x.s, t := { x.t with e := eqV l x.s } }
  else if c = 108 then { x with s := qrepsP l (leN (rnV l x.s 1)) (rnP l x.s 1), rs := x.rs ++ qrepsV l (leN (rnV l x.s 1)) (rnP l x.s 1) }
  else if c = 107 then { x with s := rnP l x.s 1, t := { x.t with ck := (leN (rnV l x.s 1) : Nat) } }
  else if c = 109 then { x with s := rnP l x.s 1, t := { x.t with ct := (leN (rnV l x.s 1) : Nat) } }
  else { x with s := xqP l x.s, y := xqV l x.s }
def qheadP (l : List UInt8) : Sq :=
  let s1 := rnP l ⟨0, false⟩ 1
  let s2 := rnP l s1 1
  ⟨rnP l s2 1, { mg0 with k := (leN (rnV l ⟨0, false⟩ 1) : Nat), fr := whoQ (leN (rnV l s1 1) : Nat), to := whoQ (leN (rnV l s2 1) : Nat) }, [], []⟩
/-- the letters that it reads -/
def qlets (k : Int) : List UInt8 := if kindB k = true then lets k else [98, 105]
def qfldsP (l : List UInt8) (fs : List UInt8) (x : Sq) : Sq := fs.foldl (fun x c => qfld l c.toNat x) x
def qAll (l : List UInt8) : Sq := qfldsP l (qlets (qheadP l).t.k) (qheadP l)
end Go.Proofs.YtajgikjmoeemnaaDoor

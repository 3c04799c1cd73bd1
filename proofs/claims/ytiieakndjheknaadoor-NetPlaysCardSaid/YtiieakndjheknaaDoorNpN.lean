/-
  NetPlays: the loops' relations; steps beside both nets.
-/
import Derived.Test.YtiieakndjheknaaDoorNrG
namespace Go.Proofs.YtiieakndjheknaaDoor
set_option maxRecDepth 100000
open Go.RowKit
set_option linter.unusedVariables false
set_option linter.unusedSimpArgs false
theorem cf_ncopy (args : Array Value) (w : World) : (callFunc 12 args).run Tryd.prog w = .ok (.enter 12 args) w := by kernel_rfl
theorem cf_rsend (args : Array Value) (w : World) : (callFunc 21 args).run Tryd.prog w = .ok (.enter 21 args) w := by kernel_rfl
theorem cf_rcpy28 (args : Array Value) (w : World) : (callFunc 24 args).run Tryd.prog w = .ok (.enter 24 args) w := by kernel_rfl
theorem cf_rcut (args : Array Value) (w : World) : (callFunc 25 args).run Tryd.prog w = .ok (.enter 25 args) w := by kernel_rfl
theorem cf_rsame (args : Array Value) (w : World) : (callFunc 22 args).run Tryd.prog w = .ok (.enter 22 args) w := by kernel_rfl
/-- the great loop's relation -/
def PnRel (w0 : World) (g gw : Nat) (n : Int) (N : Nat) (v8 : Value) (wr : World) : Prop := ∃ (i : Nat) (cut : List Bool) (cs : List MX) (Z : List Item), v8 = .int .i64 i ∧ i ≤ N ∧ PlZ w0 wr g gw n cut cs cut cs i [] Z
/-- behind an act -/
def MpRel (w0 : World) (g gw : Nat) (n : Int) (i g9 : Nat) (V : Ac) (wr : World) : Prop := ∃ (cut : List Bool) (cs : List MX) (Z : List Item), PlZ w0 wr g gw n cut cs cut cs (i + 1) [.blk g9 58 (acC V)] Z
section
variable {w0 w : World} {g gw : Nat} {n : Int} {cut cutw : List Bool} {cs csw : List MX} {b : Nat} {F Z : List Item}
theorem PlZ.perm {F' : List Item} (HP : PlZ w0 w g gw n cut cs cutw csw b F Z) (h : F.Perm F') : PlZ w0 w g gw n cut cs cutw csw b F' Z := by
  obtain ⟨A, c, fl, Aw, cw, flw, B, d, ps, e1, e2, e3, e4, r1, r2, r3, r4, r5, r6, H⟩ := HP
  exact ⟨A, c, fl, Aw, cw, flw, B, d, ps, e1, e2, e3, e4, r1, r2, r3, r4, r5, r6, H.perm (List.Perm.append_left [_, _, _, _, _] (h.append_right Z))⟩
theorem hw_startP {a : Act} {Q : Exit → Act → World → Prop} (L0 : List Item) (HP : PlZ w0 w g gw n cut cs cutw csw b F Z) (hL : ∀ w', PlZ w0 w' g gw n cut cs cutw csw b F Z → HpW w0 L0 w') {id : Nat} {l : List Oper} (hm : Tryd.prog.follows .mixedOrders = true)
    (h : ∀ w', PlZ w0 w' g gw n cut cs cutw csw b F Z → wpAnyH Tryd.prog .any l.toArray Q (HpW w0 L0) l.length (Array.replicate l.length false) a w') : (Code.region id l.toArray true).wp Tryd.prog Q a w :=
  wp_region_held_drew (S := HpW w0 L0) hm (hL _ HP.drew) (fun hh => by
    have := h _ HP.drew
    simpa using this)
end
section
variable {a : Act} {w0 w : World} {Q : Exit → Act → World → Prop} {ops : Array Oper} {rest : List Oper} {d : Option Tmp} {ty tt : TypeId} {ps : String} {af : Array Edge} {gd : Option (Nat × Bool)} {x y : Operand} {g gw : Nat} {n : Int} {cut cutw : List Bool} {cs csw : List MX} {b : Nat} {F Z : List Item}
theorem PlZ.ldrO (HP : PlZ w0 w g gw n cut cs cutw csw b F Z) (h : Region.wanted { dst := d, op := .load ty x, type := tt, pos := ps, after := af, guard := gd } (yielded ops a.tmps) = true ∧ rowT Tryd.prog ty = true ∧ ∃ b off, a.eval x = .pointer (some ⟨b, off, none⟩) ∧
    ∃ vs : List Value, w0.rangeAt b off vs ∧ sizeT Tryd.prog ty = some vs.length ∧ wpList Tryd.prog ops Q rest (a.put d (.agg vs.toArray)) w) :
    wpList Tryd.prog ops Q ({ dst := d, op := .load ty x, type := tt, pos := ps, after := af, guard := gd } :: rest) a w := by
  obtain ⟨A, c, fl, Aw, cw, flw, B, e, pr, e1, e2, e3, e4, r1, r2, r3, r4, r5, r6, H⟩ := HP
  exact H.ldrO h
theorem PlZ.lda (HP : PlZ w0 w g gw n cut cs cutw csw b F Z) (h : Region.wanted { dst := d, op := .load ty x, type := tt, pos := ps, after := af, guard := gd } (yielded ops a.tmps) = true ∧ rowT Tryd.prog ty = true ∧ ∃ gb, a.eval x = .pointer (some ⟨gb, 0, none⟩) ∧ ∃ (i : Nat) (t : TypeId) (vs : List Value), F[i]? = some (.blk gb t vs) ∧ sizeT Tryd.prog ty = some vs.length ∧ wpList Tryd.prog ops Q rest (a.put d (.agg vs.toArray)) w) :
    wpList Tryd.prog ops Q ({ dst := d, op := .load ty x, type := tt, pos := ps, after := af, guard := gd } :: rest) a w := by
  obtain ⟨h1, h2, gb, h3, i, t, vs, h4, h5, h6⟩ := h
  exact HP.ldr ⟨h1, h2, gb, 0, h3, i, t, vs, h4, vs, h5, by rw [List.drop_zero, List.take_length], h6⟩
end
/-! the quiet calls behind an act: all is read, nothing changes -/
section
variable {w0 : World} {L : List Item}
theorem rsames_q {x : HpS w0 L} {Ao Aw : Option Addr} {co cw : Nat} {out flw : List MX} {N Z : List Item} (i j : Nat) (hi : L[i]? = some (mwI Ao co out)) (hj : L[j]? = some (mwI Aw cw flw)) (h : out.map cx = flw.map cx) (hN : Held N out) (hZ : Held Z flw) (sN : N ⊆ L) (sZ : Z ⊆ L) (hl : out.length ≤ 1000) :
    Calls Tryd.prog 27 #[.slice Ao out.length co, .slice Aw flw.length cw] x.val fun e w'' => e = .returned (.bool true) ∧ ∃ y : HpS w0 L, w'' = y.val :=
  hq_call (rsames_any Ao Aw co cw out flw x.val h (x.2.rd mxC_len i hi) (x.2.rd mxC_len j hj) (fun y hy => hN.R hy x.2 sN) (fun y hy => hZ.R hy x.2 sZ) hl)
theorem riscut_q5 {g : Nat} {n : Int} {A : Option Addr} {k c : Nat} {B : Option Addr} {d : Nat} {ps : List (Int × Int)} {X1 X2 X4 : Item} {R : List Item} {a b : Int} {r : Bool} {x : HpS w0 (X1 :: X2 :: rfI g n A k c B ps.length d :: X4 :: prI B d ps :: R)} (hl : ps.length ≤ 1000) (hr : cutP ps a b = r) :
    Calls Tryd.prog 28 #[.pointer (some ⟨g, 0, none⟩), .int .i64 a, .int .i64 b] x.val fun e w'' => e = .returned (.bool r) ∧ ∃ y : HpS w0 (X1 :: X2 :: rfI g n A k c B ps.length d :: X4 :: prI B d ps :: R), w'' = y.val := by
  have p : (X1 :: X2 :: rfI g n A k c B ps.length d :: X4 :: prI B d ps :: R).Perm (rfI g n A k c B ps.length d :: prI B d ps :: X1 :: X2 :: X4 :: R) :=
    (perm_mid [X1, X2] [rfI g n A k c B ps.length d] (X4 :: prI B d ps :: R)).trans (List.Perm.cons _ (perm_mid [X1, X2, X4] [prI B d ps] R))
  refine (riscut_h (x.2.perm p) hl hr).mono ?_
  rintro e w' ⟨rfl, H⟩
  exact ⟨rfl, ⟨w', H.perm p.symm⟩, rfl⟩
theorem niscut_q {g : Nat} {n : Int} {A : Option Addr} {k c : Nat} {cut : List Bool} {R : List Item} {a b : Int} {r : Bool} {x : HpS w0 (netI g n A k c cut :: R)} (hn : crowdB n = true) (hc : cut.length = 49) (hr : cutB n cut a b = r) :
    Calls Tryd.prog 15 #[.pointer (some ⟨g, 0, none⟩), .int .i64 a, .int .i64 b] x.val fun e w'' => e = .returned (.bool r) ∧ ∃ y : HpS w0 (netI g n A k c cut :: R), w'' = y.val := hq_callH (niscut_h x.2 hn hc hr)
end
/-- the loop that writes into what was handed in -/
def MnRel (w0 : World) (g gw : Nat) (n : Int) (cut : List Bool) (L : List MX) (i : Nat) (A : Option Addr) (c m : Nat) (X1 X2 : Item) (Z : List Item) (v : Value) (wr : World) : Prop :=
  ∃ (j : Nat) (l : List UInt8), v = .int .i64 j ∧ j ≤ m ∧ l.length = m ∧ PlZ w0 wr g gw n cut L cut L i [.bytes A c l, X1, X2] Z
/-- the loop over what All gave -/
def WrRel (w0 : World) (g gw : Nat) (n : Int) (cut : List Bool) (cs : List MX) (i : Nat) (X1 : Item) (A : Option Addr) (c : Nat) (out : List MX) (Z : List Item) (m : Nat) (v : Value) (wr : World) : Prop :=
  ∃ (k : Nat) (N : List Item), v = .int .i64 k ∧ k ≤ m ∧ HeldW N out ∧ PlZ w0 wr g gw n cut cs cut cs i (X1 :: mwI A c out :: N) Z
theorem own_at {w : World} {base : Nat} {e : TypeId} {sz : Nat} {A : Option Addr} {m c : Nat} {xs : List Value} (h : w.ownsRow base e sz (.slice A m c) m xs) (hm : 0 < m) : ∃ gB, A = some ⟨gB, 0, none⟩ := by
  obtain ⟨g, cap, hv, _, _⟩ := World.ownsRow.form h hm
  injection hv with hA
  exact ⟨g, hA⟩
end Go.Proofs.YtiieakndjheknaaDoor

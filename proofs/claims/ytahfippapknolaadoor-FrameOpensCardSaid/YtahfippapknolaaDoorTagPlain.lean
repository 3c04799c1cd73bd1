/-
  PLAIN: tags, their forms, as plain functions. No program in sight.
-/
import Derived.Test.YtahfippapknolaaDoorRet
namespace Go.Proofs.YtahfippapknolaaDoor

def plc (n : Int) : Int := if n = 1 then 2 else if n = 2 then 2 else if n = 3 then 24 else if n = 4 then 48 else if n = 5 then 16 else 0
def wid (n : Int) : Int := if n = 1 then 1 else if n = 2 then 1 else if n = 3 then 1 else if n = 4 then 2 else if n = 5 then 2 else 0
def srt (n : Int) : Int := if n = 0 then 0 else if n = 1 then 0 else if n = 2 then 2 else if n = 3 then 4 else if n = 4 then 28 else if n = 5 then 124 else 156
theorem plc_bd (n : Int) : 0 ≤ plc n ∧ plc n ≤ 48 ∧ 0 ≤ wid n ∧ wid n ≤ 2 ∧ (plc n = 0 → wid n = 0) ∧ (plc n ≠ 0 → 1 ≤ wid n ∧ 1 ≤ n ∧ n ≤ 5) := by
  unfold plc wid
  split
  · omega
  split
  · omega
  split
  · omega
  split
  · omega
  split <;> omega

def mayB (rp rg pl ix ic : Int) : Bool := inB rp 0 6 && (inB pl 0 (plc rg - 1) && (inB ix 0 1099511627776 && inB ic 1 1099511627776))
theorem mayB_true {rp rg pl ix ic : Int} (h : mayB rp rg pl ix ic = true) :
    0 ≤ rp ∧ rp ≤ 6 ∧ 1 ≤ rg ∧ rg ≤ 5 ∧ 0 ≤ pl ∧ pl < plc rg ∧ pl < 48 ∧ 0 ≤ ix ∧ ix ≤ 1099511627776 ∧ 1 ≤ ic ∧ ic ≤ 1099511627776 := by
  simp [mayB, inB] at h
  obtain ⟨a, b, c, d⟩ := h
  have hb := plc_bd rg
  have h0 : plc rg ≠ 0 := by omega
  have := hb.2.2.2.2.2 h0
  omega
theorem mayB_mk {rp rg pl ix ic : Int} (h1 : 0 ≤ rp) (h2 : rp ≤ 6) (h3 : 0 ≤ pl) (h4 : pl < plc rg) (h5 : 0 ≤ ix) (h6 : ix ≤ 1099511627776) (h7 : 1 ≤ ic) (h8 : ic ≤ 1099511627776) : mayB rp rg pl ix ic = true := by
  simp [mayB, inB]
  omega

def tagPs (rp rg pl ix ic : Int) : List (List UInt8) := [leB 1 rp.toNat, leB 1 rg.toNat, leB 1 pl.toNat, leB 6 ix.toNat, leB 6 ic.toNat]
/-- a tag's form, and the error -/
def tagL (rp rg pl ix ic : Int) : List UInt8 := if mayB rp rg pl ix ic then (tagPs rp rg pl ix ic).flatten else []
def tagE (rp rg pl ix ic : Int) : Int := if mayB rp rg pl ix ic then 0 else 2
theorem tagPs_length (rp rg pl ix ic : Int) : (tagPs rp rg pl ix ic).flatten.length = 15 := by simp [tagPs, leB_length]
theorem tagL_length (rp rg pl ix ic : Int) : (tagL rp rg pl ix ic).length = if mayB rp rg pl ix ic then 15 else 0 := by
  unfold tagL
  split
  · exact tagPs_length ..
  · rfl

/-- are bytes a tag? -/
def tagB (l : List UInt8) : Bool := decide (l.length = 15) && mayB (getN l 0 1) (getN l 1 1) (getN l 2 1) (getN l 3 6) (getN l 9 6)
def tagF (l : List UInt8) (o w : Int) : Int := if tagB l then getN l o w else 0
def tagP (l : List UInt8) : Int := if tagB l then 0 else 30
/-- the tag that bytes are, as a value -/
def tagV (rp rg pl ix ic : Int) : Value := .agg #[.int .i64 rp, .int .i64 rg, .int .i64 pl, .int .i64 ix, .int .i64 ic]
def tagW (l : List UInt8) : Value := tagV (tagF l 0 1) (tagF l 1 1) (tagF l 2 1) (tagF l 3 6) (tagF l 9 6)

theorem tag_parse_print {rp rg pl ix ic : Int} (h : mayB rp rg pl ix ic = true) :
    tagB (tagL rp rg pl ix ic) = true ∧ getN (tagL rp rg pl ix ic) 0 1 = rp ∧ getN (tagL rp rg pl ix ic) 1 1 = rg ∧ getN (tagL rp rg pl ix ic) 2 1 = pl ∧ getN (tagL rp rg pl ix ic) 3 6 = ix ∧ getN (tagL rp rg pl ix ic) 9 6 = ic := by
  have hb := mayB_true h
  have hl : tagL rp rg pl ix ic = leB 1 rp.toNat ++ (leB 1 rg.toNat ++ (leB 1 pl.toNat ++ (leB 6 ix.toNat ++ leB 6 ic.toNat))) := by
    unfold tagL; rw [h]; simp [tagPs]
  have e0 : getN (tagL rp rg pl ix ic) 0 1 = rp := by
    have := getN_mid (a := []) (b := leB 1 rp.toNat) (c := leB 1 rg.toNat ++ (leB 1 pl.toNat ++ (leB 6 ix.toNat ++ leB 6 ic.toNat))) (W := 1) rfl (leB_length _ _)
    rw [hl]
    simp only [List.nil_append, List.length_nil] at this
    rw [show (0 : Int) = ((0 : Nat) : Int) from rfl, show (1 : Int) = ((1 : Nat) : Int) from rfl, this, leN_leB]
    omega
  have e1 : getN (tagL rp rg pl ix ic) 1 1 = rg := by
    have := getN_mid (a := leB 1 rp.toNat) (b := leB 1 rg.toNat) (c := (leB 1 pl.toNat ++ (leB 6 ix.toNat ++ leB 6 ic.toNat))) (W := 1) rfl (leB_length _ _)
    rw [hl]
    rw [leB_length] at this
    rw [show (1 : Int) = ((1 : Nat) : Int) from rfl, this, leN_leB]
    omega
  have e2 : getN (tagL rp rg pl ix ic) 2 1 = pl := by
    have := getN_mid (a := leB 1 rp.toNat ++ leB 1 rg.toNat) (b := leB 1 pl.toNat) (c := (leB 6 ix.toNat ++ leB 6 ic.toNat)) (W := 1) rfl (leB_length _ _)
    rw [hl]
    rw [List.length_append, leB_length, leB_length, List.append_assoc] at this
    rw [show (2 : Int) = ((1 + 1 : Nat) : Int) from rfl, show (1 : Int) = ((1 : Nat) : Int) from rfl, this, leN_leB]
    omega
  have e3 : getN (tagL rp rg pl ix ic) 3 6 = ix := by
    have := getN_mid (a := leB 1 rp.toNat ++ (leB 1 rg.toNat ++ leB 1 pl.toNat)) (b := leB 6 ix.toNat) (c := leB 6 ic.toNat) (W := 6) rfl (leB_length _ _)
    rw [hl]
    simp only [List.length_append, leB_length, List.append_assoc] at this
    rw [show (3 : Int) = ((1 + (1 + 1) : Nat) : Int) from rfl, show (6 : Int) = ((6 : Nat) : Int) from rfl, this, leN_leB]
    omega
  have e4 : getN (tagL rp rg pl ix ic) 9 6 = ic := by
    have := getN_mid (a := leB 1 rp.toNat ++ (leB 1 rg.toNat ++ (leB 1 pl.toNat ++ leB 6 ix.toNat))) (b := leB 6 ic.toNat) (c := []) (W := 6) rfl (leB_length _ _)
    rw [hl]
    simp only [List.length_append, leB_length, List.append_assoc, List.append_nil] at this
    rw [show (9 : Int) = ((1 + (1 + (1 + 6)) : Nat) : Int) from rfl, show (6 : Int) = ((6 : Nat) : Int) from rfl, this, leN_leB]
    omega
  refine ⟨?_, e0, e1, e2, e3, e4⟩
  unfold tagB
  rw [e0, e1, e2, e3, e4, h, tagL_length, h]
  rfl

theorem tag_print_parse {l : List UInt8} (h : tagB l = true) : mayB (getN l 0 1) (getN l 1 1) (getN l 2 1) (getN l 3 6) (getN l 9 6) = true ∧ tagL (getN l 0 1) (getN l 1 1) (getN l 2 1) (getN l 3 6) (getN l 9 6) = l := by
  unfold tagB at h
  simp only [Bool.and_eq_true, decide_eq_true_eq] at h
  obtain ⟨hl, hm⟩ := h
  refine ⟨hm, ?_⟩
  unfold tagL
  rw [hm, if_pos rfl]
  unfold tagPs
  have p0 : leB 1 (getN l 0 1).toNat = (l.drop 0).take 1 := getN_part (l := l) (o := 0) (w := 1) rfl (by omega)
  have p1 : leB 1 (getN l 1 1).toNat = (l.drop 1).take 1 := getN_part (l := l) (o := 1) (w := 1) rfl (by omega)
  have p2 : leB 1 (getN l 2 1).toNat = (l.drop 2).take 1 := getN_part (l := l) (o := 2) (w := 1) rfl (by omega)
  have p3 : leB 6 (getN l 3 6).toNat = (l.drop 3).take 6 := getN_part (l := l) (o := 3) (w := 6) rfl (by omega)
  have p4 : leB 6 (getN l 9 6).toNat = (l.drop 9).take 6 := getN_part (l := l) (o := 9) (w := 6) rfl (by omega)
  rw [p0, p1, p2, p3, p4]
  simp only [List.flatten_cons, List.flatten_nil, List.append_nil, List.drop_zero]
  match l, hl with
  | [a0, a1, a2, a3, a4, a5, a6, a7, a8, a9, a10, a11, a12, a13, a14], _ => rfl
/-- the first k pieces of a tag's form -/
def tagPre (rp rg pl ix ic : Int) (k : Nat) : List UInt8 := ((tagPs rp rg pl ix ic).take k).flatten
theorem tagPre_succ {rp rg pl ix ic : Int} (h : mayB rp rg pl ix ic = true) :
    tagPre rp rg pl ix ic 1 = tagPre rp rg pl ix ic 0 ++ putL 1 rp ∧ tagPre rp rg pl ix ic 2 = tagPre rp rg pl ix ic 1 ++ putL 1 rg ∧ tagPre rp rg pl ix ic 3 = tagPre rp rg pl ix ic 2 ++ putL 1 pl ∧
    tagPre rp rg pl ix ic 4 = tagPre rp rg pl ix ic 3 ++ putL 6 ix ∧ tagPre rp rg pl ix ic 5 = tagPre rp rg pl ix ic 4 ++ putL 6 ic := by
  have hb := mayB_true h
  rw [putL_one (n := rp) (by omega) (by omega), putL_one (n := rg) (by omega) (by omega), putL_one (n := pl) (by omega) (by omega), putL_six (n := ix) (by omega) (by omega), putL_six (n := ic) (by omega) (by omega)]
  simp [tagPre, tagPs]
theorem tagPre_length (rp rg pl ix ic : Int) (k : Nat) : (tagPre rp rg pl ix ic k).length ≤ 15 := by
  unfold tagPre
  rcases k with _ | _ | _ | _ | _ | k <;> simp [tagPs, leB_length]
theorem tagPre_all {rp rg pl ix ic : Int} (h : mayB rp rg pl ix ic = true) : tagPre rp rg pl ix ic 5 = tagL rp rg pl ix ic := by
  unfold tagL tagPre; rw [h]; simp [tagPs]
def pofs (k : Nat) : Int := if k = 0 then 0 else if k = 1 then 1 else if k = 2 then 2 else if k = 3 then 3 else if k = 4 then 9 else 15
def pwid (k : Nat) : Int := if k < 3 then 1 else 6
theorem pofs_next (k : Nat) (hk : k < 5) : pofs (k + 1) = pofs k + pwid k ∧ isWidth (pwid k) = true ∧ 0 ≤ pofs k ∧ pofs k + pwid k ≤ 15 := by
  have h : k = 0 ∨ k = 1 ∨ k = 2 ∨ k = 3 ∨ k = 4 := by omega
  rcases h with rfl | rfl | rfl | rfl | rfl <;> decide
theorem get_in {l : List UInt8} {k : Nat} (hk : k < 5) (h : getE l (pofs k) (pwid k) = 0) : getP l (pofs k) (pwid k) = pofs (k + 1) ∧ pofs (k + 1) ≤ l.length := by
  obtain ⟨h1, h2, h3, h4⟩ := pofs_next k hk
  obtain ⟨_, h5, h6⟩ := getE_zero h
  exact ⟨by unfold getP; rw [h, if_pos rfl, h1], by omega⟩
theorem get_out {l : List UInt8} {k : Nat} (hk : k < 5) (hl : pofs k ≤ l.length) (h : getE l (pofs k) (pwid k) ≠ 0) : tagB l = false := by
  obtain ⟨h1, h2, h3, h4⟩ := pofs_next k hk
  have hlen : l.length < 15 := by
    unfold getE at h
    rw [h2, if_neg (by simp), if_neg (by omega)] at h
    split at h
    · omega
    · exact absurd rfl h
  unfold tagB
  rw [decide_eq_false (by omega)]
  rfl
theorem tagW_none {l : List UInt8} (h : tagB l = false) : tagW l = tagV 0 0 0 0 0 ∧ tagP l = 30 := by
  simp [tagW, tagF, tagP, h]
theorem tagW_some {l : List UInt8} (h : tagB l = true) : tagW l = tagV (getN l 0 1) (getN l 1 1) (getN l 2 1) (getN l 3 6) (getN l 9 6) ∧ tagP l = 0 := by
  simp [tagW, tagF, tagP, h]
end Go.Proofs.YtahfippapknolaaDoor

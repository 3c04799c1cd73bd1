/-
  PLAIN: ballots; the bodies of a slot's records. No program in sight.
-/
import Derived.Test.YtppokfenbdfegaaRet
namespace Go.Proofs.Ytppokfenbdfegaa

/-- may a ballot be? -/
def blB (ro rp : Int) : Bool := inB ro 1 1099511627776 && inB rp 0 6
theorem blB_true {ro rp : Int} (h : blB ro rp = true) : 1 ≤ ro ∧ ro ≤ 1099511627776 ∧ 0 ≤ rp ∧ rp ≤ 6 := by
  simp [blB, inB] at h; omega
theorem blB_mk {ro rp : Int} (h1 : 1 ≤ ro) (h2 : ro ≤ 1099511627776) (h3 : 0 ≤ rp) (h4 : rp ≤ 6) : blB ro rp = true := by simp [blB, inB]; omega
theorem blB_no {ro rp : Int} (h : ro < 1 ∨ 1099511627776 < ro ∨ rp < 0 ∨ 6 < rp) : blB ro rp = false := by
  cases e : blB ro rp
  · rfl
  · have := blB_true e; omega

/-- may a record's body be? -/
def sloB (ro rp wh : Int) : Bool := blB ro rp && inB wh 0 1
theorem sloB_true {ro rp wh : Int} (h : sloB ro rp wh = true) : 1 ≤ ro ∧ ro ≤ 1099511627776 ∧ 0 ≤ rp ∧ rp ≤ 6 ∧ 0 ≤ wh ∧ wh ≤ 1 := by
  simp [sloB, blB, inB] at h; omega
theorem sloB_mk {ro rp wh : Int} (h1 : 1 ≤ ro) (h2 : ro ≤ 1099511627776) (h3 : 0 ≤ rp) (h4 : rp ≤ 6) (h5 : 0 ≤ wh) (h6 : wh ≤ 1) : sloB ro rp wh = true := by simp [sloB, blB, inB]; omega
theorem sloB_no {ro rp wh : Int} (h : ro < 1 ∨ 1099511627776 < ro ∨ rp < 0 ∨ 6 < rp ∨ wh < 0 ∨ 1 < wh) : sloB ro rp wh = false := by
  cases e : sloB ro rp wh
  · rfl
  · have := sloB_true e; omega
def sloL (ro rp wh : Int) : List UInt8 := if sloB ro rp wh then putL 6 ro ++ [UInt8.ofNat rp.toNat, UInt8.ofNat wh.toNat] else []
def sloE (ro rp wh : Int) : Int := if sloB ro rp wh then 0 else 2
theorem sloL_length (ro rp wh : Int) : (sloL ro rp wh).length = if sloB ro rp wh then 8 else 0 := by
  unfold sloL
  split
  · rename_i h
    have := sloB_true h
    rw [putL_six (by omega) (by omega)]
    simp [leB_length]
  · rfl
/-- are bytes a record's body? -/
def sloP (l : List UInt8) : Bool := decide (l.length = 8) && sloB (getN l 0 6) (getN l 6 1) (getN l 7 1)
def sloF (l : List UInt8) (o w : Int) : Int := if sloP l then getN l o w else 0
def sloX (l : List UInt8) : Int := if sloP l then 0 else 90
theorem slo_none {l : List UInt8} (h : sloP l = false) : sloF l 0 6 = 0 ∧ sloF l 6 1 = 0 ∧ sloF l 7 1 = 0 ∧ sloX l = 90 := by simp [sloF, sloX, h]
theorem slo_some {l : List UInt8} (h : sloP l = true) : sloF l 0 6 = getN l 0 6 ∧ sloF l 6 1 = getN l 6 1 ∧ sloF l 7 1 = getN l 7 1 ∧ sloX l = 0 := by simp [sloF, sloX, h]

theorem slo_parse_print {ro rp wh : Int} (h : sloB ro rp wh = true) :
    sloP (sloL ro rp wh) = true ∧ getN (sloL ro rp wh) 0 6 = ro ∧ getN (sloL ro rp wh) 6 1 = rp ∧ getN (sloL ro rp wh) 7 1 = wh := by
  have hb := sloB_true h
  have hl : sloL ro rp wh = leB 6 ro.toNat ++ (leB 1 rp.toNat ++ leB 1 wh.toNat) := by
    unfold sloL
    rw [h, if_pos rfl, putL_six (by omega) (by omega)]
    simp [leB]
  have e0 : getN (sloL ro rp wh) 0 6 = ro := by
    have := getN_mid (a := []) (b := leB 6 ro.toNat) (c := leB 1 rp.toNat ++ leB 1 wh.toNat) (W := 6) rfl (leB_length _ _)
    rw [hl]
    simp only [List.nil_append, List.length_nil] at this
    rw [show (0 : Int) = ((0 : Nat) : Int) from rfl, show (6 : Int) = ((6 : Nat) : Int) from rfl, this, leN_leB]
    omega
  have e1 : getN (sloL ro rp wh) 6 1 = rp := by
    have := getN_mid (a := leB 6 ro.toNat) (b := leB 1 rp.toNat) (c := leB 1 wh.toNat) (W := 1) rfl (leB_length _ _)
    rw [hl]
    rw [leB_length] at this
    rw [show (6 : Int) = ((6 : Nat) : Int) from rfl, show (1 : Int) = ((1 : Nat) : Int) from rfl, this, leN_leB]
    omega
  have e2 : getN (sloL ro rp wh) 7 1 = wh := by
    have := getN_mid (a := leB 6 ro.toNat ++ leB 1 rp.toNat) (b := leB 1 wh.toNat) (c := []) (W := 1) rfl (leB_length _ _)
    rw [hl]
    simp only [List.length_append, leB_length, List.append_assoc, List.append_nil] at this
    rw [show (7 : Int) = ((6 + 1 : Nat) : Int) from rfl, show (1 : Int) = ((1 : Nat) : Int) from rfl, this, leN_leB]
    omega
  refine ⟨?_, e0, e1, e2⟩
  unfold sloP
  rw [e0, e1, e2, h, sloL_length, h]
  rfl
theorem cut8 (l : List UInt8) (hl : l.length = 8) : (l.drop 0).take 6 ++ ((l.drop 6).take 1 ++ (l.drop 7).take 1) = l := by
  match l, hl with
  | [a0, a1, a2, a3, a4, a5, a6, a7], _ => rfl
theorem slo_print_parse {l : List UInt8} (h : sloP l = true) : sloB (getN l 0 6) (getN l 6 1) (getN l 7 1) = true ∧ sloL (getN l 0 6) (getN l 6 1) (getN l 7 1) = l := by
  unfold sloP at h
  simp only [Bool.and_eq_true, decide_eq_true_eq] at h
  obtain ⟨hl, hm⟩ := h
  refine ⟨hm, ?_⟩
  have hb := sloB_true hm
  unfold sloL
  rw [hm, if_pos rfl, putL_six (by omega) (by omega)]
  have p0 : leB 6 (getN l 0 6).toNat = (l.drop 0).take 6 := getN_part (l := l) (o := 0) (w := 6) rfl (by omega)
  have p1 : leB 1 (getN l 6 1).toNat = (l.drop 6).take 1 := getN_part (l := l) (o := 6) (w := 1) rfl (by omega)
  have p2 : leB 1 (getN l 7 1).toNat = (l.drop 7).take 1 := getN_part (l := l) (o := 7) (w := 1) rfl (by omega)
  have q : [UInt8.ofNat (getN l 6 1).toNat, UInt8.ofNat (getN l 7 1).toNat] = leB 1 (getN l 6 1).toNat ++ leB 1 (getN l 7 1).toNat := by simp [leB]
  rw [q, p0, p1, p2]
  exact cut8 l hl
end Go.Proofs.Ytppokfenbdfegaa

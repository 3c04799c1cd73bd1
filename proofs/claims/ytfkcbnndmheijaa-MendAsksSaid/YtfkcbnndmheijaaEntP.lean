/-
  PLAIN: entries: whether they may be, their bytes; what is read at a place; a body. No program in sight.
-/
import Derived.Test.YtfkcbnndmheijaaRet
namespace Go.Proofs.Ytfkcbnndmheijaa
set_option linter.unusedVariables false

structure En where
  k : Int
  c : Int
  s : Int
  ok : Int
  s0 : ByteArray
  s1 : ByteArray
  s2 : ByteArray
def opC (ok : Int) (s0 s1 s2 : ByteArray) : List Value := [.int .u8 ok, .string s0, .string s1, .string s2]
def enC (e : En) : List Value := [.int .u8 e.k, .int .i64 e.c, .int .i64 e.s, .int .u8 e.ok, .string e.s0, .string e.s1, .string e.s2]
def en0 : En := ⟨0, 0, 0, 0, .empty, .empty, .empty⟩
def noop : En := ⟨1, 0, 0, 0, .empty, .empty, .empty⟩
def mtB (s : ByteArray) : Bool := s.toList.isEmpty
def mayOpB (k : Int) (s0 s1 s2 : ByteArray) : Bool :=
  (decide ((1 : Int) ≤ s0.size) && decide ((s0.size : Int) ≤ 8)) && ((((k == 1) || (k == 3)) && (mtB s2 && mtB s1)) || ((k == 2) && (mtB s1 && decide ((s2.size : Int) ≤ 16))) || ((k == 4) && (decide ((s1.size : Int) ≤ 16) && decide ((s2.size : Int) ≤ 16))))
def isNoop (e : En) : Bool := (e.k == 1) && ((e.c == 0) && ((e.s == 0) && ((e.ok == 0) && (mtB e.s0 && (mtB e.s1 && mtB e.s2)))))
def mayB (e : En) : Bool :=
  isNoop e || ((e.k == 2) && (decide (0 ≤ e.c) && (decide (e.c < 4) && (decide (1 ≤ e.s) && (decide (e.s ≤ 1099511627776) && (mayOpB e.ok e.s0 e.s1 e.s2 && !(e.ok == 1)))))))

/-- an entry's bytes as they are written, whatever it is -/
def entL (e : En) : List UInt8 := putL 1 e.k ++ if e.k = 2 then putL 1 e.c ++ (putL 6 e.s ++ (putL 1 e.ok ++ (textL e.s0.data.toList ++ (textL e.s1.data.toList ++ textL e.s2.data.toList)))) else []
def entBad (e : En) : Bool := (putE 1 e.k != 0) || if e.k = 2 then (putE 1 e.c != 0) || ((putE 6 e.s != 0) || ((putE 1 e.ok != 0) || ((textE e.s0.data.toList != 0) || ((textE e.s1.data.toList != 0) || (textE e.s2.data.toList != 0))))) else false

theorem mt_eq {s : ByteArray} (h : mtB s = true) : s = .empty := by
  have : s.data.toList = [] := by rw [mtB, ByteArray.toList_eq] at h; exact List.isEmpty_iff.1 h
  have : s.data.size = 0 := by rw [← Array.length_toList, this]; rfl
  exact ByteArray.ext (Array.eq_empty_of_size_eq_zero this)
theorem mt_size {s : ByteArray} (h : mtB s = true) : s.size = 0 := by rw [mt_eq h]; rfl
theorem emp_size (s : ByteArray) (h : s.toList = []) : (s.size : Int) = 0 := by rw [show s = .empty from mt_eq (by rw [mtB, h]; rfl)]; rfl
theorem isNoop_eq {e : En} (h : isNoop e = true) : e = noop := by
  obtain ⟨k, c, s, ok, s0, s1, s2⟩ := e
  simp only [isNoop, Bool.and_eq_true, beq_iff_eq] at h
  obtain ⟨h1, h2, h3, h4, h5, h6, h7⟩ := h
  rw [mt_eq h5, mt_eq h6, mt_eq h7, h1, h2, h3, h4]
  rfl
theorem mayOp_bd {k : Int} {s0 s1 s2 : ByteArray} (h : mayOpB k s0 s1 s2 = true) : 1 ≤ s0.size ∧ s0.size ≤ 8 ∧ s1.size ≤ 16 ∧ s2.size ≤ 16 ∧ 1 ≤ k ∧ k ≤ 4 := by
  simp only [mayOpB, Bool.and_eq_true, Bool.or_eq_true, beq_iff_eq, decide_eq_true_eq] at h
  obtain ⟨⟨h1, h2⟩, (⟨h3, h4, h5⟩ | ⟨h3, h4, h5⟩) | ⟨h3, h4, h5⟩⟩ := h
  · have z1 := mt_size h4
    have z2 := mt_size h5
    omega
  · have z1 := mt_size h4
    omega
  · omega
theorem may_bd {e : En} (h : mayB e = true) : e = noop ∨ (e.k = 2 ∧ 0 ≤ e.c ∧ e.c < 4 ∧ 1 ≤ e.s ∧ e.s ≤ 1099511627776 ∧ 1 ≤ e.s0.size ∧ e.s0.size ≤ 8 ∧ e.s1.size ≤ 16 ∧ e.s2.size ≤ 16 ∧ 1 ≤ e.ok ∧ e.ok ≤ 4) := by
  unfold mayB at h
  cases hn : isNoop e
  · rw [hn, Bool.false_or] at h
    simp only [Bool.and_eq_true, beq_iff_eq, decide_eq_true_eq] at h
    obtain ⟨h1, h2, h3, h4, h5, h6, h7⟩ := h
    have := mayOp_bd h6
    exact .inr ⟨h1, h2, h3, h4, h5, this⟩
  · exact .inl (isNoop_eq hn)

theorem textL_ok {l : List UInt8} (h : l.length ≤ 255) : textL l = UInt8.ofNat l.length :: l := by simp [textL, h]
theorem textL_length_le (l : List UInt8) : (textL l).length ≤ 256 := by
  unfold textL
  split
  · simp; omega
  · simp
theorem entL_length_le (e : En) : (entL e).length ≤ 1000 := by
  unfold entL
  have h1 := putL_length6 1 e.k
  have h2 := putL_length6 1 e.c
  have h3 := putL_length6 6 e.s
  have h4 := putL_length6 1 e.ok
  have h5 := textL_length_le e.s0.data.toList
  have h6 := textL_length_le e.s1.data.toList
  have h7 := textL_length_le e.s2.data.toList
  split <;> simp <;> omega
theorem size_len (s : ByteArray) : s.data.toList.length = s.size := rfl

/-! What is read: the program's reader is a place and whether something was amiss. -/
structure Rs where
  at_ : Int
  bad : Bool
def gB (l : List UInt8) (r : Rs) (w : Int) : Bool := r.bad || (getE l r.at_ w != 0)
def gN (l : List UInt8) (r : Rs) (w : Int) : Int := if gB l r w then 0 else getN l r.at_ w
def gR (l : List UInt8) (r : Rs) (w : Int) : Rs := if gB l r w then ⟨r.at_, true⟩ else ⟨getP l r.at_ w, false⟩
def tB (l : List UInt8) (r : Rs) : Bool := r.bad || (readE l r.at_ != 0)
def tS (l : List UInt8) (r : Rs) : List UInt8 := if tB l r then [] else readS l r.at_
def tR (l : List UInt8) (r : Rs) : Rs := if tB l r then ⟨r.at_, true⟩ else ⟨readP l r.at_, false⟩
def bs (l : List UInt8) : ByteArray := ⟨l.toArray⟩
/-- the entry that the program's reader finds at a place, and where it then is -/
def rdK (l : List UInt8) (a : Int) : Int := gN l ⟨a, false⟩ 1
def r1 (l : List UInt8) (a : Int) : Rs := gR l ⟨a, false⟩ 1
def r2 (l : List UInt8) (a : Int) : Rs := gR l (r1 l a) 1
def r3 (l : List UInt8) (a : Int) : Rs := gR l (r2 l a) 6
def r4 (l : List UInt8) (a : Int) : Rs := gR l (r3 l a) 1
def r5 (l : List UInt8) (a : Int) : Rs := tR l (r4 l a)
def r6 (l : List UInt8) (a : Int) : Rs := tR l (r5 l a)
def r7 (l : List UInt8) (a : Int) : Rs := tR l (r6 l a)
def mEn (l : List UInt8) (a : Int) : En :=
  if rdK l a = 2 then ⟨2, gN l (r1 l a) 1, gN l (r2 l a) 6, gN l (r3 l a) 1, bs (tS l (r4 l a)), bs (tS l (r5 l a)), bs (tS l (r6 l a))⟩ else ⟨rdK l a, 0, 0, 0, .empty, .empty, .empty⟩
def mR (l : List UInt8) (a : Int) : Rs := if rdK l a = 2 then r7 l a else r1 l a
/-- what reading an entry comes to -/
def erE (l : List UInt8) (a : Int) : Int := if a < 0 ∨ (l.length : Int) < a then 2 else if (mR l a).bad || !mayB (mEn l a) then 90 else 0
def erN (l : List UInt8) (a : Int) : Int := if erE l a = 0 then (mR l a).at_ else 0
def erV (l : List UInt8) (a : Int) : En := if erE l a = 0 then mEn l a else en0
/-- may a ballot be? -/
def balB (r p : Int) : Bool := decide (1 ≤ r) && (decide (r ≤ 1099511627776) && (decide (0 ≤ p) && decide (p < 7)))
def bodyL (r p : Int) (e : En) : List UInt8 := if balB r p && mayB e then putL 6 r ++ (putL 1 p ++ entL e) else []
def bodyE (r p : Int) (e : En) : Int := if balB r p && mayB e then 0 else 2
def bytesL (e : En) : List UInt8 := if mayB e then entL e else []
def bytesE (e : En) : Int := if mayB e then 0 else 2
/-- what parsing a body comes to -/
def q1 (l : List UInt8) : Rs := gR l ⟨0, false⟩ 6
def q2 (l : List UInt8) : Rs := gR l (q1 l) 1
def paR (l : List UInt8) : Int := gN l ⟨0, false⟩ 6
def paP (l : List UInt8) : Int := gN l (q1 l) 1
def paE (l : List UInt8) : Int :=
  if (q2 l).bad || ((erE l (q2 l).at_ != 0) || (decide (erN l (q2 l).at_ < l.length) || !balB (paR l) (paP l))) then 90 else 0

/-! What was put is read. -/
theorem putL_len {w n : Int} (h : fitsB w n = true) : (putL w n).length = w.toNat := by simp [putL, h, leB_length]
theorem fits1 {n : Int} (h0 : 0 ≤ n) (h : n < 256) : fitsB 1 n = true := by simp [fitsB, many, h0, h]
theorem fits6 {n : Int} (h0 : 0 ≤ n) (h : n < 281474976710656) : fitsB 6 n = true := by simp [fitsB, many, h0, h]
theorem getE_mid (a b c : List UInt8) (w : Int) (hw : isWidth w = true) (hb : b.length = w.toNat) : getE (a ++ (b ++ c)) a.length w = 0 := by
  have := isWidth_bounds hw
  unfold getE
  rw [if_neg (by simp [hw]), if_neg (by simp; omega), if_neg (by simp; omega)]
theorem get_put (a c : List UInt8) (w n : Int) (h : fitsB w n = true) : getE (a ++ (putL w n ++ c)) a.length w = 0 ∧ getN (a ++ (putL w n ++ c)) a.length w = n ∧ getP (a ++ (putL w n ++ c)) a.length w = (a ++ putL w n).length := by
  obtain ⟨h1, h2, h3, h4, h5, h6⟩ := fitsB_true h
  have hl := putL_len h
  have h0 := getE_mid a (putL w n) c w h1 hl
  refine ⟨h0, ?_, ?_⟩
  · unfold getN
    rw [h0, if_pos rfl, Int.toNat_natCast, List.drop_left, ← hl, List.take_left]
    unfold putL
    rw [h, if_pos rfl, leN_leB]
    obtain ⟨W, rfl⟩ := Int.eq_ofNat_of_zero_le h2
    obtain ⟨N, rfl⟩ := Int.eq_ofNat_of_zero_le h4
    simp only [Int.toNat_natCast] at h6 ⊢
    have h7 : ((N : Int) < 256 ^ W) ↔ N < 256 ^ W := by rw [← Int.ofNat_lt]; simp
    rw [Nat.mod_eq_of_lt (h7.1 h6)]
  · unfold getP
    rw [h0, if_pos rfl, List.length_append, hl]
    omega
theorem read_text (a c s : List UInt8) (h : s.length ≤ 255) : readE (a ++ (textL s ++ c)) a.length = 0 ∧ readS (a ++ (textL s ++ c)) a.length = s ∧ readP (a ++ (textL s ++ c)) a.length = (a ++ textL s).length := by
  have hp : textL s = putL 1 s.length ++ s := by
    rw [textL_ok h, putL_one (by omega) (by omega)]
    simp [leB]
  have hf : fitsB 1 (s.length : Int) = true := fits1 (by omega) (by omega)
  have hl := putL_len hf
  rw [hp, List.append_assoc]
  obtain ⟨e1, e2, e3⟩ := get_put a (s ++ c) 1 s.length hf
  have h0 : readE (a ++ (putL 1 s.length ++ (s ++ c))) a.length = 0 := by
    unfold readE
    rw [e1, e2, if_neg (by simp), if_neg (by simp [hl]; omega)]
  refine ⟨h0, ?_, ?_⟩
  · unfold readS
    rw [h0, e2, if_pos rfl, Int.toNat_natCast, Int.toNat_natCast, ← List.append_assoc, show a.length + 1 = (a ++ putL 1 (s.length : Int)).length by simp [hl], List.drop_left, List.take_left]
  · unfold readP
    rw [h0, e2, if_pos rfl]
    simp [hl]
    omega
theorem putE_fits {w n : Int} (h : fitsB w n = true) : putE w n = 0 := by unfold putE; rw [if_pos h]
theorem textE_ok {l : List UInt8} (h : l.length ≤ 255) : textE l = 0 := by unfold textE; rw [if_pos h]
theorem may_bad {e : En} (h : mayB e = true) : entBad e = false := by
  rcases may_bd h with rfl | ⟨hk, h1, h2, h3, h4, h5, h6, h7, h8, h9, h10⟩
  · rfl
  · unfold entBad
    rw [if_pos hk, hk, putE_fits (fits1 (by omega) (by omega)), putE_fits (fits1 h1 (by omega)), putE_fits (fits6 (by omega) (by omega)), putE_fits (fits1 (by omega) (by omega)), textE_ok (by rw [size_len]; omega), textE_ok (by rw [size_len]; omega), textE_ok (by rw [size_len]; omega)]
    rfl
theorem gN_put (a c : List UInt8) (w n : Int) (h : fitsB w n = true) : gN (a ++ (putL w n ++ c)) ⟨a.length, false⟩ w = n ∧ gR (a ++ (putL w n ++ c)) ⟨a.length, false⟩ w = ⟨(a ++ putL w n).length, false⟩ := by
  obtain ⟨e1, e2, e3⟩ := get_put a c w n h
  have hb : gB (a ++ (putL w n ++ c)) ⟨a.length, false⟩ w = false := by unfold gB; rw [e1]; rfl
  unfold gN gR
  rw [hb]
  exact ⟨e2, by rw [e3]; rfl⟩
theorem tS_put (a c s : List UInt8) (h : s.length ≤ 255) : tS (a ++ (textL s ++ c)) ⟨a.length, false⟩ = s ∧ tR (a ++ (textL s ++ c)) ⟨a.length, false⟩ = ⟨(a ++ textL s).length, false⟩ := by
  obtain ⟨e1, e2, e3⟩ := read_text a c s h
  have hb : tB (a ++ (textL s ++ c)) ⟨a.length, false⟩ = false := by unfold tB; rw [e1]; rfl
  unfold tS tR
  rw [hb]
  exact ⟨e2, by rw [e3]; rfl⟩
theorem bs_self (s : ByteArray) : bs s.data.toList = s := by unfold bs; rw [Array.toArray_toList]
theorem may_pos {e : En} (h : mayB e = true) : e.k = 1 ∨ e.k = 2 := by
  rcases may_bd h with rfl | ⟨h, _⟩
  · exact .inl rfl
  · exact .inr h
theorem rd_put {e : En} (h : mayB e = true) (a c : List UInt8) : mEn (a ++ (entL e ++ c)) a.length = e ∧ mR (a ++ (entL e ++ c)) a.length = ⟨(a ++ entL e).length, false⟩ := by
  rcases may_bd h with rfl | ⟨hk, h1, h2, h3, h4, h5, h6, h7, h8, h9, h10⟩
  · have e1 : a ++ (entL noop ++ c) = a ++ (putL 1 1 ++ c) := by simp [entL, noop]
    obtain ⟨g1, g2⟩ := gN_put a c 1 1 (by decide)
    have hK : rdK (a ++ (entL noop ++ c)) a.length = 1 := by rw [e1]; exact g1
    unfold mEn mR
    rw [hK, if_neg (by decide), if_neg (by decide)]
    refine ⟨rfl, ?_⟩
    unfold r1
    rw [e1, g2]
    simp [entL, noop]
  · obtain ⟨k, c', s, ok, s0, s1, s2⟩ := e
    simp only at hk h1 h2 h3 h4 h5 h6 h7 h8 h9 h10
    subst hk
    have hx : ∀ t : List UInt8, entL ⟨2, c', s, ok, s0, s1, s2⟩ ++ t = putL 1 2 ++ (putL 1 c' ++ (putL 6 s ++ (putL 1 ok ++ (textL s0.data.toList ++ (textL s1.data.toList ++ (textL s2.data.toList ++ t)))))) := fun t => by simp [entL]
    generalize hl : a ++ (entL ⟨2, c', s, ok, s0, s1, s2⟩ ++ c) = l
    rw [hx] at hl
    have l0 := hl
    obtain ⟨g1, g2⟩ := gN_put a (putL 1 c' ++ (putL 6 s ++ (putL 1 ok ++ (textL s0.data.toList ++ (textL s1.data.toList ++ (textL s2.data.toList ++ c)))))) 1 2 (by decide)
    rw [hl] at g1 g2
    rw [← List.append_assoc] at hl
    obtain ⟨g3, g4⟩ := gN_put (a ++ putL 1 2) (putL 6 s ++ (putL 1 ok ++ (textL s0.data.toList ++ (textL s1.data.toList ++ (textL s2.data.toList ++ c))))) 1 c' (fits1 (by omega) (by omega))
    rw [hl] at g3 g4
    rw [← List.append_assoc] at hl
    obtain ⟨g5, g6⟩ := gN_put (a ++ putL 1 2 ++ putL 1 c') (putL 1 ok ++ (textL s0.data.toList ++ (textL s1.data.toList ++ (textL s2.data.toList ++ c)))) 6 s (fits6 (by omega) (by omega))
    rw [hl] at g5 g6
    rw [← List.append_assoc] at hl
    obtain ⟨g7, g8⟩ := gN_put (a ++ putL 1 2 ++ putL 1 c' ++ putL 6 s) (textL s0.data.toList ++ (textL s1.data.toList ++ (textL s2.data.toList ++ c))) 1 ok (fits1 (by omega) (by omega))
    rw [hl] at g7 g8
    rw [← List.append_assoc] at hl
    obtain ⟨g9, g10⟩ := tS_put (a ++ putL 1 2 ++ putL 1 c' ++ putL 6 s ++ putL 1 ok) (textL s1.data.toList ++ (textL s2.data.toList ++ c)) s0.data.toList (by rw [size_len]; omega)
    rw [hl] at g9 g10
    rw [← List.append_assoc] at hl
    obtain ⟨g11, g12⟩ := tS_put (a ++ putL 1 2 ++ putL 1 c' ++ putL 6 s ++ putL 1 ok ++ textL s0.data.toList) (textL s2.data.toList ++ c) s1.data.toList (by rw [size_len]; omega)
    rw [hl] at g11 g12
    rw [← List.append_assoc] at hl
    obtain ⟨g13, g14⟩ := tS_put (a ++ putL 1 2 ++ putL 1 c' ++ putL 6 s ++ putL 1 ok ++ textL s0.data.toList ++ textL s1.data.toList) c s2.data.toList (by rw [size_len]; omega)
    rw [hl] at g13 g14
    have q1 : r1 l a.length = ⟨(a ++ putL 1 2).length, false⟩ := g2
    have q2 : r2 l a.length = ⟨(a ++ putL 1 2 ++ putL 1 c').length, false⟩ := by unfold r2; rw [q1, g4]
    have q3 : r3 l a.length = ⟨(a ++ putL 1 2 ++ putL 1 c' ++ putL 6 s).length, false⟩ := by unfold r3; rw [q2, g6]
    have q4 : r4 l a.length = ⟨(a ++ putL 1 2 ++ putL 1 c' ++ putL 6 s ++ putL 1 ok).length, false⟩ := by unfold r4; rw [q3, g8]
    have q5 : r5 l a.length = ⟨(a ++ putL 1 2 ++ putL 1 c' ++ putL 6 s ++ putL 1 ok ++ textL s0.data.toList).length, false⟩ := by unfold r5; rw [q4, g10]
    have q6 : r6 l a.length = ⟨(a ++ putL 1 2 ++ putL 1 c' ++ putL 6 s ++ putL 1 ok ++ textL s0.data.toList ++ textL s1.data.toList).length, false⟩ := by unfold r6; rw [q5, g12]
    have q7 : r7 l a.length = ⟨(a ++ putL 1 2 ++ putL 1 c' ++ putL 6 s ++ putL 1 ok ++ textL s0.data.toList ++ textL s1.data.toList ++ textL s2.data.toList).length, false⟩ := by unfold r7; rw [q6, g14]
    have hK : rdK l a.length = 2 := g1
    unfold mEn mR
    rw [hK, if_pos rfl, if_pos rfl, q1, q2, q3, q4, q5, q6, q7, g3, g5, g7, g9, g11, g13, bs_self, bs_self, bs_self]
    exact ⟨rfl, by simp [entL]⟩
theorem er_put {e : En} (h : mayB e = true) (a c : List UInt8) : erE (a ++ (entL e ++ c)) a.length = 0 ∧ erV (a ++ (entL e ++ c)) a.length = e ∧ erN (a ++ (entL e ++ c)) a.length = (a ++ entL e).length := by
  obtain ⟨h1, h2⟩ := rd_put h a c
  have h0 : erE (a ++ (entL e ++ c)) a.length = 0 := by
    unfold erE
    rw [h1, h2, h, if_neg (by rw [List.length_append]; omega)]
    rfl
  refine ⟨h0, ?_, ?_⟩
  · unfold erV
    rw [h0, if_pos rfl, h1]
  · unfold erN
    rw [h0, if_pos rfl, h2]

/-! What is read is what was put. -/
def seg (l : List UInt8) (a b : Nat) : List UInt8 := (l.drop a).take (b - a)
theorem seg_append (l : List UInt8) {a b c : Nat} (h1 : a ≤ b) (h2 : b ≤ c) : seg l a b ++ seg l b c = seg l a c := by
  unfold seg
  obtain ⟨m, rfl⟩ : ∃ m, b = a + m := ⟨b - a, by omega⟩
  obtain ⟨n, rfl⟩ : ∃ n, c = a + m + n := ⟨c - (a + m), by omega⟩
  rw [show a + m - a = m by omega, show a + m + n - (a + m) = n by omega, show a + m + n - a = m + n by omega, List.take_add, List.drop_drop]
theorem gR_ok {l : List UInt8} {r : Rs} {w : Int} (h : (gR l r w).bad = false) : r.bad = false ∧ getE l r.at_ w = 0 ∧ gN l r w = getN l r.at_ w ∧ gR l r w = ⟨r.at_ + w, false⟩ := by
  have hb : gB l r w = false := by
    cases e : gB l r w
    · rfl
    · unfold gR at h; rw [e] at h; cases h
  unfold gR gN
  rw [hb]
  unfold gB at hb
  simp only [Bool.or_eq_false_iff, bne_eq_false_iff_eq] at hb
  refine ⟨hb.1, hb.2, rfl, ?_⟩
  unfold getP
  rw [hb.2]
  rfl
theorem readE_zero {l : List UInt8} {a : Int} (h : readE l a = 0) : getE l a 1 = 0 ∧ a + 1 + getN l a 1 ≤ l.length := by
  unfold readE at h
  split at h
  · omega
  split at h
  · omega
  rename_i h1 h2
  exact ⟨by omega, by omega⟩
theorem tR_ok {l : List UInt8} {r : Rs} (h : (tR l r).bad = false) : r.bad = false ∧ readE l r.at_ = 0 ∧ tS l r = readS l r.at_ ∧ tR l r = ⟨r.at_ + 1 + getN l r.at_ 1, false⟩ := by
  have hb : tB l r = false := by
    cases e : tB l r
    · rfl
    · unfold tR at h; rw [e] at h; cases h
  unfold tR tS
  rw [hb]
  unfold tB at hb
  simp only [Bool.or_eq_false_iff, bne_eq_false_iff_eq] at hb
  refine ⟨hb.1, hb.2, rfl, ?_⟩
  unfold readP
  rw [hb.2]
  rfl
theorem put_get {l : List UInt8} {a : Nat} {w : Nat} (h : getE l a w = 0) : putL w (getN l a w) = seg l a (a + w) ∧ a + w ≤ l.length := by
  obtain ⟨h1, h2, h3⟩ := getE_zero h
  have hp := getN_part (l := l) (o := a) (w := w) h1 (by omega)
  have hb := getN_bd l a w
  refine ⟨?_, by omega⟩
  have hf : fitsB (w : Int) (getN l a w) = true := by
    rw [fitsB_eq, h1]
    simp only [Bool.true_and, Bool.and_eq_true, decide_eq_true_eq, Int.toNat_natCast]
    exact hb
  unfold putL seg
  rw [hf, if_pos rfl, Int.toNat_natCast, hp, show a + w - a = w by omega]
theorem text_read {l : List UInt8} {a : Nat} (h : readE l a = 0) : ∃ n : Nat, getN l a 1 = n ∧ a + 1 + n ≤ l.length ∧ textL (readS l a) = seg l a (a + 1 + n) ∧ (readS l a).length = n ∧ n ≤ 255 := by
  obtain ⟨h1, h2⟩ := readE_zero h
  have hb : 0 ≤ getN l a 1 ∧ getN l a 1 < 256 ^ 1 := getN_bd l a 1
  obtain ⟨n, hn⟩ := Int.eq_ofNat_of_zero_le hb.1
  have hn255 : n ≤ 255 := by have := hb.2; rw [hn] at this; omega
  obtain ⟨g1, g2⟩ := put_get (l := l) (a := a) (w := 1) (by simpa using h1)
  have g1 : putL 1 (n : Int) = seg l a (a + 1) := by rw [← hn]; exact g1
  have hl : (readS l a).length = n := by
    unfold readS
    rw [h, if_pos rfl, hn]
    simp
    omega
  refine ⟨n, hn, by omega, ?_, hl, hn255⟩
  rw [textL_ok (by omega), hl]
  have e1 : UInt8.ofNat n :: readS l a = putL 1 (n : Int) ++ readS l a := by rw [putL_one (by omega) (by omega)]; simp [leB]
  have e2 : readS l a = seg l (a + 1) (a + 1 + n) := by
    unfold readS seg
    rw [h, if_pos rfl, hn]
    simp
  rw [e1, g1, e2, seg_append l (by omega) (by omega)]
theorem er_get {l : List UInt8} {a : Int} (h : erE l a = 0) : mayB (erV l a) = true ∧ ∃ A N : Nat, a = A ∧ erN l a = N ∧ A < N ∧ N ≤ l.length ∧ entL (erV l a) = seg l A N := by
  have h0 := h
  unfold erE at h
  split at h
  · omega
  rename_i ha
  split at h
  · omega
  rename_i hm
  simp only [Bool.or_eq_true, Bool.not_eq_true', not_or, Bool.not_eq_true, Bool.not_eq_false] at hm
  obtain ⟨hb, hm⟩ := hm
  unfold erV erN
  rw [h0, if_pos rfl, if_pos rfl]
  refine ⟨hm, ?_⟩
  obtain ⟨A, rfl⟩ := Int.eq_ofNat_of_zero_le (show 0 ≤ a by omega)
  by_cases hk : rdK l A = 2
  · have hmr : mR l A = r7 l A := by unfold mR; rw [if_pos hk]
    have hme : mEn l A = ⟨2, gN l (r1 l A) 1, gN l (r2 l A) 6, gN l (r3 l A) 1, bs (tS l (r4 l A)), bs (tS l (r5 l A)), bs (tS l (r6 l A))⟩ := by unfold mEn; rw [if_pos hk]
    rw [hmr] at hb ⊢
    rw [hme]
    obtain ⟨b6, t6, u6, v6⟩ := tR_ok (show (tR l (r6 l A)).bad = false from hb)
    obtain ⟨b5, t5, u5, v5⟩ := tR_ok (show (tR l (r5 l A)).bad = false from b6)
    obtain ⟨b4, t4, u4, v4⟩ := tR_ok (show (tR l (r4 l A)).bad = false from b5)
    obtain ⟨b3, t3, u3, v3⟩ := gR_ok (show (gR l (r3 l A) 1).bad = false from b4)
    obtain ⟨b2, t2, u2, v2⟩ := gR_ok (show (gR l (r2 l A) 6).bad = false from b3)
    obtain ⟨b1, t1, u1, v1⟩ := gR_ok (show (gR l (r1 l A) 1).bad = false from b2)
    obtain ⟨_, t0, u0, v0⟩ := gR_ok (show (gR l ⟨A, false⟩ 1).bad = false from b1)
    have v0 : r1 l A = ⟨((A + 1 : Nat) : Int), false⟩ := v0
    rw [v0] at t1 u1 v1
    have v1 : r2 l A = ⟨((A + 1 + 1 : Nat) : Int), false⟩ := by unfold r2; rw [v0]; exact v1
    rw [v1] at t2 u2 v2
    have v2 : r3 l A = ⟨((A + 1 + 1 + 6 : Nat) : Int), false⟩ := by unfold r3; rw [v1]; exact v2
    rw [v2] at t3 u3 v3
    have v3 : r4 l A = ⟨((A + 1 + 1 + 6 + 1 : Nat) : Int), false⟩ := by unfold r4; rw [v2]; exact v3
    rw [v3] at t4 u4 v4
    obtain ⟨n4, m4, le4, x4, _, _⟩ := text_read t4
    have v4 : r5 l A = ⟨((A + 1 + 1 + 6 + 1 + 1 + n4 : Nat) : Int), false⟩ := by
      show tR l (r4 l A) = _
      rw [v3, v4, m4]
      rfl
    rw [v4] at t5 u5 v5
    obtain ⟨n5, m5, le5, x5, _, _⟩ := text_read t5
    have v5 : r6 l A = ⟨((A + 1 + 1 + 6 + 1 + 1 + n4 + 1 + n5 : Nat) : Int), false⟩ := by
      show tR l (r5 l A) = _
      rw [v4, v5, m5]
      rfl
    rw [v5] at t6 u6 v6
    obtain ⟨n6, m6, le6, x6, _, _⟩ := text_read t6
    have v6 : r7 l A = ⟨((A + 1 + 1 + 6 + 1 + 1 + n4 + 1 + n5 + 1 + n6 : Nat) : Int), false⟩ := by
      show tR l (r6 l A) = _
      rw [v5, v6, m6]
      rfl
    refine ⟨A, A + 1 + 1 + 6 + 1 + 1 + n4 + 1 + n5 + 1 + n6, rfl, by rw [v6], by omega, by omega, ?_⟩
    obtain ⟨p0, _⟩ := put_get (l := l) (a := A) (w := 1) (by simpa using t0)
    have hk' : getN l A 1 = 2 := by rw [← u0]; exact hk
    have p0 : putL 1 2 = seg l A (A + 1) := by rw [← hk']; exact p0
    obtain ⟨p1, _⟩ := put_get (l := l) (a := A + 1) (w := 1) (by simpa using t1)
    obtain ⟨p2, _⟩ := put_get (l := l) (a := A + 1 + 1) (w := 6) (by simpa using t2)
    obtain ⟨p3, _⟩ := put_get (l := l) (a := A + 1 + 1 + 6) (w := 1) (by simpa using t3)
    rw [v0, v1, v2, v3, v4, v5, u1, u2, u3, u4, u5, u6]
    unfold entL
    rw [if_pos rfl]
    simp only [bs]
    have p1 : putL 1 (getN l ((A + 1 : Nat) : Int) 1) = _ := p1
    have p2 : putL 6 (getN l ((A + 1 + 1 : Nat) : Int) 6) = _ := p2
    have p3 : putL 1 (getN l ((A + 1 + 1 + 6 : Nat) : Int) 1) = _ := p3
    rw [p0, p1, p2, p3, x4, x5, x6, seg_append l (by omega) (by omega), seg_append l (by omega) (by omega), seg_append l (by omega) (by omega), seg_append l (by omega) (by omega), seg_append l (by omega) (by omega), seg_append l (by omega) (by omega)]
  · have hmr : mR l A = r1 l A := by unfold mR; rw [if_neg hk]
    have hme : mEn l A = ⟨rdK l A, 0, 0, 0, .empty, .empty, .empty⟩ := by unfold mEn; rw [if_neg hk]
    rw [hmr] at hb ⊢
    obtain ⟨_, t0, u0, v0⟩ := gR_ok (show (gR l ⟨A, false⟩ 1).bad = false from hb)
    have v0 : r1 l A = ⟨((A + 1 : Nat) : Int), false⟩ := v0
    obtain ⟨p0, le0⟩ := put_get (l := l) (a := A) (w := 1) (by simpa using t0)
    refine ⟨A, A + 1, rfl, by rw [v0], by omega, by omega, ?_⟩
    rw [hme]
    unfold entL
    rw [if_neg hk, List.append_nil]
    have u0 : rdK l A = getN l A 1 := u0
    rw [u0]
    exact p0
theorem gN_bound (l : List UInt8) (r : Rs) (w : Nat) : 0 ≤ gN l r w ∧ gN l r w < 256 ^ w := by
  unfold gN
  split
  · exact ⟨Int.le_refl _, Int.pow_pos (by omega)⟩
  · exact getN_bd l r.at_ w
theorem gN_byte (l : List UInt8) (r : Rs) : 0 ≤ gN l r 1 ∧ gN l r 1 < 256 := by
  have h : 0 ≤ gN l r 1 ∧ gN l r 1 < 256 ^ 1 := gN_bound l r 1
  omega
theorem tS_length (l : List UInt8) (r : Rs) : (tS l r).length ≤ l.length := by
  unfold tS readS
  split
  · simp
  · split
    · simp; omega
    · simp
theorem bs_size (l : List UInt8) : (bs l).size = l.length := rfl
theorem er_cases {l : List UInt8} {a : Int} (h0 : 0 ≤ a) (h1 : a ≤ l.length) : erE l a = (if (mR l a).bad || !mayB (mEn l a) then 90 else 0) ∧ erN l a = (if (mR l a).bad || !mayB (mEn l a) then 0 else (mR l a).at_) ∧ erV l a = (if (mR l a).bad || !mayB (mEn l a) then en0 else mEn l a) := by
  have he : erE l a = (if (mR l a).bad || !mayB (mEn l a) then 90 else 0) := by unfold erE; rw [if_neg (by omega)]
  refine ⟨he, ?_, ?_⟩
  · unfold erN
    rw [he]
    split <;> simp
  · unfold erV
    rw [he]
    split <;> simp
end Go.Proofs.Ytfkcbnndmheijaa

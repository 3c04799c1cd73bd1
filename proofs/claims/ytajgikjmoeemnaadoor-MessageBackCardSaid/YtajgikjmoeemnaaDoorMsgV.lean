/-
  THE WALK OF message.Print.
-/
import Derived.Test.YtajgikjmoeemnaaDoorPk5
import Derived.Test.YtajgikjmoeemnaaDoorMsgI
namespace Go.Proofs.YtajgikjmoeemnaaDoor
set_option maxRecDepth 100000
open Go.RowKit
set_option linter.unusedVariables false
set_option linter.unusedSimpArgs false
def fieldsL (fs : List UInt8) (m : Mg) (rs : List Rp) (l : List UInt8) : List UInt8 := (fs.map fun c => fieldL c.toNat m rs l).flatten
def prL (m : Mg) (rs : List Rp) (l : List UInt8) : List UInt8 := ((putL 1 m.k ++ putL 1 (whoN m.fr)) ++ putL 1 (whoN m.to)) ++ fieldsL (lets m.k) m rs l
def printL (m : Mg) (rs : List Rp) (l : List UInt8) (n : Int) : List UInt8 := if mayM m rs l n then prL m rs l else []
def printE (m : Mg) (rs : List Rp) (l : List UInt8) (n : Int) : Int := if mayM m rs l n then 0 else 2
theorem may_parts {m : Mg} {rs : List Rp} {l : List UInt8} {n : Int} (h : mayM m rs l n = true) :
    kindB m.k = true ∧ crowdB n = true ∧ endsB m n = true ∧ (∀ c ∈ lets m.k, keepB c.toNat m rs n = true) ∧ sameM (bareM m) (bareR m rs) (bareY m l) m rs l = true := by
  simp only [mayM, Bool.and_eq_true, List.all_eq_true] at h
  exact h
theorem may_reps {m : Mg} {rs : List Rp} {l : List UInt8} {n : Int} (h : mayM m rs l n = true) : rs.length ≤ 24 := by
  obtain ⟨h1, h2, h3, h4, h5⟩ := may_parts h
  obtain ⟨_, e, _⟩ := sameM_iff.1 h5
  unfold bareR at e
  by_cases hk : m.k = 4
  · have := h4 108 (by rw [hk]; decide)
    have h6 : repsB rs n = true := this
    simp only [repsB, Bool.and_eq_true, decide_eq_true_eq] at h6
    exact h6.2
  · rw [if_neg hk] at e
    rw [← e]
    simp
theorem crowd_le {n : Int} (h : crowdB n = true) : n = 3 ∨ n = 5 ∨ n = 7 := by simpa [crowdB] using h
theorem may_ends {m : Mg} {rs : List Rp} {l : List UInt8} {n : Int} (h : mayM m rs l n = true) : (-4 ≤ m.fr ∧ m.fr ≤ 6) ∧ -4 ≤ m.to ∧ m.to ≤ 6 := by
  obtain ⟨h1, h2, h3, h4, h5⟩ := may_parts h
  have := crowd_le h2
  unfold endsB at h3
  split at h3
  · simp only [cliIx, repIx, Bool.and_eq_true, decide_eq_true_eq] at h3; omega
  · split at h3
    · simp only [cliIx, repIx, Bool.and_eq_true, decide_eq_true_eq] at h3; omega
    · simp only [cliIx, repIx, Bool.and_eq_true, decide_eq_true_eq] at h3; omega
theorem repsL_len (rs : List Rp) : (repsL rs).length ≤ 80 * rs.length := by
  induction rs with
  | nil => simp [repsL]
  | cons x l ih =>
    have := repL_len x
    unfold repsL at ih ⊢
    rw [List.map_cons, List.flatten_cons, List.length_append, List.length_cons]
    omega
theorem fieldL_len (c : Nat) (m : Mg) (rs : List Rp) (l : List UInt8) (h : rs.length ≤ 24) : (fieldL c m rs l).length ≤ 2000 := by
  unfold fieldL
  by_cases h115 : c = 115
  · rw [if_pos h115]
    have := putL_length6 6 m.sq
    omega
  rw [if_neg h115]
  by_cases h111 : c = 111
  · rw [if_pos h111]
    have := putL_length6 1 m.ok
    have := textL_length_le m.o0.data.toList
    have := textL_length_le m.o1.data.toList
    have := textL_length_le m.o2.data.toList
    simp only [List.length_append]
    omega
  rw [if_neg h111]
  by_cases h114 : c = 114
  · rw [if_pos h114]
    have := putL_length6 2 m.re
    have := putL_length6 1 (if m.rf then 1 else 0)
    have := textL_length_le m.rv.data.toList
    simp only [List.length_append]
    omega
  rw [if_neg h114]
  by_cases h98 : c = 98
  · rw [if_pos h98]
    have := putL_length6 6 m.br
    have := putL_length6 1 m.bp
    simp only [List.length_append]
    omega
  rw [if_neg h98]
  by_cases h105 : c = 105
  · rw [if_pos h105]
    have := putL_length6 6 m.ix
    omega
  rw [if_neg h105]
  by_cases h122 : c = 122
  · rw [if_pos h122]
    have := putL_length6 6 m.ix
    omega
  rw [if_neg h122]
  by_cases h99 : c = 99
  · rw [if_pos h99]
    have := putL_length6 6 m.cm
    omega
  rw [if_neg h99]
  by_cases h110 : c = 110
  · rw [if_pos h110]
    have := putL_length6 6 m.nc
    omega
  rw [if_neg h110]
  by_cases h101 : c = 101
  · rw [if_pos h101]
    have := bytesL_len m.e
    omega
  rw [if_neg h101]
  by_cases h108 : c = 108
  · rw [if_pos h108]
    have := putL_length6 1 (rs.length : Int)
    have := repsL_len rs
    simp only [List.length_append]
    omega
  rw [if_neg h108]
  by_cases h107 : c = 107
  · rw [if_pos h107]
    have := putL_length6 1 m.ck
    omega
  rw [if_neg h107]
  by_cases h109 : c = 109
  · rw [if_pos h109]
    have := putL_length6 1 m.ct
    omega
  rw [if_neg h109]
  have := textL_length_le l
  omega
theorem lets_len (k : Int) : (lets k).length ≤ 4 := by
  unfold lets
  split
  · rename_i h
    have : ∀ i : Fin 16, ((fld[i.val]?).getD []).length ≤ 4 := by decide +kernel
    exact this ⟨k.toNat, by omega⟩
  · simp
theorem fieldsL_snoc (f : List UInt8) (k : Nat) (h : k < f.length) (m : Mg) (rs : List Rp) (l : List UInt8) : fieldsL (f.take (k + 1)) m rs l = fieldsL (f.take k) m rs l ++ fieldL f[k].toNat m rs l := by
  unfold fieldsL
  rw [List.take_succ_eq_append_getElem h, List.map_append, List.flatten_append, List.map_cons, List.map_nil, List.flatten_cons, List.flatten_nil, List.append_nil]
/-- new bytes with no room behind them, and a number -/
def RetBC (w : World) (l : List UInt8) (k : Int) (e : Ending) (w' : World) : Prop :=
  ∃ A c, e = .returned (.tuple #[.slice A l.length l.length, .int .i64 k]) ∧ Own w' w.heap.size A c l ∧ Below w.heap.size w w'
set_option maxHeartbeats 400000 in
theorem clip_any (g n c : Nat) (w : World) (hn : n ≤ c) (hc : c ≤ maxLen) :
    Calls Tryd.prog 33 #[.slice (some ⟨g, 0, none⟩) n c] w (RetV w (.slice (some ⟨g, 0, none⟩) n n)) := by
  have H := Hp.nil w
  unfold maxLen at hc
  go_enter Tryd.func33, Tryd.ntmps33
  go_wp2_with (first | (fail))
  go_ret
  exact ⟨rfl, H.below⟩
theorem z_wri : zeroC Tryd.prog 66 = some [.slice none 0 0].toArray := by kernel_rfl
/-- the loop's relation -/
def VRel (w : World) (g gm git : Nat) (p0 : List UInt8) (m : Mg) (rs : List Rp) (l : List UInt8) (f : List UInt8) (wr : World) : Prop :=
  ∃ (k : Nat) (A : Option Addr) (c : Nat) (cur : List UInt8), k ≤ f.length ∧ cur = p0 ++ fieldsL (f.take k) m rs l ∧ cur.length ≤ 100 + 2000 * k ∧ Hp w wr [itS git f k, wrI g A c cur, .bytes A c cur, .blk gm 34 (mgC m)]
set_option maxHeartbeats 8000000 in
theorem print_any (m : Mg) (rs : List Rp) (l : List UInt8) (n : Int) (w : World) (hF : FldW w) (hN : MgN m) (hR : MgR w m rs l) :
    Calls Tryd.prog 12 #[.agg (mgC m).toArray, .int .i64 n] w (RetBC w (printL m rs l n) (printE m rs l n)) := by
  have H := Hp.nil w
  unfold printL printE
  have hu : 0 ≤ m.k ∧ m.k < 256 := hN.1
  obtain ⟨f, hf⟩ : ∃ f, lets m.k = f := ⟨_, rfl⟩
  cases hmay : mayM m rs l n
  · have hbk : kindB m.k = kindB m.k := rfl
    have hw1 := True.intro
    have hw2 := True.intro
    go_enter Tryd.func12, Tryd.ntmps12; go_wp2_with (first | ((with_reducible refine Hp.box H ?_); (first | refine ⟨rfl, mgC m, rfl, ?_⟩); (clear H; intro gm w1 H); go_frame) | ((with_reducible refine Hp.allo (ty := 66) H ?_); refine ⟨rfl, ?_⟩; refine ⟨_, z_wri, ?_⟩; (clear H; intro gw w1 H); (replace H : Hp w w1 (wrI gw none 0 [] :: .bytes none 0 [] :: .blk gm _ (mgC m) :: []) := H.nilOwn.rot2); go_frame) | ((with_reducible refine Hp.ld H ?_); refine ⟨rfl, ?_⟩; refine ⟨c_look rfl, ?_⟩; refine ⟨_, _, rfl, ?_⟩; (first | refine ⟨_, _, _, .z, ?_⟩ | refine ⟨_, _, _, .s .z, ?_⟩ | refine ⟨_, _, _, .s (.s .z), ?_⟩ | refine ⟨_, _, _, .s (.s (.s .z)), ?_⟩); refine ⟨_, rfl, ?_⟩; go_frame) | ((with_reducible refine Hp.lda H ?_); refine ⟨rfl, by kernel_rfl, ?_⟩; refine ⟨_, s_look rfl, ?_⟩; refine ⟨_, rfl, ?_⟩; (first | refine ⟨_, _, _, .z, ?_⟩ | refine ⟨_, _, _, .s .z, ?_⟩ | refine ⟨_, _, _, .s (.s .z), ?_⟩ | refine ⟨_, _, _, .s (.s (.s .z)), ?_⟩); refine ⟨rfl, ?_⟩; go_frame) | ((with_reducible refine Hp.lds H ?_); refine ⟨rfl, by kernel_rfl, ?_⟩; refine ⟨_, s_look rfl, ?_⟩; refine ⟨_, _, rfl, ?_⟩; (first | refine ⟨_, _, _, .z, ?_⟩ | refine ⟨_, _, _, .s .z, ?_⟩ | refine ⟨_, _, _, .s (.s .z), ?_⟩ | refine ⟨_, _, _, .s (.s (.s .z)), ?_⟩); (first | refine ⟨[_, _], rfl, rfl, ?_⟩ | refine ⟨[_, _, _, _], rfl, rfl, ?_⟩ | refine ⟨[_, _, _, _, _, _, _], rfl, rfl, ?_⟩ | refine ⟨[_, _, _], rfl, rfl, ?_⟩ | (fail)); go_frame) | ((with_reducible refine (may_v hmay (hF.below H.below) hN (hR.below H.below)).mono ?_); rintro _ w1 ⟨rfl, hb⟩; replace H := H.call hb; clear hb) | ((with_reducible refine (of_any _ _ (hF.below H.below) hu.1 hu.2 hbk hf).mono ?_); rintro _ w1 ⟨rfl, hb⟩; replace H := H.call hb; clear hb) | ((with_reducible refine Hp.bslI (parts := [_]) H ?_); refine ⟨rfl, rfl, rfl, [.int .i64 _], rfl, rfl, rfl, ?_⟩; (clear H; intro g2 w1 H); go_frame) | ((with_reducible refine (wnum_any _ _ _ _ _ _ _ _ _ _ (by first | omega | (simp only [List.length_append, List.length_nil]; omega)) H).mono ?_); rintro _ w1 ⟨A', c', rfl, HQ⟩; replace H := HQ; clear HQ) | ((with_reducible refine (wwho_any _ _ _ _ _ _ _ _ (by first | omega | (simp only [List.length_append, List.length_nil]; omega)) hw1 H).mono ?_); rintro _ w1 ⟨A', c', rfl, HQ⟩; replace H := HQ; clear HQ) | ((with_reducible refine (wwho_any _ _ _ _ _ _ _ _ (by first | omega | (simp only [List.length_append, List.length_nil]; omega)) hw2 H).mono ?_); rintro _ w1 ⟨A', c', rfl, HQ⟩; replace H := HQ; clear HQ) | ((with_reducible refine Hp.rngS H (by kernel_rfl) ?_); refine ⟨rfl, f, rfl, ?_⟩; (clear H; intro git w1 H); go_frame))
    go_ret2
    exact ⟨none, 0, rfl, Own.none_ _ _, H.below⟩
  · obtain ⟨hbk, _, _, _, _⟩ := may_parts hmay
    obtain ⟨⟨e1, e2⟩, e3, e4⟩ := may_ends hmay
    have h24' := may_reps hmay
    have h24 : rs.length ≤ 100 := by omega
    have hw1 : -1000 ≤ m.fr := by omega
    have hw2 : -1000 ≤ m.to := by omega
    have hwk : IntKind.i64.wrap m.k = m.k := IntWalk.i64_in _ (by omega)
    have m1 := putL_length6 1 m.k
    have m2 := putL_length6 1 (whoN m.fr)
    have m3 := putL_length6 1 (whoN m.to)
    have hfl : f.length ≤ 4 := by rw [← hf]; exact lets_len _
    clear e1 e2 e3 e4
    go_enter Tryd.func12, Tryd.ntmps12; go_wp2_with (first | ((with_reducible refine Hp.box H ?_); (first | refine ⟨rfl, mgC m, rfl, ?_⟩); (clear H; intro gm w1 H); go_frame) | ((with_reducible refine Hp.allo (ty := 66) H ?_); refine ⟨rfl, ?_⟩; refine ⟨_, z_wri, ?_⟩; (clear H; intro gw w1 H); (replace H : Hp w w1 (wrI gw none 0 [] :: .bytes none 0 [] :: .blk gm _ (mgC m) :: []) := H.nilOwn.rot2); go_frame) | ((with_reducible refine Hp.ld H ?_); refine ⟨rfl, ?_⟩; refine ⟨c_look rfl, ?_⟩; refine ⟨_, _, rfl, ?_⟩; (first | refine ⟨_, _, _, .z, ?_⟩ | refine ⟨_, _, _, .s .z, ?_⟩ | refine ⟨_, _, _, .s (.s .z), ?_⟩ | refine ⟨_, _, _, .s (.s (.s .z)), ?_⟩); refine ⟨_, rfl, ?_⟩; go_frame) | ((with_reducible refine Hp.lda H ?_); refine ⟨rfl, by kernel_rfl, ?_⟩; refine ⟨_, s_look rfl, ?_⟩; refine ⟨_, rfl, ?_⟩; (first | refine ⟨_, _, _, .z, ?_⟩ | refine ⟨_, _, _, .s .z, ?_⟩ | refine ⟨_, _, _, .s (.s .z), ?_⟩ | refine ⟨_, _, _, .s (.s (.s .z)), ?_⟩); refine ⟨rfl, ?_⟩; go_frame) | ((with_reducible refine Hp.lds H ?_); refine ⟨rfl, by kernel_rfl, ?_⟩; refine ⟨_, s_look rfl, ?_⟩; refine ⟨_, _, rfl, ?_⟩; (first | refine ⟨_, _, _, .z, ?_⟩ | refine ⟨_, _, _, .s .z, ?_⟩ | refine ⟨_, _, _, .s (.s .z), ?_⟩ | refine ⟨_, _, _, .s (.s (.s .z)), ?_⟩); (first | refine ⟨[_, _], rfl, rfl, ?_⟩ | refine ⟨[_, _, _, _], rfl, rfl, ?_⟩ | refine ⟨[_, _, _, _, _, _, _], rfl, rfl, ?_⟩ | refine ⟨[_, _, _], rfl, rfl, ?_⟩ | (fail)); go_frame) | ((with_reducible refine (may_v hmay (hF.below H.below) hN (hR.below H.below)).mono ?_); rintro _ w1 ⟨rfl, hb⟩; replace H := H.call hb; clear hb) | ((with_reducible refine (of_any _ _ (hF.below H.below) hu.1 hu.2 hbk hf).mono ?_); rintro _ w1 ⟨rfl, hb⟩; replace H := H.call hb; clear hb) | ((with_reducible refine Hp.bslI (parts := [_]) H ?_); refine ⟨rfl, rfl, rfl, [.int .i64 _], rfl, rfl, rfl, ?_⟩; (clear H; intro g2 w1 H); go_frame) | ((with_reducible refine (wnum_any _ _ _ _ _ _ _ _ _ _ (by first | omega | (simp only [List.length_append, List.length_nil]; omega)) H).mono ?_); rintro _ w1 ⟨A', c', rfl, HQ⟩; replace H := HQ; clear HQ) | ((with_reducible refine (wwho_any _ _ _ _ _ _ _ _ (by first | omega | (simp only [List.length_append, List.length_nil]; omega)) hw1 H).mono ?_); rintro _ w1 ⟨A', c', rfl, HQ⟩; replace H := HQ; clear HQ) | ((with_reducible refine (wwho_any _ _ _ _ _ _ _ _ (by first | omega | (simp only [List.length_append, List.length_nil]; omega)) hw2 H).mono ?_); rintro _ w1 ⟨A', c', rfl, HQ⟩; replace H := HQ; clear HQ) | ((with_reducible refine Hp.rngS H (by kernel_rfl) ?_); refine ⟨rfl, f, rfl, ?_⟩; (clear H; intro git w1 H); go_frame))
    obtain ⟨p0, hp0⟩ : ∃ p0, putL 1 m.k ++ (putL 1 (whoN m.fr) ++ putL 1 (whoN m.to)) = p0 := ⟨_, rfl⟩
    simp only [List.nil_append, List.append_assoc] at H
    rw [hp0] at H
    have hp0l : p0.length ≤ 100 := by rw [← hp0]; simp only [List.length_append]; omega
    have HP0 := Lib.hid hp0
    have hat : VRel w gw gm git p0 m rs l f w1 := ⟨0, A', c', p0, Nat.zero_le _, by simp [fieldsL], by omega, H⟩
    clear H hp0
    go_loopw [10] (fun _ wr => VRel w gw gm git p0 m rs l f wr) (fun _ wr => f.length - wr.iterPos git)
    case atStart => exact hat
    case round =>
      clear hat
      obtain ⟨k, A, c, cur, hk, hcur, hcl, H⟩ := hrel
      have HCU := Lib.hid hcur
      clear hcur
      have hcl2 : cur.length ≤ 10000 := by omega
      by_cases hlt : k < f.length
      · obtain ⟨h128, hmem⟩ := lets_all m.k f[k] (by rw [hf]; exact List.getElem_mem hlt)
        have hpos := H.iter 0 rfl
        have HPOS := Lib.hid hpos
        have hst := fieldsL_snoc f k hlt m rs l
        have hlen := fieldL_len f[k].toNat m rs l h24'
        have HST := Lib.hid hst
        have HLE := Lib.hid hlen
        have HK := Lib.hid hlt
        clear hpos hst hlen
        go_wp2_with (first | ((with_reducible refine Hp.box H ?_); (first | refine ⟨rfl, mgC m, rfl, ?_⟩); (clear H; intro gm w1 H); go_frame) | ((with_reducible refine Hp.allo (ty := 66) H ?_); refine ⟨rfl, ?_⟩; refine ⟨_, z_wri, ?_⟩; (clear H; intro gw w1 H); (replace H : Hp w w1 (wrI gw none 0 [] :: .bytes none 0 [] :: .blk gm _ (mgC m) :: []) := H.nilOwn.rot2); go_frame) | ((with_reducible refine Hp.ld H ?_); refine ⟨rfl, ?_⟩; refine ⟨c_look rfl, ?_⟩; refine ⟨_, _, rfl, ?_⟩; (first | refine ⟨_, _, _, .z, ?_⟩ | refine ⟨_, _, _, .s .z, ?_⟩ | refine ⟨_, _, _, .s (.s .z), ?_⟩ | refine ⟨_, _, _, .s (.s (.s .z)), ?_⟩); refine ⟨_, rfl, ?_⟩; go_frame) | ((with_reducible refine Hp.lda H ?_); refine ⟨rfl, by kernel_rfl, ?_⟩; refine ⟨_, s_look rfl, ?_⟩; refine ⟨_, rfl, ?_⟩; (first | refine ⟨_, _, _, .z, ?_⟩ | refine ⟨_, _, _, .s .z, ?_⟩ | refine ⟨_, _, _, .s (.s .z), ?_⟩ | refine ⟨_, _, _, .s (.s (.s .z)), ?_⟩); refine ⟨rfl, ?_⟩; go_frame) | ((with_reducible refine Hp.lds H ?_); refine ⟨rfl, by kernel_rfl, ?_⟩; refine ⟨_, s_look rfl, ?_⟩; refine ⟨_, _, rfl, ?_⟩; (first | refine ⟨_, _, _, .z, ?_⟩ | refine ⟨_, _, _, .s .z, ?_⟩ | refine ⟨_, _, _, .s (.s .z), ?_⟩ | refine ⟨_, _, _, .s (.s (.s .z)), ?_⟩); (first | refine ⟨[_, _], rfl, rfl, ?_⟩ | refine ⟨[_, _, _, _], rfl, rfl, ?_⟩ | refine ⟨[_, _, _, _, _, _, _], rfl, rfl, ?_⟩ | refine ⟨[_, _, _], rfl, rfl, ?_⟩ | (fail)); go_frame) | ((with_reducible refine Hp.nxtS H ?_); refine ⟨rfl, _, rfl, 0, _, _, rfl, hlt, h128, ?_⟩; (clear H; intro w1 H; simp only [List.set_cons_zero] at H); go_frame) | ((with_reducible refine (field_any hmem m rs l _ _ _ _ _ _ _ hcl2 hN hR h24 H.rot3).mono ?_); rintro _ w1 ⟨A', c', rfl, HQ⟩; replace H := HQ.rot3.rot3; clear HQ))
        have hpos2 := H.iter 0 rfl
        go_roundw
        case rel =>
          refine ⟨k + 1, A', c', _, HK.out, ?_, ?_, H⟩
          · rw [HST.out, HCU.out, List.append_assoc]
          · have := HLE.out
            simp only [List.length_append]
            omega
        case measure => rw [HPOS.out, hpos2]; have := HK.out; omega
      · obtain rfl : k = f.length := by omega
        have hL : cur = prL m rs l := by
          rw [HCU.out, List.take_length, ← HP0.out]
          unfold prL
          rw [hf]
          simp only [List.append_assoc]
        have hne : cur ≠ [] := by
          intro e
          have h1 : prL m rs l = [] := by rw [← hL, e]
          have h2 := congrArg List.length h1
          have h3 : 1 ≤ (putL 1 m.k).length := by rw [putL_one hu.1 hu.2]; simp [leB]
          unfold prL at h2
          simp only [List.length_append, List.length_nil] at h2
          omega
        have hcap := (H.o 2 rfl).caps
        obtain ⟨gA, hgA⟩ : ∃ gA, A = some ⟨gA, 0, none⟩ := by
          rcases (H.o 2 rfl).form with ⟨_, _, h⟩ | ⟨gA, h, _⟩
          · exact absurd h hne
          · exact ⟨gA, h⟩
        subst hgA
        have HL := Lib.hid hL
        clear hL hne
        go_wp2_with (first | ((with_reducible refine Hp.box H ?_); (first | refine ⟨rfl, mgC m, rfl, ?_⟩); (clear H; intro gm w1 H); go_frame) | ((with_reducible refine Hp.allo (ty := 66) H ?_); refine ⟨rfl, ?_⟩; refine ⟨_, z_wri, ?_⟩; (clear H; intro gw w1 H); (replace H : Hp w w1 (wrI gw none 0 [] :: .bytes none 0 [] :: .blk gm _ (mgC m) :: []) := H.nilOwn.rot2); go_frame) | ((with_reducible refine Hp.ld H ?_); refine ⟨rfl, ?_⟩; refine ⟨c_look rfl, ?_⟩; refine ⟨_, _, rfl, ?_⟩; (first | refine ⟨_, _, _, .z, ?_⟩ | refine ⟨_, _, _, .s .z, ?_⟩ | refine ⟨_, _, _, .s (.s .z), ?_⟩ | refine ⟨_, _, _, .s (.s (.s .z)), ?_⟩); refine ⟨_, rfl, ?_⟩; go_frame) | ((with_reducible refine Hp.lda H ?_); refine ⟨rfl, by kernel_rfl, ?_⟩; refine ⟨_, s_look rfl, ?_⟩; refine ⟨_, rfl, ?_⟩; (first | refine ⟨_, _, _, .z, ?_⟩ | refine ⟨_, _, _, .s .z, ?_⟩ | refine ⟨_, _, _, .s (.s .z), ?_⟩ | refine ⟨_, _, _, .s (.s (.s .z)), ?_⟩); refine ⟨rfl, ?_⟩; go_frame) | ((with_reducible refine Hp.lds H ?_); refine ⟨rfl, by kernel_rfl, ?_⟩; refine ⟨_, s_look rfl, ?_⟩; refine ⟨_, _, rfl, ?_⟩; (first | refine ⟨_, _, _, .z, ?_⟩ | refine ⟨_, _, _, .s .z, ?_⟩ | refine ⟨_, _, _, .s (.s .z), ?_⟩ | refine ⟨_, _, _, .s (.s (.s .z)), ?_⟩); (first | refine ⟨[_, _], rfl, rfl, ?_⟩ | refine ⟨[_, _, _, _], rfl, rfl, ?_⟩ | refine ⟨[_, _, _, _, _, _, _], rfl, rfl, ?_⟩ | refine ⟨[_, _, _], rfl, rfl, ?_⟩ | (fail)); go_frame) | ((with_reducible refine Hp.nxtE H ?_); refine ⟨rfl, _, rfl, 0, _, _, rfl, rfl, ?_⟩; go_frame) | ((with_reducible refine (clip_any _ _ _ _ hcap.1 hcap.2).mono ?_); rintro _ w1 ⟨rfl, hb⟩; replace H := H.call hb; clear hb))
        all_goals
          go_ret2
          refine ⟨some ⟨gA, 0, none⟩, c, ?_, ?_, H.below⟩
          · simp only [if_true, ← HL.out]
            rfl
          · simp only [if_true, ← HL.out]
            exact H.o 2 rfl
end Go.Proofs.YtajgikjmoeemnaaDoor

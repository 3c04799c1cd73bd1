/-
  THE WALKS OF sextonlaw28's fetch, all; what a net does with the chapter's messages.
-/
import Derived.Test.YtiieakndjheknaaDoorNtF
namespace Go.Proofs.YtiieakndjheknaaDoor
set_option maxRecDepth 100000
open Go.RowKit
set_option linter.unusedVariables false
set_option linter.unusedSimpArgs false
/-- the chapter's messages -/
def ftM (a b i : Int) : Mg := { mg0 with k := 10, fr := a, to := b, ix := i }
def ftX (a b i : Int) : MX := ⟨ftM a b i, [], []⟩
theorem cx_ft (a b i : Int) : cx ⟨ftM a b i, [], []⟩ = ftX a b i := rfl
theorem ft_r (a b i : Int) (w : World) : MgR w (ftM a b i) [] [] := ⟨rfl, fun h => absurd rfl h, by simp, Nat.le_refl _, Nat.zero_le _, rfl, Rd.nil _ _, Nat.le_refl _, Nat.zero_le _⟩
theorem ft_s (a b i : Int) (w0 : World) (Y : List Item) : MgS w0 Y (ftM a b i) [] [] := fun w1 _ _ _ => ft_r a b i w1
theorem i64_0 : I64 0 := ⟨by decide, by decide⟩
theorem ft_n {a b i : Int} (ha : I64 a) (hb : I64 b) (hi : I64 i) : MgN (ftM a b i) :=
  have z : (0 : Int) ≤ 0 ∧ (0 : Int) < 256 := ⟨by decide, by decide⟩
  have t : (0 : Int) ≤ 10 ∧ (10 : Int) < 256 := ⟨by decide, by decide⟩
  have e0 : (0 : Nat) ≤ maxLen := Nat.zero_le _
  ⟨t, ha, hb, i64_0, i64_0, hi, i64_0, i64_0, i64_0, i64_0, i64_0, ⟨e0, e0, e0⟩, ⟨z.1, z.2, z.1, z.2⟩, i64_0, i64_0, z, e0, e0, e0, i64_0, e0⟩
theorem ft_ok {a b i : Int} (ha : I64 a) (hb : I64 b) (hi : I64 i) : OkX ⟨ftM a b i, [], []⟩ := ⟨rfl, rfl, ft_n ha hb hi, by simp, Nat.zero_le _, Nat.zero_le _⟩
theorem b_ft (a b i : Int) : Tryd.prog.built 34 [(0, .int .u8 10), (1, .int .i64 a), (2, .int .i64 b), (4, .int .i64 i)] = some (mgC (ftM a b i)).toArray := by kernel_rfl
theorem nfetch_any (a b i : Int) (w : World) : Calls Tryd.prog 30 #[.int .i64 a, .int .i64 b, .int .i64 i] w (RetV w (.agg (mgC (ftM a b i)).toArray)) := by
  have H := Hp.nil w
  go_enter Tryd.func30, Tryd.ntmps30
  go_wp2_with (first | ((with_reducible refine Hp.allo (ty := 34) H ?_); refine ⟨rfl, ?_⟩; refine ⟨_, z_look rfl, ?_⟩; (clear H; intro gm w1 H); go_frame) | ((with_reducible refine Hp.sta H ?_); refine ⟨rfl, ?_⟩; refine ⟨_, s_look rfl, ?_⟩; refine ⟨_, rfl, _, rfl, rfl, ?_⟩; ((repeat ((fail_if_success refine ⟨_, _, _, .z, ?_⟩); refine hs ?_)); refine ⟨_, _, _, .z, ?_⟩); refine ⟨rfl, rfl, ?_⟩; (clear H; intro w1 H; simp only [List.set] at H); go_frame) | ((with_reducible refine Hp.str H ?_); refine ⟨rfl, ?_⟩; refine ⟨_, s_look rfl, ?_⟩; refine ⟨_, _, rfl, _, rfl, rfl, ?_⟩; ((repeat ((fail_if_success refine ⟨_, _, _, .z, ?_⟩); refine hs ?_)); refine ⟨_, _, _, .z, ?_⟩); refine ⟨rfl, _, rfl, _, rfl, Nat.le_of_ble_eq_true rfl, ?_⟩; (clear H; intro w1 H; simp only [List.set] at H); go_frame) | ((with_reducible refine Hp.bdl (t := 34) (parts := [_, _, _, _]) H ?_); refine ⟨rfl, mgC (ftM a b i), b_ft _ _ _, ?_⟩; go_frame) | (fail))
  exact bodyPost_ret (v := .agg (mgC (ftM a b i)).toArray) (results_c rfl rfl (H.var (by kernel_rfl) (t := 34) (cs := mgC (ftM a b i)) .z s_Msg)) rfl ⟨rfl, H.below⟩
/-- may one be? -/
def ftB (n a b : Int) : Bool := repIx n a && (repIx n b && (a != b))
theorem ft_may {n a b i : Int} (hn : crowdB n = true) (h1 : 1 ≤ i) (h2 : i ≤ 1099511627776) : mayM (ftM a b i) [] [] n = ftB n a b := by
  have hs : sameM (bareM (ftM a b i)) (bareR (ftM a b i) []) (bareY (ftM a b i) []) (ftM a b i) [] [] = true := sameM_iff.2 ⟨rfl, rfl, rfl⟩
  have hk : kindB (ftM a b i).k = true := show kindB 10 = true by decide
  have hl : (lets (ftM a b i).k).all (fun c => keepB c.toNat (ftM a b i) [] n) = true := by
    show (numB i 1 && true) = true
    simp [numB, h1, h2]
  have he : endsB (ftM a b i) n = ftB n a b := by
    unfold endsB
    rw [if_neg (show ¬ (ftM a b i).k = 1 by show ¬ (10 : Int) = 1; decide), if_neg (show ¬ (ftM a b i).k = 2 by show ¬ (10 : Int) = 2; decide)]
    rfl
  unfold mayM
  rw [hs, hk, hl, hn, he]
  simp
theorem send_ftR {n a b i : Int} {cut : List Bool} {cs : List MX} (hn : crowdB n = true) (h1 : 1 ≤ i) (h2 : i ≤ 1099511627776) : nsndR n cut cs (ftX a b i) = if ftB n a b then (if cutB n cut a b then 0 else if 200 ≤ cs.length then 4 else 0) else 2 := by
  unfold nsndR
  show (if mayM (ftM a b i) [] [] n = true then _ else _) = _
  rw [ft_may hn h1 h2]
  rfl
theorem send_ftL {n a b i : Int} {cut : List Bool} {cs : List MX} (hn : crowdB n = true) (h1 : 1 ≤ i) (h2 : i ≤ 1099511627776) : nsndL n cut cs (ftX a b i) = if ftB n a b then (if cutB n cut a b then cs else if 200 ≤ cs.length then cs else cs ++ [ftX a b i]) else cs := by
  unfold nsndL
  show (if mayM (ftM a b i) [] [] n = true then _ else _) = _
  rw [ft_may hn h1 h2]
  rfl
/-- one is sent -/
theorem nsendf_v {w0 w : World} {g : Nat} {n : Int} {cut : List Bool} {cs cs' : List MX} {F Z : List Item} {a b i r : Int} (HN : NetZ w0 w g n cut cs F Z) (hF : FldW w0) (hn : crowdB n = true) (ha : I64 a) (hb : I64 b) (h1 : 1 ≤ i ∧ i ≤ 1099511627776)
    (hR : (if ftB n a b then (if cutB n cut a b then (0 : Int) else if 200 ≤ cs.length then 4 else 0) else 2) = r) (hL : (if ftB n a b then (if cutB n cut a b then cs else if 200 ≤ cs.length then cs else cs ++ [ftX a b i]) else cs) = cs') :
    Calls Tryd.prog 11 #[.pointer (some ⟨g, 0, none⟩), .agg (mgC (ftM a b i)).toArray] w (RetN w0 g n cut cs' F Z (.int .i64 r)) := by
  have h := nsend_o (m := ftM a b i) (rs := []) (l := []) HN hF hn (ft_s _ _ _ _ _) (ft_ok ha hb ⟨by omega, by omega⟩)
  rw [cx_ft, send_ftR hn h1.1 h1.2, send_ftL hn h1.1 h1.2, hR, hL] at h
  exact h
/-! slices of int that are built -/
theorem in_i : (Tryd.prog.info? 3).map (fun i => (i.zero, i.size)) = some (some (.int .i64 0), 1) := by kernel_rfl
theorem in_u : Tryd.prog.underlying 99 = some (.slice 3) := Tryd.underlying99
def inC (l : List Int) : List Value := l.map (fun x => .int .i64 x)
abbrev inI (gi : Nat) (l : List Int) : Item := .blk gi 3 (inC l)
theorem inC_one (l : List Int) : (inC l).all (·.oneCell') = true := by
  unfold inC
  rw [List.all_eq_true]
  intro x hx
  obtain ⟨y, _, rfl⟩ := List.mem_map.1 hx
  rfl
theorem ex_bslI {a : Act} {oi : Oper} {w : World} {n : Nat} {parts : List (Nat × Operand)} {l : List Int} (ho : oi.op = .buildSlice 99 n parts.toArray) (hv : (parts.map fun x => (x.1, a.eval x.2)) = nums 0 (inC l)) (hn : l.length = n) (h1 : Nat.ble n 1000 = true) (h2 : Nat.ble 1 n = true) :
    (execOp a.eval oi).run Tryd.prog w = .ok (.value (.slice (some ⟨w.heap.size, 0, none⟩) n n)) (w.alloc (.cells (inC l).toArray 3)) := by
  have hn1 := Nat.le_of_ble_eq_true h1
  have hn2 := Nat.le_of_ble_eq_true h2
  cases hi : Tryd.prog.info? 3 with
  | none => have := in_i; rw [hi] at this; cases this
  | some i =>
    have hu := in_i
    rw [hi] at hu
    simp only [Option.map_some, Option.some.injEq, Prod.mk.injEq] at hu
    have hr := run_bsl (P := Tryd.prog) w in_u hi hu.1 hu.2 n (by omega) (by omega) (parts.map fun x => (x.1, a.eval x.2)).toArray (inC l) (by
      have hf := fill_nums (inC l) 0 ((Array.range (n * 1)).map (fun k => (Value.int .i64 0).cells[k % (Value.int .i64 0).cells.size]!)).toList (inC_one l) (by simp [inC, hn])
      rw [List.take_zero, List.nil_append] at hf
      rw [show (parts.map fun x => (x.1, a.eval x.2)).toArray.toList = nums 0 (inC l) from hv, ← hf])
    have e : (parts.toArray.map fun x => (x.1, a.eval x.2)) = (parts.map fun x => (x.1, a.eval x.2)).toArray := by simp
    simp only [execOp, ho, e]
    simp [hr]
theorem Hp.bslI {a : Act} {w0 w : World} {Q : Exit → Act → World → Prop} {L : List Item} {ops : Array Oper} {rest : List Oper} {d : Option Tmp} {tt : TypeId} {ps : String} {af : Array Edge} {gd : Option (Nat × Bool)} (H : Hp w0 w L) {n : Nat} {parts : List (Nat × Operand)} (h : Region.wanted { dst := d, op := .buildSlice 99 n parts.toArray, type := tt, pos := ps, after := af, guard := gd } (yielded ops a.tmps) = true ∧ ∃ l : List Int, (parts.map fun x => (x.1, a.eval x.2)) = nums 0 (inC l) ∧ l.length = n ∧ Nat.ble n 1000 = true ∧ Nat.ble 1 n = true ∧
    ∀ g w', Hp w0 w' (inI g l :: L) → wpList Tryd.prog ops Q rest (a.put d (.slice (some ⟨g, 0, none⟩) n n)) w') :
    wpList Tryd.prog ops Q ({ dst := d, op := .buildSlice 99 n parts.toArray, type := tt, pos := ps, after := af, guard := gd } :: rest) a w := by
  obtain ⟨h1, l, h2, h3, h4, h5, h6⟩ := h
  refine BigFrame.wpList_want h1 fun K hK => ?_
  unfold Oper.wp
  rw [ex_bslI rfl h2 h3 h4 h5]
  exact hK _ _ (h6 _ _ (H.alloc _ _))
/-! all -/
theorem inC_get {l : List Int} {k : Nat} (h : k < l.length) : (inC l)[k]? = some (.int .i64 l[k]) := by
  unfold inC
  rw [List.getElem?_map, List.getElem?_eq_getElem h]
  rfl
def ixs (cs : List MX) : List Int := cs.map (fun x => x.m.ix)
/-- the loop's relation -/
def ChRel (w0 : World) (out : List MX) (is : List Int) (L : List Item) (v : Value) (wr : World) : Prop := ∃ k : Nat, v = .int .i64 k ∧ k ≤ out.length ∧ (∀ j (h : j < out.length) (h2 : j < is.length), j < k → out[j].m.ix = is[j]) ∧ Hp w0 wr L
theorem ch_front {w0 w : World} {g gi : Nat} {n : Int} {A Ao : Option Addr} {k c co : Nat} {cut : List Bool} {fl out : List MX} {N F Z : List Item} {is : List Int} (H : Hp w0 w (netI g n A k c cut :: mwI A c fl :: ((mwI Ao co out :: (N ++ (inI gi is :: F))) ++ Z))) :
    Hp w0 w (inI gi is :: mwI Ao co out :: netI g n A k c cut :: mwI A c fl :: (N ++ (F ++ Z))) := by
  refine H.perm ?_
  have h1 : (netI g n A k c cut :: mwI A c fl :: ((mwI Ao co out :: (N ++ (inI gi is :: F))) ++ Z)) = ([netI g n A k c cut, mwI A c fl] ++ ([mwI Ao co out] ++ (N ++ ([inI gi is] ++ (F ++ Z))))) := by simp
  rw [h1]
  refine ((perm_mid N [inI gi is] (F ++ Z)).append_left [mwI Ao co out] |>.append_left _).trans ?_
  have h2 : ([netI g n A k c cut, mwI A c fl] ++ ([mwI Ao co out] ++ ([inI gi is] ++ (N ++ (F ++ Z))))) = ([netI g n A k c cut, mwI A c fl] ++ ([mwI Ao co out, inI gi is] ++ (N ++ (F ++ Z)))) := by simp
  rw [h2]
  refine (perm_mid [netI g n A k c cut, mwI A c fl] [mwI Ao co out, inI gi is] (N ++ (F ++ Z))).trans ?_
  exact List.Perm.swap _ _ _
theorem ch_back {w0 w : World} {g gi : Nat} {n : Int} {A Ao : Option Addr} {k c co : Nat} {cut : List Bool} {fl out : List MX} {N F Z : List Item} {is : List Int} (H : Hp w0 w (inI gi is :: mwI Ao co out :: netI g n A k c cut :: mwI A c fl :: (N ++ (F ++ Z)))) :
    Hp w0 w (netI g n A k c cut :: mwI A c fl :: ((inI gi is :: F) ++ (mwI Ao co out :: (N ++ Z)))) := by
  refine H.perm ?_
  refine (perm_mid [inI gi is, mwI Ao co out] [netI g n A k c cut, mwI A c fl] (N ++ (F ++ Z))).trans ?_
  refine List.Perm.cons _ (List.Perm.cons _ (List.Perm.cons _ ?_))
  exact (perm_mid (mwI Ao co out :: N) F Z)
theorem ixs_out (out : List MX) : ixs (out.map cx) = out.map (fun x => x.m.ix) := by
  unfold ixs
  rw [List.map_map]
  rfl
theorem bne_nat {a b : Nat} (h : ¬ a = b) : ((a : Int) != (b : Int)) = true := by rw [bne_iff_ne]; omega
theorem beq_nat' {a b : Nat} (h : a = b) : ((a : Int) != (b : Int)) = false := by subst h; simp
set_option maxHeartbeats 4000000 in
theorem nall28_o {w0 w : World} {g gi : Nat} {n : Int} {cut : List Bool} {cs : List MX} {F Z : List Item} {is : List Int} (HN : NetZ w0 w g n cut cs (inI gi is :: F) Z) (hn : crowdB n = true) :
    Calls Tryd.prog 45 #[.pointer (some ⟨g, 0, none⟩), .slice (some ⟨gi, 0, none⟩) is.length is.length] w (RetN w0 g n cut cs (inI gi is :: F) Z (.bool (decide (ixs cs = is)))) := by
  by_cases hl : cs.length = is.length
  · have HG : Hid (∀ out : List MX, out.map cx = cs → ((out.length : Int) != (is.length : Int)) = false) := Lib.hid (fun out h => beq_nat' (by rw [← hl, ← h, List.length_map]))
    go_enter Tryd.func45, Tryd.ntmps45
    go_wp2_with (first | ((with_reducible refine Hp.ld H ?_); refine ⟨rfl, ?_⟩; refine ⟨c_look rfl, ?_⟩; refine ⟨_, _, rfl, ?_⟩; ((repeat ((fail_if_success refine ⟨_, _, _, .z, ?_⟩); refine hs ?_)); refine ⟨_, _, _, .z, ?_⟩); refine ⟨_, rfl, ?_⟩; go_frame) | ((with_reducible refine (nall_o HN hn).mono ?_); rintro _ w1 ⟨Ao, co, out, N, Z2, rfl, ho, hN, hZs, A, c, fl, hcs, hZ, h200, h49, H⟩; have hg := HG.out out ho))
    have hat : ChRel w0 out is (inI gi is :: mwI Ao co out :: netI g n A fl.length c cut :: mwI A c fl :: (N ++ (F ++ Z2))) (.int .i64 (0 : Nat)) w1 := ⟨0, rfl, Nat.zero_le _, fun j _ _ h => absurd h (by omega), ch_front H⟩
    have hol : out.length = is.length := by rw [← hl, ← ho, List.length_map]
    have hm2 : cs.length ≤ 200 := h200
    clear H HG
    go_loopw [6] (fun v wr => ChRel w0 out is (inI gi is :: mwI Ao co out :: netI g n A fl.length c cut :: mwI A c fl :: (N ++ (F ++ Z2))) v wr) (fun v _ => out.length - (intOf v).toNat)
    case atStart => exact hat
    case round =>
      clear hat hg
      obtain ⟨k, rfl, hk, hall, H⟩ := hrel
      by_cases hlt : k < out.length
      · have hk1 : IntKind.i64.wrap ((k : Int) + 1) = ((k + 1 : Nat) : Int) := IntWalk.i64_in _ (by omega)
        have hki : k < is.length := by omega
        obtain ⟨gO, rfl⟩ := H.rowsA 1 rfl (by omega)
        have hin := inC_get hki
        have hrow : ∀ y : HpS w0 (inI gi is :: mwI (some ⟨gO, 0, none⟩) co out :: netI g n A fl.length c cut :: mwI A c fl :: (N ++ (F ++ Z2))), y.val.cell? ⟨gO, k * 27 + 5, none⟩ = some (.int .i64 out[k].m.ix) := fun y => by
          have := y.2.cellR mxC_len 1 rfl k 5 hlt (v := .int .i64 out[k].m.ix) rfl
          rwa [Nat.zero_add] at this
        have HALL := Lib.hid hall
        have HO := Lib.hid ho
        have HL := Lib.hid hol
        clear hall ho hol hl
        cases hq : (out[k].m.ix != is[k])
        · go_wp2_with (first | ((with_reducible refine Hp.ld H ?_); refine ⟨rfl, ?_⟩; refine ⟨c_look rfl, ?_⟩; refine ⟨_, _, rfl, ?_⟩; ((repeat ((fail_if_success refine ⟨_, _, _, .z, ?_⟩); refine hs ?_)); refine ⟨_, _, _, .z, ?_⟩); refine ⟨_, rfl, ?_⟩; go_frame) | ((with_reducible refine (nall_o HN hn).mono ?_); rintro _ w1 ⟨Ao, co, out, N, Z2, rfl, ho, hN, hZs, A, c, fl, hcs, hZ, h200, h49, H⟩; have hg := HG.out out ho))
          ((with_reducible refine wp_region_hpK H (by kernel_rfl) (by kernel_rfl) ?_); intro _ KQ hKQ; (repeat (first | go_big_quiet_skip | ((with_reducible refine hq_ld ?_); refine ⟨rfl, ?_⟩; refine ⟨c_look rfl, ?_⟩; refine ⟨_, _, rfl, ?_⟩; ((repeat ((fail_if_success refine ⟨_, _, _, .z, ?_⟩); refine hs ?_)); refine ⟨_, _, _, .z, ?_⟩); refine ⟨_, rfl, ?_⟩; go_frame) | ((with_reducible refine hq_ldW ?_); refine ⟨rfl, c_look rfl, _, rfl, .int .i64 out[k].m.ix, hrow, ?_⟩; go_frame) | ((with_reducible refine hq_ld ?_); refine ⟨rfl, c_look rfl, _, _, rfl, _, _, _, .z, _, hin, ?_⟩; go_frame) | go_big_quiet_step ((fail)))); (with_reducible refine wpQuiet_nil (hKQ _ ?_)); clear hKQ; clear KQ H; intro w1 H)
          go_wp2_with (first | ((with_reducible refine Hp.ld H ?_); refine ⟨rfl, ?_⟩; refine ⟨c_look rfl, ?_⟩; refine ⟨_, _, rfl, ?_⟩; ((repeat ((fail_if_success refine ⟨_, _, _, .z, ?_⟩); refine hs ?_)); refine ⟨_, _, _, .z, ?_⟩); refine ⟨_, rfl, ?_⟩; go_frame) | ((with_reducible refine (nall_o HN hn).mono ?_); rintro _ w1 ⟨Ao, co, out, N, Z2, rfl, ho, hN, hZs, A, c, fl, hcs, hZ, h200, h49, H⟩; have hg := HG.out out ho))
          go_roundw
          case rel =>
            refine ⟨k + 1, rfl, hlt, fun j hj hj2 hjk => ?_, H⟩
            by_cases hjk2 : j < k
            · exact HALL.out j hj hj2 hjk2
            · obtain rfl : j = k := by omega
              simpa using hq
          case measure => show out.length - (k + 1) < out.length - k; omega
        · have e : decide (ixs cs = is) = false := decide_eq_false (fun h => by
            have h1 : (ixs cs)[k]? = is[k]? := by rw [h]
            rw [← HO.out, ixs_out, List.getElem?_map, List.getElem?_eq_getElem hlt, List.getElem?_eq_getElem hki] at h1
            have h2 : out[k].m.ix = is[k] := by simpa using h1
            rw [h2] at hq
            simp at hq)
          go_wp2_with (first | ((with_reducible refine Hp.ld H ?_); refine ⟨rfl, ?_⟩; refine ⟨c_look rfl, ?_⟩; refine ⟨_, _, rfl, ?_⟩; ((repeat ((fail_if_success refine ⟨_, _, _, .z, ?_⟩); refine hs ?_)); refine ⟨_, _, _, .z, ?_⟩); refine ⟨_, rfl, ?_⟩; go_frame) | ((with_reducible refine (nall_o HN hn).mono ?_); rintro _ w1 ⟨Ao, co, out, N, Z2, rfl, ho, hN, hZs, A, c, fl, hcs, hZ, h200, h49, H⟩; have hg := HG.out out ho))
          ((with_reducible refine wp_region_hpK H (by kernel_rfl) (by kernel_rfl) ?_); intro _ KQ hKQ; (repeat (first | go_big_quiet_skip | ((with_reducible refine hq_ld ?_); refine ⟨rfl, ?_⟩; refine ⟨c_look rfl, ?_⟩; refine ⟨_, _, rfl, ?_⟩; ((repeat ((fail_if_success refine ⟨_, _, _, .z, ?_⟩); refine hs ?_)); refine ⟨_, _, _, .z, ?_⟩); refine ⟨_, rfl, ?_⟩; go_frame) | ((with_reducible refine hq_ldW ?_); refine ⟨rfl, c_look rfl, _, rfl, .int .i64 out[k].m.ix, hrow, ?_⟩; go_frame) | ((with_reducible refine hq_ld ?_); refine ⟨rfl, c_look rfl, _, _, rfl, _, _, _, .z, _, hin, ?_⟩; go_frame) | go_big_quiet_step ((fail)))); (with_reducible refine wpQuiet_nil (hKQ _ ?_)); clear hKQ; clear KQ H; intro w1 H)
          go_wp2_with (first | ((with_reducible refine Hp.ld H ?_); refine ⟨rfl, ?_⟩; refine ⟨c_look rfl, ?_⟩; refine ⟨_, _, rfl, ?_⟩; ((repeat ((fail_if_success refine ⟨_, _, _, .z, ?_⟩); refine hs ?_)); refine ⟨_, _, _, .z, ?_⟩); refine ⟨_, rfl, ?_⟩; go_frame) | ((with_reducible refine (nall_o HN hn).mono ?_); rintro _ w1 ⟨Ao, co, out, N, Z2, rfl, ho, hN, hZs, A, c, fl, hcs, hZ, h200, h49, H⟩; have hg := HG.out out ho))
          go_ret
          rw [e]
          exact ⟨rfl, mwI _ co out :: (N ++ Z2), fun i hi => List.mem_cons_of_mem _ (List.mem_append_right _ (hZs hi)), A, c, fl, hcs, hZ.mono (fun i hi => List.mem_cons_of_mem _ (List.mem_append_right _ hi)), h200, h49, ch_back H⟩
      · obtain rfl : k = out.length := by omega
        have e : decide (ixs cs = is) = true := decide_eq_true (by
          rw [← ho, ixs_out]
          refine List.ext_getElem (by rw [List.length_map, hol]) fun i h1 h2 => ?_
          rw [List.getElem_map]
          exact hall i (by simpa using h1) h2 (by simpa using h1))
        have hjj : decide ((out.length : Int) < (out.length : Int)) = false := decide_eq_false (by omega)
        clear hall ho hol hl
        go_wp2_with (first | ((with_reducible refine Hp.ld H ?_); refine ⟨rfl, ?_⟩; refine ⟨c_look rfl, ?_⟩; refine ⟨_, _, rfl, ?_⟩; ((repeat ((fail_if_success refine ⟨_, _, _, .z, ?_⟩); refine hs ?_)); refine ⟨_, _, _, .z, ?_⟩); refine ⟨_, rfl, ?_⟩; go_frame) | ((with_reducible refine (nall_o HN hn).mono ?_); rintro _ w1 ⟨Ao, co, out, N, Z2, rfl, ho, hN, hZs, A, c, fl, hcs, hZ, h200, h49, H⟩; have hg := HG.out out ho))
        go_ret
        rw [e]
        exact ⟨rfl, mwI Ao co out :: (N ++ Z2), fun i hi => List.mem_cons_of_mem _ (List.mem_append_right _ (hZs hi)), A, c, fl, hcs, hZ.mono (fun i hi => List.mem_cons_of_mem _ (List.mem_append_right _ hi)), h200, h49, ch_back H⟩
  · have HG : Hid (∀ out : List MX, out.map cx = cs → ((out.length : Int) != (is.length : Int)) = true) := Lib.hid (fun out h => bne_nat (by rw [← h, List.length_map] at hl; exact hl))
    have e : decide (ixs cs = is) = false := decide_eq_false (fun h => hl (by rw [← h]; simp [ixs]))
    rw [e]
    go_enter Tryd.func45, Tryd.ntmps45
    go_wp2_with (first | ((with_reducible refine Hp.ld H ?_); refine ⟨rfl, ?_⟩; refine ⟨c_look rfl, ?_⟩; refine ⟨_, _, rfl, ?_⟩; ((repeat ((fail_if_success refine ⟨_, _, _, .z, ?_⟩); refine hs ?_)); refine ⟨_, _, _, .z, ?_⟩); refine ⟨_, rfl, ?_⟩; go_frame) | ((with_reducible refine (nall_o HN hn).mono ?_); rintro _ w1 ⟨Ao, co, out, N, Z2, rfl, ho, hN, hZs, A, c, fl, hcs, hZ, h200, h49, H⟩; have hg := HG.out out ho))
    go_ret
    exact ⟨rfl, mwI Ao co out :: (N ++ Z2), fun i hi => List.mem_cons_of_mem _ (List.mem_append_right _ (hZs hi)), A, c, fl, hcs, hZ.mono (fun i hi => List.mem_cons_of_mem _ (List.mem_append_right _ hi)), h200, h49, ch_back (ch_front H)⟩
end Go.Proofs.YtiieakndjheknaaDoor

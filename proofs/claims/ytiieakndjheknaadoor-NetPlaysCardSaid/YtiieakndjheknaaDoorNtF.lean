/-
  THE WALKS OF (*net.Net).Heal, All.
-/
import Derived.Test.YtiieakndjheknaaDoorNtE
namespace Go.Proofs.YtiieakndjheknaaDoor
set_option maxRecDepth 100000
open Go.RowKit
set_option linter.unusedVariables false
set_option linter.unusedSimpArgs false
def b7 : Value := .agg (List.replicate 7 (.bool false)).toArray
theorem b7_info : (Tryd.prog.info? 38).map (fun i => (i.zero, i.size, i.bytes)) = some (some b7, 7, 7) := by kernel_rfl
theorem bs_u : Tryd.prog.underlying 81 = some (.slice 38) := Tryd.underlying81
theorem b7_one : ∀ u ∈ b7.cells.toList, u.oneCell' = true := by
  intro u hu
  have : u = .bool false := List.eq_of_mem_replicate (show u ∈ List.replicate 7 (.bool false) from hu)
  subst this
  rfl
theorem b7_zero : (Builtin.zeroCells b7.cells 7).toList = List.replicate 49 (.bool false) := by
  apply List.ext_getElem
  · simp [Builtin.zeroCells, b7]; rfl
  · intro i h1 h2
    rw [List.getElem_replicate]
    have hm : i % 7 < 7 := Nat.mod_lt _ (by decide)
    simp only [Builtin.zeroCells, Array.toList_map, List.getElem_map]
    show (List.replicate 7 (Value.bool false)).toArray[(Array.range (7 * (List.replicate 7 (Value.bool false)).toArray.size)).toList[i] % (List.replicate 7 (Value.bool false)).toArray.size]! = _
    rw [getElem!_pos _ _ (by exact Nat.mod_lt _ (by decide))]
    exact List.eq_of_mem_replicate (n := 7) (Array.getElem_mem_toList _)
theorem net_heal (n : Int) (A : Option Addr) (k c : Nat) (cut : List Bool) (h : cut.length = 49) : (netC n A k c cut).take 2 ++ (Builtin.zeroCells b7.cells 7).toList ++ (netC n A k c cut).drop (2 + 7 * b7.cells.size) = netC n A k c cut0 := by
  have e : (netC n A k c cut).drop (2 + 7 * b7.cells.size) = [] := by
    rw [List.drop_eq_nil_iff]
    show (Value.int .i64 n :: .slice A k c :: cut.map Value.bool).length ≤ 51
    simp [h]
  rw [e, b7_zero, List.append_nil]
  show (Value.int .i64 n :: .slice A k c :: List.replicate 49 (.bool false)) = _
  unfold netC cut0
  rw [List.map_replicate]
set_option maxHeartbeats 1000000 in
theorem nheal_o {w0 w : World} {g : Nat} {n : Int} {cut : List Bool} {cs : List MX} {F Z : List Item} (HN : NetZ w0 w g n cut cs F Z) (hn : crowdB n = true) :
    Calls Tryd.prog 10 #[.pointer (some ⟨g, 0, none⟩)] w (RetN w0 g n cut0 cs F Z (.tuple #[])) := by
  obtain ⟨A, c, fl, hcs, hZ, h200, h49, H⟩ := HN
  have hn0 := crowd_nz hn
  go_enter Tryd.func10, Tryd.ntmps10
  go_wp2_with (first | ((with_reducible refine (nnone_h H hn0).mono ?_); rintro _ w1 ⟨rfl, HQ⟩; replace H := HQ; clear HQ))
  obtain ⟨w3, hr3, H3⟩ := H.clrBlk bs_u (zero_run b7_info) b7_one (by decide) 0 0 (off := 2) (k := 7) (c2 := 7) rfl (by decide) (by show 2 + 7 * 7 ≤ (Value.int .i64 n :: .slice A fl.length c :: cut.map Value.bool).length; simp [h49])
  rw [net_heal n A fl.length c cut h49] at H3
  rw [hr3]
  clear hr3 H
  have H := H3
  clear H3
  go_wp2_with (first | ((with_reducible refine (nnone_h H hn0).mono ?_); rintro _ w1 ⟨rfl, HQ⟩; replace H := HQ; clear HQ))
  go_end0
  exact ⟨rfl, Z, fun _ h => h, A, c, fl, hcs, hZ, h200, by decide, H⟩
theorem MgS.app {w0 w1 : World} {Y L : List Item} {m : Mg} {rs : List Rp} {l : List UInt8} (h : MgS w0 Y m rs l) (s : Y ⊆ L) (H : Hp w0 w1 L) : MgR w1 m rs l := h _ _ s H
theorem sub_al {a b c d : Item} {N P F Z : List Item} : Z ⊆ a :: b :: c :: d :: (N ++ (P ++ (F ++ Z))) := fun i hi => List.mem_cons_of_mem _ (sub3 (List.mem_append_right _ (List.mem_append_right _ (List.mem_append_right _ hi))))
theorem perm_al {α : Type} (a b c d : α) (N R : List α) : (a :: b :: c :: d :: (N ++ R)).Perm ((b :: c :: N) ++ (a :: d :: R)) := by
  refine (perm_mid [a] [b, c] (d :: (N ++ R))).trans ?_
  exact (perm_mid [a, d] N R).cons c |>.cons b
/-- the loop's relation -/
def AlRel (w0 : World) (fl : List MX) (X1 X2 : Item) (F Z : List Item) (v3 v13 : Value) (wr : World) : Prop :=
  ∃ (k : Nat) (out : List MX) (Ao : Option Addr) (co : Nat) (N P : List Item), v3 = .slice Ao out.length co ∧ v13 = .int .i64 k ∧ k ≤ fl.length ∧ out.map cx = (fl.take k).map cx ∧ Held N out ∧
    Hp w0 wr (mwI Ao co out :: X1 :: X2 :: (N ++ (P ++ (F ++ Z))))
/-- what All answers -/
def RetAl (w0 : World) (g : Nat) (n : Int) (cut : List Bool) (cs : List MX) (F Z : List Item) (e : Ending) (w' : World) : Prop :=
  ∃ Ao co out N Z2, e = .returned (.slice Ao out.length co) ∧ out.map cx = cs ∧ Held N out ∧ Z ⊆ Z2 ∧ NetZ w0 w' g n cut cs (mwI Ao co out :: (N ++ F)) Z2
set_option maxHeartbeats 4000000 in
theorem nall_o {w0 w : World} {g : Nat} {n : Int} {cut : List Bool} {cs : List MX} {F Z : List Item} (HN : NetZ w0 w g n cut cs F Z) (hn : crowdB n = true) :
    Calls Tryd.prog 16 #[.pointer (some ⟨g, 0, none⟩)] w (RetAl w0 g n cut cs F Z) := by
  obtain ⟨A, c, fl, hcs, hZ, h200, h49, H⟩ := HN
  have hn0 := crowd_nz hn
  have hm2 : fl.length ≤ 200 := by rw [← hcs, List.length_map] at h200; exact h200
  go_enter Tryd.func16, Tryd.ntmps16
  go_wp2_with (first | ((with_reducible refine Hp.allo (ty := 34) H ?_); refine ⟨rfl, ?_⟩; refine ⟨_, z_look rfl, ?_⟩; (clear H; intro g5 w1 H); go_frame) | ((with_reducible refine Hp.ld H ?_); refine ⟨rfl, ?_⟩; refine ⟨c_look rfl, ?_⟩; refine ⟨_, _, rfl, ?_⟩; (first | refine ⟨_, _, _, .z, ?_⟩ | refine ⟨_, _, _, .s .z, ?_⟩ | refine ⟨_, _, _, .s (.s .z), ?_⟩ | refine ⟨_, _, _, .s (.s (.s .z)), ?_⟩); refine ⟨_, rfl, ?_⟩; go_frame) | ((with_reducible refine Hp.lda H ?_); refine ⟨rfl, by kernel_rfl, ?_⟩; refine ⟨_, s_look rfl, ?_⟩; refine ⟨_, rfl, ?_⟩; (first | refine ⟨_, _, _, .z, ?_⟩ | refine ⟨_, _, _, .s .z, ?_⟩ | refine ⟨_, _, _, .s (.s .z), ?_⟩ | refine ⟨_, _, _, .s (.s (.s .z)), ?_⟩); refine ⟨rfl, ?_⟩; go_frame) | ((with_reducible refine Hp.lds H ?_); refine ⟨rfl, by kernel_rfl, ?_⟩; refine ⟨_, s_look rfl, ?_⟩; refine ⟨_, _, rfl, ?_⟩; (first | refine ⟨_, _, _, .z, ?_⟩ | refine ⟨_, _, _, .s .z, ?_⟩ | refine ⟨_, _, _, .s (.s .z), ?_⟩ | refine ⟨_, _, _, .s (.s (.s .z)), ?_⟩); (first | refine ⟨[_, _], rfl, rfl, ?_⟩ | refine ⟨[_, _, _, _], rfl, rfl, ?_⟩ | refine ⟨[_, _, _, _, _, _, _], rfl, rfl, ?_⟩ | refine ⟨[_, _, _], rfl, rfl, ?_⟩ | (fail)); go_frame) | ((with_reducible refine Hp.sta H ?_); refine ⟨rfl, ?_⟩; refine ⟨_, s_look rfl, ?_⟩; refine ⟨_, rfl, _, rfl, rfl, ?_⟩; (first | refine ⟨_, _, _, .z, ?_⟩ | refine ⟨_, _, _, .s .z, ?_⟩ | refine ⟨_, _, _, .s (.s .z), ?_⟩ | refine ⟨_, _, _, .s (.s (.s .z)), ?_⟩); refine ⟨rfl, rfl, ?_⟩; (clear H; intro w1 H; simp only [List.set] at H); go_frame) | ((with_reducible refine Hp.str H ?_); refine ⟨rfl, ?_⟩; refine ⟨_, s_look rfl, ?_⟩; refine ⟨_, _, rfl, _, rfl, rfl, ?_⟩; (first | refine ⟨_, _, _, .z, ?_⟩ | refine ⟨_, _, _, .s .z, ?_⟩ | refine ⟨_, _, _, .s (.s .z), ?_⟩ | refine ⟨_, _, _, .s (.s (.s .z)), ?_⟩); refine ⟨rfl, _, rfl, _, rfl, Nat.le_of_ble_eq_true rfl, ?_⟩; (clear H; intro w1 H; simp only [List.set] at H); go_frame) | ((with_reducible refine (nnone_h H hn0).mono ?_); rintro _ w1 ⟨rfl, HQ⟩; replace H := HQ; clear HQ))
  have hat : AlRel w0 fl (netI g n A fl.length c cut) (mwI A c fl) F Z (.slice none 0 0) (.int .i64 (0 : Nat)) w1 := ⟨0, [], none, 0, [], [], rfl, rfl, Nat.zero_le _, rfl, Held.nil _, H.nilRow _ _⟩
  clear H
  go_loopw [3, 13] (fun v3 v13 wr => AlRel w0 fl (netI g n A fl.length c cut) (mwI A c fl) F Z v3 v13 wr) (fun _ v13 _ => fl.length - (intOf v13).toNat)
  case atStart => exact hat
  case round =>
    clear hat
    obtain ⟨k, out, Ao, co, N, P, rfl, rfl, hk, ho, hN, H⟩ := hrel
    by_cases hlt : k < fl.length
    · have hk1 : IntKind.i64.wrap ((k : Int) + 1) = ((k + 1 : Nat) : Int) := IntWalk.i64_in _ (by omega)
      obtain ⟨gF, rfl⟩ := H.rowsA 2 rfl (by omega)
      have hmem : fl[k] ∈ fl := List.getElem_mem hlt
      have hok : OkX fl[k] := (hZ _ hmem).1
      have hM : MgS w0 Z fl[k].m fl[k].rs fl[k].l := hZ.S hmem w0
      have hol : out.length ≤ 1000000 := by have := congrArg List.length ho; rw [List.length_map, List.length_map, List.length_take] at this; omega
      have hr1 : fl[k].rs.length ≤ 1000000 := hok.2.2.2.2.1
      have hl1 : fl[k].l.length ≤ 1000000 := hok.2.2.2.2.2
      clear hmem
      go_wp2_with (first | ((with_reducible refine Hp.allo (ty := 34) H ?_); refine ⟨rfl, ?_⟩; refine ⟨_, z_look rfl, ?_⟩; (clear H; intro g5 w1 H); go_frame) | ((with_reducible refine Hp.ld H ?_); refine ⟨rfl, ?_⟩; refine ⟨c_look rfl, ?_⟩; refine ⟨_, _, rfl, ?_⟩; (first | refine ⟨_, _, _, .z, ?_⟩ | refine ⟨_, _, _, .s .z, ?_⟩ | refine ⟨_, _, _, .s (.s .z), ?_⟩ | refine ⟨_, _, _, .s (.s (.s .z)), ?_⟩); refine ⟨_, rfl, ?_⟩; go_frame) | ((with_reducible refine Hp.lda H ?_); refine ⟨rfl, by kernel_rfl, ?_⟩; refine ⟨_, s_look rfl, ?_⟩; refine ⟨_, rfl, ?_⟩; (first | refine ⟨_, _, _, .z, ?_⟩ | refine ⟨_, _, _, .s .z, ?_⟩ | refine ⟨_, _, _, .s (.s .z), ?_⟩ | refine ⟨_, _, _, .s (.s (.s .z)), ?_⟩); refine ⟨rfl, ?_⟩; go_frame) | ((with_reducible refine Hp.lds H ?_); refine ⟨rfl, by kernel_rfl, ?_⟩; refine ⟨_, s_look rfl, ?_⟩; refine ⟨_, _, rfl, ?_⟩; (first | refine ⟨_, _, _, .z, ?_⟩ | refine ⟨_, _, _, .s .z, ?_⟩ | refine ⟨_, _, _, .s (.s .z), ?_⟩ | refine ⟨_, _, _, .s (.s (.s .z)), ?_⟩); (first | refine ⟨[_, _], rfl, rfl, ?_⟩ | refine ⟨[_, _, _, _], rfl, rfl, ?_⟩ | refine ⟨[_, _, _, _, _, _, _], rfl, rfl, ?_⟩ | refine ⟨[_, _, _], rfl, rfl, ?_⟩ | (fail)); go_frame) | ((with_reducible refine Hp.sta H ?_); refine ⟨rfl, ?_⟩; refine ⟨_, s_look rfl, ?_⟩; refine ⟨_, rfl, _, rfl, rfl, ?_⟩; (first | refine ⟨_, _, _, .z, ?_⟩ | refine ⟨_, _, _, .s .z, ?_⟩ | refine ⟨_, _, _, .s (.s .z), ?_⟩ | refine ⟨_, _, _, .s (.s (.s .z)), ?_⟩); refine ⟨rfl, rfl, ?_⟩; (clear H; intro w1 H; simp only [List.set] at H); go_frame) | ((with_reducible refine Hp.str H ?_); refine ⟨rfl, ?_⟩; refine ⟨_, s_look rfl, ?_⟩; refine ⟨_, _, rfl, _, rfl, rfl, ?_⟩; (first | refine ⟨_, _, _, .z, ?_⟩ | refine ⟨_, _, _, .s .z, ?_⟩ | refine ⟨_, _, _, .s (.s .z), ?_⟩ | refine ⟨_, _, _, .s (.s (.s .z)), ?_⟩); refine ⟨rfl, _, rfl, _, rfl, Nat.le_of_ble_eq_true rfl, ?_⟩; (clear H; intro w1 H; simp only [List.set] at H); go_frame) | ((with_reducible refine Hp.ldRow (f := mxC) mxC_len H ?_); refine ⟨rfl, by kernel_rfl, s_Msg, _, _, rfl, 2, _, _, _, rfl, k, rfl, hlt, ?_⟩; go_frame) | ((with_reducible refine (nown_any _ _ _ _ (hM.app sub_al H) hr1 hl1).mono ?_); rintro _ w1 ⟨A1, c1, A2, c2, rfl, HQ⟩; replace H := HQ.onto H; clear HQ; simp only [List.cons_append, List.nil_append] at H) | ((with_reducible refine Hp.bsl1 H ms_u ms_info2 rfl rfl ?_); refine ⟨rfl, mgC (cpM fl[k].m fl[k].rs fl[k].l A1 c1 A2 c2), rfl, rfl, ?_⟩; (clear H; intro gb w1 H); go_frame) | (at_builtin; (with_reducible refine Hp.wlAppRow H ms_u ms_info rfl rfl rfl ?_); refine ⟨4, _, _, _, _, rfl, rfl, 0, _, _, _, _, rfl, rfl, rfl, mgC_one _, hol, ?_⟩; (clear H; intro A3 c3 w1 H); simp only [List.set_cons_succ, List.set_cons_zero] at H))
      have e : Item.own 34 27 A3 (out.length + 1) c3 (rowsC mxC out ++ mgC (cpM fl[k].m fl[k].rs fl[k].l A1 c1 A2 c2)) = mwI A3 c3 (out ++ [⟨cpM fl[k].m fl[k].rs fl[k].l A1 c1 A2 c2, fl[k].rs, fl[k].l⟩]) := mw_app out ⟨cpM fl[k].m fl[k].rs fl[k].l A1 c1 A2 c2, fl[k].rs, fl[k].l⟩ A3 c3
      rw [e] at H
      clear e
      go_roundw
      case rel =>
        refine ⟨k + 1, out ++ [⟨cpM fl[k].m fl[k].rs fl[k].l A1 c1 A2 c2, fl[k].rs, fl[k].l⟩], A3, c3, .bytes A2 c2 fl[k].l :: rwI A1 c1 fl[k].rs :: N, .blk gb 34 (mgC (cpM fl[k].m fl[k].rs fl[k].l A1 c1 A2 c2)) :: .blk g5 34 (mgC fl[k].m) :: P, ?_, rfl, hlt, ?_, ?_, ?_⟩
        · rw [List.length_append]; rfl
        · rw [List.map_append, ho, List.take_succ_eq_append_getElem hlt, List.map_append]; rfl
        · exact Held.snoc (hN.mono sub2) (OkX.cp hok _ _ _ _) List.mem_cons_self (List.mem_cons_of_mem _ List.mem_cons_self)
        · exact (H.mid3 [_, _, _, _]).perm (List.Perm.cons _ (List.Perm.cons _ (List.Perm.cons _ (perm_al _ _ _ _ N (P ++ (F ++ Z))))))
      case measure => show fl.length - (k + 1) < fl.length - k; omega
    · obtain rfl : k = fl.length := by omega
      have hjj : decide ((fl.length : Int) < (fl.length : Int)) = false := decide_eq_false (by omega)
      go_wp2_with (first | ((with_reducible refine Hp.allo (ty := 34) H ?_); refine ⟨rfl, ?_⟩; refine ⟨_, z_look rfl, ?_⟩; (clear H; intro g5 w1 H); go_frame) | ((with_reducible refine Hp.ld H ?_); refine ⟨rfl, ?_⟩; refine ⟨c_look rfl, ?_⟩; refine ⟨_, _, rfl, ?_⟩; (first | refine ⟨_, _, _, .z, ?_⟩ | refine ⟨_, _, _, .s .z, ?_⟩ | refine ⟨_, _, _, .s (.s .z), ?_⟩ | refine ⟨_, _, _, .s (.s (.s .z)), ?_⟩); refine ⟨_, rfl, ?_⟩; go_frame) | ((with_reducible refine Hp.lda H ?_); refine ⟨rfl, by kernel_rfl, ?_⟩; refine ⟨_, s_look rfl, ?_⟩; refine ⟨_, rfl, ?_⟩; (first | refine ⟨_, _, _, .z, ?_⟩ | refine ⟨_, _, _, .s .z, ?_⟩ | refine ⟨_, _, _, .s (.s .z), ?_⟩ | refine ⟨_, _, _, .s (.s (.s .z)), ?_⟩); refine ⟨rfl, ?_⟩; go_frame) | ((with_reducible refine Hp.lds H ?_); refine ⟨rfl, by kernel_rfl, ?_⟩; refine ⟨_, s_look rfl, ?_⟩; refine ⟨_, _, rfl, ?_⟩; (first | refine ⟨_, _, _, .z, ?_⟩ | refine ⟨_, _, _, .s .z, ?_⟩ | refine ⟨_, _, _, .s (.s .z), ?_⟩ | refine ⟨_, _, _, .s (.s (.s .z)), ?_⟩); (first | refine ⟨[_, _], rfl, rfl, ?_⟩ | refine ⟨[_, _, _, _], rfl, rfl, ?_⟩ | refine ⟨[_, _, _, _, _, _, _], rfl, rfl, ?_⟩ | refine ⟨[_, _, _], rfl, rfl, ?_⟩ | (fail)); go_frame) | ((with_reducible refine Hp.sta H ?_); refine ⟨rfl, ?_⟩; refine ⟨_, s_look rfl, ?_⟩; refine ⟨_, rfl, _, rfl, rfl, ?_⟩; (first | refine ⟨_, _, _, .z, ?_⟩ | refine ⟨_, _, _, .s .z, ?_⟩ | refine ⟨_, _, _, .s (.s .z), ?_⟩ | refine ⟨_, _, _, .s (.s (.s .z)), ?_⟩); refine ⟨rfl, rfl, ?_⟩; (clear H; intro w1 H; simp only [List.set] at H); go_frame) | ((with_reducible refine Hp.str H ?_); refine ⟨rfl, ?_⟩; refine ⟨_, s_look rfl, ?_⟩; refine ⟨_, _, rfl, _, rfl, rfl, ?_⟩; (first | refine ⟨_, _, _, .z, ?_⟩ | refine ⟨_, _, _, .s .z, ?_⟩ | refine ⟨_, _, _, .s (.s .z), ?_⟩ | refine ⟨_, _, _, .s (.s (.s .z)), ?_⟩); refine ⟨rfl, _, rfl, _, rfl, Nat.le_of_ble_eq_true rfl, ?_⟩; (clear H; intro w1 H; simp only [List.set] at H); go_frame) | (fail))
      go_ret
      refine ⟨Ao, co, out, N, P ++ Z, rfl, ?_, hN, fun i hi => List.mem_append_right _ hi, A, c, fl, hcs, hZ.mono (fun i hi => List.mem_append_right _ hi), h200, h49, ?_⟩
      · rw [ho, List.take_length, hcs]
      · refine H.rot3.perm (List.Perm.cons _ (List.Perm.cons _ (List.Perm.cons _ ?_)))
        show (N ++ (P ++ (F ++ Z))).Perm ((N ++ F) ++ (P ++ Z))
        rw [List.append_assoc]
        exact (perm_mid P F Z).append_left N
end Go.Proofs.YtiieakndjheknaaDoor

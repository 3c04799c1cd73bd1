/-
  THE WALK OF the reference's reports (their bytes).
-/
import Derived.Test.YtajgikjmoeemnaaDoorPk5
import Derived.Test.YtajgikjmoeemnaaDoorEntT
namespace Go.Proofs.YtajgikjmoeemnaaDoor
set_option maxRecDepth 100000
open Go.RowKit
set_option linter.unusedVariables false
set_option linter.unusedSimpArgs false
theorem repB_bd {x : Rp} {n : Int} (h : repB x n = true) : (1 ≤ x.ix ∧ x.ix ≤ 1099511627776) ∧ (x.st = 2 ∨ x.st = 3 ∨ x.st = 4) ∧ (x.st = 4 ∨ balM x.r x.p n = true) := by
  simp only [repB, numB, Bool.and_eq_true, Bool.or_eq_true, decide_eq_true_eq, beq_iff_eq] at h
  obtain ⟨h1, ⟨h2, h3, _⟩ | ⟨h2, h3, _⟩ | ⟨h2, _⟩⟩ := h
  · exact ⟨h1, .inl h2, .inr h3⟩
  · exact ⟨h1, .inr (.inl h2), .inr h3⟩
  · exact ⟨h1, .inr (.inr h2), .inl h2⟩
theorem balM_bd {r p n : Int} (h : balM r p n = true) : 1 ≤ r ∧ r ≤ 1099511627776 ∧ 0 ≤ p ∧ p < 7 := by
  simp only [balM, Bool.and_eq_true, decide_eq_true_eq] at h
  have : n = 3 ∨ n = 5 ∨ n = 7 := by simpa [crowdB] using h.1
  omega
theorem sl_eq {A : Option Addr} {n m c : Nat} (h : n = m) : Value.slice A n c = .slice A m c := by rw [h]
def YRel (w : World) (p0 : List UInt8) (rs : List Rp) (vo vi : Value) (wr : World) : Prop :=
  ∃ (k : Nat) (A : Option Addr) (c : Nat) (cur : List UInt8), k ≤ rs.length ∧ cur = p0 ++ repsL (rs.take k) ∧ cur.length ≤ 10 + 80 * k ∧ vo = .slice A cur.length c ∧ vi = .int .i64 k ∧ Hp w wr [.bytes A c cur]
set_option maxHeartbeats 8000000 in
theorem rreps_any (A : Option Addr) (c : Nat) (rs : List Rp) (n : Int) (w : World) (hr : RRp w A rs) (hok : ∀ x ∈ rs, RpOk x) (hB : ∀ x ∈ rs, repB x n = true) (h24 : rs.length ≤ 24) (hl : rs.length ≤ c) (hm0 : c ≤ maxLen) :
    Calls Tryd.prog 28 #[.slice A rs.length c] w (RetB w (putL 1 (rs.length : Int) ++ repsL rs)) := by
  have H := Hp.nil w
  have hw0 : IntKind.u8.wrap (rs.length : Int) = (rs.length : Int) := by unfold IntKind.wrap; simp [IntKind.signed, IntKind.bits]; omega
  have HB0 : Hid ([Value.int .u8 (rs.length : Int)] = bvs [UInt8.ofNat rs.length]) := Lib.hid (by show _ = [Value.int .u8 ((UInt8.ofNat rs.length).toNat : Int)]; rw [ofNat_toNat, Nat.mod_eq_of_lt (by omega)])
  have hp : putL 1 (rs.length : Int) = [UInt8.ofNat rs.length] := by rw [putL_one (by omega) (by omega)]; simp [leB]
  rw [hp]
  clear hp
  have HNU := True.intro
  have HBA := True.intro
  have hrb := True.intro
  have hre := True.intro
  have HSE := True.intro
  go_enter Tryd.func28, Tryd.ntmps28
  go_wp2_with (first | ((with_reducible refine Hp.bslB (parts := [_]) H ?_); refine ⟨rfl, rfl, rfl, _, rfl, [UInt8.ofNat rs.length], HB0.out, rfl, ?_⟩; (clear H; intro g0 w1 H); go_frame))
  have hat : YRel w [UInt8.ofNat rs.length] rs (.slice (some ⟨g0, 0, none⟩) 1 1) (.int .i64 (0 : Nat)) w1 := ⟨0, some ⟨g0, 0, none⟩, 1, [UInt8.ofNat rs.length], Nat.zero_le _, by simp [repsL], by simp, rfl, rfl, H⟩
  clear H HB0 hw0 HNU HBA hrb hre HSE
  go_loopw [3, 4, 5, 6] (fun vo vi _ _ wr => YRel w [UInt8.ofNat rs.length] rs vo vi wr) (fun _ vi _ _ _ => rs.length - (intOf vi).toNat)
  case atStart => exact hat
  case round =>
    clear hat
    obtain ⟨k, Ac, cc, cur, hk, hcur, hcl, rfl, rfl, H⟩ := hrel
    have HCU := Lib.hid hcur
    clear hcur
    have HB0 := True.intro
    unfold maxLen at hm0
    by_cases hlt : k < rs.length
    · obtain ⟨b, o, rfl, hrow⟩ := hr (fun e => by subst e; simp at hlt)
      have hK := hlt
      have hrk := hrow k hlt
      have hbd := repB_bd (hB _ (List.getElem_mem hlt))
      have hxok := hok _ (List.getElem_mem hlt)
      obtain ⟨x, hxe⟩ : ∃ x, rs[k] = x := ⟨_, rfl⟩
      rw [hxe] at hrk hbd hxok
      have HXE := Lib.hid hxe
      clear hxe hrow
      obtain ⟨ix, st, xr, xp, e⟩ := x
      obtain ⟨⟨i1, i2⟩, hst, hba⟩ := hbd
      have HSE := Lib.hid hxok.2.2.2.2.1
      have hix : w.cell? ⟨b, o + k * 11, none⟩ = some (.int .i64 ix) := hrk 0 _ rfl
      have hsc : w.cell? ⟨b, o + k * 11 + 1, none⟩ = some (.int .u8 st) := hrk 1 _ rfl
      have hrb : w.rangeAt b (o + k * 11 + 2) (baC xr xp) := fun j v hj => by
        have h2 : j < 2 := (List.getElem?_eq_some_iff.1 hj).1
        have := hrk (2 + j) v (by obtain rfl | rfl : j = 0 ∨ j = 1 := by omega
                                  all_goals exact hj)
        rwa [← Nat.add_assoc] at this
      have hre : w.rangeAt b (o + k * 11 + 4) (enC e) := fun j v hj => by
        have h2 : j < 7 := (List.getElem?_eq_some_iff.1 hj).1
        have := hrk (4 + j) v (by obtain rfl | rfl | rfl | rfl | rfl | rfl | rfl : j = 0 ∨ j = 1 ∨ j = 2 ∨ j = 3 ∨ j = 4 ∨ j = 5 ∨ j = 6 := by omega
                                  all_goals exact hj)
        rwa [← Nat.add_assoc] at this
      simp only at i1 i2 hst hba
      have HNU : Hid (∀ w, Calls Tryd.prog 24 #[.int .i64 ix, .int .i64 6] w (RetB w (putL 6 ix))) := Lib.hid (fun w => rnum6 (by omega) (by omega) w)
      have m1 := putL_length6 6 ix
      have m3 := putL_length6 6 xr
      have m4 := putL_length6 1 xp
      have m5 := bytesL_len e
      clear hrk hxok i1 i2
      have p2 : putL 1 2 = [UInt8.ofNat 2] := by decide
      have p3 : putL 1 3 = [UInt8.ofNat 3] := by decide
      have p4 : putL 1 4 = [UInt8.ofNat 4] := by decide
      rcases hst with rfl | rfl | rfl
      · have hb2 := balM_bd (hba.resolve_left (by decide))
        have HBA : Hid (∀ w, Calls Tryd.prog 23 #[.agg (baC xr xp).toArray] w (RetB w (putL 6 xr ++ putL 1 xp))) := Lib.hid (fun w => rbal20_any xr xp w (by omega) (by omega) (by omega) (by omega))
        have HRP : Hid (repL ⟨ix, 2, xr, xp, e⟩ = putL 6 ix ++ [UInt8.ofNat 2] ++ (putL 6 xr ++ putL 1 xp ++ bytesL e)) := Lib.hid (by unfold repL; simp [p2])
        have HRL : Hid ((putL 6 ix ++ [UInt8.ofNat 2] ++ (putL 6 xr ++ putL 1 xp ++ bytesL e)).length ≤ 80) := Lib.hid (by rw [← HRP.out]; exact repL_len _)
        clear hb2 hba p2 p3 p4
        go_wp2_with (first | ((with_reducible refine Hp.bslB (parts := [_]) H ?_); refine ⟨rfl, rfl, rfl, _, rfl, [UInt8.ofNat 2], rfl, rfl, ?_⟩; (clear H; intro g1 w1 H); go_frame) | ((with_reducible refine (HNU.out _).mono ?_); rintro _ w1 ⟨A1, c1, rfl, hown, hb⟩; replace H := H.callOwn hb hown; clear hb hown) | ((with_reducible refine (HBA.out _).mono ?_); rintro _ w1 ⟨A1, c1, rfl, hown, hb⟩; replace H := H.callOwn hb hown; clear hb hown) | ((with_reducible refine (rbytes_any e HSE.out _).mono ?_); rintro _ w1 ⟨A1, c1, rfl, hown, hb⟩; replace H := H.callOwn hb hown; clear hb hown) | (at_builtin; refine H.wlAppendBytes rfl _ _ rfl 1 _ _ _ _ (by rfl) rfl (by first | rfl | (simp only [List.length_append, List.length_cons, List.length_nil]; first | done | omega)) _ _ _ _ (by rfl) (by first | rfl | (simp only [List.length_append, List.length_cons, List.length_nil]; first | done | omega)) (H.o 0 rfl).rd (by first | omega | (simp only [List.length_append, List.length_cons, List.length_nil]; omega)) ?_; (clear H; intro A1 c1 w1 H); simp only [List.set_cons_succ, List.set_cons_zero] at H; replace H := H.tail) | ((with_reducible refine Hp.ldo H ?_); refine ⟨rfl, ?_⟩; refine ⟨c_look rfl, ?_⟩; refine ⟨_, rfl, ?_⟩; refine ⟨_, ‹_›, ?_⟩; go_frame) | ((with_reducible refine Hp.ldrO H ?_); refine ⟨rfl, by kernel_rfl, _, _, rfl, _, hrb, s_Ballot, ?_⟩; go_frame) | ((with_reducible refine Hp.ldrO H ?_); refine ⟨rfl, by kernel_rfl, _, _, rfl, _, hre, s_Entry, ?_⟩; go_frame)); go_roundw; (case rel => refine ⟨k + 1, A1, c1, _, hK, ?_, ?_, ?_, rfl, H⟩; (· rw [repsL_snoc rs k hK, HXE.out, HRP.out, HCU.out]; simp only [List.append_assoc, List.nil_append]); (· have := HRL.out; simp only [List.length_append, List.length_cons, List.length_nil] at this ⊢; omega); (· refine sl_eq ?_; simp only [List.length_append, List.length_cons, List.length_nil]; first | done | omega)); (case measure => show rs.length - ((k : Int) + 1).toNat < rs.length - ((k : Int)).toNat; omega)
      · have hb2 := balM_bd (hba.resolve_left (by decide))
        have HBA : Hid (∀ w, Calls Tryd.prog 23 #[.agg (baC xr xp).toArray] w (RetB w (putL 6 xr ++ putL 1 xp))) := Lib.hid (fun w => rbal20_any xr xp w (by omega) (by omega) (by omega) (by omega))
        have HRP : Hid (repL ⟨ix, 3, xr, xp, e⟩ = putL 6 ix ++ [UInt8.ofNat 3] ++ (putL 6 xr ++ putL 1 xp)) := Lib.hid (by unfold repL; simp [p3])
        have HRL : Hid ((putL 6 ix ++ [UInt8.ofNat 3] ++ (putL 6 xr ++ putL 1 xp)).length ≤ 80) := Lib.hid (by rw [← HRP.out]; exact repL_len _)
        clear hb2 hba p2 p3 p4
        go_wp2_with (first | ((with_reducible refine Hp.bslB (parts := [_]) H ?_); refine ⟨rfl, rfl, rfl, _, rfl, [UInt8.ofNat 3], rfl, rfl, ?_⟩; (clear H; intro g1 w1 H); go_frame) | ((with_reducible refine (HNU.out _).mono ?_); rintro _ w1 ⟨A1, c1, rfl, hown, hb⟩; replace H := H.callOwn hb hown; clear hb hown) | ((with_reducible refine (HBA.out _).mono ?_); rintro _ w1 ⟨A1, c1, rfl, hown, hb⟩; replace H := H.callOwn hb hown; clear hb hown) | (at_builtin; refine H.wlAppendBytes rfl _ _ rfl 1 _ _ _ _ (by rfl) rfl (by first | rfl | (simp only [List.length_append, List.length_cons, List.length_nil]; first | done | omega)) _ _ _ _ (by rfl) (by first | rfl | (simp only [List.length_append, List.length_cons, List.length_nil]; first | done | omega)) (H.o 0 rfl).rd (by first | omega | (simp only [List.length_append, List.length_cons, List.length_nil]; omega)) ?_; (clear H; intro A1 c1 w1 H); simp only [List.set_cons_succ, List.set_cons_zero] at H; replace H := H.tail) | ((with_reducible refine Hp.ldo H ?_); refine ⟨rfl, ?_⟩; refine ⟨c_look rfl, ?_⟩; refine ⟨_, rfl, ?_⟩; refine ⟨_, ‹_›, ?_⟩; go_frame) | ((with_reducible refine Hp.ldrO H ?_); refine ⟨rfl, by kernel_rfl, _, _, rfl, _, hrb, s_Ballot, ?_⟩; go_frame)); go_roundw; (case rel => refine ⟨k + 1, A1, c1, _, hK, ?_, ?_, ?_, rfl, H⟩; (· rw [repsL_snoc rs k hK, HXE.out, HRP.out, HCU.out]; simp only [List.append_assoc, List.nil_append]); (· have := HRL.out; simp only [List.length_append, List.length_cons, List.length_nil] at this ⊢; omega); (· refine sl_eq ?_; simp only [List.length_append, List.length_cons, List.length_nil]; first | done | omega)); (case measure => show rs.length - ((k : Int) + 1).toNat < rs.length - ((k : Int)).toNat; omega)
      · have HBA := True.intro
        have HRP : Hid (repL ⟨ix, 4, xr, xp, e⟩ = putL 6 ix ++ [UInt8.ofNat 4]) := Lib.hid (by unfold repL; simp [p4])
        have HRL : Hid ((putL 6 ix ++ [UInt8.ofNat 4]).length ≤ 80) := Lib.hid (by rw [← HRP.out]; exact repL_len _)
        clear hba p2 p3 p4
        go_wp2_with (first | ((with_reducible refine Hp.bslB (parts := [_]) H ?_); refine ⟨rfl, rfl, rfl, _, rfl, [UInt8.ofNat 4], rfl, rfl, ?_⟩; (clear H; intro g1 w1 H); go_frame) | ((with_reducible refine (HNU.out _).mono ?_); rintro _ w1 ⟨A1, c1, rfl, hown, hb⟩; replace H := H.callOwn hb hown; clear hb hown) | (at_builtin; refine H.wlAppendBytes rfl _ _ rfl 1 _ _ _ _ (by rfl) rfl (by first | rfl | (simp only [List.length_append, List.length_cons, List.length_nil]; first | done | omega)) _ _ _ _ (by rfl) (by first | rfl | (simp only [List.length_append, List.length_cons, List.length_nil]; first | done | omega)) (H.o 0 rfl).rd (by first | omega | (simp only [List.length_append, List.length_cons, List.length_nil]; omega)) ?_; (clear H; intro A1 c1 w1 H); simp only [List.set_cons_succ, List.set_cons_zero] at H; replace H := H.tail) | ((with_reducible refine Hp.ldo H ?_); refine ⟨rfl, ?_⟩; refine ⟨c_look rfl, ?_⟩; refine ⟨_, rfl, ?_⟩; refine ⟨_, ‹_›, ?_⟩; go_frame)); go_roundw; (case rel => refine ⟨k + 1, A1, c1, _, hK, ?_, ?_, ?_, rfl, H⟩; (· rw [repsL_snoc rs k hK, HXE.out, HRP.out, HCU.out]; simp only [List.append_assoc, List.nil_append]); (· have := HRL.out; simp only [List.length_append, List.length_cons, List.length_nil] at this ⊢; omega); (· refine sl_eq ?_; simp only [List.length_append, List.length_cons, List.length_nil]; first | done | omega)); (case measure => show rs.length - ((k : Int) + 1).toNat < rs.length - ((k : Int)).toNat; omega)
    · obtain rfl : k = rs.length := by omega
      have HNU := True.intro
      have HBA := True.intro
      have hrb := True.intro
      have hre := True.intro
      have HSE := True.intro
      have hcur : cur = [UInt8.ofNat rs.length] ++ repsL rs := by rw [HCU.out, List.take_length]
      subst hcur
      go_wp2_with (first | (fail))
      go_ret
      exact retB_mk (by simp) (H.o 0 rfl) H.below
end Go.Proofs.YtajgikjmoeemnaaDoor

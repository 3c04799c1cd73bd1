/-
  THE WALKS OF message's reader: fail, number, text, ballot, entry, who.
-/
import Derived.Test.YtajgikjmoeemnaaDoorEntD
import Derived.Test.YtajgikjmoeemnaaDoorPaP
import Derived.Test.YtajgikjmoeemnaaDoorPk2
import Derived.Test.YtajgikjmoeemnaaDoorPk4
namespace Go.Proofs.YtajgikjmoeemnaaDoor
set_option maxRecDepth 100000
open Go.RowKit
set_option linter.unusedVariables false
set_option linter.unusedSimpArgs false
abbrev rdI (g : Nat) (A : Option Addr) (n c : Nat) (s : Ps) : Item := .blk g 82 [.slice A n c, .int .i64 s.at_, .int .i64 s.e]
theorem hw_alloc {a : Act} {w0 w : World} {Q : Exit → Act → World → Prop} {L : List Item} {oi : Oper} {K : Act → World → Prop} {ty : TypeId} {vs : List Value} (ho : oi.op = .alloc ty) (hz : zeroC Tryd.prog ty = some vs.toArray) (H : Hp w0 w L)
    (h : ∀ g w', Hp w0 w' (.blk g ty vs :: L) → K (a.put oi.dst (.pointer (some ⟨g, 0, none⟩))) w') : oi.wp Tryd.prog a w K Q := by
  obtain ⟨i, hi, hz⟩ := Option.bind_eq_some_iff.1 hz
  obtain ⟨z, hz1, hz2⟩ := Option.map_eq_some_iff.1 hz
  have := h _ _ (H.alloc ty vs)
  unfold Oper.wp
  simp [execOp, ho, Instr.alloc, zeroValue, typeInfo, hi, hz1, newVar, newRow, hz2]
  exact this
set_option maxHeartbeats 400000 in
theorem fail_any (g : Nat) (A : Option Addr) (n c : Nat) (s : Ps) (k : Int) (w0 w : World) (L : List Item) (H : Hp w0 w (rdI g A n c s :: L)) :
    Calls Tryd.prog 66 #[.pointer (some ⟨g, 0, none⟩), .int .i64 k] w (RetH w0 (rdI g A n c (fP s k) :: L) (.tuple #[])) := by
  obtain ⟨at_, e⟩ := s
  by_cases h : e = 0
  · subst h
    go_enter Tryd.func66, Tryd.ntmps66
    go_wp2_with (first | ((with_reducible refine Hp.ld H ?_); refine ⟨rfl, ?_⟩; refine ⟨c_look rfl, ?_⟩; refine ⟨_, _, rfl, ?_⟩; refine ⟨_, _, _, .z, ?_⟩; refine ⟨_, rfl, ?_⟩; go_frame) | ((with_reducible refine Hp.stv H ?_); refine ⟨rfl, ?_⟩; refine ⟨c_look rfl, ?_⟩; (first | refine ⟨.bool _, rfl, ?_⟩ | refine ⟨.int _ _, rfl, ?_⟩ | refine ⟨.string _, rfl, ?_⟩ | refine ⟨.slice _ _ _, rfl, ?_⟩ | refine ⟨.pointer _, rfl, ?_⟩); refine ⟨rfl, _, _, rfl, ?_⟩; refine ⟨_, _, _, .z, ?_⟩; refine ⟨⟨_, rfl⟩, ?_⟩; (clear H; intro w1 H; simp only [List.set] at H); go_frame))
    go_end0
    exact ⟨rfl, H⟩
  · have h2 : (e == 0) = false := beq_eq_false_iff_ne.mpr h
    have hf : fP ⟨at_, e⟩ k = ⟨at_, e⟩ := by unfold fP; rw [if_neg h]
    rw [hf]
    clear hf h
    go_enter Tryd.func66, Tryd.ntmps66
    go_wp2_with (first | ((with_reducible refine Hp.ld H ?_); refine ⟨rfl, ?_⟩; refine ⟨c_look rfl, ?_⟩; refine ⟨_, _, rfl, ?_⟩; refine ⟨_, _, _, .z, ?_⟩; refine ⟨_, rfl, ?_⟩; go_frame))
    go_end0
    exact ⟨rfl, H⟩
theorem get_e {l : List UInt8} {a w : Int} {E N P : Int} (he : getE l a w = E) (hn : getN l a w = N) (hp : getP l a w = P) (A : Option Addr) (c : Nat) (w' : World) (hr : Rd w' A l) (hc : l.length ≤ c) (hm : c ≤ maxLen) :
    Calls Tryd.prog 65 #[.slice A l.length c, .int .i64 a, .int .i64 w] w' (RetV w' (.tuple #[.int .i64 N, .int .i64 P, .int .i64 E])) := by
  subst he hn hp
  exact get_any A c l a w w' hr hc hm
set_option maxHeartbeats 1000000 in
theorem num_any (A : Option Addr) (c : Nat) (l : List UInt8) (s : Ps) (width : Int) (g : Nat) (w0 w : World) (L : List Item) (hr : Rd w0 A l) (hc : l.length ≤ c) (hm : c ≤ maxLen) (H : Hp w0 w (rdI g A l.length c s :: L)) :
    Calls Tryd.prog 43 #[.pointer (some ⟨g, 0, none⟩), .int .i64 width] w (RetH w0 (rdI g A l.length c (nS l s width) :: L) (.int .i64 (nN l s width))) := by
  have h0 : getE l s.at_ width ≠ 0 → getN l s.at_ width = 0 := fun h => by unfold getN; rw [if_neg h]
  unfold nS nN
  obtain ⟨E, hE⟩ : ∃ E, getE l s.at_ width = E := ⟨_, rfl⟩
  obtain ⟨N, hN⟩ : ∃ E, getN l s.at_ width = E := ⟨_, rfl⟩
  obtain ⟨P, hP⟩ : ∃ E, getP l s.at_ width = E := ⟨_, rfl⟩
  rw [hE, hN] at h0
  have HE := Lib.hid hE
  have HN := Lib.hid hN
  have HP := Lib.hid hP
  rw [hE, hN, hP]
  clear hE hN hP
  by_cases h : E = 0
  · rw [if_pos h]
    subst h
    clear h0
    go_enter Tryd.func43, Tryd.ntmps43
    go_wp2_with (first | (fail))
    ((with_reducible refine wp_region_hpK H (by kernel_rfl) (by kernel_rfl) ?_); intro _ KQ hKQ; (repeat (first | ((with_reducible refine hq_ld ?_); refine ⟨rfl, ?_⟩; refine ⟨c_look rfl, ?_⟩; refine ⟨_, _, rfl, ?_⟩; refine ⟨_, _, _, .z, ?_⟩; refine ⟨_, rfl, ?_⟩; go_frame) | go_big_quiet_step ((first | (with_reducible exact hq_call (get_e HE.out HN.out HP.out A c _ (HpS.rd _ hr) hc hm)))))); (with_reducible refine wpQuiet_nil (hKQ _ ?_)); clear hKQ; clear KQ H; intro w1 H)
    go_wp2_with (first | ((with_reducible refine Hp.stv H ?_); refine ⟨rfl, ?_⟩; refine ⟨c_look rfl, ?_⟩; (first | refine ⟨.bool _, rfl, ?_⟩ | refine ⟨.int _ _, rfl, ?_⟩ | refine ⟨.string _, rfl, ?_⟩ | refine ⟨.slice _ _ _, rfl, ?_⟩ | refine ⟨.pointer _, rfl, ?_⟩); refine ⟨rfl, _, _, rfl, ?_⟩; refine ⟨_, _, _, .z, ?_⟩; refine ⟨⟨_, rfl⟩, ?_⟩; (clear H; intro w1 H; simp only [List.set] at H); go_frame))
    go_ret
    exact ⟨rfl, H⟩
  · rw [if_neg h, h0 h]
    have hN0 := h0 h
    subst hN0
    have hne : (E != 0) = true := by simp [h]
    clear h0 h
    go_enter Tryd.func43, Tryd.ntmps43
    go_wp2_with (first | (fail))
    ((with_reducible refine wp_region_hpK H (by kernel_rfl) (by kernel_rfl) ?_); intro _ KQ hKQ; (repeat (first | ((with_reducible refine hq_ld ?_); refine ⟨rfl, ?_⟩; refine ⟨c_look rfl, ?_⟩; refine ⟨_, _, rfl, ?_⟩; refine ⟨_, _, _, .z, ?_⟩; refine ⟨_, rfl, ?_⟩; go_frame) | go_big_quiet_step ((first | (with_reducible exact hq_call (get_e HE.out HN.out HP.out A c _ (HpS.rd _ hr) hc hm)))))); (with_reducible refine wpQuiet_nil (hKQ _ ?_)); clear hKQ; clear KQ H; intro w1 H)
    go_wp2_with (first | ((with_reducible refine (fail_any g A l.length c s E w0 _ L H).mono ?_); rintro _ w1 ⟨rfl, HQ⟩; replace H := HQ; clear HQ))
    go_ret
    exact ⟨rfl, H⟩
theorem read_e {l : List UInt8} {a : Int} {E P : Int} {S : ByteArray} (he : readE l a = E) (hs : bs (readS l a) = S) (hp : readP l a = P) (A : Option Addr) (c : Nat) (w' : World) (hr : Rd w' A l) (hc : l.length ≤ c) (hm : c ≤ maxLen) :
    Calls Tryd.prog 85 #[.slice A l.length c, .int .i64 a] w' (RetV w' (.tuple #[.string S, .int .i64 P, .int .i64 E])) := by
  subst he hs hp
  exact read_any A c l a w' hr hc hm
set_option maxHeartbeats 1000000 in
theorem txt_any (A : Option Addr) (c : Nat) (l : List UInt8) (s : Ps) (g : Nat) (w0 w : World) (L : List Item) (hr : Rd w0 A l) (hc : l.length ≤ c) (hm : c ≤ maxLen) (H : Hp w0 w (rdI g A l.length c s :: L)) :
    Calls Tryd.prog 67 #[.pointer (some ⟨g, 0, none⟩)] w (RetH w0 (rdI g A l.length c (xP l s) :: L) (.string (xS l s))) := by
  have h0 : readE l s.at_ ≠ 0 → bs (readS l s.at_) = ⟨#[]⟩ := fun h => by unfold readS; rw [if_neg h]; rfl
  unfold xP xS
  obtain ⟨E, hE⟩ : ∃ E, readE l s.at_ = E := ⟨_, rfl⟩
  obtain ⟨N, hN⟩ : ∃ E, bs (readS l s.at_) = E := ⟨_, rfl⟩
  obtain ⟨P, hP⟩ : ∃ E, readP l s.at_ = E := ⟨_, rfl⟩
  rw [hE, hN] at h0
  have HE := Lib.hid hE
  have HN := Lib.hid hN
  have HP := Lib.hid hP
  rw [hE, hN, hP]
  clear hE hN hP
  by_cases h : E = 0
  · rw [if_pos h]
    subst h
    clear h0
    go_enter Tryd.func67, Tryd.ntmps67
    go_wp2_with (first | (fail))
    ((with_reducible refine wp_region_hpK H (by kernel_rfl) (by kernel_rfl) ?_); intro _ KQ hKQ; (repeat (first | ((with_reducible refine hq_ld ?_); refine ⟨rfl, ?_⟩; refine ⟨c_look rfl, ?_⟩; refine ⟨_, _, rfl, ?_⟩; refine ⟨_, _, _, .z, ?_⟩; refine ⟨_, rfl, ?_⟩; go_frame) | go_big_quiet_step ((first | (with_reducible exact hq_call (read_e HE.out HN.out HP.out A c _ (HpS.rd _ hr) hc hm)))))); (with_reducible refine wpQuiet_nil (hKQ _ ?_)); clear hKQ; clear KQ H; intro w1 H)
    go_wp2_with (first | ((with_reducible refine Hp.stv H ?_); refine ⟨rfl, ?_⟩; refine ⟨c_look rfl, ?_⟩; (first | refine ⟨.bool _, rfl, ?_⟩ | refine ⟨.int _ _, rfl, ?_⟩ | refine ⟨.string _, rfl, ?_⟩ | refine ⟨.slice _ _ _, rfl, ?_⟩ | refine ⟨.pointer _, rfl, ?_⟩); refine ⟨rfl, _, _, rfl, ?_⟩; refine ⟨_, _, _, .z, ?_⟩; refine ⟨⟨_, rfl⟩, ?_⟩; (clear H; intro w1 H; simp only [List.set] at H); go_frame))
    go_ret
    exact ⟨rfl, H⟩
  · rw [if_neg h, h0 h]
    have hN0 := h0 h
    subst hN0
    have hne : (E != 0) = true := by simp [h]
    clear h0 h
    go_enter Tryd.func67, Tryd.ntmps67
    go_wp2_with (first | (fail))
    ((with_reducible refine wp_region_hpK H (by kernel_rfl) (by kernel_rfl) ?_); intro _ KQ hKQ; (repeat (first | ((with_reducible refine hq_ld ?_); refine ⟨rfl, ?_⟩; refine ⟨c_look rfl, ?_⟩; refine ⟨_, _, rfl, ?_⟩; refine ⟨_, _, _, .z, ?_⟩; refine ⟨_, rfl, ?_⟩; go_frame) | go_big_quiet_step ((first | (with_reducible exact hq_call (read_e HE.out HN.out HP.out A c _ (HpS.rd _ hr) hc hm)))))); (with_reducible refine wpQuiet_nil (hKQ _ ?_)); clear hKQ; clear KQ H; intro w1 H)
    go_wp2_with (first | ((with_reducible refine (fail_any g A l.length c s E w0 _ L H).mono ?_); rintro _ w1 ⟨rfl, HQ⟩; replace H := HQ; clear HQ))
    go_ret
    exact ⟨rfl, H⟩
theorem b_bal2 (r p : Int) : Tryd.prog.built 23 [(0, .int .i64 r), (1, .int .i64 p)] = some (baC r p).toArray := by kernel_rfl
set_option maxHeartbeats 1000000 in
theorem bal_any (A : Option Addr) (c : Nat) (l : List UInt8) (s : Ps) (g : Nat) (w0 w : World) (L : List Item) (hr : Rd w0 A l) (hc : l.length ≤ c) (hm : c ≤ maxLen) (H : Hp w0 w (rdI g A l.length c s :: L)) :
    Calls Tryd.prog 68 #[.pointer (some ⟨g, 0, none⟩)] w (RetH w0 (rdI g A l.length c (nS l (nS l s 6) 1) :: L) (.agg (baC (nN l s 6) (nN l (nS l s 6) 1)).toArray)) := by
  go_enter Tryd.func68, Tryd.ntmps68
  go_wp2_with (first | ((with_reducible refine Hp.allo H ?_); refine ⟨rfl, ?_⟩; refine ⟨_, z_look rfl, ?_⟩; (clear H; intro g1 w1 H); go_frame) | ((with_reducible refine Hp.sta H ?_); refine ⟨rfl, ?_⟩; refine ⟨_, s_look rfl, ?_⟩; refine ⟨_, rfl, _, rfl, rfl, ?_⟩; (first | refine ⟨_, _, _, .z, ?_⟩ | refine ⟨_, _, _, .s .z, ?_⟩ | refine ⟨_, _, _, .s (.s .z), ?_⟩); refine ⟨rfl, rfl, ?_⟩; (clear H; intro w1 H; simp only [List.set] at H); go_frame) | ((with_reducible refine Hp.bdl H ?_); refine ⟨rfl, _, b_bal2 _ _, ?_⟩; go_frame) | ((with_reducible refine (num_any A c l _ _ g w0 _ _ hr hc hm H).mono ?_); rintro _ w1 ⟨rfl, HQ⟩; replace H := HQ; clear HQ) | ((with_reducible refine (num_any A c l _ _ g w0 _ _ hr hc hm H.rot2).mono ?_); rintro _ w1 ⟨rfl, HQ⟩; replace H := HQ; clear HQ))
  exact bodyPost_ret (results_c rfl rfl (H.var (by kernel_rfl) (t := 23) (cs := baC (nN l s 6) (nN l (nS l s 6) 1)) (.s .z) s_Ballot)) rfl ⟨rfl, H.rot2.tail⟩
theorem num_v {l : List UInt8} {s : Ps} {width N : Int} (hN : nN l s width = N) (A : Option Addr) (c : Nat) (g : Nat) (w0 w : World) (L : List Item) (hr : Rd w0 A l) (hc : l.length ≤ c) (hm : c ≤ maxLen) (H : Hp w0 w (rdI g A l.length c s :: L)) :
    Calls Tryd.prog 43 #[.pointer (some ⟨g, 0, none⟩), .int .i64 width] w (RetH w0 (rdI g A l.length c (nS l s width) :: L) (.int .i64 N)) := by
  subst hN
  exact num_any A c l s width g w0 w L hr hc hm H
set_option maxHeartbeats 1000000 in
theorem who_any (A : Option Addr) (c : Nat) (l : List UInt8) (s : Ps) (g : Nat) (w0 w : World) (L : List Item) (hr : Rd w0 A l) (hc : l.length ≤ c) (hm : c ≤ maxLen) (H : Hp w0 w (rdI g A l.length c s :: L)) :
    Calls Tryd.prog 44 #[.pointer (some ⟨g, 0, none⟩)] w (RetH w0 (rdI g A l.length c (nS l s 1) :: L) (.int .i64 (whoV (nN l s 1)))) := by
  have hb : 0 ≤ nN l s 1 ∧ nN l s 1 < 256 := nN_byte l s
  unfold whoV
  obtain ⟨i, hi⟩ : ∃ i, nN l s 1 = i := ⟨_, rfl⟩
  have HI := Lib.hid hi
  rw [hi] at hb ⊢
  clear hi
  by_cases h : 128 ≤ i
  · rw [if_pos h]
    have d : decide (128 ≤ i) = true := decide_eq_true h
    have hw : IntKind.i64.wrap (127 - i) = 127 - i := IntWalk.i64_in _ (by omega)
    clear h hb
    go_enter Tryd.func44, Tryd.ntmps44
    go_wp2_with (first | ((with_reducible refine (num_v HI.out A c g w0 _ _ hr hc hm H).mono ?_); rintro _ w1 ⟨rfl, HQ⟩; replace H := HQ; clear HQ))
    go_ret
    exact ⟨rfl, H⟩
  · rw [if_neg h]
    have d : decide (128 ≤ i) = false := decide_eq_false h
    clear h hb
    go_enter Tryd.func44, Tryd.ntmps44
    go_wp2_with (first | ((with_reducible refine (num_v HI.out A c g w0 _ _ hr hc hm H).mono ?_); rintro _ w1 ⟨rfl, HQ⟩; replace H := HQ; clear HQ))
    go_ret
    exact ⟨rfl, H⟩
theorem eread_e {l : List UInt8} {a E N : Int} {V : En} (he : erE l a = E) (hv : erV l a = V) (hp : erN l a = N) (A : Option Addr) (c : Nat) (w' : World) (hr : Rd w' A l) (hc : l.length ≤ c) (hm : c ≤ maxLen) :
    Calls Tryd.prog 86 #[.slice A l.length c, .int .i64 a] w' (RetV w' (.tuple #[.agg (enC V).toArray, .int .i64 N, .int .i64 E])) := by
  subst he hv hp
  exact eread_any A c l a w' hr hc hm
theorem cf_eread (args : Array Value) (w : World) : (callFunc 86 args).run Tryd.prog w = .ok (.enter 86 args) w := by kernel_rfl
set_option maxHeartbeats 2000000 in
theorem ent_any (A : Option Addr) (c : Nat) (l : List UInt8) (s : Ps) (g : Nat) (w0 w : World) (L : List Item) (hr : Rd w0 A l) (hc : l.length ≤ c) (hm : c ≤ maxLen) (H : Hp w0 w (rdI g A l.length c s :: L)) :
    Calls Tryd.prog 69 #[.pointer (some ⟨g, 0, none⟩)] w (RetH w0 (rdI g A l.length c (eP l s) :: L) (.agg (enC (eV l s)).toArray)) := by
  have h0 : erE l s.at_ ≠ 0 → erV l s.at_ = en0 := fun h => by unfold erV; rw [if_neg h]
  unfold eP eV
  obtain ⟨E, hE⟩ : ∃ E, erE l s.at_ = E := ⟨_, rfl⟩
  obtain ⟨V, hV⟩ : ∃ E, erV l s.at_ = E := ⟨_, rfl⟩
  obtain ⟨N, hN⟩ : ∃ E, erN l s.at_ = E := ⟨_, rfl⟩
  rw [hE, hV] at h0
  have HE := Lib.hid hE
  have HV := Lib.hid hV
  have HN := Lib.hid hN
  rw [hE, hV, hN]
  clear hE hV hN
  by_cases h : E = 0
  · rw [if_pos h]
    subst h
    clear h0
    go_enter Tryd.func69, Tryd.ntmps69; go_wp2_with (first | ((with_reducible refine Hp.allo H ?_); refine ⟨rfl, ?_⟩; refine ⟨_, z_look rfl, ?_⟩; (clear H; intro g1 w1 H); go_frame)); replace H := H.rot2; refine hw_start [] (_ :: _ :: L) H (by kernel_rfl) (fun w1 H => ?_); have hS : HpW _ _ w1 := ⟨[], H⟩; simp only [List.nil_append] at H; (refine hw_take hS 0 (by decide +kernel) (by decide +kernel) (by decide +kernel) ⟨_, rfl, rfl, ?_, ?_, fun _ _ _ h => h, ?_⟩; rotate_left; (intro w _; go_simp; try with_reducible rfl); go_frame); (refine hw_take hS 1 (by decide +kernel) (by decide +kernel) (by decide +kernel) ⟨_, rfl, rfl, ?_, ?_, fun _ _ _ h => h, ?_⟩; rotate_left; (intro w _; go_simp; try with_reducible rfl); go_frame); (refine hw_take hS 2 (by decide +kernel) (by decide +kernel) (by decide +kernel) ⟨_, rfl, rfl, ?_, ?_, fun _ _ _ h => h, ?_⟩; rotate_left; (intro w _; go_simp; try with_reducible rfl); go_frame); (refine hw_take hS 3 (by decide +kernel) (by decide +kernel) (by decide +kernel) ⟨_, rfl, rfl, _, fun w h => ex_load rfl rfl (hw_ld (by kernel_rfl) (.z) rfl w h), fun _ _ _ h => h, ?_⟩; go_frame); (refine hw_take hS 4 (by decide +kernel) (by decide +kernel) (by decide +kernel) ⟨_, rfl, rfl, ?_, ?_, fun _ _ _ h => h, ?_⟩; rotate_left; (intro w _; go_simp; try with_reducible rfl); go_frame); (refine hw_take hS 5 (by decide +kernel) (by decide +kernel) (by decide +kernel) ⟨_, rfl, rfl, ?_, ?_, fun _ _ _ h => h, ?_⟩; rotate_left; (intro w _; go_simp; try with_reducible rfl); go_frame); (refine hw_take hS 6 (by decide +kernel) (by decide +kernel) (by decide +kernel) ⟨_, rfl, rfl, ?_, ?_, fun _ _ _ h => h, ?_⟩; rotate_left; (intro w _; go_simp; try with_reducible rfl); go_frame); (refine hw_take hS 7 (by decide +kernel) (by decide +kernel) (by decide +kernel) ⟨_, rfl, rfl, _, fun w h => ex_load rfl rfl (hw_ld (by kernel_rfl) (.z) rfl w h), fun _ _ _ h => h, ?_⟩; go_frame); clear hS
    refine hw_two 8 13 (by decide +kernel) ⟨_, rfl, rfl, fun K hK => ?_⟩ ⟨_, rfl, rfl, fun K hK => ?_⟩
    · (refine hw_callk (vs := [_, _]) (eread_e HE.out HV.out HN.out A c _ (hr.below H.below) hc hm) cf_eread rfl rfl rfl ?_; rintro e w' ⟨rfl, hb⟩; replace H := H.call hb; clear hb; refine ⟨_, rfl, ?_⟩; refine hK _ _ ⟨[], H⟩ ?_; clear hK K; go_frame; have hS : HpW _ _ _ := ⟨[], H⟩)
      (refine hw_take hS 9 (by decide +kernel) (by decide +kernel) (by decide +kernel) ⟨_, rfl, rfl, ?_, ?_, fun _ _ _ h => h, ?_⟩; rotate_left; (intro w _; go_simp; try with_reducible rfl); go_frame); (refine hw_take hS 10 (by decide +kernel) (by decide +kernel) (by decide +kernel) ⟨_, rfl, rfl, ?_, ?_, fun _ _ _ h => h, ?_⟩; rotate_left; (intro w _; go_simp; try with_reducible rfl); go_frame); (refine hw_take hS 11 (by decide +kernel) (by decide +kernel) (by decide +kernel) ⟨_, rfl, rfl, ?_, ?_, fun _ _ _ h => h, ?_⟩; rotate_left; (intro w _; go_simp; try with_reducible rfl); go_frame); (refine hw_take hS 12 (by decide +kernel) (by decide +kernel) (by decide +kernel) ⟨_, rfl, rfl, ?_, ?_, fun _ _ _ h => h, ?_⟩; rotate_left; (intro w _; go_simp; try with_reducible rfl); go_frame)
      clear hS
      (refine hw_one 13 (by decide +kernel) ⟨_, rfl, rfl, fun K hK => ?_⟩)
      (refine hw_alloc rfl z_Entry H (fun g3 w1 H => ?_); refine hK _ _ ⟨[_], H⟩ ?_; clear hK K; go_frame; have hS : HpW _ _ _ := ⟨[_], H⟩)
      clear hS
      (refine hw_one 14 (by decide +kernel) ⟨_, rfl, rfl, fun KQ hKQ => ?_⟩; refine hw_sta (vs := enC V) rfl rfl rfl H s_Entry .z rfl rfl rfl (fun w1 H => hKQ _ _ ⟨[_], H⟩ ?_); clear hKQ KQ; go_frame; simp only [List.set_cons_zero] at H; have hS : HpW _ _ w1 := ⟨[_], H⟩)
      ((refine hw_take hS 15 (by decide +kernel) (by decide +kernel) (by decide +kernel) ⟨_, rfl, rfl, ?_, ?_, fun _ _ _ h => h, ?_⟩; rotate_left; (intro w _; go_simp; try with_reducible rfl); go_frame); (refine hw_take hS 16 (by decide +kernel) (by decide +kernel) (by decide +kernel) ⟨_, rfl, rfl, ?_, ?_, fun _ _ _ h => h, ?_⟩; rotate_left; (intro w _; go_simp; try with_reducible rfl); go_frame); refine wpAnyH_done (by kernel_rfl) ?_ _; clear hS)
      (go_wp2_with (first | ((with_reducible refine Hp.lda H ?_); refine ⟨rfl, by kernel_rfl, ?_⟩; refine ⟨_, s_look rfl, ?_⟩; refine ⟨_, rfl, ?_⟩; (first | refine ⟨_, _, _, .z, ?_⟩ | refine ⟨_, _, _, .s .z, ?_⟩ | refine ⟨_, _, _, .s (.s .z), ?_⟩); refine ⟨rfl, ?_⟩; go_frame) | ((with_reducible refine Hp.stv H ?_); refine ⟨rfl, ?_⟩; refine ⟨c_look rfl, ?_⟩; (first | refine ⟨.bool _, rfl, ?_⟩ | refine ⟨.int _ _, rfl, ?_⟩ | refine ⟨.string _, rfl, ?_⟩ | refine ⟨.slice _ _ _, rfl, ?_⟩ | refine ⟨.pointer _, rfl, ?_⟩); refine ⟨rfl, _, _, rfl, ?_⟩; (first | refine ⟨_, _, _, .z, ?_⟩ | refine ⟨_, _, _, .s .z, ?_⟩ | refine ⟨_, _, _, .s (.s .z), ?_⟩); refine ⟨⟨_, rfl⟩, ?_⟩; (clear H; intro w1 H; simp only [List.set] at H); go_frame) | ((with_reducible refine Hp.sta H ?_); refine ⟨rfl, ?_⟩; refine ⟨_, s_look rfl, ?_⟩; refine ⟨_, rfl, _, rfl, rfl, ?_⟩; (first | refine ⟨_, _, _, .z, ?_⟩ | refine ⟨_, _, _, .s .z, ?_⟩ | refine ⟨_, _, _, .s (.s .z), ?_⟩); refine ⟨rfl, rfl, ?_⟩; (clear H; intro w1 H; simp only [List.set] at H); go_frame)); exact bodyPost_ret (results_c rfl rfl (H.var (by kernel_rfl) (t := 27) (cs := enC V) (.s (.s .z)) s_Entry)) rfl ⟨rfl, H.tail.rot2.tail⟩)
    · (refine hw_alloc rfl z_Entry H (fun g3 w1 H => ?_); refine hK _ _ ⟨[_], H⟩ ?_; clear hK K; go_frame; have hS : HpW _ _ _ := ⟨[_], H⟩)
      clear hS
      (refine hw_one 8 (by decide +kernel) ⟨_, rfl, rfl, fun K hK => ?_⟩)
      (refine hw_callk (vs := [_, _]) (eread_e HE.out HV.out HN.out A c _ (hr.below H.below) hc hm) cf_eread rfl rfl rfl ?_; rintro e w' ⟨rfl, hb⟩; replace H := H.call hb; clear hb; refine ⟨_, rfl, ?_⟩; refine hK _ _ ⟨[_], H⟩ ?_; clear hK K; go_frame; have hS : HpW _ _ _ := ⟨[_], H⟩)
      (refine hw_take hS 9 (by decide +kernel) (by decide +kernel) (by decide +kernel) ⟨_, rfl, rfl, ?_, ?_, fun _ _ _ h => h, ?_⟩; rotate_left; (intro w _; go_simp; try with_reducible rfl); go_frame); (refine hw_take hS 10 (by decide +kernel) (by decide +kernel) (by decide +kernel) ⟨_, rfl, rfl, ?_, ?_, fun _ _ _ h => h, ?_⟩; rotate_left; (intro w _; go_simp; try with_reducible rfl); go_frame); (refine hw_take hS 11 (by decide +kernel) (by decide +kernel) (by decide +kernel) ⟨_, rfl, rfl, ?_, ?_, fun _ _ _ h => h, ?_⟩; rotate_left; (intro w _; go_simp; try with_reducible rfl); go_frame); (refine hw_take hS 12 (by decide +kernel) (by decide +kernel) (by decide +kernel) ⟨_, rfl, rfl, ?_, ?_, fun _ _ _ h => h, ?_⟩; rotate_left; (intro w _; go_simp; try with_reducible rfl); go_frame)
      clear hS
      (refine hw_one 14 (by decide +kernel) ⟨_, rfl, rfl, fun KQ hKQ => ?_⟩; refine hw_sta (vs := enC V) rfl rfl rfl H s_Entry .z rfl rfl rfl (fun w1 H => hKQ _ _ ⟨[_], H⟩ ?_); clear hKQ KQ; go_frame; simp only [List.set_cons_zero] at H; have hS : HpW _ _ w1 := ⟨[_], H⟩)
      ((refine hw_take hS 15 (by decide +kernel) (by decide +kernel) (by decide +kernel) ⟨_, rfl, rfl, ?_, ?_, fun _ _ _ h => h, ?_⟩; rotate_left; (intro w _; go_simp; try with_reducible rfl); go_frame); (refine hw_take hS 16 (by decide +kernel) (by decide +kernel) (by decide +kernel) ⟨_, rfl, rfl, ?_, ?_, fun _ _ _ h => h, ?_⟩; rotate_left; (intro w _; go_simp; try with_reducible rfl); go_frame); refine wpAnyH_done (by kernel_rfl) ?_ _; clear hS)
      (go_wp2_with (first | ((with_reducible refine Hp.lda H ?_); refine ⟨rfl, by kernel_rfl, ?_⟩; refine ⟨_, s_look rfl, ?_⟩; refine ⟨_, rfl, ?_⟩; (first | refine ⟨_, _, _, .z, ?_⟩ | refine ⟨_, _, _, .s .z, ?_⟩ | refine ⟨_, _, _, .s (.s .z), ?_⟩); refine ⟨rfl, ?_⟩; go_frame) | ((with_reducible refine Hp.stv H ?_); refine ⟨rfl, ?_⟩; refine ⟨c_look rfl, ?_⟩; (first | refine ⟨.bool _, rfl, ?_⟩ | refine ⟨.int _ _, rfl, ?_⟩ | refine ⟨.string _, rfl, ?_⟩ | refine ⟨.slice _ _ _, rfl, ?_⟩ | refine ⟨.pointer _, rfl, ?_⟩); refine ⟨rfl, _, _, rfl, ?_⟩; (first | refine ⟨_, _, _, .z, ?_⟩ | refine ⟨_, _, _, .s .z, ?_⟩ | refine ⟨_, _, _, .s (.s .z), ?_⟩); refine ⟨⟨_, rfl⟩, ?_⟩; (clear H; intro w1 H; simp only [List.set] at H); go_frame) | ((with_reducible refine Hp.sta H ?_); refine ⟨rfl, ?_⟩; refine ⟨_, s_look rfl, ?_⟩; refine ⟨_, rfl, _, rfl, rfl, ?_⟩; (first | refine ⟨_, _, _, .z, ?_⟩ | refine ⟨_, _, _, .s .z, ?_⟩ | refine ⟨_, _, _, .s (.s .z), ?_⟩); refine ⟨rfl, rfl, ?_⟩; (clear H; intro w1 H; simp only [List.set] at H); go_frame)); exact bodyPost_ret (results_c rfl rfl (H.var (by kernel_rfl) (t := 27) (cs := enC V) (.s (.s .z)) s_Entry)) rfl ⟨rfl, H.tail.rot2.tail⟩)
  · rw [if_neg h, h0 h]
    have hN0 := h0 h
    subst hN0
    have hne : (E != 0) = true := by simp [h]
    clear h0 h
    go_enter Tryd.func69, Tryd.ntmps69; go_wp2_with (first | ((with_reducible refine Hp.allo H ?_); refine ⟨rfl, ?_⟩; refine ⟨_, z_look rfl, ?_⟩; (clear H; intro g1 w1 H); go_frame)); replace H := H.rot2; refine hw_start [] (_ :: _ :: L) H (by kernel_rfl) (fun w1 H => ?_); have hS : HpW _ _ w1 := ⟨[], H⟩; simp only [List.nil_append] at H; (refine hw_take hS 0 (by decide +kernel) (by decide +kernel) (by decide +kernel) ⟨_, rfl, rfl, ?_, ?_, fun _ _ _ h => h, ?_⟩; rotate_left; (intro w _; go_simp; try with_reducible rfl); go_frame); (refine hw_take hS 1 (by decide +kernel) (by decide +kernel) (by decide +kernel) ⟨_, rfl, rfl, ?_, ?_, fun _ _ _ h => h, ?_⟩; rotate_left; (intro w _; go_simp; try with_reducible rfl); go_frame); (refine hw_take hS 2 (by decide +kernel) (by decide +kernel) (by decide +kernel) ⟨_, rfl, rfl, ?_, ?_, fun _ _ _ h => h, ?_⟩; rotate_left; (intro w _; go_simp; try with_reducible rfl); go_frame); (refine hw_take hS 3 (by decide +kernel) (by decide +kernel) (by decide +kernel) ⟨_, rfl, rfl, _, fun w h => ex_load rfl rfl (hw_ld (by kernel_rfl) (.z) rfl w h), fun _ _ _ h => h, ?_⟩; go_frame); (refine hw_take hS 4 (by decide +kernel) (by decide +kernel) (by decide +kernel) ⟨_, rfl, rfl, ?_, ?_, fun _ _ _ h => h, ?_⟩; rotate_left; (intro w _; go_simp; try with_reducible rfl); go_frame); (refine hw_take hS 5 (by decide +kernel) (by decide +kernel) (by decide +kernel) ⟨_, rfl, rfl, ?_, ?_, fun _ _ _ h => h, ?_⟩; rotate_left; (intro w _; go_simp; try with_reducible rfl); go_frame); (refine hw_take hS 6 (by decide +kernel) (by decide +kernel) (by decide +kernel) ⟨_, rfl, rfl, ?_, ?_, fun _ _ _ h => h, ?_⟩; rotate_left; (intro w _; go_simp; try with_reducible rfl); go_frame); (refine hw_take hS 7 (by decide +kernel) (by decide +kernel) (by decide +kernel) ⟨_, rfl, rfl, _, fun w h => ex_load rfl rfl (hw_ld (by kernel_rfl) (.z) rfl w h), fun _ _ _ h => h, ?_⟩; go_frame); clear hS
    refine hw_two 8 13 (by decide +kernel) ⟨_, rfl, rfl, fun K hK => ?_⟩ ⟨_, rfl, rfl, fun K hK => ?_⟩
    · (refine hw_callk (vs := [_, _]) (eread_e HE.out HV.out HN.out A c _ (hr.below H.below) hc hm) cf_eread rfl rfl rfl ?_; rintro e w' ⟨rfl, hb⟩; replace H := H.call hb; clear hb; refine ⟨_, rfl, ?_⟩; refine hK _ _ ⟨[], H⟩ ?_; clear hK K; go_frame; have hS : HpW _ _ _ := ⟨[], H⟩)
      (refine hw_take hS 9 (by decide +kernel) (by decide +kernel) (by decide +kernel) ⟨_, rfl, rfl, ?_, ?_, fun _ _ _ h => h, ?_⟩; rotate_left; (intro w _; go_simp; try with_reducible rfl); go_frame); (refine hw_take hS 10 (by decide +kernel) (by decide +kernel) (by decide +kernel) ⟨_, rfl, rfl, ?_, ?_, fun _ _ _ h => h, ?_⟩; rotate_left; (intro w _; go_simp; try with_reducible rfl); go_frame); (refine hw_take hS 11 (by decide +kernel) (by decide +kernel) (by decide +kernel) ⟨_, rfl, rfl, ?_, ?_, fun _ _ _ h => h, ?_⟩; rotate_left; (intro w _; go_simp; try with_reducible rfl); go_frame); (refine hw_take hS 12 (by decide +kernel) (by decide +kernel) (by decide +kernel) ⟨_, rfl, rfl, ?_, ?_, fun _ _ _ h => h, ?_⟩; rotate_left; (intro w _; go_simp; try with_reducible rfl); go_frame)
      clear hS
      (refine hw_one 13 (by decide +kernel) ⟨_, rfl, rfl, fun K hK => ?_⟩)
      (refine hw_alloc rfl z_Entry H (fun g3 w1 H => ?_); refine hK _ _ ⟨[_], H⟩ ?_; clear hK K; go_frame; have hS : HpW _ _ _ := ⟨[_], H⟩)
      clear hS
      (refine hw_one 14 (by decide +kernel) ⟨_, rfl, rfl, fun KQ hKQ => ?_⟩; refine hw_sta (vs := enC en0) rfl rfl rfl H s_Entry .z rfl rfl rfl (fun w1 H => hKQ _ _ ⟨[_], H⟩ ?_); clear hKQ KQ; go_frame; simp only [List.set_cons_zero] at H; have hS : HpW _ _ w1 := ⟨[_], H⟩)
      ((refine hw_take hS 15 (by decide +kernel) (by decide +kernel) (by decide +kernel) ⟨_, rfl, rfl, ?_, ?_, fun _ _ _ h => h, ?_⟩; rotate_left; (intro w _; go_simp; try with_reducible rfl); go_frame); (refine hw_take hS 16 (by decide +kernel) (by decide +kernel) (by decide +kernel) ⟨_, rfl, rfl, ?_, ?_, fun _ _ _ h => h, ?_⟩; rotate_left; (intro w _; go_simp; try with_reducible rfl); go_frame); refine wpAnyH_done (by kernel_rfl) ?_ _; clear hS)
      (go_wp2_with (first | ((with_reducible refine Hp.sta H ?_); refine ⟨rfl, ?_⟩; refine ⟨_, s_look rfl, ?_⟩; refine ⟨_, rfl, _, rfl, rfl, ?_⟩; (first | refine ⟨_, _, _, .z, ?_⟩ | refine ⟨_, _, _, .s .z, ?_⟩ | refine ⟨_, _, _, .s (.s .z), ?_⟩); refine ⟨rfl, rfl, ?_⟩; (clear H; intro w1 H; simp only [List.set] at H); go_frame) | ((with_reducible refine Hp.bdl H ?_); refine ⟨rfl, _, b_en0d, ?_⟩; go_frame) | ((with_reducible refine (fail_any g A l.length c s E w0 _ _ H.rot2).mono ?_); rintro _ w1 ⟨rfl, HQ⟩; replace H := HQ.rot2; clear HQ)); exact bodyPost_ret (results_c rfl rfl (H.var (by kernel_rfl) (t := 27) (cs := enC en0) (.s (.s .z)) s_Entry)) rfl ⟨rfl, H.tail.rot2.tail⟩)
    · (refine hw_alloc rfl z_Entry H (fun g3 w1 H => ?_); refine hK _ _ ⟨[_], H⟩ ?_; clear hK K; go_frame; have hS : HpW _ _ _ := ⟨[_], H⟩)
      clear hS
      (refine hw_one 8 (by decide +kernel) ⟨_, rfl, rfl, fun K hK => ?_⟩)
      (refine hw_callk (vs := [_, _]) (eread_e HE.out HV.out HN.out A c _ (hr.below H.below) hc hm) cf_eread rfl rfl rfl ?_; rintro e w' ⟨rfl, hb⟩; replace H := H.call hb; clear hb; refine ⟨_, rfl, ?_⟩; refine hK _ _ ⟨[_], H⟩ ?_; clear hK K; go_frame; have hS : HpW _ _ _ := ⟨[_], H⟩)
      (refine hw_take hS 9 (by decide +kernel) (by decide +kernel) (by decide +kernel) ⟨_, rfl, rfl, ?_, ?_, fun _ _ _ h => h, ?_⟩; rotate_left; (intro w _; go_simp; try with_reducible rfl); go_frame); (refine hw_take hS 10 (by decide +kernel) (by decide +kernel) (by decide +kernel) ⟨_, rfl, rfl, ?_, ?_, fun _ _ _ h => h, ?_⟩; rotate_left; (intro w _; go_simp; try with_reducible rfl); go_frame); (refine hw_take hS 11 (by decide +kernel) (by decide +kernel) (by decide +kernel) ⟨_, rfl, rfl, ?_, ?_, fun _ _ _ h => h, ?_⟩; rotate_left; (intro w _; go_simp; try with_reducible rfl); go_frame); (refine hw_take hS 12 (by decide +kernel) (by decide +kernel) (by decide +kernel) ⟨_, rfl, rfl, ?_, ?_, fun _ _ _ h => h, ?_⟩; rotate_left; (intro w _; go_simp; try with_reducible rfl); go_frame)
      clear hS
      (refine hw_one 14 (by decide +kernel) ⟨_, rfl, rfl, fun KQ hKQ => ?_⟩; refine hw_sta (vs := enC en0) rfl rfl rfl H s_Entry .z rfl rfl rfl (fun w1 H => hKQ _ _ ⟨[_], H⟩ ?_); clear hKQ KQ; go_frame; simp only [List.set_cons_zero] at H; have hS : HpW _ _ w1 := ⟨[_], H⟩)
      ((refine hw_take hS 15 (by decide +kernel) (by decide +kernel) (by decide +kernel) ⟨_, rfl, rfl, ?_, ?_, fun _ _ _ h => h, ?_⟩; rotate_left; (intro w _; go_simp; try with_reducible rfl); go_frame); (refine hw_take hS 16 (by decide +kernel) (by decide +kernel) (by decide +kernel) ⟨_, rfl, rfl, ?_, ?_, fun _ _ _ h => h, ?_⟩; rotate_left; (intro w _; go_simp; try with_reducible rfl); go_frame); refine wpAnyH_done (by kernel_rfl) ?_ _; clear hS)
      (go_wp2_with (first | ((with_reducible refine Hp.sta H ?_); refine ⟨rfl, ?_⟩; refine ⟨_, s_look rfl, ?_⟩; refine ⟨_, rfl, _, rfl, rfl, ?_⟩; (first | refine ⟨_, _, _, .z, ?_⟩ | refine ⟨_, _, _, .s .z, ?_⟩ | refine ⟨_, _, _, .s (.s .z), ?_⟩); refine ⟨rfl, rfl, ?_⟩; (clear H; intro w1 H; simp only [List.set] at H); go_frame) | ((with_reducible refine Hp.bdl H ?_); refine ⟨rfl, _, b_en0d, ?_⟩; go_frame) | ((with_reducible refine (fail_any g A l.length c s E w0 _ _ H.rot2).mono ?_); rintro _ w1 ⟨rfl, HQ⟩; replace H := HQ.rot2; clear HQ)); exact bodyPost_ret (results_c rfl rfl (H.var (by kernel_rfl) (t := 27) (cs := enC en0) (.s (.s .z)) s_Entry)) rfl ⟨rfl, H.tail.rot2.tail⟩)
end Go.Proofs.YtajgikjmoeemnaaDoor

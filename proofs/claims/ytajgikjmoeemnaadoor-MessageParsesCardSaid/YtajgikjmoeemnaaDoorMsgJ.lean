/-
  THE WALK OF sextonref20.Same.
-/
import Derived.Test.YtajgikjmoeemnaaDoorPk6
import Derived.Test.YtajgikjmoeemnaaDoorPk2
import Derived.Test.YtajgikjmoeemnaaDoorPk1
namespace Go.Proofs.YtajgikjmoeemnaaDoor
set_option maxRecDepth 100000
open Go.RowKit
set_option linter.unusedVariables false
set_option linter.unusedSimpArgs false
theorem rsame_fin {a b : Mg} {ra rb : List Rp} {la lb : List UInt8} (h : ¬ (nrm a = nrm b ∧ ra = rb ∧ la = lb)) : sameM a ra la b rb lb = false := by
  cases e : sameM a ra la b rb lb
  · rfl
  · exact absurd (sameM_iff.1 e) h
/-- the loop's relation -/
def RSRel (w : World) (a b : Mg) (ra rb : List Rp) (ga gb : Nat) (v : Value) (wr : World) : Prop := ∃ k : Nat, k ≤ ra.length ∧ v = .int .i64 k ∧ (∀ i (h : i < ra.length) (h' : i < rb.length), i < k → ra[i] = rb[i]) ∧ Hp w wr [.blk gb 34 (mgC b), .blk ga 34 (mgC a)]
set_option maxHeartbeats 8000000 in
theorem rsame_any (a b : Mg) (ra rb : List Rp) (la lb : List UInt8) (w : World) (hA : MgR w a ra la) (hB : MgR w b rb lb) :
    Calls Tryd.prog 13 #[.agg (mgC a).toArray, .agg (mgC b).toArray] w (RetV w (.bool (sameM a ra la b rb lb))) := by
  rcases cho13 (a.k != b.k) (a.fr != b.fr) (a.to != b.to) (!(balEq a.br a.bp b.br b.bp)) (a.ix != b.ix) (a.cm != b.cm) (a.nc != b.nc) (a.ck != b.ck) (a.ct != b.ct) (a.sq != b.sq) (!(enEq a.e b.e)) (!(opEq a.ok a.o0 a.o1 a.o2 b.ok b.o0 b.o1 b.o2)) (!(repEq a b)) with f0 | ⟨f0, f1⟩ | ⟨f0, f1, f2⟩ | ⟨f0, f1, f2, f3⟩ | ⟨f0, f1, f2, f3, f4⟩ | ⟨f0, f1, f2, f3, f4, f5⟩ | ⟨f0, f1, f2, f3, f4, f5, f6⟩ | ⟨f0, f1, f2, f3, f4, f5, f6, f7⟩ | ⟨f0, f1, f2, f3, f4, f5, f6, f7, f8⟩ | ⟨f0, f1, f2, f3, f4, f5, f6, f7, f8, f9⟩ | ⟨f0, f1, f2, f3, f4, f5, f6, f7, f8, f9, f10⟩ | ⟨f0, f1, f2, f3, f4, f5, f6, f7, f8, f9, f10, f11⟩ | ⟨f0, f1, f2, f3, f4, f5, f6, f7, f8, f9, f10, f11, f12⟩ | ⟨f0, f1, f2, f3, f4, f5, f6, f7, f8, f9, f10, f11, f12⟩
  · have f3 := True.intro
    have f10 := True.intro
    have f11 := True.intro
    have f12 := True.intro
    have H := Hp.nil w; go_enter Tryd.func13, Tryd.ntmps13; (first | simp only [List.append_eq, List.cons_append, List.nil_append] | skip); go_wp2_with (first | ((with_reducible refine Hp.box H ?_); (first | (refine ⟨rfl, mgC a, rfl, ?_⟩; (clear H; intro g1 w1 H)) | (refine ⟨rfl, mgC b, rfl, ?_⟩; (clear H; intro g2 w1 H))); go_frame) | ((with_reducible refine Hp.ld H ?_); refine ⟨rfl, ?_⟩; refine ⟨c_look rfl, ?_⟩; refine ⟨_, _, rfl, ?_⟩; (first | refine ⟨_, _, _, .z, ?_⟩ | refine ⟨_, _, _, .s .z, ?_⟩); refine ⟨_, rfl, ?_⟩; go_frame))
    go_ret
    exact ⟨ret_bool (by unfold sameM; simp_all), H.below⟩
  · have f3 := True.intro
    have f10 := True.intro
    have f11 := True.intro
    have f12 := True.intro
    have H := Hp.nil w; go_enter Tryd.func13, Tryd.ntmps13; (first | simp only [List.append_eq, List.cons_append, List.nil_append] | skip); go_wp2_with (first | ((with_reducible refine Hp.box H ?_); (first | (refine ⟨rfl, mgC a, rfl, ?_⟩; (clear H; intro g1 w1 H)) | (refine ⟨rfl, mgC b, rfl, ?_⟩; (clear H; intro g2 w1 H))); go_frame) | ((with_reducible refine Hp.ld H ?_); refine ⟨rfl, ?_⟩; refine ⟨c_look rfl, ?_⟩; refine ⟨_, _, rfl, ?_⟩; (first | refine ⟨_, _, _, .z, ?_⟩ | refine ⟨_, _, _, .s .z, ?_⟩); refine ⟨_, rfl, ?_⟩; go_frame))
    go_ret
    exact ⟨ret_bool (by unfold sameM; simp_all), H.below⟩
  · have f3 := True.intro
    have f10 := True.intro
    have f11 := True.intro
    have f12 := True.intro
    have H := Hp.nil w; go_enter Tryd.func13, Tryd.ntmps13; (first | simp only [List.append_eq, List.cons_append, List.nil_append] | skip); go_wp2_with (first | ((with_reducible refine Hp.box H ?_); (first | (refine ⟨rfl, mgC a, rfl, ?_⟩; (clear H; intro g1 w1 H)) | (refine ⟨rfl, mgC b, rfl, ?_⟩; (clear H; intro g2 w1 H))); go_frame) | ((with_reducible refine Hp.ld H ?_); refine ⟨rfl, ?_⟩; refine ⟨c_look rfl, ?_⟩; refine ⟨_, _, rfl, ?_⟩; (first | refine ⟨_, _, _, .z, ?_⟩ | refine ⟨_, _, _, .s .z, ?_⟩); refine ⟨_, rfl, ?_⟩; go_frame))
    go_ret
    exact ⟨ret_bool (by unfold sameM; simp_all), H.below⟩
  · have f10 := True.intro
    have f11 := True.intro
    have f12 := True.intro
    have H := Hp.nil w; go_enter Tryd.func13, Tryd.ntmps13; (first | simp only [List.append_eq, List.cons_append, List.nil_append] | skip); go_wp2_with (first | ((with_reducible refine Hp.box H ?_); (first | (refine ⟨rfl, mgC a, rfl, ?_⟩; (clear H; intro g1 w1 H)) | (refine ⟨rfl, mgC b, rfl, ?_⟩; (clear H; intro g2 w1 H))); go_frame) | ((with_reducible refine Hp.ld H ?_); refine ⟨rfl, ?_⟩; refine ⟨c_look rfl, ?_⟩; refine ⟨_, _, rfl, ?_⟩; (first | refine ⟨_, _, _, .z, ?_⟩ | refine ⟨_, _, _, .s .z, ?_⟩); refine ⟨_, rfl, ?_⟩; go_frame) | ((with_reducible refine Hp.lds H ?_); refine ⟨rfl, by kernel_rfl, ?_⟩; refine ⟨_, s_look rfl, ?_⟩; refine ⟨_, _, rfl, ?_⟩; (first | refine ⟨_, _, _, .z, ?_⟩ | refine ⟨_, _, _, .s .z, ?_⟩); (first | refine ⟨baC a.br a.bp, rfl, rfl, ?_⟩ | refine ⟨baC b.br b.bp, rfl, rfl, ?_⟩ | refine ⟨enC a.e, rfl, rfl, ?_⟩ | refine ⟨enC b.e, rfl, rfl, ?_⟩ | refine ⟨opC a.ok a.o0 a.o1 a.o2, rfl, rfl, ?_⟩ | refine ⟨opC b.ok b.o0 b.o1 b.o2, rfl, rfl, ?_⟩ | refine ⟨reC a.re a.rf a.rv, rfl, rfl, ?_⟩ | refine ⟨reC b.re b.rf b.rv, rfl, rfl, ?_⟩); go_frame) | ((with_reducible refine wB_neBa ?_); refine ⟨rfl, _, _, _, _, rfl, rfl, _, f3, ?_⟩; go_frame))
    go_ret
    exact ⟨ret_bool (by unfold sameM; simp_all), H.below⟩
  · have f10 := True.intro
    have f11 := True.intro
    have f12 := True.intro
    have H := Hp.nil w; go_enter Tryd.func13, Tryd.ntmps13; (first | simp only [List.append_eq, List.cons_append, List.nil_append] | skip); go_wp2_with (first | ((with_reducible refine Hp.box H ?_); (first | (refine ⟨rfl, mgC a, rfl, ?_⟩; (clear H; intro g1 w1 H)) | (refine ⟨rfl, mgC b, rfl, ?_⟩; (clear H; intro g2 w1 H))); go_frame) | ((with_reducible refine Hp.ld H ?_); refine ⟨rfl, ?_⟩; refine ⟨c_look rfl, ?_⟩; refine ⟨_, _, rfl, ?_⟩; (first | refine ⟨_, _, _, .z, ?_⟩ | refine ⟨_, _, _, .s .z, ?_⟩); refine ⟨_, rfl, ?_⟩; go_frame) | ((with_reducible refine Hp.lds H ?_); refine ⟨rfl, by kernel_rfl, ?_⟩; refine ⟨_, s_look rfl, ?_⟩; refine ⟨_, _, rfl, ?_⟩; (first | refine ⟨_, _, _, .z, ?_⟩ | refine ⟨_, _, _, .s .z, ?_⟩); (first | refine ⟨baC a.br a.bp, rfl, rfl, ?_⟩ | refine ⟨baC b.br b.bp, rfl, rfl, ?_⟩ | refine ⟨enC a.e, rfl, rfl, ?_⟩ | refine ⟨enC b.e, rfl, rfl, ?_⟩ | refine ⟨opC a.ok a.o0 a.o1 a.o2, rfl, rfl, ?_⟩ | refine ⟨opC b.ok b.o0 b.o1 b.o2, rfl, rfl, ?_⟩ | refine ⟨reC a.re a.rf a.rv, rfl, rfl, ?_⟩ | refine ⟨reC b.re b.rf b.rv, rfl, rfl, ?_⟩); go_frame) | ((with_reducible refine wB_neBa ?_); refine ⟨rfl, _, _, _, _, rfl, rfl, _, f3, ?_⟩; go_frame))
    go_ret
    exact ⟨ret_bool (by unfold sameM; simp_all), H.below⟩
  · have f10 := True.intro
    have f11 := True.intro
    have f12 := True.intro
    have H := Hp.nil w; go_enter Tryd.func13, Tryd.ntmps13; (first | simp only [List.append_eq, List.cons_append, List.nil_append] | skip); go_wp2_with (first | ((with_reducible refine Hp.box H ?_); (first | (refine ⟨rfl, mgC a, rfl, ?_⟩; (clear H; intro g1 w1 H)) | (refine ⟨rfl, mgC b, rfl, ?_⟩; (clear H; intro g2 w1 H))); go_frame) | ((with_reducible refine Hp.ld H ?_); refine ⟨rfl, ?_⟩; refine ⟨c_look rfl, ?_⟩; refine ⟨_, _, rfl, ?_⟩; (first | refine ⟨_, _, _, .z, ?_⟩ | refine ⟨_, _, _, .s .z, ?_⟩); refine ⟨_, rfl, ?_⟩; go_frame) | ((with_reducible refine Hp.lds H ?_); refine ⟨rfl, by kernel_rfl, ?_⟩; refine ⟨_, s_look rfl, ?_⟩; refine ⟨_, _, rfl, ?_⟩; (first | refine ⟨_, _, _, .z, ?_⟩ | refine ⟨_, _, _, .s .z, ?_⟩); (first | refine ⟨baC a.br a.bp, rfl, rfl, ?_⟩ | refine ⟨baC b.br b.bp, rfl, rfl, ?_⟩ | refine ⟨enC a.e, rfl, rfl, ?_⟩ | refine ⟨enC b.e, rfl, rfl, ?_⟩ | refine ⟨opC a.ok a.o0 a.o1 a.o2, rfl, rfl, ?_⟩ | refine ⟨opC b.ok b.o0 b.o1 b.o2, rfl, rfl, ?_⟩ | refine ⟨reC a.re a.rf a.rv, rfl, rfl, ?_⟩ | refine ⟨reC b.re b.rf b.rv, rfl, rfl, ?_⟩); go_frame) | ((with_reducible refine wB_neBa ?_); refine ⟨rfl, _, _, _, _, rfl, rfl, _, f3, ?_⟩; go_frame))
    go_ret
    exact ⟨ret_bool (by unfold sameM; simp_all), H.below⟩
  · have f10 := True.intro
    have f11 := True.intro
    have f12 := True.intro
    have H := Hp.nil w; go_enter Tryd.func13, Tryd.ntmps13; (first | simp only [List.append_eq, List.cons_append, List.nil_append] | skip); go_wp2_with (first | ((with_reducible refine Hp.box H ?_); (first | (refine ⟨rfl, mgC a, rfl, ?_⟩; (clear H; intro g1 w1 H)) | (refine ⟨rfl, mgC b, rfl, ?_⟩; (clear H; intro g2 w1 H))); go_frame) | ((with_reducible refine Hp.ld H ?_); refine ⟨rfl, ?_⟩; refine ⟨c_look rfl, ?_⟩; refine ⟨_, _, rfl, ?_⟩; (first | refine ⟨_, _, _, .z, ?_⟩ | refine ⟨_, _, _, .s .z, ?_⟩); refine ⟨_, rfl, ?_⟩; go_frame) | ((with_reducible refine Hp.lds H ?_); refine ⟨rfl, by kernel_rfl, ?_⟩; refine ⟨_, s_look rfl, ?_⟩; refine ⟨_, _, rfl, ?_⟩; (first | refine ⟨_, _, _, .z, ?_⟩ | refine ⟨_, _, _, .s .z, ?_⟩); (first | refine ⟨baC a.br a.bp, rfl, rfl, ?_⟩ | refine ⟨baC b.br b.bp, rfl, rfl, ?_⟩ | refine ⟨enC a.e, rfl, rfl, ?_⟩ | refine ⟨enC b.e, rfl, rfl, ?_⟩ | refine ⟨opC a.ok a.o0 a.o1 a.o2, rfl, rfl, ?_⟩ | refine ⟨opC b.ok b.o0 b.o1 b.o2, rfl, rfl, ?_⟩ | refine ⟨reC a.re a.rf a.rv, rfl, rfl, ?_⟩ | refine ⟨reC b.re b.rf b.rv, rfl, rfl, ?_⟩); go_frame) | ((with_reducible refine wB_neBa ?_); refine ⟨rfl, _, _, _, _, rfl, rfl, _, f3, ?_⟩; go_frame))
    go_ret
    exact ⟨ret_bool (by unfold sameM; simp_all), H.below⟩
  · have f10 := True.intro
    have f11 := True.intro
    have f12 := True.intro
    have H := Hp.nil w; go_enter Tryd.func13, Tryd.ntmps13; (first | simp only [List.append_eq, List.cons_append, List.nil_append] | skip); go_wp2_with (first | ((with_reducible refine Hp.box H ?_); (first | (refine ⟨rfl, mgC a, rfl, ?_⟩; (clear H; intro g1 w1 H)) | (refine ⟨rfl, mgC b, rfl, ?_⟩; (clear H; intro g2 w1 H))); go_frame) | ((with_reducible refine Hp.ld H ?_); refine ⟨rfl, ?_⟩; refine ⟨c_look rfl, ?_⟩; refine ⟨_, _, rfl, ?_⟩; (first | refine ⟨_, _, _, .z, ?_⟩ | refine ⟨_, _, _, .s .z, ?_⟩); refine ⟨_, rfl, ?_⟩; go_frame) | ((with_reducible refine Hp.lds H ?_); refine ⟨rfl, by kernel_rfl, ?_⟩; refine ⟨_, s_look rfl, ?_⟩; refine ⟨_, _, rfl, ?_⟩; (first | refine ⟨_, _, _, .z, ?_⟩ | refine ⟨_, _, _, .s .z, ?_⟩); (first | refine ⟨baC a.br a.bp, rfl, rfl, ?_⟩ | refine ⟨baC b.br b.bp, rfl, rfl, ?_⟩ | refine ⟨enC a.e, rfl, rfl, ?_⟩ | refine ⟨enC b.e, rfl, rfl, ?_⟩ | refine ⟨opC a.ok a.o0 a.o1 a.o2, rfl, rfl, ?_⟩ | refine ⟨opC b.ok b.o0 b.o1 b.o2, rfl, rfl, ?_⟩ | refine ⟨reC a.re a.rf a.rv, rfl, rfl, ?_⟩ | refine ⟨reC b.re b.rf b.rv, rfl, rfl, ?_⟩); go_frame) | ((with_reducible refine wB_neBa ?_); refine ⟨rfl, _, _, _, _, rfl, rfl, _, f3, ?_⟩; go_frame))
    go_ret
    exact ⟨ret_bool (by unfold sameM; simp_all), H.below⟩
  · have f10 := True.intro
    have f11 := True.intro
    have f12 := True.intro
    have H := Hp.nil w; go_enter Tryd.func13, Tryd.ntmps13; (first | simp only [List.append_eq, List.cons_append, List.nil_append] | skip); go_wp2_with (first | ((with_reducible refine Hp.box H ?_); (first | (refine ⟨rfl, mgC a, rfl, ?_⟩; (clear H; intro g1 w1 H)) | (refine ⟨rfl, mgC b, rfl, ?_⟩; (clear H; intro g2 w1 H))); go_frame) | ((with_reducible refine Hp.ld H ?_); refine ⟨rfl, ?_⟩; refine ⟨c_look rfl, ?_⟩; refine ⟨_, _, rfl, ?_⟩; (first | refine ⟨_, _, _, .z, ?_⟩ | refine ⟨_, _, _, .s .z, ?_⟩); refine ⟨_, rfl, ?_⟩; go_frame) | ((with_reducible refine Hp.lds H ?_); refine ⟨rfl, by kernel_rfl, ?_⟩; refine ⟨_, s_look rfl, ?_⟩; refine ⟨_, _, rfl, ?_⟩; (first | refine ⟨_, _, _, .z, ?_⟩ | refine ⟨_, _, _, .s .z, ?_⟩); (first | refine ⟨baC a.br a.bp, rfl, rfl, ?_⟩ | refine ⟨baC b.br b.bp, rfl, rfl, ?_⟩ | refine ⟨enC a.e, rfl, rfl, ?_⟩ | refine ⟨enC b.e, rfl, rfl, ?_⟩ | refine ⟨opC a.ok a.o0 a.o1 a.o2, rfl, rfl, ?_⟩ | refine ⟨opC b.ok b.o0 b.o1 b.o2, rfl, rfl, ?_⟩ | refine ⟨reC a.re a.rf a.rv, rfl, rfl, ?_⟩ | refine ⟨reC b.re b.rf b.rv, rfl, rfl, ?_⟩); go_frame) | ((with_reducible refine wB_neBa ?_); refine ⟨rfl, _, _, _, _, rfl, rfl, _, f3, ?_⟩; go_frame))
    go_ret
    exact ⟨ret_bool (by unfold sameM; simp_all), H.below⟩
  · have f10 := True.intro
    have f11 := True.intro
    have f12 := True.intro
    have H := Hp.nil w; go_enter Tryd.func13, Tryd.ntmps13; (first | simp only [List.append_eq, List.cons_append, List.nil_append] | skip); go_wp2_with (first | ((with_reducible refine Hp.box H ?_); (first | (refine ⟨rfl, mgC a, rfl, ?_⟩; (clear H; intro g1 w1 H)) | (refine ⟨rfl, mgC b, rfl, ?_⟩; (clear H; intro g2 w1 H))); go_frame) | ((with_reducible refine Hp.ld H ?_); refine ⟨rfl, ?_⟩; refine ⟨c_look rfl, ?_⟩; refine ⟨_, _, rfl, ?_⟩; (first | refine ⟨_, _, _, .z, ?_⟩ | refine ⟨_, _, _, .s .z, ?_⟩); refine ⟨_, rfl, ?_⟩; go_frame) | ((with_reducible refine Hp.lds H ?_); refine ⟨rfl, by kernel_rfl, ?_⟩; refine ⟨_, s_look rfl, ?_⟩; refine ⟨_, _, rfl, ?_⟩; (first | refine ⟨_, _, _, .z, ?_⟩ | refine ⟨_, _, _, .s .z, ?_⟩); (first | refine ⟨baC a.br a.bp, rfl, rfl, ?_⟩ | refine ⟨baC b.br b.bp, rfl, rfl, ?_⟩ | refine ⟨enC a.e, rfl, rfl, ?_⟩ | refine ⟨enC b.e, rfl, rfl, ?_⟩ | refine ⟨opC a.ok a.o0 a.o1 a.o2, rfl, rfl, ?_⟩ | refine ⟨opC b.ok b.o0 b.o1 b.o2, rfl, rfl, ?_⟩ | refine ⟨reC a.re a.rf a.rv, rfl, rfl, ?_⟩ | refine ⟨reC b.re b.rf b.rv, rfl, rfl, ?_⟩); go_frame) | ((with_reducible refine wB_neBa ?_); refine ⟨rfl, _, _, _, _, rfl, rfl, _, f3, ?_⟩; go_frame))
    go_ret
    exact ⟨ret_bool (by unfold sameM; simp_all), H.below⟩
  · have f11 := True.intro
    have f12 := True.intro
    have H := Hp.nil w; go_enter Tryd.func13, Tryd.ntmps13; (first | simp only [List.append_eq, List.cons_append, List.nil_append] | skip); go_wp2_with (first | ((with_reducible refine Hp.box H ?_); (first | (refine ⟨rfl, mgC a, rfl, ?_⟩; (clear H; intro g1 w1 H)) | (refine ⟨rfl, mgC b, rfl, ?_⟩; (clear H; intro g2 w1 H))); go_frame) | ((with_reducible refine Hp.ld H ?_); refine ⟨rfl, ?_⟩; refine ⟨c_look rfl, ?_⟩; refine ⟨_, _, rfl, ?_⟩; (first | refine ⟨_, _, _, .z, ?_⟩ | refine ⟨_, _, _, .s .z, ?_⟩); refine ⟨_, rfl, ?_⟩; go_frame) | ((with_reducible refine Hp.lds H ?_); refine ⟨rfl, by kernel_rfl, ?_⟩; refine ⟨_, s_look rfl, ?_⟩; refine ⟨_, _, rfl, ?_⟩; (first | refine ⟨_, _, _, .z, ?_⟩ | refine ⟨_, _, _, .s .z, ?_⟩); (first | refine ⟨baC a.br a.bp, rfl, rfl, ?_⟩ | refine ⟨baC b.br b.bp, rfl, rfl, ?_⟩ | refine ⟨enC a.e, rfl, rfl, ?_⟩ | refine ⟨enC b.e, rfl, rfl, ?_⟩ | refine ⟨opC a.ok a.o0 a.o1 a.o2, rfl, rfl, ?_⟩ | refine ⟨opC b.ok b.o0 b.o1 b.o2, rfl, rfl, ?_⟩ | refine ⟨reC a.re a.rf a.rv, rfl, rfl, ?_⟩ | refine ⟨reC b.re b.rf b.rv, rfl, rfl, ?_⟩); go_frame) | ((with_reducible refine wB_neBa ?_); refine ⟨rfl, _, _, _, _, rfl, rfl, _, f3, ?_⟩; go_frame) | ((with_reducible refine wB_neEn ?_); refine ⟨rfl, _, _, rfl, rfl, _, f10, ?_⟩; go_frame))
    go_ret
    exact ⟨ret_bool (by unfold sameM; simp_all), H.below⟩
  · have f12 := True.intro
    have H := Hp.nil w; go_enter Tryd.func13, Tryd.ntmps13; (first | simp only [List.append_eq, List.cons_append, List.nil_append] | skip); go_wp2_with (first | ((with_reducible refine Hp.box H ?_); (first | (refine ⟨rfl, mgC a, rfl, ?_⟩; (clear H; intro g1 w1 H)) | (refine ⟨rfl, mgC b, rfl, ?_⟩; (clear H; intro g2 w1 H))); go_frame) | ((with_reducible refine Hp.ld H ?_); refine ⟨rfl, ?_⟩; refine ⟨c_look rfl, ?_⟩; refine ⟨_, _, rfl, ?_⟩; (first | refine ⟨_, _, _, .z, ?_⟩ | refine ⟨_, _, _, .s .z, ?_⟩); refine ⟨_, rfl, ?_⟩; go_frame) | ((with_reducible refine Hp.lds H ?_); refine ⟨rfl, by kernel_rfl, ?_⟩; refine ⟨_, s_look rfl, ?_⟩; refine ⟨_, _, rfl, ?_⟩; (first | refine ⟨_, _, _, .z, ?_⟩ | refine ⟨_, _, _, .s .z, ?_⟩); (first | refine ⟨baC a.br a.bp, rfl, rfl, ?_⟩ | refine ⟨baC b.br b.bp, rfl, rfl, ?_⟩ | refine ⟨enC a.e, rfl, rfl, ?_⟩ | refine ⟨enC b.e, rfl, rfl, ?_⟩ | refine ⟨opC a.ok a.o0 a.o1 a.o2, rfl, rfl, ?_⟩ | refine ⟨opC b.ok b.o0 b.o1 b.o2, rfl, rfl, ?_⟩ | refine ⟨reC a.re a.rf a.rv, rfl, rfl, ?_⟩ | refine ⟨reC b.re b.rf b.rv, rfl, rfl, ?_⟩); go_frame) | ((with_reducible refine wB_neBa ?_); refine ⟨rfl, _, _, _, _, rfl, rfl, _, f3, ?_⟩; go_frame) | ((with_reducible refine wB_neEn ?_); refine ⟨rfl, _, _, rfl, rfl, _, f10, ?_⟩; go_frame) | ((with_reducible refine wB_neOp ?_); refine ⟨rfl, _, _, _, _, _, _, _, _, rfl, rfl, _, f11, ?_⟩; go_frame))
    go_ret
    exact ⟨ret_bool (by unfold sameM; simp_all), H.below⟩
  · have H := Hp.nil w; go_enter Tryd.func13, Tryd.ntmps13; (first | simp only [List.append_eq, List.cons_append, List.nil_append] | skip); go_wp2_with (first | ((with_reducible refine Hp.box H ?_); (first | (refine ⟨rfl, mgC a, rfl, ?_⟩; (clear H; intro g1 w1 H)) | (refine ⟨rfl, mgC b, rfl, ?_⟩; (clear H; intro g2 w1 H))); go_frame) | ((with_reducible refine Hp.ld H ?_); refine ⟨rfl, ?_⟩; refine ⟨c_look rfl, ?_⟩; refine ⟨_, _, rfl, ?_⟩; (first | refine ⟨_, _, _, .z, ?_⟩ | refine ⟨_, _, _, .s .z, ?_⟩); refine ⟨_, rfl, ?_⟩; go_frame) | ((with_reducible refine Hp.lds H ?_); refine ⟨rfl, by kernel_rfl, ?_⟩; refine ⟨_, s_look rfl, ?_⟩; refine ⟨_, _, rfl, ?_⟩; (first | refine ⟨_, _, _, .z, ?_⟩ | refine ⟨_, _, _, .s .z, ?_⟩); (first | refine ⟨baC a.br a.bp, rfl, rfl, ?_⟩ | refine ⟨baC b.br b.bp, rfl, rfl, ?_⟩ | refine ⟨enC a.e, rfl, rfl, ?_⟩ | refine ⟨enC b.e, rfl, rfl, ?_⟩ | refine ⟨opC a.ok a.o0 a.o1 a.o2, rfl, rfl, ?_⟩ | refine ⟨opC b.ok b.o0 b.o1 b.o2, rfl, rfl, ?_⟩ | refine ⟨reC a.re a.rf a.rv, rfl, rfl, ?_⟩ | refine ⟨reC b.re b.rf b.rv, rfl, rfl, ?_⟩); go_frame) | ((with_reducible refine wB_neBa ?_); refine ⟨rfl, _, _, _, _, rfl, rfl, _, f3, ?_⟩; go_frame) | ((with_reducible refine wB_neEn ?_); refine ⟨rfl, _, _, rfl, rfl, _, f10, ?_⟩; go_frame) | ((with_reducible refine wB_neOp ?_); refine ⟨rfl, _, _, _, _, _, _, _, _, rfl, rfl, _, f11, ?_⟩; go_frame) | ((with_reducible refine wB_neRe ?_); refine ⟨rfl, _, _, _, _, _, _, rfl, rfl, _, f12, ?_⟩; go_frame))
    go_ret
    exact ⟨ret_bool (by unfold sameM; simp_all), H.below⟩
  · have hnm : nrm a = nrm b := by
      have e : sameM a [] [] b [] [] = true := by unfold sameM; simp_all [rpsEq, eqB]
      exact (sameM_iff.1 e).1
    have HNM := Lib.hid hnm
    have hA1 := hA.n1
    have hB1 := hB.n1
    have HA1 := Lib.hid hA1
    have HB1 := Lib.hid hB1
    clear hnm hA1 hB1
    by_cases hlen : ra.length = rb.length
    · have hlb : ((a.rn : Int) != b.rn) = false := by rw [HA1.out, HB1.out]; simp [hlen]
      cases hsb : (la == lb)
      rotate_left
      · have hll : la = lb := by
          exact beq_iff_eq.1 hsb
        have HLL := Lib.hid hll
        have HLEN := Lib.hid hlen
        clear hll hlen
        have H := Hp.nil w; go_enter Tryd.func13, Tryd.ntmps13; (first | simp only [List.append_eq, List.cons_append, List.nil_append] | skip); go_wp2_with (first | ((with_reducible refine Hp.box H ?_); (first | (refine ⟨rfl, mgC a, rfl, ?_⟩; (clear H; intro g1 w1 H)) | (refine ⟨rfl, mgC b, rfl, ?_⟩; (clear H; intro g2 w1 H))); go_frame) | ((with_reducible refine Hp.ld H ?_); refine ⟨rfl, ?_⟩; refine ⟨c_look rfl, ?_⟩; refine ⟨_, _, rfl, ?_⟩; (first | refine ⟨_, _, _, .z, ?_⟩ | refine ⟨_, _, _, .s .z, ?_⟩); refine ⟨_, rfl, ?_⟩; go_frame) | ((with_reducible refine Hp.lds H ?_); refine ⟨rfl, by kernel_rfl, ?_⟩; refine ⟨_, s_look rfl, ?_⟩; refine ⟨_, _, rfl, ?_⟩; (first | refine ⟨_, _, _, .z, ?_⟩ | refine ⟨_, _, _, .s .z, ?_⟩); (first | refine ⟨baC a.br a.bp, rfl, rfl, ?_⟩ | refine ⟨baC b.br b.bp, rfl, rfl, ?_⟩ | refine ⟨enC a.e, rfl, rfl, ?_⟩ | refine ⟨enC b.e, rfl, rfl, ?_⟩ | refine ⟨opC a.ok a.o0 a.o1 a.o2, rfl, rfl, ?_⟩ | refine ⟨opC b.ok b.o0 b.o1 b.o2, rfl, rfl, ?_⟩ | refine ⟨reC a.re a.rf a.rv, rfl, rfl, ?_⟩ | refine ⟨reC b.re b.rf b.rv, rfl, rfl, ?_⟩); go_frame) | ((with_reducible refine wB_neBa ?_); refine ⟨rfl, _, _, _, _, rfl, rfl, _, f3, ?_⟩; go_frame) | ((with_reducible refine wB_neEn ?_); refine ⟨rfl, _, _, rfl, rfl, _, f10, ?_⟩; go_frame) | ((with_reducible refine wB_neOp ?_); refine ⟨rfl, _, _, _, _, _, _, _, _, rfl, rfl, _, f11, ?_⟩; go_frame) | ((with_reducible refine wB_neRe ?_); refine ⟨rfl, _, _, _, _, _, _, rfl, rfl, _, f12, ?_⟩; go_frame) | ((with_reducible refine Hp.cvS H ?_); refine ⟨rfl, _, _, _, rfl, la, (hA.yr.below H.below), hA.n2, ?_⟩; go_frame) | ((with_reducible refine Hp.cvS H ?_); refine ⟨rfl, _, _, _, rfl, lb, (hB.yr.below H.below), hB.n2, ?_⟩; go_frame))
        have hat : RSRel w a b ra rb g1 g2 (.int .i64 (0 : Nat)) w1 := ⟨0, Nat.zero_le _, rfl, fun i _ _ h => absurd h (by omega), H⟩
        clear H
        go_loopw [5] (fun v wr => RSRel w a b ra rb g1 g2 v wr) (fun v _ => ra.length - (intOf v).toNat)
        case atStart => exact hat
        case round =>
          clear hat
          obtain ⟨k, hk, rfl, hall, H⟩ := hrel
          have HAL := Lib.hid hall
          clear hall
          have hmx := hA.mx
          have hle := hA.le
          have hmx' := hB.mx
          have hle' := hB.le
          unfold maxLen at hmx hmx'
          by_cases hlt : k < ra.length
          · have hlt' : k < rb.length := by rw [← HLEN.out]; exact hlt
            have hlA : k < a.rn := by rw [HA1.out]; exact hlt
            have hlB : k < b.rn := by rw [HB1.out]; exact hlt'
            obtain ⟨bb, o, hra, hrow⟩ := hA.rr (fun e => by subst e; simp at hlt)
            obtain ⟨bb', o', hrb, hrow'⟩ := hB.rr (fun e => by subst e; simp at hlt')
            have hx := hrow k hlt
            have hy := hrow' k hlt'
            obtain ⟨x, hxe⟩ : ∃ x, ra[k] = x := ⟨_, rfl⟩
            obtain ⟨y, hye⟩ : ∃ y, rb[k] = y := ⟨_, rfl⟩
            rw [hxe] at hx
            rw [hye] at hy
            have HXE := Lib.hid hxe
            have HYE := Lib.hid hye
            clear hxe hye
            cases hq : (!rpEq x y)
            · go_wp2_with (first | ((with_reducible refine Hp.ld H ?_); refine ⟨rfl, ?_⟩; refine ⟨c_look rfl, ?_⟩; refine ⟨_, _, rfl, ?_⟩; (first | refine ⟨_, _, _, .z, ?_⟩ | refine ⟨_, _, _, .s .z, ?_⟩); refine ⟨_, rfl, ?_⟩; go_frame))
              ((with_reducible refine wp_region_hpK H (by kernel_rfl) (by kernel_rfl) ?_); intro _ KQ hKQ; (repeat (first | ((with_reducible refine hq_ld ?_); refine ⟨rfl, ?_⟩; refine ⟨c_look rfl, ?_⟩; refine ⟨_, _, rfl, ?_⟩; (first | refine ⟨_, _, _, .z, ?_⟩ | refine ⟨_, _, _, .s .z, ?_⟩); refine ⟨_, rfl, ?_⟩; go_frame) | ((with_reducible refine hq_ldrO ?_); refine ⟨rfl, by kernel_rfl, _, _, rfl, _, hx, s_Report, ?_⟩; go_frame) | ((with_reducible refine hq_ldrO ?_); refine ⟨rfl, by kernel_rfl, _, _, rfl, _, hy, s_Report, ?_⟩; go_frame) | ((with_reducible refine qB_neRp ?_); refine ⟨rfl, _, _, rfl, rfl, _, hq, ?_⟩; go_frame) | go_big_quiet_step ((fail)))); (with_reducible refine wpQuiet_nil (hKQ _ ?_)); clear hKQ; clear KQ H; intro w1 H)
              go_wp2_with (first | (fail))
              go_roundw
              case rel =>
                refine ⟨k + 1, hlt, rfl, fun i h h' hi => ?_, H⟩
                by_cases hik : i < k
                · exact HAL.out i h h' hik
                · obtain rfl : i = k := by omega
                  rw [HXE.out, HYE.out]
                  exact rpEq_iff.1 (by simpa using hq)
              case measure => show ra.length - ((k : Int) + 1).toNat < ra.length - ((k : Int)).toNat; omega
            · go_wp2_with (first | ((with_reducible refine Hp.ld H ?_); refine ⟨rfl, ?_⟩; refine ⟨c_look rfl, ?_⟩; refine ⟨_, _, rfl, ?_⟩; (first | refine ⟨_, _, _, .z, ?_⟩ | refine ⟨_, _, _, .s .z, ?_⟩); refine ⟨_, rfl, ?_⟩; go_frame))
              ((with_reducible refine wp_region_hpK H (by kernel_rfl) (by kernel_rfl) ?_); intro _ KQ hKQ; (repeat (first | ((with_reducible refine hq_ld ?_); refine ⟨rfl, ?_⟩; refine ⟨c_look rfl, ?_⟩; refine ⟨_, _, rfl, ?_⟩; (first | refine ⟨_, _, _, .z, ?_⟩ | refine ⟨_, _, _, .s .z, ?_⟩); refine ⟨_, rfl, ?_⟩; go_frame) | ((with_reducible refine hq_ldrO ?_); refine ⟨rfl, by kernel_rfl, _, _, rfl, _, hx, s_Report, ?_⟩; go_frame) | ((with_reducible refine hq_ldrO ?_); refine ⟨rfl, by kernel_rfl, _, _, rfl, _, hy, s_Report, ?_⟩; go_frame) | ((with_reducible refine qB_neRp ?_); refine ⟨rfl, _, _, rfl, rfl, _, hq, ?_⟩; go_frame) | go_big_quiet_step ((fail)))); (with_reducible refine wpQuiet_nil (hKQ _ ?_)); clear hKQ; clear KQ H; intro w1 H)
              go_wp2_with (first | (fail))
              go_ret
              refine ⟨ret_bool (rsame_fin ?_).symm, H.below⟩
              rintro ⟨_, e, _⟩
              subst e
              rw [← HXE.out, ← HYE.out, rpEq_iff.2 rfl] at hq
              cases hq
          · obtain rfl : k = ra.length := by omega
            have hnl : ¬ (ra.length < a.rn) := by rw [HA1.out]; omega
            have hx := True.intro
            have hy := True.intro
            have hq := True.intro
            go_wp2_with (first | ((with_reducible refine Hp.ld H ?_); refine ⟨rfl, ?_⟩; refine ⟨c_look rfl, ?_⟩; refine ⟨_, _, rfl, ?_⟩; (first | refine ⟨_, _, _, .z, ?_⟩ | refine ⟨_, _, _, .s .z, ?_⟩); refine ⟨_, rfl, ?_⟩; go_frame))
            go_ret
            refine ⟨ret_bool ?_, H.below⟩
            exact (sameM_iff.2 ⟨HNM.out, list_ext HLEN.out fun i h h' => HAL.out i h h' h, HLL.out⟩).symm
      · have H := Hp.nil w; go_enter Tryd.func13, Tryd.ntmps13; (first | simp only [List.append_eq, List.cons_append, List.nil_append] | skip); go_wp2_with (first | ((with_reducible refine Hp.box H ?_); (first | (refine ⟨rfl, mgC a, rfl, ?_⟩; (clear H; intro g1 w1 H)) | (refine ⟨rfl, mgC b, rfl, ?_⟩; (clear H; intro g2 w1 H))); go_frame) | ((with_reducible refine Hp.ld H ?_); refine ⟨rfl, ?_⟩; refine ⟨c_look rfl, ?_⟩; refine ⟨_, _, rfl, ?_⟩; (first | refine ⟨_, _, _, .z, ?_⟩ | refine ⟨_, _, _, .s .z, ?_⟩); refine ⟨_, rfl, ?_⟩; go_frame) | ((with_reducible refine Hp.lds H ?_); refine ⟨rfl, by kernel_rfl, ?_⟩; refine ⟨_, s_look rfl, ?_⟩; refine ⟨_, _, rfl, ?_⟩; (first | refine ⟨_, _, _, .z, ?_⟩ | refine ⟨_, _, _, .s .z, ?_⟩); (first | refine ⟨baC a.br a.bp, rfl, rfl, ?_⟩ | refine ⟨baC b.br b.bp, rfl, rfl, ?_⟩ | refine ⟨enC a.e, rfl, rfl, ?_⟩ | refine ⟨enC b.e, rfl, rfl, ?_⟩ | refine ⟨opC a.ok a.o0 a.o1 a.o2, rfl, rfl, ?_⟩ | refine ⟨opC b.ok b.o0 b.o1 b.o2, rfl, rfl, ?_⟩ | refine ⟨reC a.re a.rf a.rv, rfl, rfl, ?_⟩ | refine ⟨reC b.re b.rf b.rv, rfl, rfl, ?_⟩); go_frame) | ((with_reducible refine wB_neBa ?_); refine ⟨rfl, _, _, _, _, rfl, rfl, _, f3, ?_⟩; go_frame) | ((with_reducible refine wB_neEn ?_); refine ⟨rfl, _, _, rfl, rfl, _, f10, ?_⟩; go_frame) | ((with_reducible refine wB_neOp ?_); refine ⟨rfl, _, _, _, _, _, _, _, _, rfl, rfl, _, f11, ?_⟩; go_frame) | ((with_reducible refine wB_neRe ?_); refine ⟨rfl, _, _, _, _, _, _, rfl, rfl, _, f12, ?_⟩; go_frame) | ((with_reducible refine Hp.cvS H ?_); refine ⟨rfl, _, _, _, rfl, la, (hA.yr.below H.below), hA.n2, ?_⟩; go_frame) | ((with_reducible refine Hp.cvS H ?_); refine ⟨rfl, _, _, _, rfl, lb, (hB.yr.below H.below), hB.n2, ?_⟩; go_frame))
        go_ret
        refine ⟨ret_bool (rsame_fin ?_).symm, H.below⟩
        rintro ⟨_, _, e⟩
        subst e
        simp at hsb
    · have hlb : ((a.rn : Int) != b.rn) = true := by rw [HA1.out, HB1.out]; simp; omega
      have H := Hp.nil w; go_enter Tryd.func13, Tryd.ntmps13; (first | simp only [List.append_eq, List.cons_append, List.nil_append] | skip); go_wp2_with (first | ((with_reducible refine Hp.box H ?_); (first | (refine ⟨rfl, mgC a, rfl, ?_⟩; (clear H; intro g1 w1 H)) | (refine ⟨rfl, mgC b, rfl, ?_⟩; (clear H; intro g2 w1 H))); go_frame) | ((with_reducible refine Hp.ld H ?_); refine ⟨rfl, ?_⟩; refine ⟨c_look rfl, ?_⟩; refine ⟨_, _, rfl, ?_⟩; (first | refine ⟨_, _, _, .z, ?_⟩ | refine ⟨_, _, _, .s .z, ?_⟩); refine ⟨_, rfl, ?_⟩; go_frame) | ((with_reducible refine Hp.lds H ?_); refine ⟨rfl, by kernel_rfl, ?_⟩; refine ⟨_, s_look rfl, ?_⟩; refine ⟨_, _, rfl, ?_⟩; (first | refine ⟨_, _, _, .z, ?_⟩ | refine ⟨_, _, _, .s .z, ?_⟩); (first | refine ⟨baC a.br a.bp, rfl, rfl, ?_⟩ | refine ⟨baC b.br b.bp, rfl, rfl, ?_⟩ | refine ⟨enC a.e, rfl, rfl, ?_⟩ | refine ⟨enC b.e, rfl, rfl, ?_⟩ | refine ⟨opC a.ok a.o0 a.o1 a.o2, rfl, rfl, ?_⟩ | refine ⟨opC b.ok b.o0 b.o1 b.o2, rfl, rfl, ?_⟩ | refine ⟨reC a.re a.rf a.rv, rfl, rfl, ?_⟩ | refine ⟨reC b.re b.rf b.rv, rfl, rfl, ?_⟩); go_frame) | ((with_reducible refine wB_neBa ?_); refine ⟨rfl, _, _, _, _, rfl, rfl, _, f3, ?_⟩; go_frame) | ((with_reducible refine wB_neEn ?_); refine ⟨rfl, _, _, rfl, rfl, _, f10, ?_⟩; go_frame) | ((with_reducible refine wB_neOp ?_); refine ⟨rfl, _, _, _, _, _, _, _, _, rfl, rfl, _, f11, ?_⟩; go_frame) | ((with_reducible refine wB_neRe ?_); refine ⟨rfl, _, _, _, _, _, _, rfl, rfl, _, f12, ?_⟩; go_frame))
      go_ret
      refine ⟨ret_bool (rsame_fin ?_).symm, H.below⟩
      rintro ⟨_, e, _⟩
      exact hlen (by rw [e])
theorem rsame_v {a b : Mg} {ra rb : List Rp} {la lb : List UInt8} {r : Bool} {w : World} (h : sameM a ra la b rb lb = r) (hA : MgR w a ra la) (hB : MgR w b rb lb) :
    Calls Tryd.prog 13 #[.agg (mgC a).toArray, .agg (mgC b).toArray] w (RetV w (.bool r)) := by
  subst h
  exact rsame_any a b ra rb la lb w hA hB
end Go.Proofs.YtajgikjmoeemnaaDoor

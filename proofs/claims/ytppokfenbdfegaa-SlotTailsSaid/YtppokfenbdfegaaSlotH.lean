/-
  THE WALK OF slot's rules. (Printed by genslotrules.py.)
-/
import Derived.Test.YtppokfenbdfegaaSlotG
import Derived.Test.YtppokfenbdfegaaHeapD
namespace Go.Proofs.Ytppokfenbdfegaa
open Go.RowKit
set_option linter.unusedVariables false

abbrev fn0 (k : Nat) (ps : Array Value) : Value := .func (.func k) #[] ps
abbrev ptr (g : Nat) : Value := .pointer (some ⟨g, 0, none⟩)
def rulesV (x : SPair) (gx a1 b1 a2 b2 : Nat) : List Value := [fn0 38 #[ptr gx], fn0 37 #[ptr a1, ptr b1], .func (.func 34) #[.agg (pairC x).toArray] #[], fn0 37 #[ptr a2, ptr b2],
  fn0 39 #[ptr gx], fn0 40 #[ptr gx], fn0 41 #[], fn0 42 #[ptr gx]]
abbrev u8b (g : Nat) (v : Int) : Item := .blk g 5 [.int .u8 v]
def RetR (w0 : World) (L : List Item) (x : SPair) (e : Ending) (w' : World) : Prop :=
  ∃ gx a1 b1 a2 b2, e = .returned (.agg (rulesV x gx a1 b1 a2 b2).toArray) ∧ Hp w0 w' (.blk gx 68 (pairC x) :: u8b a1 2 :: u8b b1 3 :: u8b a2 2 :: u8b b2 4 :: L)
theorem z_Rules : zeroC Try.prog 73 = some (List.toArray [.nilFunc, .nilFunc, .nilFunc, .nilFunc, .nilFunc, .nilFunc, .nilFunc, .nilFunc]) := by kernel_rfl
theorem b_rule (f1 f2 : Fn) (x1 y1 x2 y2 : Array Value) : Try.prog.built 72 [(0, .func f1 x1 y1), (1, .func f2 x2 y2)] = some #[.func f1 x1 y1, .func f2 x2 y2] := by kernel_rfl
theorem b_rules (a b c d e f g h : Value) : Try.prog.built 73 [(0, .agg #[a, b]), (1, .agg #[c, d]), (2, .agg #[e, f]), (3, .agg #[g, h])] = some #[a, b, c, d, e, f, g, h] := by kernel_rfl
theorem ex_fn {P : Program} {a : Act} {oi : Oper} {w : World} {fn : Fn} {x : Operand} {g : Nat} (ho : oi.op = .makeFunc fn #[] #[x]) (hx : a.eval x = .pointer (some ⟨g, 0, none⟩)) : (execOp a.eval oi).run P w = .ok (.value (.func fn #[] #[.pointer (some ⟨g, 0, none⟩)])) w := by
  simp [execOp, ho, hx, Instr.makeFunc]
theorem ex_fnm {P : Program} {a : Act} {oi : Oper} {w : World} {fn : Fn} {x : Operand} {cs : List Value} (ho : oi.op = .makeFunc fn #[x] #[]) (hx : a.eval x = .agg cs.toArray) : (execOp a.eval oi).run P w = .ok (.value (.func fn #[.agg cs.toArray] #[])) w := by
  simp [execOp, ho, hx, Instr.makeFunc]
theorem ex_move {P : Program} {a : Act} {oi : Oper} {w : World} {fn : Fn} {x : Operand} {y z : Array Value} (ho : oi.op = .move x) (hx : a.eval x = .func fn y z) : (execOp a.eval oi).run P w = .ok (.value (.func fn y z)) w := by
  simp [execOp, ho, hx]
theorem ex_callr {P : Program} {r : Operand → Value} {oi : Oper} {w : World} {x y z : Operand} {ts : Array TypeId} {k : Nat} {i j : Int} (ho : oi.op = .call { callee := .value x, args := #[y, z], argTypes := ts }) (hcf : ∀ args w, (callFunc k args).run P w = .ok (.enter k args) w) (hx : r x = .func (.func k) #[] #[]) (hy : r y = .int .u8 i) (hz : r z = .int .u8 j) : (execOp r oi).run P w = .ok (.enter k #[.int .u8 i, .int .u8 j]) w := by
  simp [execOp, ho, hx, hy, hz, resolve, invoke, Deferred.ofValue, go_sem, hcf]
theorem ex_call {P : Program} {a : Act} {oi : Oper} {w : World} {x y z : Operand} {ts : Array TypeId} {k : Nat} {i j : Int} (ho : oi.op = .call { callee := .value x, args := #[y, z], argTypes := ts }) (hcf : ∀ args w, (callFunc k args).run P w = .ok (.enter k args) w) (hx : a.eval x = .func (.func k) #[] #[]) (hy : a.eval y = .int .u8 i) (hz : a.eval z = .int .u8 j) : (execOp a.eval oi).run P w = .ok (.enter k #[.int .u8 i, .int .u8 j]) w :=
  ex_callr ho hcf hx hy hz
theorem cf1 (args : Array Value) (w : World) : (callFunc 36 args).run Try.prog w = .ok (.enter 36 args) w := by kernel_rfl
set_option maxHeartbeats 400000 in
theorem rules_any (x : SPair) (w0 w : World) (L : List Item) (H0 : Hp w0 w L) : Calls Try.prog 27 #[.agg (pairC x).toArray] w (RetR w0 L x) := by
  have H := Hp.nil w
  go_enter Try.func27, Try.ntmps27
  go_wp2_with (first | ((with_reducible refine Hp.box H ?_); refine ⟨rfl, _, rfl, ?_⟩; (clear H; intro g1 w1 H); go_frame) | ((with_reducible refine Hp.allo H ?_); refine ⟨rfl, _, z_Rules, ?_⟩; (clear H; intro g2 w1 H); go_frame) | ((with_reducible refine Hp.ld H ?_); refine ⟨rfl, ?_⟩; refine ⟨c_look rfl, ?_⟩; refine ⟨_, _, rfl, ?_⟩; ((repeat ((fail_if_success refine ⟨_, _, _, .z, ?_⟩); refine hs ?_)); refine ⟨_, _, _, .z, ?_⟩); refine ⟨_, rfl, ?_⟩; go_frame) | ((with_reducible refine Hp.lda H ?_); refine ⟨rfl, by kernel_rfl, ?_⟩; refine ⟨_, s_look rfl, ?_⟩; refine ⟨_, rfl, ?_⟩; ((repeat ((fail_if_success refine ⟨_, _, _, .z, ?_⟩); refine hs ?_)); refine ⟨_, _, _, .z, ?_⟩); refine ⟨rfl, ?_⟩; go_frame) | ((with_reducible refine Hp.lds H ?_); refine ⟨rfl, by kernel_rfl, ?_⟩; refine ⟨_, s_look rfl, ?_⟩; refine ⟨_, _, rfl, ?_⟩; ((repeat ((fail_if_success refine ⟨_, _, _, .z, ?_⟩); refine hs ?_)); refine ⟨_, _, _, .z, ?_⟩); (first | refine ⟨[_, _], rfl, rfl, ?_⟩ | refine ⟨[_, _, _, _], rfl, rfl, ?_⟩ | refine ⟨[_, _, _, _, _, _, _], rfl, rfl, ?_⟩ | refine ⟨[_, _, _], rfl, rfl, ?_⟩ | (fail)); go_frame) | ((with_reducible refine Hp.sto H ?_); refine ⟨rfl, ?_⟩; refine ⟨c_look rfl, ?_⟩; refine ⟨_, _, rfl, ?_⟩; ((repeat ((fail_if_success refine ⟨_, _, _, .z, ?_⟩); refine hs ?_)); refine ⟨_, _, _, .z, ?_⟩); refine ⟨⟨_, rfl⟩, rfl, ?_⟩; (clear H; intro w1 H; simp only [List.set] at H); go_frame) | ((with_reducible refine Hp.sta H ?_); refine ⟨rfl, ?_⟩; refine ⟨_, s_look rfl, ?_⟩; refine ⟨_, rfl, _, rfl, rfl, ?_⟩; ((repeat ((fail_if_success refine ⟨_, _, _, .z, ?_⟩); refine hs ?_)); refine ⟨_, _, _, .z, ?_⟩); refine ⟨rfl, rfl, ?_⟩; (clear H; intro w1 H; simp only [List.set] at H); go_frame) | ((with_reducible refine Hp.str H ?_); refine ⟨rfl, ?_⟩; refine ⟨_, s_look rfl, ?_⟩; refine ⟨_, _, rfl, _, rfl, rfl, ?_⟩; ((repeat ((fail_if_success refine ⟨_, _, _, .z, ?_⟩); refine hs ?_)); refine ⟨_, _, _, .z, ?_⟩); refine ⟨rfl, _, rfl, _, rfl, Nat.le_of_ble_eq_true rfl, ?_⟩; (clear H; intro w1 H; simp only [List.set] at H); go_frame) | ((with_reducible refine Hp.bdl H ?_); (fail); go_frame) | (fail))
  refine hw_start [_] [_] H (by kernel_rfl) (fun w1 H => ?_)
  have hS : HpW w _ w1 := ⟨[_], H⟩
  refine hw_take hS 0 (by kernel_rfl) (by kernel_rfl) (by kernel_rfl) ⟨_, rfl, rfl, _, fun _ _ => ex_fn rfl rfl, fun _ _ _ h => h, ?_⟩
  go_frame
  refine hw_take hS 1 (by kernel_rfl) (by kernel_rfl) (by kernel_rfl) ⟨_, rfl, rfl, _, fun _ _ => ex_move rfl rfl, fun _ _ _ h => h, ?_⟩
  go_frame
  refine hw_take hS 4 (by kernel_rfl) (by kernel_rfl) (by kernel_rfl) ⟨_, rfl, rfl, _, fun w h => ex_load rfl rfl (hw_lda (by kernel_rfl) s_Pair .z rfl w h), fun _ _ _ h => h, ?_⟩
  go_frame
  refine hw_take hS 5 (by kernel_rfl) (by kernel_rfl) (by kernel_rfl) ⟨_, rfl, rfl, _, fun _ _ => ex_fnm rfl rfl, fun _ _ _ h => h, ?_⟩
  go_frame
  refine hw_take hS 6 (by kernel_rfl) (by kernel_rfl) (by kernel_rfl) ⟨_, rfl, rfl, _, fun _ _ => ex_move rfl rfl, fun _ _ _ h => h, ?_⟩
  go_frame
  refine hw_take hS 9 (by kernel_rfl) (by kernel_rfl) (by kernel_rfl) ⟨_, rfl, rfl, _, fun _ _ => ex_fn rfl rfl, fun _ _ _ h => h, ?_⟩
  go_frame
  refine hw_take hS 10 (by kernel_rfl) (by kernel_rfl) (by kernel_rfl) ⟨_, rfl, rfl, _, fun _ _ => ex_fn rfl rfl, fun _ _ _ h => h, ?_⟩
  go_frame
  refine hw_take hS 11 (by kernel_rfl) (by kernel_rfl) (by kernel_rfl) ⟨_, rfl, rfl, _, fun _ _ => ex_build rfl (b_rule _ _ _ _ _ _), fun _ _ _ h => h, ?_⟩
  go_frame
  refine hw_take hS 12 (by kernel_rfl) (by kernel_rfl) (by kernel_rfl) ⟨_, rfl, rfl, _, fun _ _ => ex_fn rfl rfl, fun _ _ _ h => h, ?_⟩
  go_frame
  refine hw_take hS 13 (by kernel_rfl) (by kernel_rfl) (by kernel_rfl) ⟨_, rfl, rfl, _, fun _ _ => ex_build rfl (b_rule _ _ _ _ _ _), fun _ _ _ h => h, ?_⟩
  go_frame
  refine hw_one 2 (by decide +kernel) ⟨_, rfl, rfl, ?_⟩
  · intro K hK
    refine hw_call (ex_call rfl cf1 rfl rfl rfl) (rule1 2 3 _ _ _ H) (fun e w2 hR => ?_)
    obtain ⟨a1, b1, he, H2, _⟩ := hR
    refine ⟨_, he, hK _ _ ⟨[_, _, _], H2⟩ ?_⟩
    go_frame
    clear he hK K
    have hS2 : HpW w _ _ := ⟨[_, _, _], H2⟩
    refine hw_take hS2 3 (by kernel_rfl) (by kernel_rfl) (by kernel_rfl) ⟨_, rfl, rfl, _, fun _ _ => ex_build rfl (b_rule _ _ _ _ _ _), fun _ _ _ h => h, ?_⟩
    go_frame
    refine hw_one 7 (by decide +kernel) ⟨_, rfl, rfl, fun K hK => ?_⟩
    refine hw_call (ex_call rfl cf1 rfl rfl rfl) (rule1 2 4 _ _ _ H2) (fun e w2 hR => ?_)
    obtain ⟨a2, b2, he, H3, _⟩ := hR
    refine ⟨_, he, hK _ _ ⟨[_, _, _, _, _], H3⟩ ?_⟩
    go_frame
    clear he hK K
    have hS3 : HpW w _ _ := ⟨[_, _, _, _, _], H3⟩
    refine hw_take hS3 8 (by kernel_rfl) (by kernel_rfl) (by kernel_rfl) ⟨_, rfl, rfl, _, fun _ _ => ex_build rfl (b_rule _ _ _ _ _ _), fun _ _ _ h => h, ?_⟩
    go_frame
    refine hw_take hS3 14 (by kernel_rfl) (by kernel_rfl) (by kernel_rfl) ⟨_, rfl, rfl, _, fun _ _ => ex_build rfl (b_rules _ _ _ _ _ _ _ _), fun _ _ _ h => h, ?_⟩
    go_frame
    refine hw_one 15 (by decide +kernel) ⟨_, rfl, rfl, fun K hK => ?_⟩
    refine hw_sta (vs := rulesV x g1 a1 b1 a2 b2) rfl rfl rfl H3 s_Rules (.s (.s (.s (.s .z)))) rfl rfl rfl (fun w5 H4 => hK _ _ ⟨[_, _, _, _, _], H4⟩ ?_)
    clear hK K
    go_frame
    refine wpAnyH_done (by kernel_rfl) ?_ _
    go_wp2_with fail
    have H5 := Hp.rel (Hp.pick H4 (L' := [.blk g1 68 (pairC x), u8b a1 2, u8b b1 3, u8b a2 2, u8b b2 4]) [5, 3, 2, 1, 0] (by decide) rfl) H0
    exact bodyPost_ret (results_c rfl rfl (H4.var (by kernel_rfl) (i := 4) (t := 73) (cs := rulesV x g1 a1 b1 a2 b2) (.s (.s (.s (.s .z)))) s_Rules)) rfl ⟨g1, a1, b1, a2, b2, rfl, H5⟩
end Go.Proofs.Ytppokfenbdfegaa

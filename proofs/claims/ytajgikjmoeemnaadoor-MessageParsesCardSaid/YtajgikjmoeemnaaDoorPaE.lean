/-
  THE WALK OF message.Parse.
-/
import Derived.Test.YtajgikjmoeemnaaDoorPaD
import Derived.Test.YtajgikjmoeemnaaDoorPaN
import Derived.Test.YtajgikjmoeemnaaDoorMsgI
namespace Go.Proofs.YtajgikjmoeemnaaDoor
set_option maxRecDepth 100000
open Go.RowKit
set_option linter.unusedVariables false
set_option linter.unusedSimpArgs false
/-- where a message's bytes lie -/
def YI (By : Option Addr) (dy : Nat) (y : List UInt8) (Yi : List Item) : Prop :=
  (y = [] ∧ By = none ∧ dy = 0 ∧ Yi = []) ∨ ∃ gy S k Yr, ByteArray.size S + k ≤ maxLen ∧ S.data.toList = y ∧ By = some ⟨gy, 0, none⟩ ∧ dy = S.size + k ∧ Yi = .obj gy (cvO S k) :: Yr
def PS (w0 : World) (g gm : Nat) (A : Option Addr) (n c : Nat) (X1 X2 : Item) (x : St) (w : World) : Prop :=
  ∃ Ar cr By dy Yi, YI By dy x.y Yi ∧ Hp w0 w (X1 :: X2 :: rdI g A n c x.s :: mgI gm x.t x.rs x.y Ar cr By dy :: rwI Ar cr x.rs :: Yi)
theorem ps_mk {w0 w : World} {g gm : Nat} {A : Option Addr} {n c : Nat} {X1 X2 : Item} {x : St} {Ar By : Option Addr} {cr dy : Nat} {Yi : List Item} (hyi : YI By dy x.y Yi) (H : Hp w0 w (X1 :: X2 :: rdI g A n c x.s :: mgI gm x.t x.rs x.y Ar cr By dy :: rwI Ar cr x.rs :: Yi)) : PS w0 g gm A n c X1 X2 x w := ⟨Ar, cr, By, dy, Yi, hyi, H⟩
theorem pm23 {a b c d e : Item} (Y : List Item) : (a :: b :: c :: d :: e :: Y).Perm (c :: d :: e :: a :: b :: Y) := (List.perm_append_comm (l₁ := [a, b]) (l₂ := [c, d, e])).append_right Y
theorem pm24 {a b c d e o : Item} (Y : List Item) : (c :: d :: o :: e :: a :: b :: Y).Perm (a :: b :: c :: d :: e :: o :: Y) :=
  ((((List.perm_append_comm (l₁ := [c, d, o, e]) (l₂ := [a, b])).trans ((((List.Perm.swap e o []).cons d).cons c).cons b |>.cons a)).append_right Y))
theorem ps_f {w0 : World} {g gm : Nat} {A : Option Addr} {n c : Nat} {X1 X2 : Item} {x x' : St} {Ar By : Option Addr} {cr dy : Nat} {Yi : List Item} {e : Ending} {w' : World}
    (h : RetF w0 g gm A n c Ar cr By dy x' (rwI Ar cr x.rs :: X1 :: X2 :: Yi) e w') (hyi : YI By dy x.y Yi) (hy : x'.y = x.y) (hr : x'.rs = x.rs) : e = .returned (.tuple #[]) ∧ PS w0 g gm A n c X1 X2 x' w' := by
  obtain ⟨rfl, H⟩ := h
  rw [← hr] at H
  rw [← hy] at hyi
  exact ⟨rfl, Ar, cr, By, dy, Yi, hyi, H.perm (pm23 Yi).symm⟩
theorem fieldp_all {ch : Nat} (hch : ch ∈ [115, 111, 114, 98, 105, 122, 99, 110, 101, 108, 107, 109, 121]) {x : St} {w0 : World} {g gm : Nat} {A : Option Addr} {c : Nat} {l : List UInt8} {X1 X2 : Item} {w : World} (hr : Rd w0 A l) (hc : l.length ≤ c) (hm : c ≤ maxLen) (hn : x.rs.length ≤ 1000) (h : PS w0 g gm A l.length c X1 X2 x w) :
    Calls Tryd.prog 45 #[.pointer (some ⟨g, 0, none⟩), .pointer (some ⟨gm, 0, none⟩), .int .i32 (ch : Int)] w (fun e w' => e = .returned (.tuple #[]) ∧ PS w0 g gm A l.length c X1 X2 (fldP l ch x) w') := by
  obtain ⟨Ar, cr, By, dy, Yi, hyi, H⟩ := h
  replace H := H.perm (pm23 Yi)
  simp only [List.mem_cons, List.not_mem_nil, or_false] at hch
  rcases hch with rfl | rfl | rfl | rfl | rfl | rfl | rfl | rfl | rfl | rfl | rfl | rfl | rfl
  · exact (rf_115 (x := x) rfl A c l g gm Ar cr By dy w0 w _ hr hc hm H).mono fun e w' h => ps_f h hyi rfl rfl
  · exact (rf_111 (x := x) rfl A c l g gm Ar cr By dy w0 w _ hr hc hm H).mono fun e w' h => ps_f h hyi rfl rfl
  · exact (rf_114 (x := x) rfl A c l g gm Ar cr By dy w0 w _ hr hc hm H).mono fun e w' h => ps_f h hyi rfl rfl
  · exact (rf_98 (x := x) rfl A c l g gm Ar cr By dy w0 w _ hr hc hm H).mono fun e w' h => ps_f h hyi rfl rfl
  · exact (rf_105 (x := x) rfl A c l g gm Ar cr By dy w0 w _ hr hc hm H).mono fun e w' h => ps_f h hyi rfl rfl
  · exact (rf_122 (x := x) rfl A c l g gm Ar cr By dy w0 w _ hr hc hm H).mono fun e w' h => ps_f h hyi rfl rfl
  · exact (rf_99 (x := x) rfl A c l g gm Ar cr By dy w0 w _ hr hc hm H).mono fun e w' h => ps_f h hyi rfl rfl
  · exact (rf_110 (x := x) rfl A c l g gm Ar cr By dy w0 w _ hr hc hm H).mono fun e w' h => ps_f h hyi rfl rfl
  · exact (rf_101 (x := x) rfl A c l g gm Ar cr By dy w0 w _ hr hc hm H).mono fun e w' h => ps_f h hyi rfl rfl
  · refine (rf_108 x.s x.t x.rs x.y A c l g gm Ar cr By dy w0 w _ hr hc hm hn H).mono fun e w' h => ?_
    obtain ⟨Ar2, cr2, rfl, H⟩ := h
    exact ⟨rfl, Ar2, cr2, By, dy, Yi, hyi, H.perm (pm23 Yi).symm⟩
  · exact (rf_107 (x := x) rfl A c l g gm Ar cr By dy w0 w _ hr hc hm H).mono fun e w' h => ps_f h hyi rfl rfl
  · exact (rf_109 (x := x) rfl A c l g gm Ar cr By dy w0 w _ hr hc hm H).mono fun e w' h => ps_f h hyi rfl rfl
  · refine (rf_121 x.s x.t x.rs x.y A c l g gm Ar cr By dy w0 w _ hr hc hm H).mono fun e w' h => ?_
    obtain ⟨gy, k, hk, rfl, H⟩ := h
    exact ⟨rfl, Ar, cr, some ⟨gy, 0, none⟩, _, .obj gy (cvO (xS l x.s) k) :: Yi, .inr ⟨gy, _, k, Yi, hk, rfl, rfl, rfl, rfl⟩, H.perm (pm24 Yi)⟩
theorem who_w {l : List UInt8} {s s' : Ps} {N : Int} (hS : nS l s 1 = s') (hN : whoV (nN l s 1) = N) (A : Option Addr) (c : Nat) (g : Nat) (w0 w : World) (L : List Item) (hr : Rd w0 A l) (hc : l.length ≤ c) (hm : c ≤ maxLen) (H : Hp w0 w (rdI g A l.length c s :: L)) :
    Calls Tryd.prog 44 #[.pointer (some ⟨g, 0, none⟩)] w (RetH w0 (rdI g A l.length c s' :: L) (.int .i64 N)) := by
  subst hN hS
  exact who_any A c l s g w0 w L hr hc hm H
/-- what Parse answers: a message that reads as what was found, or none -/
def RetPM (l : List UInt8) (n : Int) (w : World) (e : Ending) (w' : World) : Prop :=
  if paOk l n = true then ∃ Ar cr By dy Yi, YI By dy (allP l).y Yi ∧ e = .returned (.tuple #[.agg (mgC (cpM (allP l).t (allP l).rs (allP l).y Ar cr By dy)).toArray, .int .i64 0]) ∧ Hp w w' (rwI Ar cr (allP l).rs :: Yi)
  else e = .returned (.tuple #[.agg (mgC mg0).toArray, .int .i64 200]) ∧ Below w.heap.size w w'
theorem b_ms1 (k : Int) : Tryd.prog.built 34 [(0, .int .u8 k)] = some (mgC { mg0 with k := k }).toArray := by kernel_rfl
theorem b_ms0 : Tryd.prog.built 34 [] = some (mgC mg0).toArray := by kernel_rfl
theorem fldP_k (l : List UInt8) (c : Nat) (x : St) : (fldP l c x).t.k = x.t.k := by
  unfold fldP
  by_cases h115 : c = 115
  · simp only [if_pos h115]
  simp only [if_neg h115]
  by_cases h111 : c = 111
  · simp only [if_pos h111]
  simp only [if_neg h111]
  by_cases h114 : c = 114
  · simp only [if_pos h114]
  simp only [if_neg h114]
  by_cases h98 : c = 98
  · simp only [if_pos h98]
  simp only [if_neg h98]
  by_cases h105 : c = 105
  · simp only [if_pos h105]
  simp only [if_neg h105]
  by_cases h122 : c = 122
  · simp only [if_pos h122]
  simp only [if_neg h122]
  by_cases h99 : c = 99
  · simp only [if_pos h99]
  simp only [if_neg h99]
  by_cases h110 : c = 110
  · simp only [if_pos h110]
  simp only [if_neg h110]
  by_cases h101 : c = 101
  · simp only [if_pos h101]
  simp only [if_neg h101]
  by_cases h108 : c = 108
  · simp only [if_pos h108]
  simp only [if_neg h108]
  by_cases h107 : c = 107
  · simp only [if_pos h107]
  simp only [if_neg h107]
  by_cases h109 : c = 109
  · simp only [if_pos h109]
  simp only [if_neg h109]
theorem flds_k (l : List UInt8) : ∀ (f : List UInt8) (x : St), (fldsP l f x).t.k = x.t.k
  | [], x => rfl
  | c :: f, x => (flds_k l f (fldP l c.toNat x)).trans (fldP_k l c.toNat x)
theorem ps_R {w w' : World} {t : Mg} {rs : List Rp} {y : List UInt8} {Ar By : Option Addr} {cr dy : Nat} {Yi L : List Item} (hok : ∀ x ∈ rs, RpOk x) (hyi : YI By dy y Yi) (H : Hp w w' L) (j : Nat) (hj : L[j]? = some (rwI Ar cr rs)) (hs : ∀ i ∈ Yi, i ∈ L) : MgR w' (cpM t rs y Ar cr By dy) rs y := by
  have h2 := own_caps (H.holds _ (List.mem_of_getElem? hj))
  rcases hyi with ⟨rfl, rfl, rfl, rfl⟩ | ⟨gy, S, k, Yr, hk, rfl, rfl, rfl, rfl⟩
  · exact ⟨rfl, RRp.ofR (H.rd rpC_len j hj), hok, h2.1, h2.2, rfl, fun h => absurd rfl h, Nat.le_refl _, Nat.zero_le _⟩
  · have h3 : w'.heap[gy]? = some (cvO S k) := H.holds _ (hs _ List.mem_cons_self)
    have h4 : S.data.toList.length = S.size := rfl
    exact ⟨rfl, RRp.ofR (H.rd rpC_len j hj), hok, h2.1, h2.2, rfl, rd_cvO h3, by show S.data.toList.length ≤ S.size + k; omega, hk⟩
/-- the loop's relation -/
def PaRel (l f : List UInt8) (w0 : World) (g gm gr git : Nat) (A : Option Addr) (c : Nat) (wr : World) : Prop :=
  ∃ k : Nat, k ≤ f.length ∧ PS w0 g gm A l.length c (itS git f k) (.blk gr 34 (mgC mg0)) (fldsP l (f.take k) (headP l)) wr
theorem retPM_no {l : List UInt8} {n : Int} {w w' : World} (h : paOk l n = false) (hb : Below w.heap.size w w') : RetPM l n w (.returned (.tuple #[.agg (mgC mg0).toArray, .int .i64 200])) w' := by
  unfold RetPM
  rw [if_neg (by rw [h]; decide)]
  exact ⟨rfl, hb⟩
theorem retPM_yes {l : List UInt8} {n : Int} {w w' : World} {s : Ps} {t : Mg} {rs : List Rp} {y : List UInt8} {Ar By : Option Addr} {cr dy : Nat} {Yi : List Item} (h : paOk l n = true) (hx : allP l = ⟨s, t, rs, y⟩) (hyi : YI By dy y Yi) (H : Hp w w' (rwI Ar cr rs :: Yi)) :
    RetPM l n w (.returned (.tuple #[.agg (mgC (cpM t rs y Ar cr By dy)).toArray, .int .i64 0])) w' := by
  unfold RetPM
  rw [if_pos h, hx]
  exact ⟨Ar, cr, By, dy, Yi, hyi, rfl, H⟩
set_option maxHeartbeats 4000000 in
theorem parse_any (A : Option Addr) (c : Nat) (l : List UInt8) (n : Int) (w : World) (hF : FldW w) (hr : Rd w A l) (hc : l.length ≤ c) (hm : c ≤ maxLen) :
    Calls Tryd.prog 17 #[.slice A l.length c, .int .i64 n] w (RetPM l n w) := by
  have H := Hp.nil w
  have hu := nN_byte l ⟨0, 0⟩
  obtain ⟨s1, hs1⟩ : ∃ s1, nS l ⟨0, 0⟩ 1 = s1 := ⟨_, rfl⟩
  obtain ⟨K, hK⟩ : ∃ s1, nN l ⟨0, 0⟩ 1 = s1 := ⟨_, rfl⟩
  obtain ⟨s2, hs2⟩ : ∃ s2, nS l s1 1 = s2 := ⟨_, rfl⟩
  obtain ⟨F, hF1⟩ : ∃ s1', whoV (nN l s1 1) = s1' := ⟨_, rfl⟩
  obtain ⟨s3, hs3⟩ : ∃ s3, nS l s2 1 = s3 := ⟨_, rfl⟩
  obtain ⟨T, hT1⟩ : ∃ s1', whoV (nN l s2 1) = s1' := ⟨_, rfl⟩
  have hhd : headP l = ⟨s3, { mg0 with k := K, fr := F, to := T }, [], []⟩ := by unfold headP; simp only [hs1, hs2, hs3, hK, hF1, hT1]
  rw [hK] at hu
  have hw : IntKind.u8.wrap K = K := by unfold IntKind.wrap; simp [IntKind.signed, IntKind.bits]; omega
  obtain ⟨f, hf⟩ : ∃ f, lets K = f := ⟨_, rfl⟩
  obtain ⟨isb, hbk⟩ : ∃ b, kindB K = b := ⟨_, rfl⟩
  have HF := Lib.hid hf
  have HS1 := Lib.hid hs1
  have HS2 := Lib.hid hs2
  have HS3 := Lib.hid hs3
  have HK := Lib.hid hK
  have HF1 := Lib.hid hF1
  have HT1 := Lib.hid hT1
  have HHD := Lib.hid hhd
  have HU := Lib.hid hu
  clear hs1 hs2 hs3 hK hF1 hT1 hhd hu hf
  go_enter Tryd.func17, Tryd.ntmps17
  go_wp2_with (first | ((with_reducible refine Hp.box H ?_); refine ⟨rfl, [_, _, _], rfl, ?_⟩; (clear H; intro g w1 H); go_frame) | ((with_reducible refine Hp.allo (L := []) H ?_); refine ⟨rfl, ?_⟩; refine ⟨_, z_look rfl, ?_⟩; (clear H; intro gr w1 H); go_frame) | ((with_reducible refine Hp.allo H ?_); refine ⟨rfl, ?_⟩; refine ⟨_, z_look rfl, ?_⟩; (clear H; intro gm w1 H); go_frame) | ((with_reducible refine Hp.ld H ?_); refine ⟨rfl, ?_⟩; refine ⟨c_look rfl, ?_⟩; refine ⟨_, _, rfl, ?_⟩; (first | refine ⟨_, _, _, .z, ?_⟩ | refine ⟨_, _, _, .s .z, ?_⟩ | refine ⟨_, _, _, .s (.s .z), ?_⟩ | refine ⟨_, _, _, .s (.s (.s .z)), ?_⟩); refine ⟨_, rfl, ?_⟩; go_frame) | ((with_reducible refine Hp.stv H ?_); refine ⟨rfl, ?_⟩; refine ⟨c_look rfl, ?_⟩; (first | refine ⟨.bool _, rfl, ?_⟩ | refine ⟨.int _ _, rfl, ?_⟩ | refine ⟨.string _, rfl, ?_⟩ | refine ⟨.slice _ _ _, rfl, ?_⟩ | refine ⟨.pointer _, rfl, ?_⟩); refine ⟨rfl, _, _, rfl, ?_⟩; (first | refine ⟨_, _, _, .z, ?_⟩ | refine ⟨_, _, _, .s .z, ?_⟩ | refine ⟨_, _, _, .s (.s .z), ?_⟩ | refine ⟨_, _, _, .s (.s (.s .z)), ?_⟩); refine ⟨⟨_, rfl⟩, ?_⟩; (clear H; intro w1 H; simp only [List.set] at H); go_frame) | ((with_reducible refine Hp.sta H ?_); refine ⟨rfl, ?_⟩; refine ⟨_, s_look rfl, ?_⟩; refine ⟨_, rfl, _, rfl, rfl, ?_⟩; (first | refine ⟨_, _, _, .z, ?_⟩ | refine ⟨_, _, _, .s .z, ?_⟩ | refine ⟨_, _, _, .s (.s .z), ?_⟩ | refine ⟨_, _, _, .s (.s (.s .z)), ?_⟩); refine ⟨rfl, rfl, ?_⟩; (clear H; intro w1 H; simp only [List.set] at H); go_frame) | ((with_reducible refine Hp.bdl (t := 34) (parts := [_]) H ?_); refine ⟨rfl, mgC _, b_ms1 _, ?_⟩; go_frame) | ((with_reducible refine (num_w HS1.out HK.out A c g w _ _ hr hc hm H).mono ?_); rintro _ w1 ⟨rfl, HQ⟩; replace H := HQ; clear HQ) | ((with_reducible refine (who_w HS2.out HF1.out A c g w _ _ hr hc hm H.rot2).mono ?_); rintro _ w1 ⟨rfl, HQ⟩; replace H := HQ.rot2; clear HQ) | ((with_reducible refine (who_w HS3.out HT1.out A c g w _ _ hr hc hm H.rot2).mono ?_); rintro _ w1 ⟨rfl, HQ⟩; replace H := HQ.rot2; clear HQ) | ((with_reducible refine (of_any _ _ (hF.below H.below) HU.out.1 HU.out.2 hbk HF.out).mono ?_); rintro _ w1 ⟨rfl, hb⟩; replace H := H.call hb; clear hb) | ((with_reducible refine Hp.rngS H (by kernel_rfl) ?_); refine ⟨rfl, f, rfl, ?_⟩; (clear H; intro git w1 H); go_frame))
  have hat : PaRel l f w g gm gr git A c w1 := by
    refine ⟨0, Nat.zero_le _, none, 0, none, 0, [], .inl ⟨?_, rfl, rfl, rfl⟩, ?_⟩
    · show (headP l).y = []; rw [HHD.out]
    · show Hp w w1 (_ :: _ :: rdI g A l.length c (headP l).s :: mgI gm (headP l).t (headP l).rs (headP l).y none 0 none 0 :: rwI none 0 (headP l).rs :: [])
      rw [HHD.out]
      exact (H.nilRow 55 11).pick [1, 4, 3, 2, 0] (by decide) rfl
  clear H HS1 HS2 HS3 HK HF1 HT1 hw
  go_loopw [11] (fun _ wr => PaRel l f w g gm gr git A c wr) (fun _ wr => f.length - wr.iterPos git)
  case atStart => exact hat
  case round =>
    clear hat
    obtain ⟨k, hk, Ar, cr, By, dy, Yi, hyi, H⟩ := hrel
    have hle : l.length ≤ maxLen := Nat.le_trans hc hm
    have hfl : f.length ≤ 4 := by rw [← HF.out]; exact lets_len _
    have hsk := flds_ok hle (f.take k) (head_ok l)
    by_cases hlt : k < f.length
    · obtain ⟨h128, hmem⟩ := lets_all K f[k] (by rw [HF.out]; exact List.getElem_mem hlt)
      have hpos := H.iter 0 rfl
      have HPOS := Lib.hid hpos
      have hst := flds_snoc l f k hlt (headP l)
      obtain ⟨x, hx⟩ : ∃ x, fldsP l (f.take k) (headP l) = x := ⟨_, rfl⟩
      rw [hx] at hst hsk hyi H
      have hn : x.rs.length ≤ 1000 := by have := hsk.2.2.1; rw [List.length_take] at this; omega
      have HST := Lib.hid hst
      have HN := Lib.hid hn
      have HLT := Lib.hid hlt
      clear hpos hst hx hn hsk hle hfl
      go_wp2_with (first | ((with_reducible refine Hp.nxtS H ?_); refine ⟨rfl, _, rfl, 0, _, _, rfl, hlt, h128, ?_⟩; (clear H; intro w1 H; simp only [List.set_cons_zero] at H); go_frame) | ((with_reducible refine (fieldp_all hmem hr hc hm HN.out (ps_mk hyi H)).mono ?_); rintro _ w1 ⟨rfl, HQ⟩; clear H; obtain ⟨Ar2, cr2, By2, dy2, Yi2, hyi2, H⟩ := HQ))
      have hpos2 := H.iter 0 rfl
      go_roundw
      case rel =>
        refine ⟨k + 1, HLT.out, ?_⟩
        rw [← HST.out]
        exact ⟨Ar2, cr2, By2, dy2, Yi2, hyi2, H⟩
      case measure => rw [HPOS.out, hpos2]; have := HLT.out; omega
    · obtain rfl : k = f.length := by omega
      have hxx : fldsP l (f.take f.length) (headP l) = allP l := by
        rw [List.take_length]
        unfold allP
        rw [HHD.out]
        show fldsP l f _ = fldsP l (lets K) _
        rw [HF.out]
      have hkk : (allP l).t.k = K := by unfold allP; rw [flds_k, HHD.out]
      have hsk := all_ok hle
      rw [hxx] at hyi H
      obtain ⟨⟨⟨at_, e⟩, t, rs, y⟩, hx⟩ : ∃ x, allP l = x := ⟨_, rfl⟩
      rw [hx] at hyi H hsk hkk
      replace hkk : t.k = K := hkk
      replace hyi : YI By dy y Yi := hyi
      have hok : ∀ x ∈ rs, RpOk x := hsk.2.1
      have hNt : MgN (cpM t rs y Ar cr By dy) := hsk.1
      replace H : Hp w wr (itS git f f.length :: .blk gr 34 (mgC mg0) :: rdI g A l.length c ⟨at_, e⟩ :: mgI gm t rs y Ar cr By dy :: rwI Ar cr rs :: Yi) := H
      have HOK := Lib.hid hok
      have hpa : paOk l n = ((e == 0) && (!decide (at_ < (l.length : Int)) && mayM (cpM t rs y Ar cr By dy) rs y n)) := by
        unfold paOk paM
        rw [hx]
        rw [mayM_congr (m := { t with yn := y.length }) (m' := cpM t rs y Ar cr By dy) rfl rfl]
      have hmk : mayM (cpM t rs y Ar cr By dy) rs y n = (isb && (crowdB n && (endsB t n && ((lets t.k).all (fun c => keepB c.toNat (cpM t rs y Ar cr By dy) rs n) && sameM (bareM (cpM t rs y Ar cr By dy)) (bareR (cpM t rs y Ar cr By dy) rs) (bareY (cpM t rs y Ar cr By dy) y) (cpM t rs y Ar cr By dy) rs y)))) := by
        unfold mayM
        rw [← hbk, ← hkk]
        rfl
      have hcr0 : ∀ b, crowdB n = b → bmayB 0 0 n = b := fun b h => by unfold bmayB; rw [if_pos (show balEq 0 0 0 0 = true from rfl), h]
      have HMK := Lib.hid hmk
      have HPA := Lib.hid hpa
      have HX := Lib.hid hx
      clear hmk hpa hx hkk hxx hsk hok hlt hk HHD hle hfl HF HU hbk
      by_cases he : e = 0
      · subst he
        by_cases hat : at_ < (l.length : Int)
        · have d : decide (at_ < (l.length : Int)) = true := decide_eq_true hat
          have HNO : Hid (paOk l n = false) := Lib.hid (by rw [HPA.out, d]; rfl)
          clear HPA HMK hat
          cases isb
          all_goals
            (have hcr := True.intro; have hmay := True.intro)
            go_wp2_with (first | ((with_reducible refine Hp.ld H ?_); refine ⟨rfl, ?_⟩; refine ⟨c_look rfl, ?_⟩; refine ⟨_, _, rfl, ?_⟩; (first | refine ⟨_, _, _, .z, ?_⟩ | refine ⟨_, _, _, .s .z, ?_⟩ | refine ⟨_, _, _, .s (.s .z), ?_⟩ | refine ⟨_, _, _, .s (.s (.s .z)), ?_⟩); refine ⟨_, rfl, ?_⟩; go_frame) | ((with_reducible refine Hp.sta H ?_); refine ⟨rfl, ?_⟩; refine ⟨_, s_look rfl, ?_⟩; refine ⟨_, rfl, _, rfl, rfl, ?_⟩; (first | refine ⟨_, _, _, .z, ?_⟩ | refine ⟨_, _, _, .s .z, ?_⟩ | refine ⟨_, _, _, .s (.s .z), ?_⟩ | refine ⟨_, _, _, .s (.s (.s .z)), ?_⟩); refine ⟨rfl, rfl, ?_⟩; (clear H; intro w1 H; simp only [List.set] at H); go_frame) | ((with_reducible refine Hp.bdl (t := 34) (parts := []) H ?_); refine ⟨rfl, mgC mg0, b_ms0, ?_⟩; go_frame) | ((with_reducible refine Hp.nxtE H ?_); refine ⟨rfl, _, rfl, 0, _, _, rfl, rfl, ?_⟩; go_frame))
            exact bodyPost_ret (v := .tuple #[.agg (mgC mg0).toArray, .int .i64 200]) (results_ct rfl rfl (H.var (by kernel_rfl) (t := 34) (cs := mgC mg0) (.s .z) s_Msg) rfl) rfl (retPM_no HNO.out H.below)
        · have d : decide (at_ < (l.length : Int)) = false := decide_eq_false hat
          clear hat
          have hpa2 : paOk l n = mayM (cpM t rs y Ar cr By dy) rs y n := by rw [HPA.out, d]; rfl
          have HP2 := Lib.hid hpa2
          clear hpa2 HPA
          cases isb
          · have HNO : Hid (paOk l n = false) := Lib.hid (by rw [HP2.out, HMK.out]; rfl)
            clear HMK HP2
            (have hcr := True.intro; have hmay := True.intro)
            go_wp2_with (first | ((with_reducible refine Hp.ld H ?_); refine ⟨rfl, ?_⟩; refine ⟨c_look rfl, ?_⟩; refine ⟨_, _, rfl, ?_⟩; (first | refine ⟨_, _, _, .z, ?_⟩ | refine ⟨_, _, _, .s .z, ?_⟩ | refine ⟨_, _, _, .s (.s .z), ?_⟩ | refine ⟨_, _, _, .s (.s (.s .z)), ?_⟩); refine ⟨_, rfl, ?_⟩; go_frame) | ((with_reducible refine Hp.sta H ?_); refine ⟨rfl, ?_⟩; refine ⟨_, s_look rfl, ?_⟩; refine ⟨_, rfl, _, rfl, rfl, ?_⟩; (first | refine ⟨_, _, _, .z, ?_⟩ | refine ⟨_, _, _, .s .z, ?_⟩ | refine ⟨_, _, _, .s (.s .z), ?_⟩ | refine ⟨_, _, _, .s (.s (.s .z)), ?_⟩); refine ⟨rfl, rfl, ?_⟩; (clear H; intro w1 H; simp only [List.set] at H); go_frame) | ((with_reducible refine Hp.bdl (t := 34) (parts := []) H ?_); refine ⟨rfl, mgC mg0, b_ms0, ?_⟩; go_frame) | ((with_reducible refine Hp.nxtE H ?_); refine ⟨rfl, _, rfl, 0, _, _, rfl, rfl, ?_⟩; go_frame))
            exact bodyPost_ret (v := .tuple #[.agg (mgC mg0).toArray, .int .i64 200]) (results_ct rfl rfl (H.var (by kernel_rfl) (t := 34) (cs := mgC mg0) (.s .z) s_Msg) rfl) rfl (retPM_no HNO.out H.below)
          cases hc1 : crowdB n
          · have HNO : Hid (paOk l n = false) := Lib.hid (by rw [HP2.out, HMK.out, hc1]; rfl)
            have hcr := hcr0 _ hc1
            clear HMK HP2
            have hmay := True.intro
            go_wp2_with (first | ((with_reducible refine Hp.ld H ?_); refine ⟨rfl, ?_⟩; refine ⟨c_look rfl, ?_⟩; refine ⟨_, _, rfl, ?_⟩; (first | refine ⟨_, _, _, .z, ?_⟩ | refine ⟨_, _, _, .s .z, ?_⟩ | refine ⟨_, _, _, .s (.s .z), ?_⟩ | refine ⟨_, _, _, .s (.s (.s .z)), ?_⟩); refine ⟨_, rfl, ?_⟩; go_frame) | ((with_reducible refine Hp.sta H ?_); refine ⟨rfl, ?_⟩; refine ⟨_, s_look rfl, ?_⟩; refine ⟨_, rfl, _, rfl, rfl, ?_⟩; (first | refine ⟨_, _, _, .z, ?_⟩ | refine ⟨_, _, _, .s .z, ?_⟩ | refine ⟨_, _, _, .s (.s .z), ?_⟩ | refine ⟨_, _, _, .s (.s (.s .z)), ?_⟩); refine ⟨rfl, rfl, ?_⟩; (clear H; intro w1 H; simp only [List.set] at H); go_frame) | ((with_reducible refine Hp.bdl (t := 34) (parts := []) H ?_); refine ⟨rfl, mgC mg0, b_ms0, ?_⟩; go_frame) | ((with_reducible refine Hp.bdl (t := 23) (parts := []) H ?_); refine ⟨rfl, _, b_ba0, ?_⟩; go_frame) | ((with_reducible refine Hp.nxtE H ?_); refine ⟨rfl, _, rfl, 0, _, _, rfl, rfl, ?_⟩; go_frame) | ((with_reducible refine (bmay_v hcr _).mono ?_); rintro _ w1 ⟨rfl, hb⟩; replace H := H.call hb; clear hb))
            exact bodyPost_ret (v := .tuple #[.agg (mgC mg0).toArray, .int .i64 200]) (results_ct rfl rfl (H.var (by kernel_rfl) (t := 34) (cs := mgC mg0) (.s .z) s_Msg) rfl) rfl (retPM_no HNO.out H.below)
          have hcr := hcr0 _ hc1
          clear hcr0 HMK
          cases hmay : mayM (cpM t rs y Ar cr By dy) rs y n
          · have HNO : Hid (paOk l n = false) := Lib.hid (by rw [HP2.out, hmay])
            clear HP2
            go_wp2_with (first | ((with_reducible refine Hp.ld H ?_); refine ⟨rfl, ?_⟩; refine ⟨c_look rfl, ?_⟩; refine ⟨_, _, rfl, ?_⟩; (first | refine ⟨_, _, _, .z, ?_⟩ | refine ⟨_, _, _, .s .z, ?_⟩ | refine ⟨_, _, _, .s (.s .z), ?_⟩ | refine ⟨_, _, _, .s (.s (.s .z)), ?_⟩); refine ⟨_, rfl, ?_⟩; go_frame) | ((with_reducible refine Hp.lda H ?_); refine ⟨rfl, by kernel_rfl, ?_⟩; refine ⟨_, s_look rfl, ?_⟩; refine ⟨_, rfl, ?_⟩; (first | refine ⟨_, _, _, .z, ?_⟩ | refine ⟨_, _, _, .s .z, ?_⟩ | refine ⟨_, _, _, .s (.s .z), ?_⟩ | refine ⟨_, _, _, .s (.s (.s .z)), ?_⟩); refine ⟨rfl, ?_⟩; go_frame) | ((with_reducible refine Hp.sta H ?_); refine ⟨rfl, ?_⟩; refine ⟨_, s_look rfl, ?_⟩; refine ⟨_, rfl, _, rfl, rfl, ?_⟩; (first | refine ⟨_, _, _, .z, ?_⟩ | refine ⟨_, _, _, .s .z, ?_⟩ | refine ⟨_, _, _, .s (.s .z), ?_⟩ | refine ⟨_, _, _, .s (.s (.s .z)), ?_⟩); refine ⟨rfl, rfl, ?_⟩; (clear H; intro w1 H; simp only [List.set] at H); go_frame) | ((with_reducible refine Hp.bdl (t := 34) (parts := []) H ?_); refine ⟨rfl, mgC mg0, b_ms0, ?_⟩; go_frame) | ((with_reducible refine Hp.bdl (t := 23) (parts := []) H ?_); refine ⟨rfl, _, b_ba0, ?_⟩; go_frame) | ((with_reducible refine Hp.nxtE H ?_); refine ⟨rfl, _, rfl, 0, _, _, rfl, rfl, ?_⟩; go_frame) | ((with_reducible refine (bmay_v hcr _).mono ?_); rintro _ w1 ⟨rfl, hb⟩; replace H := H.call hb; clear hb) | ((with_reducible refine (may_v hmay (hF.below H.below) hNt (ps_R HOK.out hyi H 4 rfl (fun i hi => List.mem_cons_of_mem _ (List.mem_cons_of_mem _ (List.mem_cons_of_mem _ (List.mem_cons_of_mem _ (List.mem_cons_of_mem _ hi))))))).mono ?_); rintro _ w1 ⟨rfl, hb⟩; replace H := H.call hb; clear hb))
            exact bodyPost_ret (v := .tuple #[.agg (mgC mg0).toArray, .int .i64 200]) (results_ct rfl rfl (H.var (by kernel_rfl) (t := 34) (cs := mgC mg0) (.s .z) s_Msg) rfl) rfl (retPM_no HNO.out H.below)
          · have HYE : Hid (paOk l n = true) := Lib.hid (by rw [HP2.out, hmay])
            clear HP2
            go_wp2_with (first | ((with_reducible refine Hp.ld H ?_); refine ⟨rfl, ?_⟩; refine ⟨c_look rfl, ?_⟩; refine ⟨_, _, rfl, ?_⟩; (first | refine ⟨_, _, _, .z, ?_⟩ | refine ⟨_, _, _, .s .z, ?_⟩ | refine ⟨_, _, _, .s (.s .z), ?_⟩ | refine ⟨_, _, _, .s (.s (.s .z)), ?_⟩); refine ⟨_, rfl, ?_⟩; go_frame) | ((with_reducible refine Hp.lda H ?_); refine ⟨rfl, by kernel_rfl, ?_⟩; refine ⟨_, s_look rfl, ?_⟩; refine ⟨_, rfl, ?_⟩; (first | refine ⟨_, _, _, .z, ?_⟩ | refine ⟨_, _, _, .s .z, ?_⟩ | refine ⟨_, _, _, .s (.s .z), ?_⟩ | refine ⟨_, _, _, .s (.s (.s .z)), ?_⟩); refine ⟨rfl, ?_⟩; go_frame) | ((with_reducible refine Hp.sta H ?_); refine ⟨rfl, ?_⟩; refine ⟨_, s_look rfl, ?_⟩; refine ⟨_, rfl, _, rfl, rfl, ?_⟩; (first | refine ⟨_, _, _, .z, ?_⟩ | refine ⟨_, _, _, .s .z, ?_⟩ | refine ⟨_, _, _, .s (.s .z), ?_⟩ | refine ⟨_, _, _, .s (.s (.s .z)), ?_⟩); refine ⟨rfl, rfl, ?_⟩; (clear H; intro w1 H; simp only [List.set] at H); go_frame) | ((with_reducible refine Hp.bdl (t := 23) (parts := []) H ?_); refine ⟨rfl, _, b_ba0, ?_⟩; go_frame) | ((with_reducible refine Hp.nxtE H ?_); refine ⟨rfl, _, rfl, 0, _, _, rfl, rfl, ?_⟩; go_frame) | ((with_reducible refine (bmay_v hcr _).mono ?_); rintro _ w1 ⟨rfl, hb⟩; replace H := H.call hb; clear hb) | ((with_reducible refine (may_v hmay (hF.below H.below) hNt (ps_R HOK.out hyi H 4 rfl (fun i hi => List.mem_cons_of_mem _ (List.mem_cons_of_mem _ (List.mem_cons_of_mem _ (List.mem_cons_of_mem _ (List.mem_cons_of_mem _ hi))))))).mono ?_); rintro _ w1 ⟨rfl, hb⟩; replace H := H.call hb; clear hb))
            exact bodyPost_ret (v := .tuple #[.agg (mgC (cpM t rs y Ar cr By dy)).toArray, .int .i64 0]) (results_ct rfl rfl (H.var (by kernel_rfl) (t := 34) (cs := mgC (cpM t rs y Ar cr By dy)) (.s .z) s_Msg) rfl) rfl (retPM_yes HYE.out HX.out hyi H.tail.tail.tail.tail)
      · have hne : (e != 0) = true := by simp [he]
        have HNO : Hid (paOk l n = false) := Lib.hid (by rw [HPA.out, beq_eq_false_iff_ne.mpr he]; rfl)
        clear HPA he HMK
        cases isb
        all_goals
          (have hcr := True.intro; have hmay := True.intro)
          go_wp2_with (first | ((with_reducible refine Hp.ld H ?_); refine ⟨rfl, ?_⟩; refine ⟨c_look rfl, ?_⟩; refine ⟨_, _, rfl, ?_⟩; (first | refine ⟨_, _, _, .z, ?_⟩ | refine ⟨_, _, _, .s .z, ?_⟩ | refine ⟨_, _, _, .s (.s .z), ?_⟩ | refine ⟨_, _, _, .s (.s (.s .z)), ?_⟩); refine ⟨_, rfl, ?_⟩; go_frame) | ((with_reducible refine Hp.sta H ?_); refine ⟨rfl, ?_⟩; refine ⟨_, s_look rfl, ?_⟩; refine ⟨_, rfl, _, rfl, rfl, ?_⟩; (first | refine ⟨_, _, _, .z, ?_⟩ | refine ⟨_, _, _, .s .z, ?_⟩ | refine ⟨_, _, _, .s (.s .z), ?_⟩ | refine ⟨_, _, _, .s (.s (.s .z)), ?_⟩); refine ⟨rfl, rfl, ?_⟩; (clear H; intro w1 H; simp only [List.set] at H); go_frame) | ((with_reducible refine Hp.bdl (t := 34) (parts := []) H ?_); refine ⟨rfl, mgC mg0, b_ms0, ?_⟩; go_frame) | ((with_reducible refine Hp.nxtE H ?_); refine ⟨rfl, _, rfl, 0, _, _, rfl, rfl, ?_⟩; go_frame))
          exact bodyPost_ret (v := .tuple #[.agg (mgC mg0).toArray, .int .i64 200]) (results_ct rfl rfl (H.var (by kernel_rfl) (t := 34) (cs := mgC mg0) (.s .z) s_Msg) rfl) rfl (retPM_no HNO.out H.below)
end Go.Proofs.YtajgikjmoeemnaaDoor

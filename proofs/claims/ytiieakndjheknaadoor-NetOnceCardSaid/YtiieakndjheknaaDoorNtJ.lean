/-
  THE WALK OF the law NetFull.
-/
import Derived.Test.YtiieakndjheknaaDoorNtI
namespace Go.Proofs.YtiieakndjheknaaDoor
set_option maxRecDepth 100000
open Go.RowKit
set_option linter.unusedVariables false
set_option linter.unusedSimpArgs false
def cutF : List Bool := cut0.set 2 true
theorem nf1 : ncutC 3 cut0 0 2 = cutF := by decide
theorem nf2 : ncutL 3 cut0 [] 0 2 = [] := rfl
theorem nf3 : ncutR 3 0 2 = 0 := by decide
theorem len_cpy {cs : List MX} {i : Int} (h0 : 0 < cs.length) (h : cs.length < 200) : (ncpyL cs i).length = cs.length + 1 := by
  have hlt : natI cs i < cs.length := natJ_lt h0 i
  unfold ncpyL
  rw [if_neg (by omega), if_neg (by omega), List.getElem?_eq_getElem hlt]
  simp
theorem ful_cpy {cs : List MX} {i : Int} (h : 200 ≤ cs.length) : ncpyL cs i = cs := by
  unfold ncpyL
  rw [if_neg (by omega), if_pos h]
theorem len_tak {cs : List MX} {i : Int} (h0 : 0 < cs.length) : (ntakL cs i).length + 1 = cs.length := by
  have hlt : natI cs i < cs.length := natJ_lt h0 i
  unfold ntakL
  rw [if_neg (by omega), List.length_eraseIdx, if_pos hlt]
  omega
theorem r_cpy0 {cs : List MX} (h0 : 0 < cs.length) (h : cs.length < 200) : ncpyR cs = 0 := by unfold ncpyR; rw [if_neg (by omega), if_neg (by omega)]
theorem r_cpy4 {cs : List MX} (h : 200 ≤ cs.length) : ncpyR cs = 4 := by unfold ncpyR; rw [if_neg (by omega), if_pos h]
theorem cF1 : cutB 3 cutF 0 1 = false := by decide
theorem cF2 : cutB 3 cutF 2 0 = true := by decide
theorem cF3 : cutB 3 cutF 1 2 = false := by decide
theorem fF1 : ftB 3 0 1 = true := by decide
theorem fF2 : ftB 3 2 0 = true := by decide
theorem fF3 : ftB 3 1 2 = true := by decide
/-- a message between two that are not cut -/
theorem nsendo_v {w0 w : World} {g : Nat} {n : Int} {cut : List Bool} {cs : List MX} {F Z : List Item} {a b i : Int} (HN : NetZ w0 w g n cut cs F Z) (hF : FldW w0) (hn : crowdB n = true) (ha : I64 a) (hb : I64 b) (h1 : 1 ≤ i ∧ i ≤ 1099511627776) (h2 : ftB n a b = true) (h3 : cutB n cut a b = false) (hl : cs.length < 200) :
    Calls Tryd.prog 11 #[.pointer (some ⟨g, 0, none⟩), .agg (mgC (ftM a b i)).toArray] w (RetN w0 g n cut (cs ++ [ftX a b i]) F Z (.int .i64 0)) :=
  nsendf_v HN hF hn ha hb h1 (by rw [if_pos h2, if_neg (by rw [h3]; decide), if_neg (by omega)]) (by rw [if_pos h2, if_neg (by rw [h3]; decide), if_neg (by omega)])
theorem nsendx_v {w0 w : World} {g : Nat} {n : Int} {cut : List Bool} {cs : List MX} {F Z : List Item} {a b i : Int} (HN : NetZ w0 w g n cut cs F Z) (hF : FldW w0) (hn : crowdB n = true) (ha : I64 a) (hb : I64 b) (h1 : 1 ≤ i ∧ i ≤ 1099511627776) (h2 : ftB n a b = true) (h3 : cutB n cut a b = false) (hl : 200 ≤ cs.length) :
    Calls Tryd.prog 11 #[.pointer (some ⟨g, 0, none⟩), .agg (mgC (ftM a b i)).toArray] w (RetN w0 g n cut cs F Z (.int .i64 4)) :=
  nsendf_v HN hF hn ha hb h1 (by rw [if_pos h2, if_neg (by rw [h3]; decide), if_pos hl]) (by rw [if_pos h2, if_neg (by rw [h3]; decide), if_pos hl])
theorem nsendc_v {w0 w : World} {g : Nat} {n : Int} {cut : List Bool} {cs : List MX} {F Z : List Item} {a b i : Int} (HN : NetZ w0 w g n cut cs F Z) (hF : FldW w0) (hn : crowdB n = true) (ha : I64 a) (hb : I64 b) (h1 : 1 ≤ i ∧ i ≤ 1099511627776) (h2 : ftB n a b = true) (h3 : cutB n cut a b = true) :
    Calls Tryd.prog 11 #[.pointer (some ⟨g, 0, none⟩), .agg (mgC (ftM a b i)).toArray] w (RetN w0 g n cut cs F Z (.int .i64 0)) :=
  nsendf_v HN hF hn ha hb h1 (by rw [if_pos h2, if_pos h3]) (by rw [if_pos h2, if_pos h3])
theorem ndrop_v {w0 w : World} {g : Nat} {n i r : Int} {cut : List Bool} {cs cs' : List MX} {F Z : List Item} (HN : NetZ w0 w g n cut cs F Z) (hn : crowdB n = true) (hk : i ≤ 9223372036854775807) (h2 : ntakL cs i = cs') (h3 : natE cs = r) :
    Calls Tryd.prog 13 #[.pointer (some ⟨g, 0, none⟩), .int .i64 i] w (RetN w0 g n cut cs' F Z (.int .i64 r)) := by
  subst h2 h3
  exact ndrop_o HN hn i hk
/-- all, of which only the number counts -/
def RetAn (w0 : World) (g : Nat) (n : Int) (cut : List Bool) (cs : List MX) (m : Nat) (Z : List Item) (e : Ending) (w' : World) : Prop :=
  ∃ A c Z', e = .returned (.slice A m c) ∧ Z ⊆ Z' ∧ NetZ w0 w' g n cut cs [] Z'
theorem nall_n {w0 w : World} {g : Nat} {n : Int} {cut : List Bool} {cs : List MX} {Z : List Item} (HN : NetZ w0 w g n cut cs [] Z) (hn : crowdB n = true) {m : Nat} (hm : cs.length = m) :
    Calls Tryd.prog 16 #[.pointer (some ⟨g, 0, none⟩)] w (RetAn w0 g n cut cs m Z) := by
  refine (nall_o HN hn).mono ?_
  rintro e w' ⟨Ao, co, out, N, Z2, rfl, ho, hN, hZs, A, c, fl, hcs, hZ, h200, h49, H⟩
  refine ⟨Ao, co, (mwI Ao co out :: (N ++ [])) ++ Z2, by rw [← hm, ← ho, List.length_map], fun i hi => List.mem_append_right _ (hZs hi), A, c, fl, hcs, hZ.mono (fun i hi => List.mem_append_right _ hi), h200, h49, H⟩
theorem mod_small (x : Int) (m : Nat) (h0 : 0 < m) (hm : m < 1000) : ∃ M : Nat, wrap64 ((IntKind.u64.wrap x).tmod (m : Int)) = (M : Int) ∧ M < m := by
  have h1 : 0 ≤ IntKind.u64.wrap x := by
    unfold IntKind.wrap
    simp [IntKind.signed, IntKind.bits]
    omega
  obtain ⟨u, hu⟩ : ∃ u : Nat, IntKind.u64.wrap x = u := ⟨(IntKind.u64.wrap x).toNat, by omega⟩
  have h2 : (u : Int).tmod (m : Int) = ((u % m : Nat) : Int) := rfl
  have h3 := Nat.mod_lt u h0
  refine ⟨u % m, ?_, h3⟩
  rw [hu, h2]
  exact IntWalk.wrap64_in _ (by omega)
/-- the loop's relation -/
def FuRel (w : World) (g : Nat) (M : Nat) (v : Value) (wr : World) : Prop := ∃ (i : Nat) (cs : List MX) (Z : List Item), v = .int .i64 i ∧ i ≤ 200 + M ∧ cs.length = min i 200 ∧ NetZ w wr g 3 cutF cs [] Z
set_option maxHeartbeats 8000000 in
theorem netFull_walk (more k : Int) (w : World) (hF : FldW w) (b0 : -9223372036854775808 ≤ more) (b1 : more ≤ 9223372036854775807) (b2 : -9223372036854775808 ≤ k) (b3 : k ≤ 9223372036854775807) :
    Calls Tryd.prog 7 #[.int .i64 more, .int .i64 k] w (RetV w (.bool true)) := by
  obtain ⟨M, hM, hM20⟩ : ∃ M : Nat, wrap64 ((IntKind.u64.wrap more).tmod 20) = (M : Int) ∧ M < 20 := mod_small more 20 (by decide) (by decide)
  go_enter Tryd.func7, Tryd.ntmps7
  go_wp2_with (first | ((with_reducible refine (awake28_any _ hF).mono ?_); rintro _ wA ⟨rfl, hbA⟩; (have hF1 := hF.below hbA)) | ((with_reducible refine (nnew_yes 3 _ c3).mono ?_); rintro _ w2 ⟨g, rfl, H0⟩; have HN := NetZ.new H0; clear H0) | ((with_reducible refine (ncut_v (cut' := cutF) (cs' := []) (r := 0) HN c3 nf1 nf2 nf3).mono ?_); rintro _ w1 ⟨rfl, Z2, hZs, HN2⟩; clear HN hZs; (have HN := HN2); clear HN2))
  have hat : FuRel wA g M (.int .i64 (0 : Nat)) w1 := ⟨0, [], _, rfl, Nat.zero_le _, rfl, HN⟩
  clear HN hM
  go_loopw [7] (fun v wr => FuRel wA g M v wr) (fun v _ => 200 + M - (intOf v).toNat)
  case atStart => exact hat
  case round =>
    clear hat
    obtain ⟨i, cs, Z, rfl, hi, hl, HN⟩ := hrel
    have hw0 : IntKind.i64.wrap (200 + (M : Int)) = 200 + (M : Int) := IntWalk.i64_in _ (by omega)
    by_cases hlt : i < 200 + M
    · have d0 : decide ((i : Int) < 200 + (M : Int)) = true := decide_eq_true (by omega)
      obtain ⟨r5, hr5⟩ : ∃ r5 : Nat, i % 5 = r5 := ⟨_, rfl⟩
      have h5 : (i : Int).tmod 5 = (r5 : Int) := by rw [← hr5]; rfl
      have hw5 : IntKind.i64.wrap (r5 : Int) = (r5 : Int) := IntWalk.i64_in _ (by omega)
      have hwi : IntKind.i64.wrap ((i : Int) + 1) = (i : Int) + 1 := IntWalk.i64_in _ (by omega)
      have hii : 1 ≤ (i : Int) + 1 ∧ (i : Int) + 1 ≤ 1099511627776 := by omega
      have hik : (i : Int) ≤ 9223372036854775807 := by omega
      by_cases h2 : i < 200
      · have d1 : decide ((i : Int) < 200) = true := decide_eq_true (by omega)
        have hl2 : cs.length < 200 := by omega
        by_cases h4 : r5 = 4
        · have d4 : ((r5 : Int) == 4) = true := beq_iff_eq.2 (by omega)
          have hl0 : 0 < cs.length := by omega
          have hlc := len_cpy (i := (i : Int)) hl0 hl2
          have hrc := r_cpy0 hl0 hl2
          go_wp2_with (first | ((with_reducible refine (ncopy_v (cs := cs) (r := 0) HN c3 hik rfl hrc).mono ?_); rintro _ w1 ⟨rfl, Z2, hZs, HN2⟩; clear HN hZs; (have HN := HN2); clear HN2))
          go_roundw
          case rel => exact ⟨i + 1, _, _, rfl, hlt, by omega, HN⟩
          case measure => show 200 + M - (i + 1) < 200 + M - i; omega
        · have d4 : ((r5 : Int) == 4) = false := beq_eq_false_iff_ne.2 (by omega)
          go_wp2_with (first | ((with_reducible refine (nfetch_any _ _ _ _).mono ?_); rintro _ w1 ⟨rfl, hb⟩; replace HN := HN.call hb; clear hb) | ((with_reducible refine (nsendo_v HN hF1 c3 (i64s rfl) (i64s rfl) hii fF1 cF1 hl2).mono ?_); rintro _ w1 ⟨rfl, Z2, hZs, HN2⟩; clear HN hZs; (have HN := HN2); clear HN2))
          go_roundw
          case rel => exact ⟨i + 1, _, _, rfl, hlt, by rw [List.length_append, List.length_singleton]; omega, HN⟩
          case measure => show 200 + M - (i + 1) < 200 + M - i; omega
      · have d1 : decide ((i : Int) < 200) = false := decide_eq_false (by omega)
        have hl2 : 200 ≤ cs.length := by omega
        by_cases h4 : r5 = 4
        · have d4 : ((r5 : Int) == 4) = true := beq_iff_eq.2 (by omega)
          have hrc := r_cpy4 hl2
          have hlc := ful_cpy (i := (i : Int)) hl2
          go_wp2_with (first | ((with_reducible refine (ncopy_v (cs := cs) (r := 4) HN c3 hik hlc hrc).mono ?_); rintro _ w1 ⟨rfl, Z2, hZs, HN2⟩; clear HN hZs; (have HN := HN2); clear HN2))
          go_roundw
          case rel => exact ⟨i + 1, _, _, rfl, hlt, by omega, HN⟩
          case measure => show 200 + M - (i + 1) < 200 + M - i; omega
        · have d4 : ((r5 : Int) == 4) = false := beq_eq_false_iff_ne.2 (by omega)
          go_wp2_with (first | ((with_reducible refine (nfetch_any _ _ _ _).mono ?_); rintro _ w1 ⟨rfl, hb⟩; replace HN := HN.call hb; clear hb) | ((with_reducible refine (nsendx_v HN hF1 c3 (i64s rfl) (i64s rfl) hii fF1 cF1 hl2).mono ?_); rintro _ w1 ⟨rfl, Z2, hZs, HN2⟩; clear HN hZs; (have HN := HN2); clear HN2))
          go_roundw
          case rel => exact ⟨i + 1, _, _, rfl, hlt, by omega, HN⟩
          case measure => show 200 + M - (i + 1) < 200 + M - i; omega
    · obtain rfl : i = 200 + M := by omega
      have d0 : decide ((200 : Int) + (M : Int) < 200 + (M : Int)) = false := decide_eq_false (by omega)
      have hl2 : cs.length = 200 := by omega
      have hdr : natE cs = 0 := if_neg (by omega)
      obtain ⟨cs2, h2⟩ : ∃ c, ntakL cs k = c := ⟨_, rfl⟩
      have hl3 : cs2.length + 1 = 200 := by rw [← h2, ← hl2]; exact len_tak (by omega)
      obtain ⟨cs3, h3⟩ : ∃ c, ncpyL cs2 k = c := ⟨_, rfl⟩
      have hrc := r_cpy0 (cs := cs2) (by omega) (by omega)
      have hl4 : 200 ≤ cs3.length := by rw [← h3, len_cpy (by omega) (by omega)]; omega
      go_wp2_with (first | ((with_reducible refine (nfetch_any _ _ _ _).mono ?_); rintro _ w1 ⟨rfl, hb⟩; replace HN := HN.call hb; clear hb) | ((with_reducible refine (nsendc_v HN hF1 c3 (i64s rfl) (i64s rfl) (by decide) fF2 cF2).mono ?_); rintro _ w1 ⟨rfl, Z2, hZs, HN2⟩; clear HN hZs; (have HN := HN2); clear HN2) | ((with_reducible refine (nall_n HN c3 hl2).mono ?_); rintro _ w1 ⟨Aa, ca, Z2, rfl, hZs, HN2⟩; clear HN hZs; (have HN := HN2); clear HN2) | ((with_reducible refine (ndrop_v HN c3 b3 h2 hdr).mono ?_); rintro _ w1 ⟨rfl, Z2, hZs, HN2⟩; clear HN hZs; (have HN := HN2); clear HN2) | ((with_reducible refine (ncopy_v HN c3 b3 h3 hrc).mono ?_); rintro _ w1 ⟨rfl, Z2, hZs, HN2⟩; clear HN hZs; (have HN := HN2); clear HN2) | ((with_reducible refine (nsendx_v HN hF1 c3 (i64s rfl) (i64s rfl) (by decide) fF3 cF3 hl4).mono ?_); rintro _ w1 ⟨rfl, Z2, hZs, HN2⟩; clear HN hZs; (have HN := HN2); clear HN2))
      go_ret
      exact ⟨rfl, hbA.trans (HN.below.mono hbA.size)⟩
end Go.Proofs.YtiieakndjheknaaDoor

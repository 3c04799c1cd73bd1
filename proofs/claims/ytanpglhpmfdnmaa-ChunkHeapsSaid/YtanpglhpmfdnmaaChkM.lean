/-
  THE WALK OF THE LAW ChunkBack.
-/
import Derived.Test.YtanpglhpmfdnmaaChkB
namespace Go.Proofs.Ytanpglhpmfdnmaa
open Go.RowKit
set_option linter.unusedVariables false
set_option linter.unusedSimpArgs false
theorem rdl_ch {w0 w : World} {L : List Item} (H : Hp w0 w L) (i : Nat) {A : Option Addr} {c : Nat} {chs : List Ch} (hL : L[i]? = some (.rows 22 1 chC A c chs)) (hsub : ∀ x ∈ chs, x.item ∈ L) : RdL w A (chs.map (·.l)) := by
  intro hn
  have hne : chs ≠ [] := fun e => hn (by rw [e]; rfl)
  obtain ⟨g, rfl⟩ := H.someR i hL (List.length_pos_iff.2 hne)
  refine ⟨g, 0, rfl, fun k hk => ?_⟩
  have hk' : k < chs.length := by simpa using hk
  have h1 := H.cell1 (f := fun x : Ch => .slice x.A x.l.length x.c) i hL k (List.getElem?_eq_getElem hk')
  refine ⟨chs[k].A, chs[k].c, ?_, ?_⟩
  · rw [Nat.zero_add, h1]; simp
  · have := Own.rd (base := w0.heap.size) (c := chs[k].c) (H.holds _ (hsub _ (List.getElem_mem hk')))
    simpa using this
/-- lists of bytes, a number -/
def RetLs (w : World) (ls : List (List UInt8)) (k : Int) (e : Ending) (w' : World) : Prop := ∃ B d, e = .returned (.tuple #[.slice B ls.length d, .int .i64 k]) ∧ RdL w' B ls ∧ Below w.heap.size w w'
theorem split_ls {l : List UInt8} {ls : List (List UInt8)} (hs : spl l = ls) (A : Option Addr) (c : Nat) (w : World) (hr : Rd w A l) (hc : l.length ≤ c) (hm : c ≤ maxLen) (hl : l.length ≤ 640) : Calls Try.prog 30 #[.slice A l.length c] w (RetLs w ls 0) := by
  subst hs
  refine (split_yes A c l w hr hc hm (decide_eq_false (by omega))).mono ?_
  rintro e w' ⟨B, d, chs, rfl, h, H⟩
  have hn : (spl l).length = chs.length := by rw [← h]; simp
  refine ⟨B, d, by rw [hn], ?_, H.below⟩
  rw [← h]
  exact rdl_ch H 0 rfl (fun x hx => List.mem_cons_of_mem _ (List.mem_map.2 ⟨x, hx, rfl⟩))
theorem pjoin_v {ls : List (List UInt8)} {L : List UInt8} {E : Int} (hL : joL ls = L) (hE : joE ls = E) (A : Option Addr) (c : Nat) (w : World) (hr : RdL w A ls) (hc : ls.length ≤ 1000) (hx : ∀ x ∈ ls, x.length ≤ 1000000) :
    Calls Try.prog 33 #[.slice A ls.length c] w (RetBI w L E) := by
  subst hL hE
  exact pjoin_any A c ls w hr hc hx
set_option maxRecDepth 100000 in
set_option maxHeartbeats 4000000 in
theorem chunkBack_in (A : Option Addr) (c : Nat) (l : List UInt8) (B : Option Addr) (d : Nat) (ls : List (List UInt8)) (w : World) (hr : Rd w A l) (hc : l.length ≤ c) (hm : c ≤ maxLen) (hr2 : RdL w B ls) (hc2 : ls.length ≤ d) (hm2 : d ≤ maxLen) :
    Calls Try.prog 7 #[.slice A l.length c, .slice B ls.length d] w (RetV w (.bool true)) := by
  cases g1 : decide ((640 : Int) < l.length)
  rotate_left
  · go_enter Try.func7, Try.ntmps7
    go_wp2_with fail
    refine (awake12_any _).mono ?_
    rintro e w1 ⟨rfl, hb1⟩
    go_wp2_with fail
    go_ret
    exact ⟨rfl, hb1⟩
  have hl : l.length ≤ 640 := by have := of_decide_eq_false g1; omega
  have hlm : l.length ≤ maxLen := by omega
  cases hg : grL ls
  rotate_left
  · have HG := Lib.hid hg
    clear hg
    go_enter Try.func7, Try.ntmps7
    go_wp2_with fail
    refine (awake12_any _).mono ?_
    rintro e w1 ⟨rfl, hb1⟩
    go_wp2_with fail
    with_reducible refine (great12_any B d ls _ (hr2.below hb1) hc2 hm2).mono ?_
    rw [HG.out]
    rintro e w2 ⟨rfl, hb2⟩
    go_wp2_with fail
    go_ret
    exact ⟨rfl, bt hb1 hb2⟩
  obtain ⟨hn12, hx200⟩ := grL_no hg
  have HG := Lib.hid hg
  have HX := Lib.hid hx200
  clear hg hx200
  -- the pieces of l
  obtain ⟨sl, hsl⟩ : ∃ sl, spl l = sl := ⟨_, rfl⟩
  have hj := spl_jo hl
  have hjL : joL sl = l := by rw [← hsl]; unfold joL; rw [hj, if_pos rfl, spl_flat]
  have hjE : joE sl = 0 := by rw [← hsl]; unfold joE; rw [hj, if_pos rfl]
  have hs1 : 1 ≤ sl.length := by rw [← hsl, spl_len]; exact nCh_pos _
  have hs8 : sl.length ≤ 8 := by rw [← hsl, spl_len]; exact nCh_le hl
  have hsx : Hid (∀ x ∈ sl, x.length ≤ 1000000) := Lib.hid (fun x hx => by
    rw [← hsl] at hx
    obtain ⟨k, hk, rfl⟩ := List.getElem_of_mem hx
    rw [spl_get, List.length_take]
    omega)
  have HS := Lib.hid hsl
  have HJL := Lib.hid hjL
  have HJE := Lib.hid hjE
  clear hsl hj hjL hjE
  have s1 : decide ((sl.length : Int) < 1) = false := decide_eq_false (by omega)
  have s8 : decide ((8 : Int) < sl.length) = false := decide_eq_false (by omega)
  have hs1000 : sl.length ≤ 1000 := by omega
  have hn1000 : ls.length ≤ 1000 := by omega
  cases hjo : joB ls
  · have HL2 : Hid (joL ls = []) := Lib.hid (by unfold joL; rw [hjo]; rfl)
    have HE2 : Hid (joE ls = 2) := Lib.hid (by unfold joE; rw [hjo]; rfl)
    clear hjo
    go_enter Try.func7, Try.ntmps7
    go_wp2_with fail
    refine (awake12_any _).mono ?_
    rintro e w1 ⟨rfl, hb1⟩
    go_wp2_with fail
    with_reducible refine (great12_any B d ls _ (hr2.below hb1) hc2 hm2).mono ?_
    rw [HG.out]
    rintro e w2 ⟨rfl, hb2⟩
    have b2 := bt hb1 hb2
    go_wp2_with fail
    with_reducible refine (split_ls HS.out A c _ (hr.below b2) hc hm hl).mono ?_
    rintro e w3 ⟨B3, d3, rfl, hR3, hb3⟩
    have b3 := bt b2 hb3
    go_wp2_with fail
    with_reducible refine (pjoin_v HJL.out HJE.out B3 d3 _ hR3 hs1000 hsx.out).mono ?_
    rintro e w4 ⟨A4, c4, rfl, hown4, hb4⟩
    have b4 := bt b3 hb4
    go_wp2_with fail
    with_reducible refine (same_s A4 A c4 c l _ hown4.rd (hr.below b4) hlm).mono ?_
    rintro e w5 ⟨rfl, hb5⟩
    have b5 := bt b4 hb5
    go_wp2_with fail
    with_reducible refine (pjoin_v HL2.out HE2.out B d _ (hr2.below b5) hn1000 (fun x hx => Nat.le_trans (HX.out x hx) (by omega))).mono ?_
    rintro e w6 ⟨A6, c6, rfl, hown6, hb6⟩
    go_wp2_with fail
    go_ret
    exact ⟨rfl, bt b5 hb6⟩
  · have hfl := (joB_flat hjo).2
    obtain ⟨F, hF⟩ : ∃ F, ls.flatten = F := ⟨_, rfl⟩
    have hjs := jo_spl hjo
    rw [hF] at hfl hjs
    have HL2 : Hid (joL ls = F) := Lib.hid (by unfold joL; rw [hjo, if_pos rfl, hF])
    have HE2 : Hid (joE ls = 0) := Lib.hid (by unfold joE; rw [hjo]; rfl)
    have HJS := Lib.hid hjs
    clear hjo hF hjs
    go_enter Try.func7, Try.ntmps7
    go_wp2_with fail
    refine (awake12_any _).mono ?_
    rintro e w1 ⟨rfl, hb1⟩
    go_wp2_with fail
    with_reducible refine (great12_any B d ls _ (hr2.below hb1) hc2 hm2).mono ?_
    rw [HG.out]
    rintro e w2 ⟨rfl, hb2⟩
    have b2 := bt hb1 hb2
    go_wp2_with fail
    with_reducible refine (split_ls HS.out A c _ (hr.below b2) hc hm hl).mono ?_
    rintro e w3 ⟨B3, d3, rfl, hR3, hb3⟩
    have b3 := bt b2 hb3
    go_wp2_with fail
    with_reducible refine (pjoin_v HJL.out HJE.out B3 d3 _ hR3 hs1000 hsx.out).mono ?_
    rintro e w4 ⟨A4, c4, rfl, hown4, hb4⟩
    have b4 := bt b3 hb4
    go_wp2_with fail
    with_reducible refine (same_s A4 A c4 c l _ hown4.rd (hr.below b4) hlm).mono ?_
    rintro e w5 ⟨rfl, hb5⟩
    have b5 := bt b4 hb5
    go_wp2_with fail
    with_reducible refine (pjoin_v HL2.out HE2.out B d _ (hr2.below b5) hn1000 (fun x hx => Nat.le_trans (HX.out x hx) (by omega))).mono ?_
    rintro e w6 ⟨A6, c6, rfl, hown6, hb6⟩
    have b6 := bt b5 hb6
    go_wp2_with fail
    with_reducible refine (split_ls HJS.out A6 c6 _ hown6.rd hown6.caps.1 hown6.caps.2 hfl).mono ?_
    rintro e w7 ⟨B7, d7, rfl, hR7, hb7⟩
    have b7 := bt b6 hb7
    go_wp2_with fail
    with_reducible refine (lists_self B7 B d7 d ls _ hR7 (hr2.below b7) hn1000 (fun x hx => Nat.le_trans (HX.out x hx) (by unfold maxLen; omega))).mono ?_
    rintro e w8 ⟨rfl, hb8⟩
    go_wp2_with fail
    go_ret
    exact ⟨rfl, bt b7 hb8⟩
theorem chunkBack_walk (A : Option Addr) (c : Nat) (l : List UInt8) (B : Option Addr) (d : Nat) (ls : List (List UInt8)) (w : World) (hr : Rd w A l) (hc : l.length ≤ c) (hm : c ≤ maxLen) (hr2 : RdL w B ls) (hx2 : ∀ x ∈ ls, x.length ≤ maxLen) (hc2 : ls.length ≤ d) (hm2 : d ≤ maxLen) :
    Calls Try.prog 7 #[.slice A l.length c, .slice B ls.length d] w (RetV w (.bool true)) := chunkBack_in A c l B d ls w hr hc hm hr2 hc2 hm2
end Go.Proofs.Ytanpglhpmfdnmaa

/-
  copy INTO BYTES OF THE CALL's OWN.
-/
import Derived.Test.YtahfippapknolaaDoorRet
import Derived.Laws.CopyOwn
namespace Go.Proofs.YtahfippapknolaaDoor
open Go.RowKit
set_option linter.unusedVariables false

/-- block g is just these bytes -/
def BB (w : World) (g : Nat) (l : List UInt8) : Prop := Blk w g 5 (bvs l).toArray

theorem Own.bb {w : World} {base g n : Nat} {l : List UInt8} (h : Own w base (some ⟨g, 0, none⟩) n l) (hn : n = l.length) : BB w g l := by
  subst hn
  rcases h.2 with ⟨hv, _⟩ | ⟨g', cap, cur, hv, hb, hh, hnc, hcm, hsz, hcur⟩
  · cases hv
  · injection hv with h1 h2 h3
    injection h1 with h1
    injection h1 with h1 _
    subst h1
    unfold BB Blk
    rw [hh]
    have : cur.toList = bvs l := by
      rw [← hcur, List.take_of_length_le]
      simp; omega
    congr 2
    rw [← this]
theorem BB.rd {w : World} {g : Nat} {l : List UInt8} (h : BB w g l) : Rd w (some ⟨g, 0, none⟩) l := by
  intro _
  refine ⟨g, 0, rfl, fun i hi => ?_⟩
  rw [Nat.zero_add, Blk.cell h]
  simp [bvs, hi]
theorem BB.own {w : World} {base g n : Nat} {l : List UInt8} (h : BB w g l) (hb : base ≤ g) (hn : n = l.length) (hl : l.length ≤ maxLen) : Own w base (some ⟨g, 0, none⟩) n l := by
  subst hn
  refine ⟨by simp [bvs], .inr ⟨g, l.length, _, rfl, hb, h, Nat.le_refl _, hl, by simp [bvs], ?_⟩⟩
  rw [Nat.mul_one, List.toList_toArray, List.take_of_length_le (by simp [bvs])]
theorem bvs_splice (l : List UInt8) (off : Nat) (m : List UInt8) : splice (bvs l) off (bvs m) = bvs (splice l off m) := by
  simp [splice, bvs]

theorem u8_size : (Tryd.prog.info? 5).map (·.size) = some 1 := by kernel_rfl

theorem wpList_copy_bytes {ops : Array Oper} {rest : List Oper} {o : Oper} {a : Act} {Q : Exit → Act → World → Prop} (w : World) (hgd : o.guard = none) (d s : Operand)
    (ho : o.op = .call { callee := .builtin .copy, args := #[d, s], argTypes := #[22, 22] })
    (dp sp : Option Addr) (dLen dCap sLen sCap : Nat) (hd : a.eval d = .slice dp dLen dCap) (hs : a.eval s = .slice sp sLen sCap)
    (g off : Nat) (l : List UInt8) (hg : BB w g l) (news : List UInt8) (hn : news.length = Nat.min sLen dLen) (hdp : 0 < news.length → dp = some ⟨g, off, none⟩) (hr : Rd w sp news) (hfit : off + news.length ≤ l.length)
    (h : ∀ w', BB w' g (splice l off news) → Below g w w' → wpList Tryd.prog ops Q rest (a.put o.dst (goInt news.length)) w') :
    wpList Tryd.prog ops Q (o :: rest) a w := by
  have hbl : (bvs news).length = news.length := by simp [bvs]
  refine wpList_copy_splice hgd d s _ _ ho 5 Tryd.underlying22 u8_size dp sp dLen dCap sLen sCap hd hs g off (bvs l) 5 hg (bvs news) (by rw [hbl]; exact hn) ?_ (by simpa [bvs] using hfit) (bvs_one _) g w (Below.refl _ _) (Nat.le_refl _) ?_
  · intro h0
    rw [hbl] at h0
    obtain ⟨b, oo, e, hc⟩ := hr.at_ h0
    refine ⟨hdp h0, ⟨b, oo, none⟩, e, fun j v hj => ?_⟩
    have hj2 : j < news.length := by have := (List.getElem?_eq_some_iff.1 hj).1; omega
    rw [bvs_get _ _ hj2] at hj
    injection hj with hj
    rw [Addr.add_lit, hc j hj2, hj]
  · intro w' h1 h2
    rw [hbl]
    have h3 := h1.out
    rw [bvs_splice] at h3
    exact h w' h3 h2
end Go.Proofs.YtahfippapknolaaDoor

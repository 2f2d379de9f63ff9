/- Package frames: Plain: the contract. -/
import Derived.Test.YtbdhdjbdooccoaaFB
namespace Go.Proofs.Ytbdhdjbdooccoaa
open Go.Vc Go.Codec

theorem setsL_all {l cs : List Value} (h : l.length = cs.length) : setsL cs 0 l = l := by
  rw [setsL_eq l cs 0 (by omega)]
  simp [h]
theorem sets_eq (f : Frm) : ∀ (l : List Nat) (g : Frm), l.foldl (fun g i => g.set i (f.nums i)) g = ⟨g.kind, fun i => if i ∈ l then f.nums i else g.nums i, g.op, g.res, g.ent, g.ch⟩
  | [], g => by simp
  | i :: l, g => by
    rw [List.foldl_cons, sets_eq f l]
    unfold Frm.set
    simp only [Frm.mk.injEq, true_and, and_true]
    funext x
    by_cases hx : x ∈ l
    · rw [if_pos hx, if_pos (List.mem_cons_of_mem _ hx)]
    · rw [if_neg hx]
      by_cases hi : x = i
      · subst hi; rw [if_pos rfl, if_pos (List.mem_cons_self ..)]
      · rw [if_neg hi, if_neg (by simp [hi, hx])]
/-- a frame with its numbers alone -/
def numbF (f : Frm) : Frm := ⟨f.kind, fun i => if i ∈ numsF f.kind then f.nums i else 0, .none, .none, .none, .none⟩
theorem plain1 {f : Frm} (h : f.kind = 1) : plainF f = withOp (numbF f) f.op := by
  unfold plainF; rw [if_pos h, if_neg (by omega), if_neg (by omega), if_neg (by omega)]; rfl
theorem plain2 {f : Frm} (h : f.kind = 2) : plainF f = withRes (numbF f) f.res := by
  unfold plainF; rw [if_neg (by omega), if_pos h, if_neg (by omega), if_neg (by omega)]; rfl
theorem plain4 {f : Frm} (h : f.kind = 4) : plainF f = withEnt (numbF f) f.ent := by
  unfold plainF; rw [if_neg (by omega), if_neg (by omega), if_pos h, if_neg (by omega)]; rfl
theorem plain8 {f : Frm} (h : f.kind = 8) : plainF f = withCh (numbF f) f.ch := by
  unfold plainF; rw [if_neg (by omega), if_neg (by omega), if_neg (by omega), if_pos h]; rfl
theorem plain0 {f : Frm} (h1 : f.kind ≠ 1) (h2 : f.kind ≠ 2) (h4 : f.kind ≠ 4) (h8 : f.kind ≠ 8) : plainF f = numbF f := by
  unfold plainF; rw [if_neg h1, if_neg h2, if_neg h4, if_neg h8]; rfl
set_option maxRecDepth 100000 in
set_option maxHeartbeats 4000000 in
theorem fplain_ca {w0 : World} {f : Frm} {k : Nat} {p : Option Addr} (hM : MemAt w0 p f.ch.mem) (hl : f.ch.mem.length ≤ 1000) :
    Ca Try.prog 49 #[frmV f p k] w0 fun e w' => ∃ p' k', e = .returned (frmV (plainF f) p' k') ∧ St No w0 w' [memR (plainF f).ch.mem p' k'] := by
  have st : St No w0 w0 [] := St.start w0
  obtain ⟨i0, hi0, hz0, hs0, hb0⟩ := info_at infoMem
  refine fplain_ok _ _ _ _ _ _ _ _ _ _ _ _ _ _ _ _ _ _ _ _ _ _ _ _ _ _ _ _ _ _ _ _ _ ?_
  unfold fplain
  refine St.alloc st ?_; clear st; intro bf w st
  refine St.alloc st ?_; clear st; intro br w st
  refine ⟨_, st.cell 1 rfl rfl, ?_⟩
  refine St.alloc st ?_; clear st; intro bg w st
  refine ⟨st.wrRow 0 rfl rfl rfl, ?_⟩
  refine St.storeRow st 0 rfl ?_
  clear st
  intro w st
  replace st : St No w0 w [frmB bg (.zero f.kind) none 0, frmB br (.zero 0) none 0, frmB bf f p k] := by
    rw [setsL_all] at st
    · exact st
    · rfl
  refine ⟨_, st.cell 2 rfl rfl, ?_⟩
  refine (fnumbers_ca f.kind w).mono ?_
  rintro _ w1 ⟨pn, cn, rfl, ho, hk⟩
  replace st := st.pushRow0 hk ho (Nat.le_refl _)
  clear ho hk
  refine ⟨_, _, _, rfl, ?_⟩
  have hlen := numsF_len f.kind
  have hall := sets_eq f (numsF f.kind) (.zero f.kind)
  replace hall : (numsF f.kind).foldl (fun g i => g.set i (f.nums i)) (.zero f.kind) = numbF f := hall
  refine ⟨fun q v w' => ∃ (j : Nat) (g : Frm), v = [.int .i64 (j : Int)] ∧ q = (numsF f.kind).length - j ∧ j ≤ (numsF f.kind).length ∧ ((numsF f.kind).drop j).foldl (fun g i => g.set i (f.nums i)) g = numbF f ∧ St No w0 w' [fnR (numsF f.kind) pn cn, frmB bg g none g.ch.mem.length, frmB br (.zero 0) none 0, frmB bf f p k] ∧ g.ch = .none, ⟨_, 0, .zero f.kind, rfl, rfl, by omega, hall, st, rfl⟩, ?_⟩
  clear st hall
  rintro _ _ w ⟨j, g, hv, rfl, hj, hg, st, hch⟩
  obtain rfl : _ = _ := by simpa using hv
  clear hv
  replace st : St No w0 w [fnR (numsF f.kind) pn cn, frmB bg g none 0, frmB br (.zero 0) none 0, frmB bf f p k] := by rw [hch] at st; exact st
  refine Br.dec (fun h3 => ?_) (fun h3 => ?_)
  · have hjl : j < (numsF f.kind).length := by omega
    have hi := numsF_lt (List.getElem_mem hjl)
    obtain ⟨a, ha, hr⟩ := (ElAt.of_owns fnE_len (st.hold 0 _ rfl) rfl : FnAt w pn (numsF f.kind)) j hjl
    rw [List.drop_eq_getElem_cons hjl, List.foldl_cons] at hg
    refine NilOk.intro ha ⟨⟨by omega, by omega⟩, _, _, _, by simpa [addr_zero] using Row.get hr (j := 0) rfl, ?_⟩
    rw [fcallee hi]
    refine Br.sure rfl ?_
    refine Pu.go (ffield_pu hi bg) st ?_; clear st hr; intro w st
    refine ⟨_, rfl, Br.sure rfl ?_⟩
    refine Pu.go (ffield_pu hi bf) st ?_; clear st; intro w st
    refine ⟨_, rfl, NilOk.intro rfl ⟨_, st.cell 3 rfl (frm_at f p k hi), ?_⟩⟩
    refine NilOk.intro rfl ⟨st.wr 1 (i := offF (numsF f.kind)[j]) rfl (frm_at g none 0 hi), ?_⟩
    refine St.store st 1 rfl ?_
    clear st
    intro w st
    have e := frm_set g none 0 hi (f.nums (numsF f.kind)[j])
    replace st : St No w0 w [_, .blk bg _ ((frmL g none 0).set (offF (numsF f.kind)[j]) (.int .i64 (f.nums (numsF f.kind)[j]))), _, _] := st
    rw [e] at st
    have hc2 : (g.set (numsF f.kind)[j] (f.nums (numsF f.kind)[j])).ch = .none := hch
    exact LetI.id (by omega) (by omega) ⟨_, by omega, j + 1, _, by simp, rfl, by omega, hg, by rw [hc2]; exact st, hc2⟩
  · rw [List.drop_eq_nil_of_le (by omega)] at hg
    replace hg : g = numbF f := hg
    subst hg
    refine ⟨fun v w' => ∃ (p' : Option Addr) (k' : Nat), St No w0 w' [frmB bg (plainF f) p' k', memR (plainF f).ch.mem p' k', frmB br (.zero 0) none 0, frmB bf f p k], ?_, ?_⟩
    · refine ⟨_, st.cell 3 rfl rfl, Br.eqi (fun h1 => ?_) (fun h1 => ?_)⟩
      · refine ⟨_, _, _, _, st.rowAt 3 rfl rfl, st.wrRow 1 rfl rfl rfl, ?_⟩
        refine St.storeRow st 1 rfl ?_
        clear st
        intro w st
        replace st : St No w0 w [fnR (numsF f.kind) pn cn, frmB bg (withOp (numbF f) f.op) none 0, frmB br (.zero 0) none 0, frmB bf f p k] := st
        rw [← plain1 h1] at st
        refine ⟨none, 0, ?_⟩
        have hc : (plainF f).ch.mem = [] := by rw [plain1 h1]; rfl
        rw [hc]
        exact (st.nil0 43 2).pick [2, 0, 3, 4] rfl (by decide)
      refine Br.eqi (fun h2 => ?_) (fun h2 => ?_)
      · refine ⟨_, _, _, _, st.rowAt 3 rfl rfl, st.wrRow 1 rfl rfl rfl, ?_⟩
        refine St.storeRow st 1 rfl ?_
        clear st
        intro w st
        replace st : St No w0 w [fnR (numsF f.kind) pn cn, frmB bg (withRes (numbF f) f.res) none 0, frmB br (.zero 0) none 0, frmB bf f p k] := st
        rw [← plain2 h2] at st
        refine ⟨none, 0, ?_⟩
        have hc : (plainF f).ch.mem = [] := by rw [plain2 h2]; rfl
        rw [hc]
        exact (st.nil0 43 2).pick [2, 0, 3, 4] rfl (by decide)
      refine Br.eqi (fun h4 => ?_) (fun h4 => ?_)
      · refine ⟨_, _, _, _, _, _, _, st.rowAt 3 rfl rfl, st.wrRow 1 rfl rfl rfl, ?_⟩
        refine St.storeRow st 1 rfl ?_
        clear st
        intro w st
        replace st : St No w0 w [fnR (numsF f.kind) pn cn, frmB bg (withEnt (numbF f) f.ent) none 0, frmB br (.zero 0) none 0, frmB bf f p k] := st
        rw [← plain4 h4] at st
        refine ⟨none, 0, ?_⟩
        have hc : (plainF f).ch.mem = [] := by rw [plain4 h4]; rfl
        rw [hc]
        exact (st.nil0 43 2).pick [2, 0, 3, 4] rfl (by decide)
      refine Br.eqi (fun h8 => ?_) (fun h8 => ?_)
      · refine ⟨_, _, _, _, _, st.rowAt 3 rfl rfl, st.wrRow 1 rfl rfl rfl, ?_⟩
        refine St.storeRow st 1 rfl ?_
        clear st
        intro w st
        replace st : St No w0 w [fnR (numsF f.kind) pn cn, frmB bg (withCh (numbF f) f.ch) p k, frmB br (.zero 0) none 0, frmB bf f p k] := st
        refine ⟨_, _, _, st.cell 3 rfl rfl, ?_⟩
        refine St.appendAny0 ((st.nil0 43 2)) 0 (xs := []) (l := f.ch.mem) Try.underlying35 hi0 hz0 hs0 hb0 rfl (by decide) memE_len memE_plain rfl (hM.no st.kp) rfl (by simp [maxLen]; omega) (by omega) ?_
        clear st
        intro p' k' w st
        simp only [List.set, List.nil_append, Nat.zero_add] at st
        refine ⟨_, _, _, rfl, st.wr 2 (i := 24) rfl rfl, ?_⟩
        refine St.store st 2 rfl ?_
        clear st
        intro w st
        replace st : St No w0 w [memR f.ch.mem p' k', fnR (numsF f.kind) pn cn, frmB bg (withCh (numbF f) f.ch) p' k', frmB br (.zero 0) none 0, frmB bf f p k] := by
          simp only [List.set, Nat.zero_add] at st
          exact st
        refine ⟨p', k', ?_⟩
        rw [plain8 h8]
        exact st.pick [2, 0, 3, 4] rfl (by decide)
      · refine ⟨none, 0, ?_⟩
        have e := plain0 h1 h2 h4 h8
        have hc : (plainF f).ch.mem = [] := by rw [e]; rfl
        rw [← e] at st
        rw [hc]
        exact (st.nil0 43 2).pick [2, 0, 3, 4] rfl (by decide)
    clear st
    rintro w ⟨p', k', st⟩
    refine ⟨_, _, _, _, _, _, _, _, _, _, _, _, _, _, _, _, _, _, _, _, _, _, _, _, _, _, _, _, _, _, _, st.rowAt 0 rfl rfl, st.wrRow 2 rfl rfl rfl, ?_⟩
    refine St.storeRow st 2 rfl ?_
    clear st
    intro w st
    replace st : St No w0 w [frmB bg (plainF f) p' k', memR (plainF f).ch.mem p' k', frmB br (plainF f) p' k', frmB bf f p k] := by
      rw [setsL_all] at st
      · exact st
      · rfl
    refine ⟨_, _, _, _, _, _, _, _, _, _, _, _, _, _, _, _, _, _, _, _, _, _, _, _, _, _, _, _, _, _, _, st.rowAt 2 rfl rfl, ?_⟩
    exact ⟨p', k', rfl, st.pick [1] rfl (by decide)⟩
end Go.Proofs.Ytbdhdjbdooccoaa

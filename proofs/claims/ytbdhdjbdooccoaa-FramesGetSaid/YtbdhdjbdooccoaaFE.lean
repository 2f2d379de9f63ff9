/- Package frames: two frames that are the same; the chapter's frames; FramesForm and FramesBack. -/
import Derived.Test.YtbdhdjbdooccoaaFD
import Derived.Test.YtbdhdjbdooccoaaDF4
namespace Go.Proofs.Ytbdhdjbdooccoaa
open Go.Vc Go.Codec

set_option maxRecDepth 100000 in
set_option maxHeartbeats 2000000 in
theorem fsame_pw {w0 : World} {f : Frm} {k k' : Nat} {p p' : Option Addr} (ha : MemAt w0 p f.ch.mem) (hb : MemAt w0 p' f.ch.mem) (hl : f.ch.mem.length ≤ 1000) :
    Pw Try.prog 51 #[frmV f p k, frmV f p' k'] (.bool true) w0 := by
  have st : St No w0 w0 [] := St.start w0
  refine fsame_ok _ _ _ _ _ _ _ _ _ _ _ _ _ _ _ _ _ _ _ _ _ _ _ _ _ _ _ _ _ _ _ _ _ _ _ _ _ _ _ _ _ _ _ _ _ _ _ _ _ _ _ _ _ _ _ _ _ _ _ _ _ _ _ _ ?_
  unfold fsame
  refine St.alloc st ?_; clear st; intro ba w st
  refine St.alloc st ?_; clear st; intro bb w st
  refine ⟨_, _, _, _, _, st.rowAt 1 rfl rfl, _, _, _, _, _, st.rowAt 0 rfl rfl, ?_⟩
  refine Pw.go (csame_pw (c := f.ch) (d := f.ch) (ha.no st.kp) (hb.no st.kp) rfl rfl (by omega)) st ?_; clear st; intro w st
  rw [decide_eq_true (rfl : f.ch = f.ch)]
  refine ⟨_, rfl, ?_⟩
  iterate 6 refine ⟨_, st.cell 1 rfl rfl, _, st.cell 0 rfl rfl, Br.eqi (fun _ => ?_) (fun h => absurd rfl h)⟩
  refine ⟨_, st.cell 1 rfl rfl, _, st.cell 0 rfl rfl, Br.sure rfl (Br.eqi (fun _ => ?_) (fun h => absurd rfl h))⟩
  refine ⟨_, _, _, _, st.rowAt 1 rfl rfl, _, _, _, _, st.rowAt 0 rfl rfl, Br.pos (by simp) ?_⟩
  refine ⟨_, _, _, _, st.rowAt 1 rfl rfl, _, _, _, _, st.rowAt 0 rfl rfl, Br.pos (by simp) ?_⟩
  refine ⟨_, st.cell 1 rfl rfl, _, st.cell 0 rfl rfl, Br.eqi (fun _ => ?_) (fun h => absurd rfl h)⟩
  refine ⟨_, _, _, _, _, _, _, st.rowAt 1 rfl rfl, _, _, _, _, _, _, _, st.rowAt 0 rfl rfl, Br.pos (by simp) ?_⟩
  iterate 2 refine ⟨_, st.cell 1 rfl rfl, _, st.cell 0 rfl rfl, Br.eqi (fun _ => ?_) (fun h => absurd rfl h)⟩
  refine ⟨_, st.cell 1 rfl rfl, _, st.cell 0 rfl rfl, ?_, st.kp⟩
  rw [beq_self_eq_true]
theorem fbytes_pw {w0 : World} {f : Frm} {l : List UInt8} {k : Nat} {p : Option Addr} (hM : MemAt w0 p f.ch.mem) (hl : f.res.val.length ≤ 1000000) (h : putF f = (l, 0)) :
    Pw Try.prog 52 #[frmV f p k, .string (mk l)] (.bool true) w0 := by
  have st : St No w0 w0 [] := St.start w0
  refine fbytes_ok _ _ _ _ _ _ _ _ _ _ _ _ _ _ _ _ _ _ _ _ _ _ _ _ _ _ _ _ _ _ _ _ _ _ ?_
  unfold fbytes
  refine St.alloc st ?_; clear st; intro bf w st
  refine ⟨_, _, _, _, _, _, _, _, _, _, _, _, _, _, _, _, _, _, _, _, _, _, _, _, _, _, _, _, _, _, _, st.rowAt 0 rfl rfl, ?_⟩
  have hp := fput_pw (k := k) (f := f) (hM.no st.kp) hl
  rw [h] at hp
  refine Pw.go hp st ?_; clear st; intro w st
  exact ⟨_, _, rfl, Br.eqs' (fun _ => ⟨rfl, st.kp⟩) (fun hh => absurd rfl hh)⟩
theorem getF_nil : getF [] = (.zero 0, 10) := getF_no fun g hg _ h => by
  have := encF_pos hg
  rw [← h] at this
  exact absurd this (by decide)
abbrev sA : Frm := ⟨7, fun i => if i = 0 then 9 else 0, .none, .none, .none, .none⟩
abbrev sB : Frm := ⟨6, fun i => if i = 0 then 2 else 0, .none, .none, .none, .none⟩
abbrev sC : Frm := ⟨2, fun i => if i = 2 then 1 else if i = 3 then 1 else 0, .none, ⟨2, [], 0, 4⟩, .none, .none⟩
theorem sA_put : putF sA = ([8], 0) := by kernel_rfl
theorem sB_put : putF sB = ([7, 3, 1], 0) := by kernel_rfl
theorem sC_put : putF sC = ([3, 1, 2, 2, 3, 0, 1, 5], 0) := by kernel_rfl
set_option maxRecDepth 100000 in
theorem fsent_pu : Pu Try.prog 44 #[] (.bool true) := by
  intro w0
  have st : St No w0 w0 [] := St.start w0
  refine fsent_ok _ _ ?_
  unfold fsent
  refine (fget_ca (s := []) (by simp)).mono ?_
  rw [getF_nil]
  rintro _ w1 ⟨p', k', rfl, st1⟩
  replace st := st.made st1
  clear st1
  refine ⟨_, _, _, _, _, _, _, _, _, _, _, _, _, _, _, _, _, _, _, _, _, _, _, _, _, _, _, _, _, _, _, _, rfl, ?_⟩
  refine St.alloc st ?_; clear st; intro bf w st
  refine ⟨st.wrRow 0 rfl rfl rfl, ?_⟩
  refine St.storeRow st 0 rfl ?_
  clear st
  intro w st
  refine Pw.go (fbytes_pw (f := sA) (p := none) (k := 0) (ElAt.nil _ _) (by decide) sA_put) st ?_; clear st; intro w st
  refine ⟨_, rfl, Br.sure rfl ?_⟩
  refine Pw.go (fbytes_pw (f := sB) (p := none) (k := 0) (ElAt.nil _ _) (by decide) sB_put) st ?_; clear st; intro w st
  refine ⟨_, rfl, Br.sure rfl ?_⟩
  refine Pw.go (fbytes_pw (f := sC) (p := none) (k := 0) (ElAt.nil _ _) (by decide) sC_put) st ?_; clear st; intro w st
  exact ⟨_, rfl, Br.sure rfl ⟨rfl, st.kp⟩⟩
theorem fgreat_pw {w0 : World} (f : Frm) (p : Option Addr) (k : Nat) :
    ∃ B : Bool, (B = false → f.res.val.length ≤ 300 ∧ f.ch.mem.length ≤ 12) ∧ Pw Try.prog 48 #[frmV f p k] (.bool B) w0 := by
  refine ⟨decide (f.op.key.length > 300) || (decide (f.op.val.length > 300) || (decide (f.ent.op.key.length > 300) || (decide (f.ent.op.val.length > 300) || (decide (f.res.val.length > 300) || decide ((f.ch.mem.length : Int) > 12))))), fun h => ?_, ?_⟩
  · simp at h; omega
  have st : St No w0 w0 [] := St.start w0
  have e1 : (mk f.op.key).size = f.op.key.length := rfl
  have e2 : (mk f.op.val).size = f.op.val.length := rfl
  have e3 : (mk f.ent.op.key).size = f.ent.op.key.length := rfl
  have e4 : (mk f.ent.op.val).size = f.ent.op.val.length := rfl
  have e5 : (mk f.res.val).size = f.res.val.length := rfl
  refine fgreat_ok _ _ _ _ _ _ _ _ _ _ _ _ _ _ _ _ _ _ _ _ _ _ _ _ _ _ _ _ _ _ _ _ _ ?_
  unfold fgreat
  refine St.alloc st ?_; clear st; intro bf w st
  refine ⟨_, st.cell 0 rfl rfl, Br.dec (fun h1 => ?_) (fun h1 => ?_)⟩
  · rw [decide_eq_true (by omega)]; exact ⟨rfl, st.kp⟩
  rw [decide_eq_false (by omega), Bool.false_or]
  refine ⟨_, st.cell 0 rfl rfl, Br.dec (fun h1 => ?_) (fun h1 => ?_)⟩
  · rw [decide_eq_true (by omega)]; exact ⟨rfl, st.kp⟩
  rw [decide_eq_false (by omega), Bool.false_or]
  refine ⟨_, st.cell 0 rfl rfl, Br.dec (fun h1 => ?_) (fun h1 => ?_)⟩
  · rw [decide_eq_true (by omega)]; exact ⟨rfl, st.kp⟩
  rw [decide_eq_false (by omega), Bool.false_or]
  refine ⟨_, st.cell 0 rfl rfl, Br.dec (fun h1 => ?_) (fun h1 => ?_)⟩
  · rw [decide_eq_true (by omega)]; exact ⟨rfl, st.kp⟩
  rw [decide_eq_false (by omega), Bool.false_or]
  refine ⟨_, st.cell 0 rfl rfl, Br.dec (fun h1 => ?_) (fun h1 => ?_)⟩
  · rw [decide_eq_true (by omega)]; exact ⟨rfl, st.kp⟩
  rw [decide_eq_false (by omega), Bool.false_or]
  exact ⟨_, _, _, st.cell 0 rfl rfl, rfl, st.kp⟩
theorem getF_mem (s : List UInt8) : (getF s).1.ch.mem.length ≤ 6 := by
  rcases getF_cases s with h | ⟨h, hp, hpl⟩
  · rw [h]; exact Nat.zero_le _
  · rw [h]
    obtain ⟨⟨_, _, hr⟩, _⟩ := putF_iff.1 hp
    by_cases h8 : (frmP s).kind = 8
    · exact (chkC_ok.1 (hr.2.2.2 h8)).l2
    · have e : (frmP s).ch = .none := by rw [← hpl]; exact if_neg h8
      show (frmP s).ch.mem.length ≤ 6
      rw [e]; exact Nat.zero_le _
theorem getF_res (s : List UInt8) : (getF s).1.res.val.length ≤ s.length := by
  rcases getF_cases s with h | ⟨h, _, _⟩
  · rw [h]; exact Nat.zero_le _
  · rw [h]; exact frmP_res s
set_option maxRecDepth 100000 in
set_option maxHeartbeats 4000000 in
theorem lawFForm_pw {w0 : World} (s : List UInt8) : Pw Try.prog 13 #[.string (mk s)] (.bool true) w0 := by
  have st : St No w0 w0 [] := St.start w0
  have e1 : (mk s).size = s.length := rfl
  refine lawFForm_ok _ _ _ ?_
  unfold lawFForm
  refine Br.dec (fun h0 => ?_) (fun h0 => ?_)
  · refine Pu.go fsent_pu st ?_; clear st; intro w st
    exact ⟨_, rfl, rfl, st.kp⟩
  have hmem := getF_mem s
  have hres := getF_res s
  refine (fget_ca (s := s) (by omega)).mono ?_
  rintro _ w1 ⟨p, k, rfl, st1⟩
  replace st := st.made st1
  clear st1
  refine ⟨_, _, _, _, _, _, _, _, _, _, _, _, _, _, _, _, _, _, _, _, _, _, _, _, _, _, _, _, _, _, _, _, rfl, ?_⟩
  refine St.alloc st ?_; clear st; intro bf w st
  refine ⟨st.wrRow 0 rfl rfl rfl, ?_⟩
  refine St.storeRow st 0 rfl ?_
  clear st
  intro w st
  replace st : St No w0 w [frmB bf (getF s).1 p k, memR (getF s).1.ch.mem p k] := by
    rw [setsL_all] at st
    · exact st
    · rfl
  rcases getF_cases s with h | ⟨h, hp, hpl⟩
  · rw [h] at st ⊢
    refine Br.sure rfl (Br.sure rfl ?_)
    refine ⟨_, _, _, _, _, _, _, _, _, _, _, _, _, _, _, _, _, _, _, _, _, _, _, _, _, _, _, _, _, _, _, st.rowAt 0 rfl rfl, ?_⟩
    refine Pw.go (fsame_pw (f := .zero 0) (p' := none) (k' := 0) (ElAt.of_owns memE_len (st.hold 1 _ rfl) rfl) (ElAt.nil _ _) (by decide)) st ?_; clear st; intro w st
    refine ⟨_, rfl, Br.sure rfl ?_⟩
    refine Pu.go fsent_pu st ?_; clear st; intro w st
    exact ⟨_, rfl, rfl, st.kp⟩
  · rw [h] at st hmem hres ⊢
    dsimp only at hmem hres
    refine Br.nay rfl ?_
    refine ⟨_, _, _, _, _, _, _, _, _, _, _, _, _, _, _, _, _, _, _, _, _, _, _, _, _, _, _, _, _, _, _, st.rowAt 0 rfl rfl, ?_⟩
    refine Pw.go (fbytes_pw (f := frmP s) (ElAt.of_owns memE_len (st.hold 1 _ rfl) rfl) (by omega) hp) st ?_; clear st; intro w st
    refine ⟨_, rfl, Br.sure rfl ?_⟩
    refine ⟨_, _, _, _, _, _, _, _, _, _, _, _, _, _, _, _, _, _, _, _, _, _, _, _, _, _, _, _, _, _, _, st.rowAt 0 rfl rfl, _, _, _, _, _, _, _, _, _, _, _, _, _, _, _, _, _, _, _, _, _, _, _, _, _, _, _, _, _, _, _, st.rowAt 0 rfl rfl, ?_⟩
    refine (fplain_ca (f := frmP s) (ElAt.of_owns memE_len (st.hold 1 _ rfl) rfl) (by omega)).mono ?_
    rw [hpl]
    rintro _ w1 ⟨p2, k2, rfl, st1⟩
    replace st := st.made st1
    clear st1
    simp only [List.cons_append, List.nil_append] at st
    refine ⟨_, _, _, _, _, _, _, _, _, _, _, _, _, _, _, _, _, _, _, _, _, _, _, _, _, _, _, _, _, _, _, rfl, st.rowAt 1 rfl rfl, ?_⟩
    refine Pw.go (fsame_pw (f := frmP s) (ElAt.of_owns memE_len (st.hold 0 _ rfl) rfl) (ElAt.of_owns memE_len (st.hold 2 _ rfl) rfl) (by omega)) st ?_; clear st; intro w st
    refine ⟨_, rfl, Br.sure rfl ?_⟩
    refine Pu.go fsent_pu st ?_; clear st; intro w st
    exact ⟨_, rfl, rfl, st.kp⟩
end Go.Proofs.Ytbdhdjbdooccoaa

/- FramesBack: what is put is got; the law. -/
import Derived.Test.YtbdhdjbdooccoaaFE
namespace Go.Proofs.Ytbdhdjbdooccoaa
open Go.Vc Go.Codec

theorem plain_res (f : Frm) : (plainF f).res.val.length ≤ f.res.val.length := by
  unfold plainF
  dsimp only
  split
  · omega
  · exact Nat.zero_le _
theorem plain_mem (f : Frm) : (plainF f).ch.mem.length ≤ f.ch.mem.length := by
  unfold plainF
  dsimp only
  split
  · omega
  · exact Nat.zero_le _
set_option maxRecDepth 100000 in
set_option maxHeartbeats 8000000 in
theorem lawFBack_pw {w0 : World} {f : Frm} {k : Nat} {p : Option Addr} (hM : MemAt w0 p f.ch.mem) {cut : Int} (hcut : 0 ≤ cut ∧ cut ≤ 65535) : Pw Try.prog 12 #[frmV f p k, .int .u16 cut] (.bool true) w0 := by
  have st : St No w0 w0 [] := St.start w0
  refine lawFBack_ok _ _ _ _ _ _ _ _ _ _ _ _ _ _ _ _ _ _ _ _ _ _ _ _ _ _ _ _ _ _ _ _ _ _ ?_
  unfold lawFBack
  refine St.alloc st ?_; clear st; intro bf w st
  refine ⟨_, _, _, _, _, _, _, _, _, _, _, _, _, _, _, _, _, _, _, _, _, _, _, _, _, _, _, _, _, _, _, st.rowAt 0 rfl rfl, ?_⟩
  obtain ⟨B, hB, hG⟩ := fgreat_pw (w0 := w) f p k
  refine Pw.go hG st ?_; clear st hG; intro w st
  refine ⟨_, rfl, Br.bool (fun h1 => ?_) (fun h1 => ?_)⟩
  · refine Pu.go fsent_pu st ?_; clear st; intro w st
    exact ⟨_, rfl, rfl, st.kp⟩
  obtain ⟨hr, hm12⟩ := hB h1
  clear hB h1
  have hr2 := plain_res f
  have hm2 := plain_mem f
  refine ⟨_, _, _, _, _, _, _, _, _, _, _, _, _, _, _, _, _, _, _, _, _, _, _, _, _, _, _, _, _, _, _, st.rowAt 0 rfl rfl, ?_⟩
  refine (fplain_ca (f := f) (hM.no st.kp) (by omega)).mono ?_
  rintro _ w1 ⟨p1, k1, rfl, st1⟩
  replace st := st.made st1
  clear st1
  refine ⟨_, _, _, _, _, _, _, _, _, _, _, _, _, _, _, _, _, _, _, _, _, _, _, _, _, _, _, _, _, _, _, rfl, ?_⟩
  refine St.alloc st ?_; clear st; intro bp w st
  refine ⟨st.wrRow 0 rfl rfl rfl, ?_⟩
  refine St.storeRow st 0 rfl ?_
  clear st
  intro w st
  replace st : St No w0 w [frmB bp (plainF f) p1 k1, memR (plainF f).ch.mem p1 k1, frmB bf f p k] := by
    rw [setsL_all] at st
    · exact st
    · rfl
  refine ⟨_, _, _, _, _, _, _, _, _, _, _, _, _, _, _, _, _, _, _, _, _, _, _, _, _, _, _, _, _, _, _, st.rowAt 2 rfl rfl, ?_⟩
  refine Pw.go (fput_pw (f := f) (hM.no st.kp) (by omega)) st ?_; clear st; intro w st
  refine ⟨_, _, rfl, _, _, _, _, _, _, _, _, _, _, _, _, _, _, _, _, _, _, _, _, _, _, _, _, _, _, _, _, _, _, _, st.rowAt 0 rfl rfl, ?_⟩
  have hp := fput_pw (f := plainF f) (k := k1) (ElAt.of_owns memE_len (st.hold 1 _ rfl) rfl) (by omega)
  rw [plain_put] at hp
  refine Pw.go hp st ?_; clear st hp; intro w st
  refine ⟨_, _, rfl, Br.not (Br.eqs' (fun _ => ?_) (fun hh => absurd rfl hh))⟩
  refine Br.nei (fun hh => absurd rfl hh) (fun _ => ?_)
  refine ⟨_, _, _, _, _, _, _, _, _, _, _, _, _, _, _, _, _, _, _, _, _, _, _, _, _, _, _, _, _, _, _, st.rowAt 0 rfl rfl, _, _, _, _, _, _, _, _, _, _, _, _, _, _, _, _, _, _, _, _, _, _, _, _, _, _, _, _, _, _, _, st.rowAt 0 rfl rfl, ?_⟩
  refine (fplain_ca (f := plainF f) (ElAt.of_owns memE_len (st.hold 1 _ rfl) rfl) (by omega)).mono ?_
  rw [plain_plain]
  rintro _ w1 ⟨p2, k2, rfl, st1⟩
  replace st := st.made st1
  clear st1
  replace st : St No w0 w1 [memR (plainF f).ch.mem p2 k2, frmB bp (plainF f) p1 k1, memR (plainF f).ch.mem p1 k1, frmB bf f p k] := st
  refine ⟨_, _, _, _, _, _, _, _, _, _, _, _, _, _, _, _, _, _, _, _, _, _, _, _, _, _, _, _, _, _, _, rfl, st.rowAt 1 rfl rfl, ?_⟩
  refine Pw.go (fsame_pw (f := plainF f) (ElAt.of_owns memE_len (st.hold 0 _ rfl) rfl) (ElAt.of_owns memE_len (st.hold 2 _ rfl) rfl) (by omega)) st ?_; clear st; intro w st
  refine ⟨_, rfl, Br.nay rfl ?_⟩
  refine ⟨_, st.cell 1 rfl rfl, _, st.cell 3 rfl rfl, Br.nei (fun hh => absurd rfl hh) (fun _ => ?_)⟩
  rcases putF_cases f with h | h | ⟨h, hm, hlen⟩
  · rw [h]
    refine Br.sure rfl (Br.sure rfl (Br.pos (by show ((mk []).toList == []) = true; rw [mk_toList]; rfl) ?_))
    refine Pu.go fsent_pu st ?_; clear st; intro w st
    exact ⟨_, rfl, rfl, st.kp⟩
  · rw [h]
    refine Br.sure rfl (Br.nay rfl (Br.sure rfl (Br.pos (by show ((mk []).toList == []) = true; rw [mk_toList]; rfl) ?_)))
    refine Pu.go fsent_pu st ?_; clear st; intro w st
    exact ⟨_, rfl, rfl, st.kp⟩
  · rw [h]
    dsimp only
    have hpos := encF_pos hm
    have e1 : (mk (encF f)).size = (encF f).length := rfl
    refine Br.nay rfl (Br.eqi (fun hh => absurd hh (by omega)) (fun _ => Br.dec (fun hh => absurd hh (by omega)) (fun _ => ?_)))
    have g1 : getF (encF f) = (plainF f, 0) := by
      have := getF_put (g := plainF f) ((plain_may f).2 hm) (by rw [plain_enc]; exact hlen) (plain_plain f)
      rwa [plain_enc] at this
    refine (fget_ca (s := encF f) (by omega)).mono ?_
    rw [g1]
    rintro _ w1 ⟨p3, k3, rfl, st1⟩
    replace st := st.made st1
    clear st1
    refine ⟨_, _, _, _, _, _, _, _, _, _, _, _, _, _, _, _, _, _, _, _, _, _, _, _, _, _, _, _, _, _, _, _, rfl, ?_⟩
    refine St.alloc st ?_; clear st; intro ba w st
    refine ⟨st.wrRow 0 rfl rfl rfl, ?_⟩
    refine St.storeRow st 0 rfl ?_
    clear st
    intro w st
    replace st : St No w0 w [frmB ba (plainF f) p3 k3, memR (plainF f).ch.mem p3 k3, memR (plainF f).ch.mem p2 k2, frmB bp (plainF f) p1 k1, memR (plainF f).ch.mem p1 k1, frmB bf f p k] := by
      rw [setsL_all] at st
      · exact st
      · rfl
    refine LetI.id (by omega) (by omega) ⟨by omega, LetI.of ?_⟩
    have hcm : 0 ≤ cut.tmod ((mk (encF f)).size : Int) ∧ cut.tmod ((mk (encF f)).size : Int) < ((mk (encF f)).size : Int) := by
      rw [Int.tmod_eq_emod_of_nonneg hcut.1]
      exact ⟨Int.emod_nonneg _ (by omega), Int.emod_lt_of_pos _ (by omega)⟩
    generalize cut.tmod ((mk (encF f)).size : Int) = i at *
    refine ⟨by omega, ?_⟩
    rw [mk_extract, List.drop_zero]
    refine (fget_ca (s := (encF f).take i.toNat) (by rw [List.length_take]; omega)).mono ?_
    rw [getF_cut hm (by omega)]
    rintro _ w1 ⟨p4, k4, rfl, st1⟩
    replace st := st.made st1
    clear st1
    refine ⟨_, _, _, _, _, _, _, _, _, _, _, _, _, _, _, _, _, _, _, _, _, _, _, _, _, _, _, _, _, _, _, _, rfl, ?_⟩
    refine St.alloc st ?_; clear st; intro bb w st
    refine ⟨st.wrRow 0 rfl rfl rfl, ?_⟩
    refine St.storeRow st 0 rfl ?_
    clear st
    intro w st
    replace st : St No w0 w [frmB bb (.zero 0) p4 k4, memR [] p4 k4, frmB ba (plainF f) p3 k3, memR (plainF f).ch.mem p3 k3, memR (plainF f).ch.mem p2 k2, frmB bp (plainF f) p1 k1, memR (plainF f).ch.mem p1 k1, frmB bf f p k] := by
      rw [setsL_all] at st
      · exact st
      · rfl
    refine sz_and (by omega) ?_
    refine (fget_ca (s := encF f ++ [0]) (by rw [List.length_append]; simp; omega)).mono ?_
    rw [getF_more hm (by simp)]
    rintro _ w1 ⟨p5, k5, rfl, st1⟩
    replace st := st.made st1
    clear st1
    refine ⟨_, _, _, _, _, _, _, _, _, _, _, _, _, _, _, _, _, _, _, _, _, _, _, _, _, _, _, _, _, _, _, _, rfl, ?_⟩
    refine St.alloc st ?_; clear st; intro bc w st
    refine ⟨st.wrRow 0 rfl rfl rfl, ?_⟩
    refine St.storeRow st 0 rfl ?_
    clear st
    intro w st
    replace st : St No w0 w [frmB bc (.zero 0) p5 k5, memR [] p5 k5, frmB bb (.zero 0) p4 k4, memR [] p4 k4, frmB ba (plainF f) p3 k3, memR (plainF f).ch.mem p3 k3, memR (plainF f).ch.mem p2 k2, frmB bp (plainF f) p1 k1, memR (plainF f).ch.mem p1 k1, frmB bf f p k] := by
      rw [setsL_all] at st
      · exact st
      · rfl
    refine Br.sure rfl ?_
    refine ⟨_, _, _, _, _, _, _, _, _, _, _, _, _, _, _, _, _, _, _, _, _, _, _, _, _, _, _, _, _, _, _, st.rowAt 4 rfl rfl, _, _, _, _, _, _, _, _, _, _, _, _, _, _, _, _, _, _, _, _, _, _, _, _, _, _, _, _, _, _, _, st.rowAt 7 rfl rfl, ?_⟩
    refine Pw.go (fsame_pw (f := plainF f) (ElAt.of_owns memE_len (st.hold 5 _ rfl) rfl) (ElAt.of_owns memE_len (st.hold 8 _ rfl) rfl) (by omega)) st ?_; clear st; intro w st
    refine ⟨_, rfl, Br.sure rfl (Br.sure rfl ?_)⟩
    refine ⟨_, _, _, _, _, _, _, _, _, _, _, _, _, _, _, _, _, _, _, _, _, _, _, _, _, _, _, _, _, _, _, st.rowAt 2 rfl rfl, ?_⟩
    refine Pw.go (fsame_pw (f := .zero 0) (p' := none) (k' := 0) (ElAt.of_owns memE_len (st.hold 3 _ rfl) rfl) (ElAt.nil _ _) (by decide)) st ?_; clear st; intro w st
    refine ⟨_, rfl, Br.sure rfl (Br.sure rfl ?_)⟩
    refine ⟨_, _, _, _, _, _, _, _, _, _, _, _, _, _, _, _, _, _, _, _, _, _, _, _, _, _, _, _, _, _, _, st.rowAt 0 rfl rfl, ?_⟩
    refine Pw.go (fsame_pw (f := .zero 0) (p' := none) (k' := 0) (ElAt.of_owns memE_len (st.hold 1 _ rfl) rfl) (ElAt.nil _ _) (by decide)) st ?_; clear st; intro w st
    refine ⟨_, rfl, Br.sure rfl ?_⟩
    refine Pu.go fsent_pu st ?_; clear st; intro w st
    exact ⟨_, rfl, rfl, st.kp⟩
end Go.Proofs.Ytbdhdjbdooccoaa

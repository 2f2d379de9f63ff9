/- ClientNone: the walk. -/
import Derived.Test.YtljipmhkpnigkaaKH
import Derived.Test.YtljipmhkpnigkaaDK2
namespace Go.Proofs.Ytljipmhkpnigkaa
open Go.Vc Go.Codec

abbrev zerosK (o : Option Nat) : List Atom := o.toList.map fun b => .blk b 88 zeroK
theorem nok_at {S : Nat → Prop} {w0 w : World} {L : List Atom} {o : Option Nat} (st : St S w0 w L) (i : Nat) (h : ∀ b, o = some b → L[i]? = some (.blk b 88 zeroK)) : NoK w (o.map fun b => ⟨b, 0, none⟩) := by
  cases o with
  | none => exact .inl rfl
  | some b => exact .inr ⟨b, rfl, st.hold i _ (h b rfl)⟩
set_option maxRecDepth 100000 in
set_option maxHeartbeats 8000000 in
theorem lawKNone_pw {w0 : World} {c : Cfg} {p : Option Addr} {n k : Nat} (hM : IntAt w0 p c.quanta) (hn : n = c.quanta.length) (hk : n ≤ k) (hk' : k ≤ maxLen) (id : Int) (x : ActK) :
    Pw Try.prog 9 #[cfV c p n k, .int .i64 id, .agg ⟨actK x⟩] (.bool true) w0 := by
  subst hn
  have st : St No w0 w0 [] := St.start w0
  refine lawKNone_ok _ _ _ _ _ _ _ _ _ _ _ _ _ _ _ _ _ _ _ _ _ _ _ _ _ _ _ _ _ _ _ _ _ _ _ _ _ _ _ _ _ _ _ _ _ _ _ _ _ _ _ _ _ _ _ _ _ _ ?_
  unfold lawKNone
  refine St.alloc st ?_; clear st; intro bc w st
  refine St.alloc st ?_; clear st; intro ba w st
  refine ⟨_, _, _, st.cell 1 (i := 3) rfl rfl, Br.dec (fun h1 => ?_) (fun h1 => ?_)⟩
  · refine Pu.go kcalled_pu st ?_; clear st; intro w st
    exact ⟨_, rfl, rfl, st.kp⟩
  refine ⟨_, _, _, _, _, _, _, _, _, _, _, _, _, _, _, _, _, _, _, _, _, _, _, _, _, _, _, _, _, _, _, _, _, _, _, _, _, _, _, _, _, st.rowAt 0 rfl rfl, ?_⟩
  refine St.alloc st ?_; clear st; intro bs w st
  obtain ⟨B, hB, hg⟩ := kgreat_pw (w0 := w) (p := some ⟨bs, 0, none⟩) (n := 1) (k := 1) (l := [x]) (fun j hj => by
    obtain rfl : j = 0 := by simpa using hj
    exact ⟨_, rfl, st.rowAt 0 rfl rfl⟩) rfl (by show 1 ≤ maxLen; decide) 1
  clear hB
  refine Pw.go hg st ?_; clear st hg; intro w st
  refine ⟨_, rfl, Br.bool (fun h2 => ?_) (fun h2 => ?_)⟩
  · refine Pu.go kcalled_pu st ?_; clear st; intro w st
    exact ⟨_, rfl, rfl, st.kp⟩
  replace st : St No w0 w (.blk ba 74 (actK x) :: .blk bc 24 (cfL c p c.quanta.length k) :: zerosK none) := st.tail
  refine ⟨fun q v w' => ∃ (j : Nat) (o : Option Nat), v = [.bool false, .pointer (o.map fun b => ⟨b, 0, none⟩), .int .i64 (j : Int)] ∧ q = 2 - j ∧ j ≤ 2 ∧ St No w0 w' (.blk ba 74 (actK x) :: .blk bc 24 (cfL c p c.quanta.length k) :: zerosK o), ⟨_, 0, none, rfl, rfl, by omega, st⟩, ?_⟩
  clear st
  rintro _ _ _ _ w ⟨j, o, hv, rfl, hj, st⟩
  obtain ⟨rfl, rfl, rfl⟩ : _ ∧ _ ∧ _ := by simpa using hv
  clear hv
  refine Br.dec (fun h3 => ?_) (fun h3 => ?_)
  · refine ⟨_, _, _, _, st.rowAt 0 (o := 3) rfl rfl, ⟨by omega, by omega⟩, _, st.cell 0 (i := 36) rfl rfl, ⟨by omega, by omega⟩, _, st.cell 0 (i := 37) rfl rfl, ⟨by omega, by omega⟩, _, st.cell 0 (i := 38) rfl rfl, ?_⟩
    refine Pw.go (kcall_no (nok_at st 2 (fun b hb => by subst hb; rfl)) x.op x.n0 x.n1 x.n2) st ?_; clear st; intro w st
    refine ⟨_, _, _, _, rfl, ?_⟩
    refine Pw.go (koutcome_no (nok_at st 2 (fun b hb => by subst hb; rfl))) st ?_; clear st; intro w st
    refine ⟨_, _, _, _, _, _, _, rfl, ?_⟩
    refine St.alloc st ?_; clear st; intro bo w st
    refine ⟨st.wrRow 0 rfl rfl rfl, ?_⟩
    refine St.storeRow st 0 rfl ?_; clear st; intro w st
    replace st := st.tail
    refine Br.nay rfl (Br.nay rfl ?_)
    refine ⟨_, _, _, _, _, _, _, _, _, _, _, _, _, _, _, _, _, _, _, _, _, _, _, _, _, _, _, _, _, _, _, st.rowAt 0 (o := 7) rfl rfl, ⟨by omega, by omega⟩, _, st.cell 0 (i := 38) rfl rfl, ?_⟩
    refine Pw.go (ktake_no (nok_at st 2 (fun b hb => by subst hb; rfl)) x.f x.pf x.kf x.n2) st ?_; clear st; intro w st
    refine ⟨_, _, _, rfl, Br.nay rfl ⟨⟨by omega, by omega⟩, _, st.cell 0 (i := 38) rfl rfl, ?_⟩⟩
    refine Pw.go (ktick_no (nok_at st 2 (fun b hb => by subst hb; rfl)) x.n2) st ?_; clear st; intro w st
    refine ⟨_, _, _, rfl, Br.nay rfl (Br.nay rfl ?_)⟩
    refine Pw.go (kbusy_no (nok_at st 2 (fun b hb => by subst hb; rfl))) st ?_; clear st; intro w st
    refine ⟨_, rfl, Br.nay rfl ?_⟩
    refine Pw.go (kseq_no (nok_at st 2 (fun b hb => by subst hb; rfl))) st ?_; clear st; intro w st
    refine ⟨_, rfl, Br.nay rfl ?_⟩
    refine Pw.go (ktries_no (nok_at st 2 (fun b hb => by subst hb; rfl))) st ?_; clear st; intro w st
    refine ⟨_, rfl, Br.nay rfl ?_⟩
    refine St.alloc st ?_; clear st; intro bz w st
    refine LetI.id (by omega) (by omega) ⟨_, by omega, j + 1, some bz, by simp, rfl, by omega, ?_⟩
    exact st.pick [1, 2, 0] rfl (by decide)
  replace st := st.tail
  refine ⟨fun q v w' => ∃ (j : Nat) (c' : Cfg) (p' : Option Addr) (k' : Nat) (Lr : List Atom), v = [.bool false, .int .i64 (j : Int)] ∧ q = 2 - j ∧ j ≤ 2 ∧ c'.quanta.length ≤ 1000 ∧ c'.quanta.length ≤ k' ∧ k' ≤ maxLen ∧ St No w0 w' (.blk bc 24 (cfL c' p' c'.quanta.length k') :: Lr) ∧ (∀ w A, St No w0 w (A :: Lr) → IntAt w p' c'.quanta), ⟨_, 0, c, p, k, zerosK o, rfl, rfl, by omega, by omega, hk, hk', st, fun w A st => hM.no st.kp⟩, ?_⟩
  clear st
  rintro _ _ _ w ⟨j, c', p', k', Lr, hv, rfl, hj, hl, hc1, hc2, st, hI⟩
  obtain ⟨rfl, rfl⟩ : _ ∧ _ := by simpa using hv
  clear hv
  refine Br.dec (fun h3 => ?_) (fun h3 => ?_)
  · refine ⟨_, _, _, _, _, _, _, _, _, _, _, _, _, _, st.rowAt 0 rfl rfl, ?_⟩
    apply laterW (fun w => St No w0 w (.blk bc 24 (cfL c' p' c'.quanta.length k') :: Lr))
    · intro tail
      by_cases hb : badId c' id
      · refine Pw.go (knew_bad (c := c') (hI _ _ st) rfl hl hc1 hc2 hb) st ?_; intro w st
        refine ⟨_, _, rfl, _, _, _, _, _, _, _, _, _, _, _, _, _, _, st.rowAt 0 rfl rfl, ?_⟩
        refine Pw.go (rknew_bad (c := c') (hI _ _ st) rfl hl hb) st ?_; intro w st
        refine ⟨_, _, rfl, Br.nay rfl (Br.nay rfl ?_)⟩
        exact tail _ st
      · have hok : okS c' := chkS_ok.1 (by
          rcases chkS_val c' with h | h
          · exact h
          · exact absurd (.inl (by omega)) hb)
        have hid : 0 ≤ id ∧ id < c'.clients := by
          constructor
          · exact Int.not_lt.1 fun h => hb (.inr (.inl h))
          · exact Int.not_le.1 fun h => hb (.inr (.inr h))
        refine (knew_ca (c := c') (hI _ _ st) rfl hc1 hc2 hok hid).mono ?_
        rintro _ w1 ⟨b, bt, bs, rfl, st1⟩
        replace st := st.keep st1.kp
        refine ⟨_, _, rfl, _, _, _, _, _, _, _, _, _, _, _, _, _, _, st.rowAt 0 rfl rfl, ?_⟩
        refine (rknew_ca (c := c') (hI _ _ st) rfl hl hok hid).mono ?_
        rintro _ w2 ⟨b2, rfl, hk2⟩
        replace st := st.keep hk2
        refine ⟨_, _, rfl, Br.nay rfl (Br.nay rfl ?_)⟩
        exact tail _ st
    · clear st
      intro w st
      refine ⟨_, _, _, _, _, _, _, _, _, _, _, _, _, _, st.rowAt 0 rfl rfl, ?_⟩
      refine (rfit_ca (c := c') (hI _ _ st) rfl hl).mono ?_
      rintro _ w1 ⟨_, rfl, pz, kz, rfl, ho, hk1⟩
      replace st := st.pushRow0 hk1 ho (Nat.le_refl _)
      clear ho hk1
      refine ⟨_, _, _, _, _, _, _, _, _, _, _, _, _, _, rfl, st.wrRow 1 rfl rfl rfl, ?_⟩
      refine St.storeRow st 1 rfl ?_; clear st; intro w st
      have hcap := owns_cap (st.hold 0 _ rfl)
      obtain ⟨hf1, hf2⟩ := (fitS_ok c').few
      refine LetI.id (by omega) (by omega) ⟨_, by omega, j + 1, fitS c', pz, kz, [.row 0 3 1 (.slice pz (fitS c').quanta.length kz) (fitS c').quanta.length (cellsOf intE (fitS c').quanta)], by simp, rfl, by omega, by omega, hcap.1, hcap.2, st.pick [1, 0] rfl (by decide), fun w A st => ElAt.of_owns intE_len (st.hold 1 _ rfl) rfl⟩
  · refine Pu.go kcalled_pu st ?_; clear st; intro w st
    exact ⟨_, rfl, rfl, st.kp⟩
end Go.Proofs.Ytljipmhkpnigkaa

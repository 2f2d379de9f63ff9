/- MasterSure: what is claimed is so, for whatever comes in. -/
import Derived.Test.YtljipmhkpnigkaaMG
import Derived.Test.YtljipmhkpnigkaaDM2
namespace Go.Proofs.Ytljipmhkpnigkaa
open Go.Vc Go.Codec

set_option maxRecDepth 100000 in
set_option maxHeartbeats 8000000 in
theorem lawMSure_pw {w0 : World} {n k : Nat} {p : Option Addr} {c : Cfg} (hM : IntAt w0 p c.quanta) (hn : n = c.quanta.length) (hk : n ≤ k) (_hk' : k ≤ maxLen) {nq kq : Nat} {pq : Option Addr} {l : List ActM} (hA : ActAt w0 pq l) (hnq : nq = l.length) (hlq : l.length ≤ maxLen) :
    Pw Try.prog 7 #[cfV c p n k, .slice pq nq kq] (.bool true) w0 := by
  have st : St No w0 w0 [] := St.start w0
  subst hn hnq
  refine lawMSure_ok _ _ _ _ _ _ _ _ _ _ _ _ _ _ _ _ _ _ _ ?_
  unfold lawMSure
  refine St.alloc st ?_; clear st; intro bc w st
  refine ⟨_, _, _, st.cell 0 rfl rfl, Br.dec (fun h1 => ?_) (fun h1 => ?_)⟩
  · refine Pu.go mchained_pu st ?_; clear st; intro w st
    exact ⟨_, rfl, rfl, st.kp⟩
  obtain ⟨B, hB, hG⟩ := mgreat_pw (k := kq) (hA.no st.kp) rfl hlq 40
  refine Pw.go hG st ?_; clear st hG; intro w st
  refine ⟨_, rfl, Br.bool (fun h2 => ?_) (fun h2 => ?_)⟩
  · refine Pu.go mchained_pu st ?_; clear st; intro w st
    exact ⟨_, rfl, rfl, st.kp⟩
  have hll := hB h2
  clear hB h2 hlq
  refine ⟨_, _, _, _, _, _, _, _, _, _, _, _, _, _, st.rowAt 0 rfl rfl, ?_⟩
  refine (rfit_ca (c := c) (hM.no st.kp) rfl (by omega)).mono ?_
  rintro _ w1 ⟨_, rfl, pz, kz, rfl, ho, hk1⟩
  replace st := st.pushRow0 hk1 ho (Nat.le_refl _)
  clear ho hk1
  refine ⟨_, _, _, _, _, _, _, _, _, _, _, _, _, _, rfl, ?_⟩
  repeat' first
    | (with_reducible refine St.alloc st ?_; (try clear st); intro b w st)
    | with_reducible refine sz_and (by (repeat rw [ByteArray.size_append]); omega) ?_
    | (with_reducible apply ex0c; case h => first | exact St.cell st 0 rfl rfl | exact St.cell st 1 rfl rfl | fail)
    | (with_reducible apply ex1c; case h => first | exact St.cell st 0 rfl rfl | exact St.cell st 1 rfl rfl | fail)
    | (with_reducible apply ex3c; case h => first | exact St.cell st 0 rfl rfl | exact St.cell st 1 rfl rfl | fail)
    | (with_reducible apply ex0r; case h => first | exact St.rows st 0 rfl | exact St.rows st 1 rfl | fail)
    | (with_reducible apply exr2; case h => first | exact St.rows st 0 rfl | exact St.rows st 1 rfl | fail)
    | (with_reducible apply exr3; case h => first | exact St.rows st 0 rfl | exact St.rows st 1 rfl | fail)
    | (with_reducible apply exr4; case h => first | exact St.rows st 0 rfl | exact St.rows st 1 rfl | fail)
    | (with_reducible apply exr5; case h => first | exact St.rows st 0 rfl | exact St.rows st 1 rfl | fail)
    | (with_reducible apply exr6; case h => first | exact St.rows st 0 rfl | exact St.rows st 1 rfl | fail)
    | (with_reducible apply exr14; case h => first | exact St.rows st 0 rfl | exact St.rows st 1 rfl | fail)
    | (with_reducible apply exWr; case h => first | exact St.wr st 0 rfl rfl | exact St.wr st 1 rfl rfl | fail)
    | (with_reducible apply exWrRow; case h => first | exact St.wrRow st 0 rfl rfl rfl | exact St.wrRow st 1 rfl rfl rfl | fail)
    | (with_reducible refine LetW.cell ?_; (first | refine St.store st 0 rfl ?_ | refine St.store st 1 rfl ?_ | fail); (try clear st); intro w st; simp only [List.set] at st)
    | (with_reducible refine LetW.rows ?_; (first | refine St.storeRow st 0 rfl ?_ | refine St.storeRow st 1 rfl ?_ | fail); (try clear st); intro w st; simp only [List.set, setsL] at st)
    | ((with_reducible apply exr4); case h => first | exact St.rowAt st 0 rfl rfl | exact St.rowAt st 1 rfl rfl | fail)
    | ((with_reducible apply exr5); case h => first | exact St.rowAt st 0 rfl rfl | exact St.rowAt st 1 rfl rfl | fail)
    | ((with_reducible apply exr6); case h => first | exact St.rowAt st 0 rfl rfl | exact St.rowAt st 1 rfl rfl | fail)
    | with_reducible refine LetI.id (by omega) (by omega) ?_
    | fail
  have hcap := owns_cap (st.hold 0 _ rfl)
  refine (mnew_ca (c := fitS c) (ElAt.of_owns intE_len (st.hold 0 _ rfl) rfl) rfl hcap.1 hcap.2 (fitS_ok _)).mono ?_
  rintro _ w1 ⟨g, p0, k0, rfl, st1⟩
  replace st := st.made st1
  clear st1 hcap
  simp only [List.cons_append, List.nil_append] at st
  refine ⟨_, _, rfl, Br.nay rfl ?_⟩
  have hok0 := okM.new_ok (fitS_ok c) (firstS_ok (fitS_ok c))
  have hN := (fitS_ok c).nodes
  unfold inS at hN
  generalize fitS c = f at *
  refine ⟨fun q v w' => ∃ (j : Nat) (m : Mst) (p2 : Option Addr) (k2 : Nat), v = [.bool false, .int .i64 (j : Int)] ∧ q = l.length - j ∧ j ≤ l.length ∧ okM m ∧ m.nodes = f.nodes ∧ m.ch.epoch ≤ 1 + 12 * j ∧ St No w0 w' [mB g f pz f.quanta.length kz m p2 k2, mR m.ch.mem p2 k2, .blk bc 24 (cfL f pz f.quanta.length kz)], ⟨_, 0, Mst.new f, p0, k0, rfl, rfl, by omega, hok0, rfl, by show (1 : Int) ≤ _; omega, st.pick [0, 1, 3] rfl (by decide)⟩, ?_⟩
  clear st hok0
  rintro _ _ _ w ⟨j, m, p2, k2, hv, rfl, hj, hok, hns, hep, st⟩
  obtain ⟨rfl, rfl⟩ : _ ∧ _ := by simpa using hv
  clear hv
  refine Br.dec (fun h3 => ?_) (fun h3 => ?_)
  · have hjl : j < l.length := by omega
    obtain ⟨a, ha, hr⟩ := hA j hjl
    replace hr := Row.kp st.kp (not_no _) hr
    have hx1 := l[j].hk
    have hx2 := l[j].ha
    refine NilOk.intro ha ⟨⟨by omega, by omega⟩, _, by simpa [addr_zero] using Row.get hr (j := 1) rfl, ?_⟩
    refine LetI.id (by omega) (by omega) ⟨_, st.cell 2 rfl rfl, by omega, ?_⟩
    refine LetI.of ?_
    have hn := tmod_in hx2.1 (show (0 : Int) < f.nodes by omega)
    generalize l[j].a.tmod f.nodes = n at *
    refine ⟨fun v w' => ∃ (m1 : Mst) (p3 : Option Addr) (k3 : Nat), okM m1 ∧ m1.nodes = f.nodes ∧ m1.ch.epoch ≤ 1 + 12 * j + 6 ∧ St No w0 w' [mB g f pz f.quanta.length kz m1 p3 k3, mR m1.ch.mem p3 k3, .blk bc 24 (cfL f pz f.quanta.length kz)], ?_, ?_⟩
    · refine NilOk.intro ha ⟨⟨by omega, by omega⟩, _, by simpa [addr_zero] using Row.get hr (j := 0) rfl, by omega, ?_⟩
      refine LetI.of ?_
      refine Br.eqi (fun _ => ?_) (fun _ => Br.eqi (fun _ => ?_) (fun _ => Br.eqi (fun _ => ?_) (fun _ => ?_)))
      · refine Tk.go (L2 := [.blk bc 24 (cfL f pz f.quanta.length kz)]) (mjoin_tk hok n 0) st ?_
        clear st
        rintro _ _ w ⟨_, _, _, p3, k3, rfl, _, rfl⟩ st
        obtain ⟨hri, _⟩ := rise_join hok n 0
        exact ⟨_, _, _, _, rfl, _, p3, k3, hri.ok, hri.nodes.trans hns, by have := hri.le; omega, st⟩
      · refine Tk.go (L2 := [.blk bc 24 (cfL f pz f.quanta.length kz)]) (msuspect_u hok n) st ?_
        clear st
        rintro _ _ w ⟨_, _, _, p3, k3, rfl, _, rfl⟩ st
        obtain ⟨hri, _⟩ := rise_suspect hok (by omega) n
        exact ⟨_, _, _, _, rfl, _, p3, k3, hri.ok, hri.nodes.trans hns, by have := hri.le; omega, st⟩
      · refine Tk.go (L2 := [.blk bc 24 (cfL f pz f.quanta.length kz)]) (mdrain_u hok n) st ?_
        clear st
        rintro _ _ w ⟨_, _, _, p3, k3, rfl, _, rfl⟩ st
        obtain ⟨hri, _⟩ := rise_drain hok n
        exact ⟨_, _, _, _, rfl, _, p3, k3, hri.ok, hri.nodes.trans hns, by have := hri.le; omega, st⟩
      · refine Tk.go (L2 := [.blk bc 24 (cfL f pz f.quanta.length kz)]) (mchain_tk hok) st ?_
        clear st
        rintro _ _ w ⟨p3, k3, rfl, rfl⟩ st
        refine ⟨_, _, _, _, _, rfl, ?_⟩
        refine Tk.go (L2 := [.blk bc 24 (cfL f pz f.quanta.length kz)]) (mtakeAlive_tk hok (n := n) ⟨hn.1, by omega⟩ m.ch.epoch 1 0) st.tail ?_
        clear st
        rintro _ _ w ⟨_, _, _, rfl, _, rfl⟩ st
        have hri := rise_alive hok (n := n) ⟨hn.1, by omega⟩ m.ch.epoch 1 (nearT_in 0)
        exact ⟨_, _, _, rfl, _, p2, k2, hri.ok, hri.nodes.trans hns, by have := hri.le; omega, st⟩
    clear st
    rintro w ⟨m1, p3, k3, hok1, hns1, hep1, st⟩
    clear hok hns hep
    have hl2 := hok1.ok.l2
    have he1 := hok1.ok.e1
    refine Tk.go (L2 := [.blk bc 24 (cfL f pz f.quanta.length kz)]) (mchain_tk hok1) st ?_
    clear st
    rintro _ _ w ⟨p4, k4, rfl, rfl⟩ st
    simp only [List.cons_append, List.nil_append] at st
    refine ⟨_, _, _, _, _, rfl, ?_⟩
    refine St.alloc st ?_; clear st; intro bw w st
    repeat' first
      | (with_reducible refine St.alloc st ?_; (try clear st); intro b w st)
      | with_reducible refine sz_and (by (repeat rw [ByteArray.size_append]); omega) ?_
      | (with_reducible apply ex0c; case h => first | exact St.cell st 0 rfl rfl | exact St.cell st 1 rfl rfl | exact St.cell st 2 rfl rfl | exact St.cell st 3 rfl rfl | exact St.cell st 4 rfl rfl | fail)
      | (with_reducible apply ex1c; case h => first | exact St.cell st 0 rfl rfl | exact St.cell st 1 rfl rfl | exact St.cell st 2 rfl rfl | exact St.cell st 3 rfl rfl | exact St.cell st 4 rfl rfl | fail)
      | (with_reducible apply ex3c; case h => first | exact St.cell st 0 rfl rfl | exact St.cell st 1 rfl rfl | exact St.cell st 2 rfl rfl | exact St.cell st 3 rfl rfl | exact St.cell st 4 rfl rfl | fail)
      | (with_reducible apply ex0r; case h => first | exact St.rows st 0 rfl | exact St.rows st 1 rfl | exact St.rows st 2 rfl | exact St.rows st 3 rfl | exact St.rows st 4 rfl | fail)
      | (with_reducible apply exr2; case h => first | exact St.rows st 0 rfl | exact St.rows st 1 rfl | exact St.rows st 2 rfl | exact St.rows st 3 rfl | exact St.rows st 4 rfl | fail)
      | (with_reducible apply exr3; case h => first | exact St.rows st 0 rfl | exact St.rows st 1 rfl | exact St.rows st 2 rfl | exact St.rows st 3 rfl | exact St.rows st 4 rfl | fail)
      | (with_reducible apply exr4; case h => first | exact St.rows st 0 rfl | exact St.rows st 1 rfl | exact St.rows st 2 rfl | exact St.rows st 3 rfl | exact St.rows st 4 rfl | fail)
      | (with_reducible apply exr5; case h => first | exact St.rows st 0 rfl | exact St.rows st 1 rfl | exact St.rows st 2 rfl | exact St.rows st 3 rfl | exact St.rows st 4 rfl | fail)
      | (with_reducible apply exr6; case h => first | exact St.rows st 0 rfl | exact St.rows st 1 rfl | exact St.rows st 2 rfl | exact St.rows st 3 rfl | exact St.rows st 4 rfl | fail)
      | (with_reducible apply exWr; case h => first | exact St.wr st 0 rfl rfl | exact St.wr st 1 rfl rfl | exact St.wr st 2 rfl rfl | exact St.wr st 3 rfl rfl | exact St.wr st 4 rfl rfl | fail)
      | (with_reducible apply exWrRow; case h => first | exact St.wrRow st 0 rfl rfl rfl | exact St.wrRow st 1 rfl rfl rfl | exact St.wrRow st 2 rfl rfl rfl | exact St.wrRow st 3 rfl rfl rfl | exact St.wrRow st 4 rfl rfl rfl | fail)
      | (with_reducible refine LetW.cell ?_; (first | refine St.store st 0 rfl ?_ | refine St.store st 1 rfl ?_ | refine St.store st 2 rfl ?_ | refine St.store st 3 rfl ?_ | refine St.store st 4 rfl ?_ | fail); (try clear st); intro w st; simp only [List.set] at st)
      | (with_reducible refine LetW.rows ?_; (first | refine St.storeRow st 0 rfl ?_ | refine St.storeRow st 1 rfl ?_ | refine St.storeRow st 2 rfl ?_ | refine St.storeRow st 3 rfl ?_ | refine St.storeRow st 4 rfl ?_ | fail); (try clear st); intro w st; simp only [List.set, setsL] at st)
      | ((with_reducible apply exr4); case h => first | exact St.rowAt st 0 rfl rfl | exact St.rowAt st 1 rfl rfl | exact St.rowAt st 2 rfl rfl | exact St.rowAt st 3 rfl rfl | exact St.rowAt st 4 rfl rfl | fail)
      | ((with_reducible apply exr5); case h => first | exact St.rowAt st 0 rfl rfl | exact St.rowAt st 1 rfl rfl | exact St.rowAt st 2 rfl rfl | exact St.rowAt st 3 rfl rfl | exact St.rowAt st 4 rfl rfl | fail)
      | ((with_reducible apply exr6); case h => first | exact St.rowAt st 0 rfl rfl | exact St.rowAt st 1 rfl rfl | exact St.rowAt st 2 rfl rfl | exact St.rowAt st 3 rfl rfl | exact St.rowAt st 4 rfl rfl | fail)
      | with_reducible refine LetI.id (by omega) (by omega) ?_
      | fail
    refine ⟨fun q v w' => ∃ (i : Nat), v = [.bool false, .int .i64 (i : Int)] ∧ q = f.nodes.toNat - i ∧ i ≤ f.nodes.toNat ∧ St No w0 w' [.blk bw 32 [.int .i64 m1.ch.epoch, .slice p4 m1.ch.mem.length k4, .int .i64 m1.ch.drain], mR m1.ch.mem p4 k4, mB g f pz f.quanta.length kz m1 p3 k3, mR m1.ch.mem p3 k3, .blk bc 24 (cfL f pz f.quanta.length kz)], ⟨_, 0, rfl, rfl, by omega, st⟩, ?_⟩
    clear st
    rintro _ _ _ w ⟨i, hv, rfl, hi, st⟩
    obtain ⟨rfl, rfl⟩ : _ ∧ _ := by simpa using hv
    clear hv
    refine ⟨_, st.cell 4 rfl rfl, Br.dec (fun h4 => ?_) (fun h4 => ?_)⟩
    · refine ⟨fun q v w' => ∃ (t : Nat), v = [.bool false, .int .i64 ((t : Int) - 1)] ∧ q = 3 - t ∧ t ≤ 3 ∧ St No w0 w' [.blk bw 32 [.int .i64 m1.ch.epoch, .slice p4 m1.ch.mem.length k4, .int .i64 m1.ch.drain], mR m1.ch.mem p4 k4, mB g f pz f.quanta.length kz m1 p3 k3, mR m1.ch.mem p3 k3, .blk bc 24 (cfL f pz f.quanta.length kz)], ⟨_, 0, rfl, rfl, by omega, st⟩, ?_⟩
      clear st
      rintro _ _ _ w ⟨t, hv, rfl, ht, st⟩
      obtain ⟨rfl, rfl⟩ : _ ∧ _ := by simpa using hv
      clear hv
      refine Br.dec (fun h5 => ?_) (fun h5 => ?_)
      · refine ⟨_, st.cell 0 rfl rfl, LetI.id (by omega) (by omega) (LetI.id (by omega) (by omega) ?_)⟩
        refine Tk.go (L1 := [mB g f pz f.quanta.length kz m1 p3 k3, mR m1.ch.mem p3 k3]) (L2 := [.blk bw 32 [.int .i64 m1.ch.epoch, .slice p4 m1.ch.mem.length k4, .int .i64 m1.ch.drain], mR m1.ch.mem p4 k4, .blk bc 24 (cfL f pz f.quanta.length kz)]) (mtakeConfirm_tk hok1 (n := i) ⟨by omega, by omega⟩ _ _ 0) (st.pick [2, 3, 0, 1, 4] rfl (by decide)) ?_
        clear st
        rintro _ _ w ⟨X, ⟨hne, g2, p5, k5, rfl, rfl⟩ | ⟨heq, htl, g2, rfl, rfl⟩ | ⟨heq, htl, rfl, rfl⟩, rfl⟩ st
        · have ht1 : (t : Int) - 1 ≠ 0 := by omega
          have ht2 : ((t : Int) - 1 == 0) = false := beq_eq_false_iff_ne.2 ht1
          have ht3 : ((t : Int) - 1 != 0) = true := bne_iff_ne.2 ht1
          simp only [List.cons_append, List.nil_append] at st
          refine ⟨_, _, _, rfl, Br.sure rfl ?_⟩
          refine NilOk.intro rfl ⟨⟨by omega, by omega⟩, _, st.cell (i := 1) 0 rfl rfl, Br.nay rfl ?_⟩
          rw [ht2, ht3]
          refine Br.nay rfl (Br.sure rfl (Br.nay rfl ?_))
          refine NilOk.intro rfl ⟨⟨by omega, by omega⟩, _, st.cell (i := 1) 0 rfl rfl, Br.nay rfl (Br.nay rfl ?_)⟩
          exact LetI.id (by omega) (by omega) ⟨_, by omega, t + 1, by simp <;> omega, rfl, by omega, st.pick [4, 5, 2, 3, 6] rfl (by decide)⟩
        · have ht1 : (t : Int) - 1 = 0 := by omega
          have ht2 : ((t : Int) - 1 == 0) = true := beq_iff_eq.2 ht1
          have ht3 : ((t : Int) - 1 != 0) = false := by rw [ht1]; rfl
          simp only [List.cons_append, List.nil_append] at st
          refine ⟨_, _, _, rfl, Br.sure rfl ?_⟩
          refine NilOk.intro rfl ⟨⟨by omega, by omega⟩, _, st.cell (i := 1) 0 rfl rfl, Br.sure rfl ?_⟩
          refine NilOk.intro rfl ⟨⟨by omega, by omega⟩, _, st.cell (i := 0) 0 rfl rfl, Br.eqi (fun _ => ?_) (fun hh => absurd rfl hh)⟩
          refine NilOk.intro rfl ⟨⟨by omega, by omega⟩, _, st.cell (i := 27) 0 rfl rfl, LetI.id (by omega) (by omega) (Br.eqi (fun _ => ?_) (fun hh => absurd rfl hh))⟩
          refine NilOk.intro rfl ⟨⟨by omega, by omega⟩, _, st.cell (i := 2) 0 rfl rfl, _, st.cell 3 rfl rfl, ?_⟩
          rw [ht2, ht3, show (m1.ch.epoch + ((t : Int) - 1) == m1.ch.epoch) = true from beq_iff_eq.2 heq]
          refine Br.sure rfl ?_
          refine ⟨_, _, _, _, _, st.rowAt 3 rfl rfl, ?_⟩
          refine Pw.go (ctail_pw (c := m1.ch) (ElAt.of_owns memE_len (st.hold 4 _ rfl) rfl) rfl (by omega)) st ?_; clear st; intro w st
          refine ⟨_, rfl, ?_⟩
          rw [show (tailC m1.ch == (i : Int)) = true from beq_iff_eq.2 htl.symm]
          refine Br.nay rfl (Br.nay rfl (Br.sure rfl (Br.nay rfl ?_)))
          exact LetI.id (by omega) (by omega) ⟨_, by omega, t + 1, by simp <;> omega, rfl, by omega, st.pick [3, 4, 1, 2, 5] rfl (by decide)⟩
        · have ht1 : (t : Int) - 1 = 0 := by omega
          have ht2 : ((t : Int) - 1 == 0) = true := beq_iff_eq.2 ht1
          have ht3 : ((t : Int) - 1 != 0) = false := by rw [ht1]; rfl
          simp only [List.nil_append] at st
          refine ⟨_, _, _, rfl, Br.nay rfl ?_⟩
          rw [ht2, ht3]
          refine Br.sure rfl ?_
          refine ⟨_, _, _, _, _, st.rowAt 2 rfl rfl, ?_⟩
          refine Pw.go (ctail_pw (c := m1.ch) (ElAt.of_owns memE_len (st.hold 3 _ rfl) rfl) rfl (by omega)) st ?_; clear st; intro w st
          refine ⟨_, rfl, ?_⟩
          rw [show (tailC m1.ch == (i : Int)) = false from beq_eq_false_iff_ne.2 (fun hh => htl hh.symm)]
          refine Br.nay rfl (Br.nay rfl (Br.sure rfl (Br.nay rfl ?_)))
          exact LetI.id (by omega) (by omega) ⟨_, by omega, t + 1, by simp <;> omega, rfl, by omega, st.pick [2, 3, 0, 1, 4] rfl (by decide)⟩
      · exact LetI.id (by omega) (by omega) ⟨_, by omega, i + 1, by simp, rfl, by omega, st⟩
    · refine Tk.go (L1 := [mB g f pz f.quanta.length kz m1 p3 k3, mR m1.ch.mem p3 k3]) (L2 := [.blk bw 32 [.int .i64 m1.ch.epoch, .slice p4 m1.ch.mem.length k4, .int .i64 m1.ch.drain], mR m1.ch.mem p4 k4, .blk bc 24 (cfL f pz f.quanta.length kz)]) (mtakeAsk_tk hok1 40 0 0 0) (st.pick [2, 3, 0, 1, 4] rfl (by decide)) ?_
      clear st
      rintro _ _ w ⟨g2, p5, k5, rfl, rfl⟩ st
      simp only [List.cons_append, List.nil_append] at st
      refine ⟨_, _, _, rfl, Br.nay rfl ?_⟩
      refine NilOk.intro rfl ⟨⟨by omega, by omega⟩, _, st.cell (i := 0) 0 rfl rfl, Br.nay rfl ?_⟩
      refine NilOk.intro rfl ⟨⟨by omega, by omega⟩, _, _, _, _, _, st.rowAt (o := 24) 0 rfl rfl, _, _, _, _, _, st.rowAt 4 rfl rfl, ?_⟩
      refine Pw.go (samec19_pw (c := m1.ch) (d := m1.ch) (ElAt.of_owns memE_len (st.hold 1 _ rfl) rfl) (ElAt.of_owns memE_len (st.hold 5 _ rfl) rfl) rfl rfl (by omega)) st ?_; clear st; intro w st
      rw [decide_eq_true (rfl : m1.ch = m1.ch)]
      refine ⟨_, rfl, Br.nay rfl ?_⟩
      refine ⟨_, _, _, _, _, st.rowAt 4 rfl rfl, ?_⟩
      refine Tk.go (L1 := [mB g f pz f.quanta.length kz m1 p3 k3, mR m1.ch.mem p3 k3]) (L2 := [.blk bw 32 [.int .i64 m1.ch.epoch, .slice p4 m1.ch.mem.length k4, .int .i64 m1.ch.drain], mR m1.ch.mem p4 k4, .blk bc 24 (cfL f pz f.quanta.length kz)]) (mchain_tk hok1) (st.pick [2, 3, 4, 5, 6] rfl (by decide)) ?_
      clear st
      rintro _ _ w ⟨p6, k6, rfl, rfl⟩ st
      simp only [List.cons_append, List.nil_append] at st
      refine ⟨_, _, _, _, _, rfl, st.rowAt 3 rfl rfl, ?_⟩
      refine Pw.go (samec19_pw (c := m1.ch) (d := m1.ch) (ElAt.of_owns memE_len (st.hold 0 _ rfl) rfl) (ElAt.of_owns memE_len (st.hold 4 _ rfl) rfl) rfl rfl (by omega)) st ?_; clear st; intro w st
      rw [decide_eq_true (rfl : m1.ch = m1.ch)]
      refine ⟨_, rfl, Br.nay rfl ?_⟩
      exact LetI.id (by omega) (by omega) ⟨_, by omega, j + 1, m1, p3, k3, by simp, rfl, by omega, hok1, hns1, by omega, st.pick [1, 2, 5] rfl (by decide)⟩
  · refine Pu.go mchained_pu st ?_; clear st; intro w st
    exact ⟨_, rfl, rfl, st.kp⟩
end Go.Proofs.Ytljipmhkpnigkaa

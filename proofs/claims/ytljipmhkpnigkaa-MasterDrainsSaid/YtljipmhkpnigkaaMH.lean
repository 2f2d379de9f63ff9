/- MasterDrains: what is claimed is so, for whatever comes in. -/
import Derived.Test.YtljipmhkpnigkaaMG
import Derived.Test.YtljipmhkpnigkaaDM3
namespace Go.Proofs.Ytljipmhkpnigkaa
open Go.Vc Go.Codec

set_option maxRecDepth 100000 in
set_option maxHeartbeats 8000000 in
theorem lawMDrains_pw {w0 : World} {n k : Nat} {p : Option Addr} {c : Cfg} (hM : IntAt w0 p c.quanta) (hn : n = c.quanta.length) (hk : n ≤ k) (_hk' : k ≤ maxLen) {nq kq : Nat} {pq : Option Addr} {l : List ActM} (hA : ActAt w0 pq l) (hnq : nq = l.length) (hlq : l.length ≤ maxLen) :
    Pw Try.prog 8 #[cfV c p n k, .slice pq nq kq] (.bool true) w0 := by
  have st : St No w0 w0 [] := St.start w0
  subst hn hnq
  refine lawMDrains_ok _ _ _ _ _ _ _ _ _ _ _ _ _ _ _ _ _ _ _ ?_
  unfold lawMDrains
  refine St.alloc st ?_; clear st; intro bc w st
  refine ⟨_, _, _, st.cell 0 rfl rfl, Br.dec (fun h1 => ?_) (fun h1 => ?_)⟩
  · refine Pu.go mchained_pu st ?_; clear st; intro w st
    exact ⟨_, rfl, rfl, st.kp⟩
  obtain ⟨B, hB, hG⟩ := mgreat_pw (k := kq) (hA.no st.kp) rfl hlq 40
  refine Pw.go hG st ?_; clear st hG; intro w st
  refine ⟨_, rfl, Br.bool (fun h2 => ?_) (fun h2 => ?_)⟩
  · refine Pu.go mchained_pu st ?_; clear st; intro w st
    exact ⟨_, rfl, rfl, st.kp⟩
  have hll := hB h2
  clear hB h2 hlq
  refine ⟨_, _, _, _, _, _, _, _, _, _, _, _, _, _, st.rowAt 0 rfl rfl, ?_⟩
  refine (rfit_ca (c := c) (hM.no st.kp) rfl (by omega)).mono ?_
  rintro _ w1 ⟨_, rfl, pz, kz, rfl, ho, hk1⟩
  replace st := st.pushRow0 hk1 ho (Nat.le_refl _)
  clear ho hk1
  refine ⟨_, _, _, _, _, _, _, _, _, _, _, _, _, _, rfl, ?_⟩
  repeat' first
    | (with_reducible refine St.alloc st ?_; (try clear st); intro b w st)
    | with_reducible refine sz_and (by (repeat rw [ByteArray.size_append]); omega) ?_
    | (with_reducible apply ex0c; case h => first | exact St.cell st 0 rfl rfl | exact St.cell st 1 rfl rfl | fail)
    | (with_reducible apply ex1c; case h => first | exact St.cell st 0 rfl rfl | exact St.cell st 1 rfl rfl | fail)
    | (with_reducible apply ex3c; case h => first | exact St.cell st 0 rfl rfl | exact St.cell st 1 rfl rfl | fail)
    | (with_reducible apply ex0r; case h => first | exact St.rows st 0 rfl | exact St.rows st 1 rfl | fail)
    | (with_reducible apply exr2; case h => first | exact St.rows st 0 rfl | exact St.rows st 1 rfl | fail)
    | (with_reducible apply exr3; case h => first | exact St.rows st 0 rfl | exact St.rows st 1 rfl | fail)
    | (with_reducible apply exr4; case h => first | exact St.rows st 0 rfl | exact St.rows st 1 rfl | fail)
    | (with_reducible apply exr5; case h => first | exact St.rows st 0 rfl | exact St.rows st 1 rfl | fail)
    | (with_reducible apply exr6; case h => first | exact St.rows st 0 rfl | exact St.rows st 1 rfl | fail)
    | (with_reducible apply exr14; case h => first | exact St.rows st 0 rfl | exact St.rows st 1 rfl | fail)
    | (with_reducible apply exWr; case h => first | exact St.wr st 0 rfl rfl | exact St.wr st 1 rfl rfl | fail)
    | (with_reducible apply exWrRow; case h => first | exact St.wrRow st 0 rfl rfl rfl | exact St.wrRow st 1 rfl rfl rfl | fail)
    | (with_reducible refine LetW.cell ?_; (first | refine St.store st 0 rfl ?_ | refine St.store st 1 rfl ?_ | fail); (try clear st); intro w st; simp only [List.set] at st)
    | (with_reducible refine LetW.rows ?_; (first | refine St.storeRow st 0 rfl ?_ | refine St.storeRow st 1 rfl ?_ | fail); (try clear st); intro w st; simp only [List.set, setsL] at st)
    | ((with_reducible apply exr4); case h => first | exact St.rowAt st 0 rfl rfl | exact St.rowAt st 1 rfl rfl | fail)
    | ((with_reducible apply exr5); case h => first | exact St.rowAt st 0 rfl rfl | exact St.rowAt st 1 rfl rfl | fail)
    | ((with_reducible apply exr6); case h => first | exact St.rowAt st 0 rfl rfl | exact St.rowAt st 1 rfl rfl | fail)
    | with_reducible refine LetI.id (by omega) (by omega) ?_
    | fail
  have hcap := owns_cap (st.hold 0 _ rfl)
  refine (mnew_ca (c := fitS c) (ElAt.of_owns intE_len (st.hold 0 _ rfl) rfl) rfl hcap.1 hcap.2 (fitS_ok _)).mono ?_
  rintro _ w1 ⟨g, p0, k0, rfl, st1⟩
  replace st := st.made st1
  clear st1 hcap
  simp only [List.cons_append, List.nil_append] at st
  refine ⟨_, _, rfl, Br.nay rfl ?_⟩
  have hok0 := okM.new_ok (fitS_ok c) (firstS_ok (fitS_ok c))
  have hN := (fitS_ok c).nodes
  unfold inS at hN
  generalize fitS c = f at *
  refine ⟨fun q v w' => ∃ (j : Nat) (m : Mst) (p2 : Option Addr) (k2 : Nat), v = [.bool false, .int .i64 (j : Int)] ∧ q = l.length - j ∧ j ≤ l.length ∧ okM m ∧ m.nodes = f.nodes ∧ m.ch.epoch ≤ 1 + 12 * j ∧ St No w0 w' [mB g f pz f.quanta.length kz m p2 k2, mR m.ch.mem p2 k2, .blk bc 24 (cfL f pz f.quanta.length kz)], ⟨_, 0, Mst.new f, p0, k0, rfl, rfl, by omega, hok0, rfl, by show (1 : Int) ≤ _; omega, st.pick [0, 1, 3] rfl (by decide)⟩, ?_⟩
  clear st hok0
  rintro _ _ _ w ⟨j, m, p2, k2, hv, rfl, hj, hok, hns, hep, st⟩
  obtain ⟨rfl, rfl⟩ : _ ∧ _ := by simpa using hv
  clear hv
  refine Br.dec (fun h3 => ?_) (fun h3 => ?_)
  · have hjl : j < l.length := by omega
    obtain ⟨a, ha, hr⟩ := hA j hjl
    replace hr := Row.kp st.kp (not_no _) hr
    have hx1 := l[j].hk
    have hx2 := l[j].ha
    have hx3 := l[j].hb
    refine NilOk.intro ha ⟨⟨by omega, by omega⟩, _, by simpa [addr_zero] using Row.get hr (j := 1) rfl, ?_⟩
    refine LetI.id (by omega) (by omega) ⟨_, st.cell 2 rfl rfl, by omega, ?_⟩
    refine LetI.of ?_
    have hn := tmod_in hx2.1 (show (0 : Int) < f.nodes by omega)
    generalize l[j].a.tmod f.nodes = n at *
    refine NilOk.intro ha ⟨⟨by omega, by omega⟩, _, by simpa [addr_zero] using Row.get hr (j := 2) rfl, ?_⟩
    refine LetI.id (by omega) (by omega) ⟨by omega, ?_⟩
    refine LetI.of ?_
    have hy := tmod_in hx3.1 (show (0 : Int) < 3 by omega)
    generalize l[j].b.tmod 3 = y at *
    refine LetI.id (by omega) (by omega) ?_
    refine ⟨fun v w' => ∃ (m1 : Mst) (p3 : Option Addr) (k3 : Nat), okM m1 ∧ m1.nodes = f.nodes ∧ m1.ch.epoch ≤ 1 + 12 * j + 6 ∧ St No w0 w' [mB g f pz f.quanta.length kz m1 p3 k3, mR m1.ch.mem p3 k3, .blk bc 24 (cfL f pz f.quanta.length kz)], ?_, ?_⟩
    · refine NilOk.intro ha ⟨⟨by omega, by omega⟩, _, by simpa [addr_zero] using Row.get hr (j := 0) rfl, by omega, ?_⟩
      refine LetI.of ?_
      refine Br.eqi (fun _ => ?_) (fun _ => Br.eqi (fun _ => ?_) (fun _ => Br.eqi (fun _ => ?_) (fun _ => ?_)))
      · refine Tk.go (L2 := [.blk bc 24 (cfL f pz f.quanta.length kz)]) (mjoin_tk hok n 0) st ?_
        clear st
        rintro _ _ w ⟨_, _, _, p3, k3, rfl, _, rfl⟩ st
        obtain ⟨hri, _⟩ := rise_join hok n 0
        exact ⟨_, _, _, _, rfl, _, p3, k3, hri.ok, hri.nodes.trans hns, by have := hri.le; omega, st⟩
      · refine Tk.go (L2 := [.blk bc 24 (cfL f pz f.quanta.length kz)]) (mdrain_u hok n) st ?_
        clear st
        rintro _ _ w ⟨_, _, _, p3, k3, rfl, _, rfl⟩ st
        obtain ⟨hri, _⟩ := rise_drain hok n
        exact ⟨_, _, _, _, rfl, _, p3, k3, hri.ok, hri.nodes.trans hns, by have := hri.le; omega, st⟩
      · refine Tk.go (L2 := [.blk bc 24 (cfL f pz f.quanta.length kz)]) (mchain_tk hok) st ?_
        clear st
        rintro _ _ w ⟨p3, k3, rfl, rfl⟩ st
        refine ⟨_, _, _, _, _, rfl, ?_⟩
        refine Tk.go (L2 := [.blk bc 24 (cfL f pz f.quanta.length kz)]) (mtakeAlive_tk hok (n := n) ⟨hn.1, by omega⟩ m.ch.epoch 1 0) st.tail ?_
        clear st
        rintro _ _ w ⟨_, _, _, rfl, _, rfl⟩ st
        have hri := rise_alive hok (n := n) ⟨hn.1, by omega⟩ m.ch.epoch 1 (nearT_in 0)
        exact ⟨_, _, _, rfl, _, p2, k2, hri.ok, hri.nodes.trans hns, by have := hri.le; omega, st⟩
      · exact ⟨m, p2, k2, hok, hns, by omega, st⟩
    clear st
    rintro w ⟨m1, p3, k3, hok1, hns1, hep1, st⟩
    clear hok hns hep
    have hl2 := hok1.ok.l2
    have he1 := hok1.ok.e1
    refine Tk.go (L2 := [.blk bc 24 (cfL f pz f.quanta.length kz)]) (mchain_tk hok1) st ?_
    clear st
    rintro _ _ w ⟨p4, k4, rfl, rfl⟩ st
    simp only [List.cons_append, List.nil_append] at st
    refine ⟨_, _, _, _, _, rfl, ?_⟩
    refine St.alloc st ?_; clear st; intro bw w st
    repeat' first
      | (with_reducible refine St.alloc st ?_; (try clear st); intro b w st)
      | with_reducible refine sz_and (by (repeat rw [ByteArray.size_append]); omega) ?_
      | (with_reducible apply ex0c; case h => first | exact St.cell st 0 rfl rfl | exact St.cell st 1 rfl rfl | exact St.cell st 2 rfl rfl | exact St.cell st 3 rfl rfl | exact St.cell st 4 rfl rfl | fail)
      | (with_reducible apply ex1c; case h => first | exact St.cell st 0 rfl rfl | exact St.cell st 1 rfl rfl | exact St.cell st 2 rfl rfl | exact St.cell st 3 rfl rfl | exact St.cell st 4 rfl rfl | fail)
      | (with_reducible apply ex3c; case h => first | exact St.cell st 0 rfl rfl | exact St.cell st 1 rfl rfl | exact St.cell st 2 rfl rfl | exact St.cell st 3 rfl rfl | exact St.cell st 4 rfl rfl | fail)
      | (with_reducible apply ex0r; case h => first | exact St.rows st 0 rfl | exact St.rows st 1 rfl | exact St.rows st 2 rfl | exact St.rows st 3 rfl | exact St.rows st 4 rfl | fail)
      | (with_reducible apply exr2; case h => first | exact St.rows st 0 rfl | exact St.rows st 1 rfl | exact St.rows st 2 rfl | exact St.rows st 3 rfl | exact St.rows st 4 rfl | fail)
      | (with_reducible apply exr3; case h => first | exact St.rows st 0 rfl | exact St.rows st 1 rfl | exact St.rows st 2 rfl | exact St.rows st 3 rfl | exact St.rows st 4 rfl | fail)
      | (with_reducible apply exr4; case h => first | exact St.rows st 0 rfl | exact St.rows st 1 rfl | exact St.rows st 2 rfl | exact St.rows st 3 rfl | exact St.rows st 4 rfl | fail)
      | (with_reducible apply exr5; case h => first | exact St.rows st 0 rfl | exact St.rows st 1 rfl | exact St.rows st 2 rfl | exact St.rows st 3 rfl | exact St.rows st 4 rfl | fail)
      | (with_reducible apply exr6; case h => first | exact St.rows st 0 rfl | exact St.rows st 1 rfl | exact St.rows st 2 rfl | exact St.rows st 3 rfl | exact St.rows st 4 rfl | fail)
      | (with_reducible apply exWr; case h => first | exact St.wr st 0 rfl rfl | exact St.wr st 1 rfl rfl | exact St.wr st 2 rfl rfl | exact St.wr st 3 rfl rfl | exact St.wr st 4 rfl rfl | fail)
      | (with_reducible apply exWrRow; case h => first | exact St.wrRow st 0 rfl rfl rfl | exact St.wrRow st 1 rfl rfl rfl | exact St.wrRow st 2 rfl rfl rfl | exact St.wrRow st 3 rfl rfl rfl | exact St.wrRow st 4 rfl rfl rfl | fail)
      | (with_reducible refine LetW.cell ?_; (first | refine St.store st 0 rfl ?_ | refine St.store st 1 rfl ?_ | refine St.store st 2 rfl ?_ | refine St.store st 3 rfl ?_ | refine St.store st 4 rfl ?_ | fail); (try clear st); intro w st; simp only [List.set] at st)
      | (with_reducible refine LetW.rows ?_; (first | refine St.storeRow st 0 rfl ?_ | refine St.storeRow st 1 rfl ?_ | refine St.storeRow st 2 rfl ?_ | refine St.storeRow st 3 rfl ?_ | refine St.storeRow st 4 rfl ?_ | fail); (try clear st); intro w st; simp only [List.set, setsL] at st)
      | ((with_reducible apply exr4); case h => first | exact St.rowAt st 0 rfl rfl | exact St.rowAt st 1 rfl rfl | exact St.rowAt st 2 rfl rfl | exact St.rowAt st 3 rfl rfl | exact St.rowAt st 4 rfl rfl | fail)
      | ((with_reducible apply exr5); case h => first | exact St.rowAt st 0 rfl rfl | exact St.rowAt st 1 rfl rfl | exact St.rowAt st 2 rfl rfl | exact St.rowAt st 3 rfl rfl | exact St.rowAt st 4 rfl rfl | fail)
      | ((with_reducible apply exr6); case h => first | exact St.rowAt st 0 rfl rfl | exact St.rowAt st 1 rfl rfl | exact St.rowAt st 2 rfl rfl | exact St.rowAt st 3 rfl rfl | exact St.rowAt st 4 rfl rfl | fail)
      | with_reducible refine LetI.id (by omega) (by omega) ?_
      | fail
    refine ⟨fun q v w' => ∃ (i : Nat) (B : Bool), v = [.bool B, .int .i64 (i : Int)] ∧ q = m1.ch.mem.length - i ∧ i ≤ m1.ch.mem.length ∧ B = ((m1.ch.mem.take i).any fun x => x.1 != n && m1.wh x.1) ∧ St No w0 w' [.blk bw 32 [.int .i64 m1.ch.epoch, .slice p4 m1.ch.mem.length k4, .int .i64 m1.ch.drain], mR m1.ch.mem p4 k4, mB g f pz f.quanta.length kz m1 p3 k3, mR m1.ch.mem p3 k3, .blk bc 24 (cfL f pz f.quanta.length kz)], ⟨_, 0, false, rfl, rfl, by omega, rfl, st⟩, ?_⟩
    clear st
    rintro Bo _ _ w ⟨i, _, hv, rfl, hi, hBo, st⟩
    obtain ⟨rfl, rfl⟩ : _ ∧ _ := by simpa using hv
    clear hv
    refine ⟨_, _, _, st.cell 0 rfl rfl, Br.dec (fun h4 => ?_) (fun h4 => ?_)⟩
    · have hil : i < m1.ch.mem.length := by omega
      have hB' : ((m1.ch.mem.take (i + 1)).any fun x => x.1 != n && m1.wh x.1) = (Bo || (m1.ch.mem[i].1 != n && m1.wh m1.ch.mem[i].1)) := by
        rw [List.take_succ_eq_append_getElem hil, List.any_append, ← hBo]
        simp
      obtain ⟨a2, ha2, hr2⟩ := (ElAt.of_owns memE_len (st.hold 1 _ rfl) rfl : MemAt w p4 m1.ch.mem) i hil
      have hx := hok1.node (List.getElem_mem hil)
      have hhas : m1.has m1.ch.mem[i].1 = true := (Mst.has_mem hok1.ok _).2 (List.mem_map.2 ⟨_, List.getElem_mem hil, rfl⟩)
      refine Br.bool (fun h5 => ?_) (fun h5 => ?_)
      · refine LetI.id (by omega) (by omega) ⟨_, by omega, i + 1, true, by simp, rfl, by omega, ?_, st⟩
        rw [hB', h5, Bool.true_or]
      · refine ⟨_, _, _, st.cell 0 rfl rfl, ?_⟩
        refine NilOk.intro ha2 ⟨⟨by omega, by omega⟩, _, by simpa [addr_zero] using Row.get hr2 (j := 0) rfl, ?_⟩
        refine Br.nei (fun h6 => ?_) (fun h6 => ?_)
        · refine ⟨_, _, _, st.cell 0 rfl rfl, ?_⟩
          refine NilOk.intro ha2 ⟨⟨by omega, by omega⟩, _, by simpa [addr_zero] using Row.get hr2 (j := 0) rfl, ?_⟩
          refine Pw.go (mwhole_pw (st.hold 2 _ rfl) (ElAt.of_owns memE_len (st.hold 3 _ rfl) rfl) hok1 _) st ?_; clear st; intro w st
          refine ⟨_, rfl, LetI.id (by omega) (by omega) ⟨_, by omega, i + 1, (m1.has m1.ch.mem[i].1 && m1.wh m1.ch.mem[i].1), by simp, rfl, by omega, ?_, st⟩⟩
          rw [hB', h5, hhas, Bool.false_or, bne_iff_ne.2 h6]
        · refine LetI.id (by omega) (by omega) ⟨_, by omega, i + 1, false, by simp, rfl, by omega, ?_, st⟩
          rw [hB', h5, h6]
          simp
    have hgo : Bo = m1.goes n := by rw [hBo, List.take_of_length_le (by omega)]; rfl
    clear hBo h4 hi
    subst hgo
    refine ⟨_, st.cell 0 rfl rfl, LetI.id (by omega) (by omega) ?_⟩
    refine Tk.go (L1 := [mB g f pz f.quanta.length kz m1 p3 k3, mR m1.ch.mem p3 k3]) (L2 := [.blk bw 32 [.int .i64 m1.ch.epoch, .slice p4 m1.ch.mem.length k4, .int .i64 m1.ch.drain], mR m1.ch.mem p4 k4, .blk bc 24 (cfL f pz f.quanta.length kz)]) (mtakeDrained_u hok1 (n := n) ⟨hn.1, by omega⟩ _ 0 0 (by omega)) (st.pick [2, 3, 0, 1, 4] rfl (by decide)) ?_
    clear st
    rintro _ _ w ⟨_, _, _, p5, k5, rfl, _, rfl⟩ st
    have hri := rise_drained hok1 (by omega) hn.1 (m1.ch.epoch + (y - 1))
    have hgone := fun hh => drained_gone hok1 (by omega) hn.1 (e := m1.ch.epoch + (y - 1)) hh
    have hnot := fun hh => drained_not (m := m1) (n := n) (e := m1.ch.epoch + (y - 1)) hh
    refine ⟨_, _, _, rfl, ?_⟩
    refine Tk.go (L2 := [.blk bw 32 [.int .i64 m1.ch.epoch, .slice p4 m1.ch.mem.length k4, .int .i64 m1.ch.drain], mR m1.ch.mem p4 k4, .blk bc 24 (cfL f pz f.quanta.length kz)]) (mchain_tk hri.ok) st ?_
    clear st
    rintro _ _ w ⟨p6, k6, rfl, rfl⟩ st
    simp only [List.cons_append, List.nil_append] at st
    refine ⟨_, _, _, _, _, rfl, ?_⟩
    refine St.alloc st ?_; clear st; intro bi w st
    generalize hd : m1.drained n (m1.ch.epoch + (y - 1)) = D at *
    obtain ⟨m2, d⟩ := D
    dsimp only at hri hgone hnot st ⊢
    have hl3 := hri.ok.ok.l2
    have hep2 := hri.le
    have hns2 := hri.nodes
    have hok2 := hri.ok
    repeat' first
      | (with_reducible refine St.alloc st ?_; (try clear st); intro b w st)
      | with_reducible refine sz_and (by (repeat rw [ByteArray.size_append]); omega) ?_
      | (with_reducible apply ex0c; case h => first | exact St.cell st 0 rfl rfl | exact St.cell st 1 rfl rfl | exact St.cell st 2 rfl rfl | exact St.cell st 3 rfl rfl | exact St.cell st 4 rfl rfl | exact St.cell st 5 rfl rfl | exact St.cell st 6 rfl rfl | fail)
      | (with_reducible apply ex1c; case h => first | exact St.cell st 0 rfl rfl | exact St.cell st 1 rfl rfl | exact St.cell st 2 rfl rfl | exact St.cell st 3 rfl rfl | exact St.cell st 4 rfl rfl | exact St.cell st 5 rfl rfl | exact St.cell st 6 rfl rfl | fail)
      | (with_reducible apply ex3c; case h => first | exact St.cell st 0 rfl rfl | exact St.cell st 1 rfl rfl | exact St.cell st 2 rfl rfl | exact St.cell st 3 rfl rfl | exact St.cell st 4 rfl rfl | exact St.cell st 5 rfl rfl | exact St.cell st 6 rfl rfl | fail)
      | (with_reducible apply ex0r; case h => first | exact St.rows st 0 rfl | exact St.rows st 1 rfl | exact St.rows st 2 rfl | exact St.rows st 3 rfl | exact St.rows st 4 rfl | exact St.rows st 5 rfl | exact St.rows st 6 rfl | fail)
      | (with_reducible apply exr2; case h => first | exact St.rows st 0 rfl | exact St.rows st 1 rfl | exact St.rows st 2 rfl | exact St.rows st 3 rfl | exact St.rows st 4 rfl | exact St.rows st 5 rfl | exact St.rows st 6 rfl | fail)
      | (with_reducible apply exr3; case h => first | exact St.rows st 0 rfl | exact St.rows st 1 rfl | exact St.rows st 2 rfl | exact St.rows st 3 rfl | exact St.rows st 4 rfl | exact St.rows st 5 rfl | exact St.rows st 6 rfl | fail)
      | (with_reducible apply exr4; case h => first | exact St.rows st 0 rfl | exact St.rows st 1 rfl | exact St.rows st 2 rfl | exact St.rows st 3 rfl | exact St.rows st 4 rfl | exact St.rows st 5 rfl | exact St.rows st 6 rfl | fail)
      | (with_reducible apply exr5; case h => first | exact St.rows st 0 rfl | exact St.rows st 1 rfl | exact St.rows st 2 rfl | exact St.rows st 3 rfl | exact St.rows st 4 rfl | exact St.rows st 5 rfl | exact St.rows st 6 rfl | fail)
      | (with_reducible apply exr6; case h => first | exact St.rows st 0 rfl | exact St.rows st 1 rfl | exact St.rows st 2 rfl | exact St.rows st 3 rfl | exact St.rows st 4 rfl | exact St.rows st 5 rfl | exact St.rows st 6 rfl | fail)
      | (with_reducible apply exWr; case h => first | exact St.wr st 0 rfl rfl | exact St.wr st 1 rfl rfl | exact St.wr st 2 rfl rfl | exact St.wr st 3 rfl rfl | exact St.wr st 4 rfl rfl | exact St.wr st 5 rfl rfl | exact St.wr st 6 rfl rfl | fail)
      | (with_reducible apply exWrRow; case h => first | exact St.wrRow st 0 rfl rfl rfl | exact St.wrRow st 1 rfl rfl rfl | exact St.wrRow st 2 rfl rfl rfl | exact St.wrRow st 3 rfl rfl rfl | exact St.wrRow st 4 rfl rfl rfl | exact St.wrRow st 5 rfl rfl rfl | exact St.wrRow st 6 rfl rfl rfl | fail)
      | (with_reducible refine LetW.cell ?_; (first | refine St.store st 0 rfl ?_ | refine St.store st 1 rfl ?_ | refine St.store st 2 rfl ?_ | refine St.store st 3 rfl ?_ | refine St.store st 4 rfl ?_ | refine St.store st 5 rfl ?_ | refine St.store st 6 rfl ?_ | fail); (try clear st); intro w st; simp only [List.set] at st)
      | (with_reducible refine LetW.rows ?_; (first | refine St.storeRow st 0 rfl ?_ | refine St.storeRow st 1 rfl ?_ | refine St.storeRow st 2 rfl ?_ | refine St.storeRow st 3 rfl ?_ | refine St.storeRow st 4 rfl ?_ | refine St.storeRow st 5 rfl ?_ | refine St.storeRow st 6 rfl ?_ | fail); (try clear st); intro w st; simp only [List.set, setsL] at st)
      | ((with_reducible apply exr4); case h => first | exact St.rowAt st 0 rfl rfl | exact St.rowAt st 1 rfl rfl | exact St.rowAt st 2 rfl rfl | exact St.rowAt st 3 rfl rfl | exact St.rowAt st 4 rfl rfl | exact St.rowAt st 5 rfl rfl | exact St.rowAt st 6 rfl rfl | fail)
      | ((with_reducible apply exr5); case h => first | exact St.rowAt st 0 rfl rfl | exact St.rowAt st 1 rfl rfl | exact St.rowAt st 2 rfl rfl | exact St.rowAt st 3 rfl rfl | exact St.rowAt st 4 rfl rfl | exact St.rowAt st 5 rfl rfl | exact St.rowAt st 6 rfl rfl | fail)
      | ((with_reducible apply exr6); case h => first | exact St.rowAt st 0 rfl rfl | exact St.rowAt st 1 rfl rfl | exact St.rowAt st 2 rfl rfl | exact St.rowAt st 3 rfl rfl | exact St.rowAt st 4 rfl rfl | exact St.rowAt st 5 rfl rfl | exact St.rowAt st 6 rfl rfl | fail)
      | with_reducible refine LetI.id (by omega) (by omega) ?_
      | fail
    have hend : ∀ w, St No w0 w [.blk bi 32 [.int .i64 m2.ch.epoch, .slice p6 m2.ch.mem.length k6, .int .i64 m2.ch.drain], mR m2.ch.mem p6 k6, mB g f pz f.quanta.length kz m2 p5 k5, mR m2.ch.mem p5 k5, .blk bw 32 [.int .i64 m1.ch.epoch, .slice p4 m1.ch.mem.length k4, .int .i64 m1.ch.drain], mR m1.ch.mem p4 k4, .blk bc 24 (cfL f pz f.quanta.length kz)] → St No w0 w [mB g f pz f.quanta.length kz m2 p5 k5, mR m2.ch.mem p5 k5, .blk bc 24 (cfL f pz f.quanta.length kz)] := fun w st => st.pick [2, 3, 6] rfl (by decide)
    by_cases hG : m1.ch.epoch + (y - 1) = m1.ch.epoch ∧ m1.ch.drain = n ∧ m1.goes n = true
    · obtain ⟨_, g1, g2, g3, g4⟩ := hgone hG
      obtain ⟨hy1, hdr, hgs⟩ := hG
      clear hgone hnot
      refine Br.eqi (fun _ => ?_) (fun hh => absurd (by omega) hh)
      refine ⟨_, st.cell 4 rfl rfl, Br.eqi (fun _ => ?_) (fun hh => absurd hdr hh)⟩
      refine ⟨_, _, _, _, _, st.rowAt 0 rfl rfl, ?_⟩
      refine Pw.go (csince_pw (c := m2.ch) (ElAt.of_owns memE_len (st.hold 1 _ rfl) rfl) rfl (by omega) n) st ?_; clear st; intro w st
      refine ⟨_, _, rfl, _, st.cell 0 rfl rfl, _, st.cell 4 rfl rfl, LetI.id (by omega) (by omega) ?_⟩
      rw [hgs, show (m2.ch.epoch == m1.ch.epoch + 1) = true by rw [beq_iff_eq]; omega]
      refine Br.nay rfl (Br.nay rfl (Br.sure rfl ?_))
      rw [show (sinceC m2.ch n).2 = false from g2]
      refine Br.nay rfl ⟨_, st.cell 0 rfl rfl, Br.nei (fun hh => absurd g3 hh) (fun _ => ?_)⟩
      refine ⟨_, _, _, st.cell 0 rfl rfl, _, _, _, st.cell 4 rfl rfl, LetI.id (by omega) (by omega) (Br.nei (fun hh => absurd (by omega) hh) (fun _ => ?_))⟩
      exact LetI.id (by omega) (by omega) ⟨_, by omega, j + 1, m2, p5, k5, by simp, rfl, by omega, hok2, hns2.trans hns1, by omega, hend _ st⟩
    · obtain rfl : m2 = m1 := congrArg Prod.fst (hnot hG)
      clear hgone hnot
      have e1 : (m2.ch.epoch == m2.ch.epoch + 1) = false := by rw [beq_eq_false_iff_ne]; omega
      refine Br.eqi (fun hy1 => ?_) (fun _ => ?_)
      · refine ⟨_, st.cell 4 rfl rfl, Br.eqi (fun hdr => ?_) (fun _ => ?_)⟩
        · have hgs : m2.goes n = false := by
            rw [Bool.eq_false_iff]
            exact fun hh => hG ⟨by omega, hdr, hh⟩
          refine ⟨_, _, _, _, _, st.rowAt 0 rfl rfl, ?_⟩
          refine Pw.go (csince_pw (c := m2.ch) (ElAt.of_owns memE_len (st.hold 1 _ rfl) rfl) rfl (by omega) n) st ?_; clear st; intro w st
          refine ⟨_, _, rfl, _, st.cell 0 rfl rfl, _, st.cell 4 rfl rfl, LetI.id (by omega) (by omega) ?_⟩
          rw [hgs, e1]
          refine Br.nay rfl (Br.sure rfl ⟨_, st.cell 0 rfl rfl, _, st.cell 4 rfl rfl, Br.nei (fun hh => absurd rfl hh) (fun _ => Br.nay rfl ?_)⟩)
          exact LetI.id (by omega) (by omega) ⟨_, by omega, j + 1, m2, p5, k5, by simp, rfl, by omega, hok2, hns2.trans hns1, by omega, hend _ st⟩
        · refine ⟨_, _, _, _, _, st.rowAt 0 rfl rfl, ?_⟩
          refine Pw.go (csince_pw (c := m2.ch) (ElAt.of_owns memE_len (st.hold 1 _ rfl) rfl) rfl (by omega) n) st ?_; clear st; intro w st
          refine ⟨_, _, rfl, _, st.cell 0 rfl rfl, _, st.cell 4 rfl rfl, LetI.id (by omega) (by omega) ?_⟩
          rw [e1]
          refine Br.nay rfl ?_
          refine ⟨_, st.cell 0 rfl rfl, _, st.cell 4 rfl rfl, Br.nei (fun hh => absurd rfl hh) (fun _ => ?_)⟩
          exact LetI.id (by omega) (by omega) ⟨_, by omega, j + 1, m2, p5, k5, by simp, rfl, by omega, hok2, hns2.trans hns1, by omega, hend _ st⟩
      · refine ⟨_, _, _, _, _, st.rowAt 0 rfl rfl, ?_⟩
        refine Pw.go (csince_pw (c := m2.ch) (ElAt.of_owns memE_len (st.hold 1 _ rfl) rfl) rfl (by omega) n) st ?_; clear st; intro w st
        refine ⟨_, _, rfl, _, st.cell 0 rfl rfl, _, st.cell 4 rfl rfl, LetI.id (by omega) (by omega) ?_⟩
        rw [e1]
        refine Br.nay rfl ?_
        refine ⟨_, st.cell 0 rfl rfl, _, st.cell 4 rfl rfl, Br.nei (fun hh => absurd rfl hh) (fun _ => ?_)⟩
        exact LetI.id (by omega) (by omega) ⟨_, by omega, j + 1, m2, p5, k5, by simp, rfl, by omega, hok2, hns2.trans hns1, by omega, hend _ st⟩
  · refine Pu.go mchained_pu st ?_; clear st; intro w st
    exact ⟨_, rfl, rfl, st.kp⟩
end Go.Proofs.Ytljipmhkpnigkaa

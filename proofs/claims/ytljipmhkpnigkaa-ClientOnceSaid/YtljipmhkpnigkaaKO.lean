/- ClientOnce: the walk. -/
import Derived.Test.YtljipmhkpnigkaaKH
import Derived.Test.YtljipmhkpnigkaaKQ
import Derived.Test.YtljipmhkpnigkaaDK3
namespace Go.Proofs.Ytljipmhkpnigkaa
open Go.Vc Go.Codec

abbrev frC (n e : Int) : Frm := ⟨8, fun _ => 0, .none, .none, .none, ⟨e, [(n, 1)], -1⟩⟩
abbrev frA (n s a : Int) : Frm := ⟨2, fun i => if i = 1 then n else if i = 2 then s else 0, .none, ⟨1, [], 0, a⟩, .none, .none⟩
abbrev frS (n s t r : Int) : Frm := ⟨3, fun i => if i = 1 then n else if i = 2 then s else if i = 3 then t else if i = 6 then r else 0, .none, .none, .none, .none⟩
theorem okC_one {n e : Int} (hn : 0 ≤ n ∧ n < 6) (he : 1 ≤ e ∧ e ≤ 1099511627776) : okC ⟨e, [(n, 1)], -1⟩ := by
  refine (okC_iff _).2 ⟨he.1, he.2, by show 1 ≤ 1; decide, by show 1 ≤ 6; decide, fun m hm => ?_, by simp, .inl rfl⟩
  obtain rfl : m = (n, 1) := by simpa using hm
  unfold goodM
  dsimp only
  omega
theorem mem_one {n e : Int} (h : okC ⟨e, [(n, 1)], -1⟩) : memC ⟨e, [(n, 1)], -1⟩ 0 = n := by
  unfold memC
  rw [if_neg (by rw [chkC_ok.2 h]; simp)]
  rfl
theorem to_one {x : Clt} {n e : Int} (h : okC ⟨e, [(n, 1)], -1⟩) : (x.known ⟨e, [(n, 1)], -1⟩).to = n := by
  have h1 := mem_one h
  unfold Clt.to
  split
  · exact h1
  · exact h1
set_option maxRecDepth 100000 in
set_option maxHeartbeats 16000000 in
theorem lawKOnce_pw {w0 : World} {c0 : Cfg} {p0 : Option Addr} {n0 k : Nat} (hM : IntAt w0 p0 c0.quanta) (hn : n0 = c0.quanta.length) {id : Int} (hid : 0 ≤ id ∧ id ≤ 255) {l : List ActK} {pl : Option Addr} {nl kl : Nat} (hA : ActKAt w0 pl l) (hnl : nl = l.length) (hll : l.length ≤ maxLen) :
    Pw Try.prog 10 #[cfV c0 p0 n0 k, .int .u8 id, .slice pl nl kl] (.bool true) w0 := by
  subst hn hnl
  have st : St No w0 w0 [] := St.start w0
  refine lawKOnce_ok _ _ _ _ _ _ _ _ _ _ _ _ _ _ _ _ _ _ _ _ ?_
  unfold lawKOnce
  refine St.alloc st ?_; clear st; intro bcf w st
  refine ⟨_, _, _, st.cell 0 (i := 3) rfl rfl, Br.dec (fun h1 => ?_) (fun h1 => ?_)⟩
  · refine Pu.go kcalled_pu st ?_; clear st; intro w st
    exact ⟨_, rfl, rfl, st.kp⟩
  obtain ⟨B, hB, hg⟩ := kgreat_pw (w0 := w) (l := l) (n := l.length) (k := kl) (fun j hj => by
    obtain ⟨a, ha, hr⟩ := hA j hj
    exact ⟨a, ha, Row.kp st.kp (not_no _) hr⟩) rfl hll 100
  refine Pw.go hg st ?_; clear st hg; intro w st
  refine ⟨_, rfl, Br.bool (fun h2 => ?_) (fun h2 => ?_)⟩
  · refine Pu.go kcalled_pu st ?_; clear st; intro w st
    exact ⟨_, rfl, rfl, st.kp⟩
  replace hB := hB h2
  clear h2
  refine ⟨_, _, _, _, _, _, _, _, _, _, _, _, _, _, st.rowAt 0 rfl rfl, ?_⟩
  refine (rfit_ca (c := c0) (hM.no st.kp) rfl (by omega)).mono ?_
  rintro _ w1 ⟨_, rfl, pz, kz, rfl, ho, hk1⟩
  replace st := st.pushRow0 hk1 ho (Nat.le_refl _)
  clear ho hk1
  have hc := fitS_ok c0
  generalize fitS c0 = c at hc st ⊢
  refine ⟨_, _, _, _, _, _, _, _, _, _, _, _, _, _, rfl, st.wrRow 1 rfl rfl rfl, ?_⟩
  refine St.storeRow st 1 rfl ?_; clear st; intro w st
  replace st : St No w0 w [.row 0 3 1 (.slice pz c.quanta.length kz) c.quanta.length (cellsOf intE c.quanta), .blk bcf 24 (cfL c pz c.quanta.length kz)] := st
  have hcap := owns_cap (st.hold 0 _ rfl)
  obtain ⟨hbud1, hbud2⟩ := hc.budget
  have hcl1 := hc.clients.1
  obtain ⟨hq1, hq2⟩ := hc.few
  refine LetI.id (by omega) (by omega) ⟨_, st.cell 1 (i := 2) rfl rfl, by omega, LetI.of ?_⟩
  have hnn := tm_in (m := c.clients) hid.1 (by omega)
  generalize id.tmod c.clients = n at hnn ⊢
  refine ⟨_, _, _, _, _, _, _, _, _, _, _, _, _, _, st.rowAt 1 rfl rfl, ?_⟩
  refine (knew_ca (c := c) (id := n) (ElAt.of_owns intE_len (st.hold 0 _ rfl) rfl) rfl hcap.1 hcap.2 hc (by omega)).mono ?_
  rintro _ w1 ⟨b, bt, bs, rfl, st1⟩
  replace st := st.made st1
  clear st1
  refine ⟨_, _, rfl, Br.nay rfl ?_⟩
  replace st : St No w0 w1 (clA b c pz c.quanta.length kz (newC c n) none 0 bt bs ++ [.blk bcf 24 (cfL c pz c.quanta.length kz), .row 0 3 1 (.slice pz c.quanta.length kz) c.quanta.length (cellsOf intE c.quanta)]) := st.pick [0, 1, 2, 3, 5, 4] rfl (by decide)
  refine ⟨fun q v w' => ∃ (i : Nat) (seq tried refused now epoch : Int) (x : Clt) (p2 : Option Addr) (k2 bs : Nat), v = [.bool false, .int .i64 seq, .int .i64 tried, .int .i64 refused, .int .i64 now, .int .i64 epoch, .int .i64 (i : Int)] ∧ q = l.length - i ∧ i ≤ l.length ∧ (0 ≤ now ∧ now ≤ 8 * i) ∧ (0 ≤ epoch ∧ epoch ≤ i) ∧ (0 ≤ seq ∧ seq ≤ i) ∧ (0 ≤ refused ∧ refused ≤ i) ∧ BI c x now seq 0 ∧ OI x n epoch tried refused seq ∧ St No w0 w' (clA b c pz c.quanta.length kz x p2 k2 bt bs ++ [.blk bcf 24 (cfL c pz c.quanta.length kz), .row 0 3 1 (.slice pz c.quanta.length kz) c.quanta.length (cellsOf intE c.quanta)]), ⟨_, 0, 0, 0, 0, 0, 0, newC c n, none, 0, bs, rfl, rfl, by omega, by omega, by omega, by omega, by omega, newC_BI hc n, newC_OI c n, st⟩, ?_⟩
  clear st
  rintro _ seq tried refused now epoch _ _ w ⟨i, _, _, _, _, _, x, p2, k2, bs, hv, rfl, hi, hnow, hep, hsq0, hrf, hB0, hO, st⟩
  obtain ⟨rfl, rfl, rfl, rfl, rfl, rfl, rfl⟩ : _ ∧ _ ∧ _ ∧ _ ∧ _ ∧ _ ∧ _ := by simpa using hv
  clear hv
  refine Br.dec (fun h3 => ?_) (fun h3 => ?_)
  · have hil : i < l.length := by omega
    obtain ⟨a, ha, hr⟩ := hA i hil
    replace hr := Row.kp st.kp (not_no _) hr
    refine NilOk.intro ha ⟨⟨by omega, by omega⟩, _, _, _, _, _, _, _, _, _, _, _, _, _, _, _, _, _, _, _, _, _, _, _, _, _, _, _, _, _, _, _, _, _, _, _, _, _, _, _, _, _, hr, ?_⟩
    generalize l[i] = A at hr ⊢
    clear hr
    have hak := A.ha
    have hbk := A.hb
    have hkk := A.hk
    refine St.alloc st ?_; clear st; intro bx w st
    refine ⟨st.wrRow 0 rfl rfl rfl, ?_⟩
    refine St.storeRow st 0 rfl ?_; clear st; intro w st
    rw [setsL_all' (by rfl)] at st
    refine ⟨_, st.cell 0 (i := 1) rfl rfl, LetI.id (by omega) (by omega) ⟨_, st.cell 0 (i := 2) rfl rfl, LetI.id (by omega) (by omega) ?_⟩⟩
    replace st : St No w0 w (clA b c pz c.quanta.length kz x p2 k2 bt bs ++ [.blk bx 74 (actK A), .blk bcf 24 (cfL c pz c.quanta.length kz), .row 0 3 1 (.slice pz c.quanta.length kz) c.quanta.length (cellsOf intE c.quanta)]) := st.pick [1, 2, 3, 4, 0, 5, 6] rfl (by decide)
    refine Tk.go koutcome_tk st ?_
    clear st
    rintro _ _ w ⟨rfl, rfl⟩ st
    refine ⟨_, _, _, _, _, _, _, rfl, ?_⟩
    refine St.alloc st ?_; clear st; intro bo w st
    refine ⟨st.wrRow 0 rfl rfl rfl, ?_⟩
    refine St.storeRow st 0 rfl ?_; clear st; intro w st
    rw [setsL_all' (by rfl)] at st
    refine Pw.go (kbusy_pw (st.hold 1 _ rfl)) st ?_; clear st; intro w st
    refine ⟨_, rfl, ?_⟩
    refine St.alloc st ?_; clear st; intro bf w st
    replace st : St No w0 w (clA b c pz c.quanta.length kz x p2 k2 bt bs ++ [.blk bf 53 (frmL (.zero 0) none 0), .blk bo 80 (outE (getS x.slot)), .blk bx 74 (actK A), .blk bcf 24 (cfL c pz c.quanta.length kz), .row 0 3 1 (.slice pz c.quanta.length kz) c.quanta.length (cellsOf intE c.quanta)]) := st.pick [2, 3, 4, 5, 0, 1, 6, 7, 8] rfl (by decide)
    refine ⟨fun v w' => ∃ (bg : Bool) (x' : Clt) (p2 : Option Addr) (k2 bs : Nat) (now' ep' tr' rf' sq' : Int), v = [.bool bg, .bool false, .int .i64 sq', .int .i64 tr', .int .i64 rf', .int .i64 now', .int .i64 ep'] ∧ BI c x' now' sq' 0 ∧ OI x' n ep' tr' rf' sq' ∧ (bg = false → x.slot.isSome = true → x'.slot = x.slot) ∧ (bg = true → x'.slot = none) ∧ (∀ o, x.slot = none → x'.slot = some o → o.kind = 2 → tr' ≤ rf') ∧ (0 ≤ now' ∧ now' ≤ 8 * (i + 1)) ∧ (0 ≤ ep' ∧ ep' ≤ i + 1) ∧ (0 ≤ sq' ∧ sq' ≤ i + 1) ∧ (0 ≤ rf' ∧ rf' ≤ i + 1) ∧ St No w0 w' (clA b c pz c.quanta.length kz x' p2 k2 bt bs ++ [.blk bo 80 (outE (getS x.slot)), .blk bcf 24 (cfL c pz c.quanta.length kz), .row 0 3 1 (.slice pz c.quanta.length kz) c.quanta.length (cellsOf intE c.quanta)]), ?_, ?_⟩
    · have hn40 : 0 ≤ now ∧ now ≤ 1099511627776 := by omega
      have hB := hB0
      have ta9 := tm_in (n := A.a) (m := 9) (by omega) (by omega)
      have ta2 := tm_in (n := A.a) (m := 2) (by omega) (by omega)
      have ta8 := tm_in (n := A.a) (m := 8) (by omega) (by omega)
      have tb2 := tm_in (n := A.b) (m := 2) (by omega) (by omega)
      have tb6 := tm_in (n := A.b) (m := 6) (by omega) (by omega)
      have tb10 := tm_in (n := A.b) (m := 10) (by omega) (by omega)
      refine ⟨_, st.cell 6 (i := 0) rfl rfl, by omega, LetI.of ?_⟩
      generalize A.kd.tmod 11 = kd
      repeat' first
        | (exfalso; omega)
        | refine Br.eqi (fun _ => ?_) (fun _ => ?_)
      · refine ⟨_, _, _, _, st.rowAt 6 (o := 3) rfl rfl, _, _, _, st.cell 7 (i := 3) rfl rfl, by omega, LetI.of (LetI.id (by omega) (by omega) ?_)⟩
        refine Tk.go (kcall_tk (x := x) (hB.okK hc (by omega)) rfl A.op (A.a.tmod (c.quanta.length : Int)) (now + A.b) now) st ?_
        clear st
        rintro _ _ w ⟨q, n', m, X, bs, rfl, hX, rfl⟩ st
        rw [List.append_assoc] at st
        have hB2 := hB.callC hc A.op (A.a.tmod (c.quanta.length : Int)) (now + A.b) hn40
        rcases hO.callC (c := c) (by omega) A.op (A.a.tmod (c.quanta.length : Int)) (now + A.b) now with ⟨hd, e⟩ | ⟨hd, e⟩ | ⟨x', to, f, hd, e, hk, hs⟩
        · rw [e] at hB2 hX st ⊢
          obtain ⟨hv, rfl⟩ := snt_none hX
          cases hv
          replace hB2 : BI c x now (seq + 0) (0 + 0) := hB2
          rw [Int.add_zero, Int.add_zero] at hB2
          have hP := hO.same
          refine ⟨_, _, _, _, rfl, Br.nay (by simp [hd]) (Br.nay rfl (Br.nay rfl ?_))⟩
          exact ⟨false, _, _, _, _, _, _, _, _, _, rfl, hB2, hP.oi, fun _ => hP.keep, fun hh => (by cases hh), hP.rej, by omega, by omega, by omega, by omega, st.pick [0, 1, 2, 3, 5, 7, 8] rfl (by decide)⟩
        · rw [e] at hB2 hX st ⊢
          obtain ⟨hv, rfl⟩ := snt_none hX
          cases hv
          replace hB2 : BI c x now (seq + 0) (0 + 0) := hB2
          rw [Int.add_zero, Int.add_zero] at hB2
          have hP := hO.same
          refine ⟨_, _, _, _, rfl, Br.nay (by simp [hd]) (Br.nay rfl (Br.nay rfl ?_))⟩
          exact ⟨false, _, _, _, _, _, _, _, _, _, rfl, hB2, hP.oi, fun _ => hP.keep, fun hh => (by cases hh), hP.rej, by omega, by omega, by omega, by omega, st.pick [0, 1, 2, 3, 5, 7, 8] rfl (by decide)⟩
        · rw [e] at hB2 hX st ⊢
          obtain ⟨g, hv, rfl⟩ := snt_some hX
          cases hv
          replace hB2 : BI c x' now (seq + 1) (0 + outN (some (to, f))) := hB2
          replace hB2 := hB2.fewer hc (m' := 0) (by have := outN_in (some (to, f)); omega)
          refine ⟨_, _, _, _, rfl, Br.nay (by simp [hd]) (Br.sure rfl (Br.nay rfl (Br.sure rfl (LetI.id (by omega) (by omega) (NilOk.intro rfl ⟨⟨by omega, by omega⟩, _, st.cell 0 (i := 1) rfl rfl, ?_⟩)))))⟩
          replace st := st.tail
          rcases hk with ⟨hk, hO2⟩ | ⟨hk, hO2⟩
          · refine Br.eqi (fun _ => ?_) (fun hh => absurd hk hh)
            exact ⟨true, _, _, _, _, _, _, _, _, _, rfl, hB2, hO2, fun hh => (by cases hh), fun _ => hs, fun o _ ho => (by rw [hs] at ho; cases ho), by omega, by omega, by omega, by omega, st.pick [0, 1, 2, 3, 5, 7, 8] rfl (by decide)⟩
          · refine Br.eqi (fun hh => absurd hh (by omega)) (fun _ => ?_)
            exact ⟨true, _, _, _, _, _, _, _, _, _, rfl, hB2, hO2, fun hh => (by cases hh), fun _ => hs, fun o _ ho => (by rw [hs] at ho; cases ho), by omega, by omega, by omega, by omega, st.pick [0, 1, 2, 3, 5, 7, 8] rfl (by decide)⟩
      · refine ⟨_, _, _, _, st.rowAt 6 (o := 3) rfl rfl, _, _, _, st.cell 7 (i := 3) rfl rfl, by omega, LetI.of (LetI.id (by omega) (by omega) ?_)⟩
        refine Tk.go (kcall_tk (x := x) (hB.okK hc (by omega)) rfl A.op (A.a.tmod (c.quanta.length : Int)) (now + A.b) now) st ?_
        clear st
        rintro _ _ w ⟨q, n', m, X, bs, rfl, hX, rfl⟩ st
        rw [List.append_assoc] at st
        have hB2 := hB.callC hc A.op (A.a.tmod (c.quanta.length : Int)) (now + A.b) hn40
        rcases hO.callC (c := c) (by omega) A.op (A.a.tmod (c.quanta.length : Int)) (now + A.b) now with ⟨hd, e⟩ | ⟨hd, e⟩ | ⟨x', to, f, hd, e, hk, hs⟩
        · rw [e] at hB2 hX st ⊢
          obtain ⟨hv, rfl⟩ := snt_none hX
          cases hv
          replace hB2 : BI c x now (seq + 0) (0 + 0) := hB2
          rw [Int.add_zero, Int.add_zero] at hB2
          have hP := hO.same
          refine ⟨_, _, _, _, rfl, Br.nay (by simp [hd]) (Br.nay rfl (Br.nay rfl ?_))⟩
          exact ⟨false, _, _, _, _, _, _, _, _, _, rfl, hB2, hP.oi, fun _ => hP.keep, fun hh => (by cases hh), hP.rej, by omega, by omega, by omega, by omega, st.pick [0, 1, 2, 3, 5, 7, 8] rfl (by decide)⟩
        · rw [e] at hB2 hX st ⊢
          obtain ⟨hv, rfl⟩ := snt_none hX
          cases hv
          replace hB2 : BI c x now (seq + 0) (0 + 0) := hB2
          rw [Int.add_zero, Int.add_zero] at hB2
          have hP := hO.same
          refine ⟨_, _, _, _, rfl, Br.nay (by simp [hd]) (Br.nay rfl (Br.nay rfl ?_))⟩
          exact ⟨false, _, _, _, _, _, _, _, _, _, rfl, hB2, hP.oi, fun _ => hP.keep, fun hh => (by cases hh), hP.rej, by omega, by omega, by omega, by omega, st.pick [0, 1, 2, 3, 5, 7, 8] rfl (by decide)⟩
        · rw [e] at hB2 hX st ⊢
          obtain ⟨g, hv, rfl⟩ := snt_some hX
          cases hv
          replace hB2 : BI c x' now (seq + 1) (0 + outN (some (to, f))) := hB2
          replace hB2 := hB2.fewer hc (m' := 0) (by have := outN_in (some (to, f)); omega)
          refine ⟨_, _, _, _, rfl, Br.nay (by simp [hd]) (Br.sure rfl (Br.nay rfl (Br.sure rfl (LetI.id (by omega) (by omega) (NilOk.intro rfl ⟨⟨by omega, by omega⟩, _, st.cell 0 (i := 1) rfl rfl, ?_⟩)))))⟩
          replace st := st.tail
          rcases hk with ⟨hk, hO2⟩ | ⟨hk, hO2⟩
          · refine Br.eqi (fun _ => ?_) (fun hh => absurd hk hh)
            exact ⟨true, _, _, _, _, _, _, _, _, _, rfl, hB2, hO2, fun hh => (by cases hh), fun _ => hs, fun o _ ho => (by rw [hs] at ho; cases ho), by omega, by omega, by omega, by omega, st.pick [0, 1, 2, 3, 5, 7, 8] rfl (by decide)⟩
          · refine Br.eqi (fun hh => absurd hh (by omega)) (fun _ => ?_)
            exact ⟨true, _, _, _, _, _, _, _, _, _, rfl, hB2, hO2, fun hh => (by cases hh), fun _ => hs, fun o _ ho => (by rw [hs] at ho; cases ho), by omega, by omega, by omega, by omega, st.pick [0, 1, 2, 3, 5, 7, 8] rfl (by decide)⟩
      · refine ⟨by omega, LetI.of (LetI.id (by omega) (by omega) ?_)⟩
        have hB1 := hB.later (now' := now + A.a.tmod 9) (by omega)
        refine Tk.go (ktick_tk (x := x) (hB.okK hc (by omega)) ⟨by have := hc.timeout.1; omega, by have := hc.timeout.2; omega⟩ (now + A.a.tmod 9)) st ?_
        clear st
        rintro _ _ w ⟨_, _, _, _, rfl, _, rfl⟩ st
        rw [List.append_assoc] at st
        replace st := dropL st
        have hB2 := (hB1.tickC hc (by omega)).1
        have hP := hO.tickC (c := c) (now + A.a.tmod 9)
        refine ⟨_, _, _, rfl, ?_⟩
        exact ⟨false, _, _, _, _, _, _, _, _, _, rfl, hB2, hP.oi, fun _ => hP.keep, fun hh => (by cases hh), hP.rej, by omega, by omega, by omega, by omega, st.pick [0, 1, 2, 3, 5, 7, 8] rfl (by decide)⟩
      · refine ⟨by omega, LetI.of (LetI.id (by omega) (by omega) ?_)⟩
        have hB1 := hB.later (now' := now + A.a.tmod 9) (by omega)
        refine Tk.go (ktick_tk (x := x) (hB.okK hc (by omega)) ⟨by have := hc.timeout.1; omega, by have := hc.timeout.2; omega⟩ (now + A.a.tmod 9)) st ?_
        clear st
        rintro _ _ w ⟨_, _, _, _, rfl, _, rfl⟩ st
        rw [List.append_assoc] at st
        replace st := dropL st
        have hB2 := (hB1.tickC hc (by omega)).1
        have hP := hO.tickC (c := c) (now + A.a.tmod 9)
        refine ⟨_, _, _, rfl, ?_⟩
        exact ⟨false, _, _, _, _, _, _, _, _, _, rfl, hB2, hP.oi, fun _ => hP.keep, fun hh => (by cases hh), hP.rej, by omega, by omega, by omega, by omega, st.pick [0, 1, 2, 3, 5, 7, 8] rfl (by decide)⟩
      · refine ⟨by omega, LetI.of (LetI.id (by omega) (by omega) ?_)⟩
        have hB1 := hB.later (now' := now + A.a.tmod 9) (by omega)
        refine Tk.go (ktick_tk (x := x) (hB.okK hc (by omega)) ⟨by have := hc.timeout.1; omega, by have := hc.timeout.2; omega⟩ (now + A.a.tmod 9)) st ?_
        clear st
        rintro _ _ w ⟨_, _, _, _, rfl, _, rfl⟩ st
        rw [List.append_assoc] at st
        replace st := dropL st
        have hB2 := (hB1.tickC hc (by omega)).1
        have hP := hO.tickC (c := c) (now + A.a.tmod 9)
        refine ⟨_, _, _, rfl, ?_⟩
        exact ⟨false, _, _, _, _, _, _, _, _, _, rfl, hB2, hP.oi, fun _ => hP.keep, fun hh => (by cases hh), hP.rej, by omega, by omega, by omega, by omega, st.pick [0, 1, 2, 3, 5, 7, 8] rfl (by decide)⟩
      · refine ⟨by omega, LetI.of (LetI.id (by omega) (by omega) (LetI.id (by omega) (by omega) ⟨by omega, LetI.of ?_⟩))⟩
        refine St.alloc st ?_; clear st; intro bm w st
        refine ⟨st.wrRow 5 rfl rfl rfl, ?_⟩
        refine St.storeRow st 5 rfl ?_; clear st; intro w st
        rw [setsL_all' (by rfl)] at st
        replace st : St No w0 w (clA b c pz c.quanta.length kz x p2 k2 bt bs ++ [.blk bf 53 (frmL (frC (A.b.tmod 6) (1 + (epoch + A.a.tmod 2))) (some ⟨bm, 0, none⟩) 1), .blk bm 64 [.int .i64 (A.b.tmod 6), .int .i64 1], .blk bo 80 (outE (getS x.slot)), .blk bx 74 (actK A), .blk bcf 24 (cfL c pz c.quanta.length kz), .row 0 3 1 (.slice pz c.quanta.length kz) c.quanta.length (cellsOf intE c.quanta)]) := st.pick [1, 2, 3, 4, 5, 0, 6, 7, 8, 9] rfl (by decide)
        refine ⟨_, _, _, _, _, _, _, _, _, _, _, _, _, _, _, _, _, _, _, _, _, _, _, _, _, _, _, _, _, _, _, st.rowAt 4 rfl rfl, ?_⟩
        refine ktake_goB (f := frC (A.b.tmod 6) (1 + (epoch + A.a.tmod 2))) st (hB.okK hc (by omega)) rfl now 1 rfl ?_
        clear st
        intro q n' m X p3 k3 w hX st
        rw [List.append_assoc] at st
        have hok := okC_one (n := A.b.tmod 6) (e := 1 + (epoch + A.a.tmod 2)) (by omega) (by omega)
        have hB2 := (hB.takeC hc (frC (A.b.tmod 6) (1 + (epoch + A.a.tmod 2))) (by show 1 ≤ 1000; decide) hn40).fewer hc (m' := 0) (by have := outN_in (Clt.takeC c x (frC (A.b.tmod 6) (1 + (epoch + A.a.tmod 2))) now).2; omega)
        rcases hO.chain (c := c) (f := frC (A.b.tmod 6) (1 + (epoch + A.a.tmod 2))) rfl (chkC_ok.2 hok) (e' := epoch + A.a.tmod 2) (by omega) rfl now with ⟨hd, e, hP⟩ | ⟨e, hP⟩
        · rw [e] at hX
          obtain ⟨g, hv, rfl⟩ := snt_some hX
          cases hv
          have hcl := hO.cl (by omega)
          have hid := hO.id
          have hsq := hO.sq
          have htr := hO.tr
          have ht2 := hB.t2
          have ht1 := hB.t1
          refine ⟨_, _, _, rfl, Br.sure rfl (LetI.id (by omega) (by omega) (NilOk.intro rfl ⟨⟨by omega, by omega⟩, _, _, _, _, _, _, _, _, _, _, _, _, _, _, _, _, _, _, _, _, _, _, _, _, _, _, _, _, _, _, _, st.rowAt 0 (o := 1) rfl rfl, ?_⟩))⟩
          refine St.alloc st ?_; clear st; intro bk w st
          refine ⟨st.wrRow 0 rfl rfl rfl, ?_⟩
          refine St.storeRow st 0 rfl ?_; clear st; intro w st
          rw [setsL_all' (by rfl)] at st
          refine ⟨_, st.cell 0 (i := 0) rfl rfl, Br.nei (fun hh => absurd hcl.1 hh) (fun _ => ⟨_, st.cell 0 (i := 2) rfl rfl, Br.nei (fun hh => absurd (hcl.2.1.trans hid) hh) (fun _ => ⟨_, st.cell 0 (i := 3) rfl rfl, Br.nei (fun hh => absurd hsq hh) (fun _ => ⟨_, st.cell 0 (i := 4) rfl rfl, Br.nei (fun hh => absurd (show x.call.nums 3 + 1 = tried + 1 by omega) hh) (fun _ => ⟨_, st.cell 0 (i := 1) rfl rfl, LetI.id (by omega) (by omega) (Br.nei (fun hh => absurd rfl hh) (fun _ => NilOk.intro rfl ⟨⟨by omega, by omega⟩, _, st.cell 1 (i := 0) rfl rfl, by omega, LetI.of (Br.nei (fun hh => absurd (to_one (x := x) hok) hh) (fun _ => ?_))⟩))⟩)⟩)⟩)⟩)⟩
          exact ⟨false, _, _, _, _, _, _, _, _, _, rfl, hB2, hP.oi, fun _ => hP.keep, fun hh => (by cases hh), hP.rej, by omega, by omega, by omega, by omega, st.pick [2, 3, 4, 5, 8, 10, 11] rfl (by decide)⟩
        · rw [e] at hX
          obtain ⟨hv, rfl⟩ := snt_none hX
          cases hv
          refine ⟨_, _, _, rfl, Br.nay rfl ?_⟩
          exact ⟨false, _, _, _, _, _, _, _, _, _, rfl, hB2, hP.oi, fun _ => hP.keep, fun hh => (by cases hh), hP.rej, by omega, by omega, by omega, by omega, st.pick [0, 1, 2, 3, 6, 8, 9] rfl (by decide)⟩
      · refine ⟨by omega, LetI.of (LetI.id (by omega) (by omega) ?_)⟩
        refine ktake_go0 (f := frA n (seq - A.b.tmod 2) A.a) st (hB.okK hc (by omega)) rfl now ?_
        clear st
        intro _ _ _ _ _ _ w _ st
        rw [List.append_assoc] at st
        replace st := dropL st
        have hB2 := (hB.takeC hc (frA n (seq - A.b.tmod 2) A.a) (Nat.zero_le _) hn40).fewer hc (m' := 0) (by have := outN_in (Clt.takeC c x (frA n (seq - A.b.tmod 2) A.a) now).2; omega)
        have hP := hO.reply (c := c) (f := frA n (seq - A.b.tmod 2) A.a) rfl now
        refine ⟨_, _, _, rfl, ?_⟩
        exact ⟨false, _, _, _, _, _, _, _, _, _, rfl, hB2, hP.oi, fun _ => hP.keep, fun hh => (by cases hh), hP.rej, by omega, by omega, by omega, by omega, st.pick [0, 1, 2, 3, 5, 7, 8] rfl (by decide)⟩
      · have htr := hO.tr
        refine Pw.go (ktries_pw (st.hold 0 _ rfl)) st ?_; clear st; intro w st
        refine ⟨_, rfl, by omega, LetI.of (Br.eqi (fun h7 => ?_) (fun h7 => ?_))⟩
        · refine LetI.id (by have := hB.t1; omega) (by have := hB.t2; omega) ?_
          refine ⟨by omega, LetI.of (LetI.id (by omega) (by omega) ?_)⟩
          refine ktake_go0 (f := frS n seq (x.call.nums 3 - 1) (1 + A.b.tmod 10)) st (hB.okK hc (by omega)) rfl now ?_
          clear st
          intro _ _ _ _ _ _ w _ st
          rw [List.append_assoc] at st
          replace st := dropL st
          have hB2 := (hB.takeC hc (frS n seq (x.call.nums 3 - 1) (1 + A.b.tmod 10)) (Nat.zero_le _) hn40).fewer hc (m' := 0) (by have := outN_in (Clt.takeC c x (frS n seq (x.call.nums 3 - 1) (1 + A.b.tmod 10)) now).2; omega)
          have hP : ∀ r', refused ≤ r' → (x.doing = 2 → x.call.nums 3 - 1 = x.call.nums 3 → 1 + A.b.tmod 10 ≠ 6 → x.unsure = false → tried ≤ r') → OP x (Clt.takeC c x (frS n seq (x.call.nums 3 - 1) (1 + A.b.tmod 10)) now).1 n epoch tried r' seq := fun r' h1 h2 => hO.refuse (c := c) (f := frS n seq (x.call.nums 3 - 1) (1 + A.b.tmod 10)) rfl now h1 h2
          refine ⟨_, _, _, rfl, ?_⟩
          have hP := hP refused (by omega) (fun _ hh => absurd hh (by omega))
          refine Br.bool (fun _ => Br.eqi (fun hh => absurd hh (by omega)) (fun _ => ?_)) (fun _ => ?_)
          · exact ⟨false, _, _, _, _, _, _, _, _, _, rfl, hB2, hP.oi, fun _ => hP.keep, fun hh => (by cases hh), hP.rej, by omega, by omega, by omega, by omega, st.pick [0, 1, 2, 3, 5, 7, 8] rfl (by decide)⟩
          · exact ⟨false, _, _, _, _, _, _, _, _, _, rfl, hB2, hP.oi, fun _ => hP.keep, fun hh => (by cases hh), hP.rej, by omega, by omega, by omega, by omega, st.pick [0, 1, 2, 3, 5, 7, 8] rfl (by decide)⟩
        ·
          refine ⟨by omega, LetI.of (LetI.id (by omega) (by omega) ?_)⟩
          refine ktake_go0 (f := frS n seq (x.call.nums 3) (1 + A.b.tmod 10)) st (hB.okK hc (by omega)) rfl now ?_
          clear st
          intro _ _ _ _ _ _ w _ st
          rw [List.append_assoc] at st
          replace st := dropL st
          have hB2 := (hB.takeC hc (frS n seq (x.call.nums 3) (1 + A.b.tmod 10)) (Nat.zero_le _) hn40).fewer hc (m' := 0) (by have := outN_in (Clt.takeC c x (frS n seq (x.call.nums 3) (1 + A.b.tmod 10)) now).2; omega)
          have hP : ∀ r', refused ≤ r' → (x.doing = 2 → x.call.nums 3 = x.call.nums 3 → 1 + A.b.tmod 10 ≠ 6 → x.unsure = false → tried ≤ r') → OP x (Clt.takeC c x (frS n seq (x.call.nums 3) (1 + A.b.tmod 10)) now).1 n epoch tried r' seq := fun r' h1 h2 => hO.refuse (c := c) (f := frS n seq (x.call.nums 3) (1 + A.b.tmod 10)) rfl now h1 h2
          refine ⟨_, _, _, rfl, ?_⟩
          refine Br.bool (fun _ => Br.eqi (fun _ => Br.dec (fun hlt => ⟨by omega, LetI.of (LetI.id (by omega) (by omega) (Br.nei (fun h6 => LetI.id (by omega) (by omega) ?_) (fun h6 => ?_)))⟩) (fun hge => ?_)) (fun hh => absurd htr hh)) (fun hb => ?_)
          · have hP := hP (refused + 1) (by omega) (fun h2 _ _ hu => by have := hO.r2 hu h2; omega)
            exact ⟨false, _, _, _, _, _, _, _, _, _, rfl, hB2, hP.oi, fun _ => hP.keep, fun hh => (by cases hh), hP.rej, by omega, by omega, by omega, by omega, st.pick [0, 1, 2, 3, 5, 7, 8] rfl (by decide)⟩
          · have hP := hP refused (by omega) (fun _ _ hh => absurd h6 hh)
            exact ⟨false, _, _, _, _, _, _, _, _, _, rfl, hB2, hP.oi, fun _ => hP.keep, fun hh => (by cases hh), hP.rej, by omega, by omega, by omega, by omega, st.pick [0, 1, 2, 3, 5, 7, 8] rfl (by decide)⟩
          · have hP := hP refused (by omega) (fun _ _ _ _ => by omega)
            exact ⟨false, _, _, _, _, _, _, _, _, _, rfl, hB2, hP.oi, fun _ => hP.keep, fun hh => (by cases hh), hP.rej, by omega, by omega, by omega, by omega, st.pick [0, 1, 2, 3, 5, 7, 8] rfl (by decide)⟩
          · have hP := hP refused (by omega) (fun h2 => absurd hb (by simp [h2]))
            exact ⟨false, _, _, _, _, _, _, _, _, _, rfl, hB2, hP.oi, fun _ => hP.keep, fun hh => (by cases hh), hP.rej, by omega, by omega, by omega, by omega, st.pick [0, 1, 2, 3, 5, 7, 8] rfl (by decide)⟩
    · clear st hB0 hO hnow hep hsq0 hrf p2 k2 bs now epoch tried refused seq
      rintro bg _ seq tried refused now epoch w ⟨_, x', p2, k2, bs, _, _, _, _, _, hv, hB2, hO, hkeep, hbg, hrej, hnow, hep, hsq0, hrf, st⟩
      obtain ⟨rfl, rfl, rfl, rfl, rfl, rfl, rfl⟩ : _ ∧ _ ∧ _ ∧ _ ∧ _ ∧ _ ∧ _ := by simpa using hv
      clear hv
      refine Tk.go koutcome_tk st ?_
      clear st
      rintro _ _ w ⟨rfl, rfl⟩ st
      refine ⟨_, _, _, _, _, _, _, rfl, ?_⟩
      refine St.alloc st ?_; clear st; intro bp w st
      refine ⟨st.wrRow 0 rfl rfl rfl, ?_⟩
      refine St.storeRow st 0 rfl ?_; clear st; intro w st
      rw [setsL_all' (by rfl)] at st
      have h1 := hO.sq
      have h2 := hO.tr
      have h4 := hB2.t2
      have hsl := hO.sl
      have hok := hO.ok
      refine Pw.go (kseq_pw (st.hold 1 _ rfl)) st ?_; clear st; intro w st
      refine ⟨_, rfl, Br.nei (fun hh => absurd h1 hh) (fun _ => ?_)⟩
      refine Pw.go (ktries_pw (st.hold 1 _ rfl)) st ?_; clear st; intro w st
      refine ⟨_, rfl, Br.nei (fun hh => absurd h2 hh) (fun _ => ⟨_, st.cell 6 (i := 10) rfl rfl, LetI.id (by omega) (by omega) (Br.dec (fun hh => absurd hh (by omega)) (fun _ => Br.dec (fun hs0 => ?_) (fun hs0 => ?_)))⟩)⟩
      · refine Pw.go (kbusy_pw (st.hold 1 _ rfl)) st ?_; clear st; intro w st
        refine ⟨_, rfl, Br.nay (by
          by_cases hd : x'.doing = 0
          · rw [hsl.2 ⟨hs0, hd⟩, hd]; rfl
          · cases hh : x'.slot.isSome with
            | true => exact absurd (hsl.1 hh).2 hd
            | false => simp [hd]) ?_⟩
        cases hs2 : x'.slot with
        | none =>
          rw [hs2] at st
          cases hs1 : x.slot with
          | none =>
            rw [hs1] at st
            cases bg
            · repeat' first
                | exact LetI.id (by omega) (by omega) ⟨_, by omega, i + 1, seq, tried, refused, now, epoch, x', p2, k2, bs, by simp, rfl, by omega, by omega, by omega, by omega, by omega, hB2, hO, st.pick [1, 2, 3, 4, 6, 7] rfl (by decide)⟩
                | refine Br.sure rfl ?_
                | refine Br.nay rfl ?_
                | refine Br.dec (fun hh => absurd hh (by omega)) (fun _ => ?_)
                | refine Br.eqi (fun _ => ?_) (fun _ => ?_)
                | refine ⟨_, st.cell 0 (i := 0) rfl rfl, ?_⟩
                | refine ⟨_, _, _, _, _, _, st.rowAt 0 rfl rfl, _, _, _, _, _, _, st.rowAt 5 rfl rfl, ?_⟩
                | refine Br.nay (by simp) ?_
                | fail
            · repeat' first
                | exact LetI.id (by omega) (by omega) ⟨_, by omega, i + 1, seq, tried, refused, now, epoch, x', p2, k2, bs, by simp, rfl, by omega, by omega, by omega, by omega, by omega, hB2, hO, st.pick [1, 2, 3, 4, 6, 7] rfl (by decide)⟩
                | refine Br.sure rfl ?_
                | refine Br.nay rfl ?_
                | refine Br.dec (fun hh => absurd hh (by omega)) (fun _ => ?_)
                | refine Br.eqi (fun _ => ?_) (fun _ => ?_)
                | refine ⟨_, st.cell 0 (i := 0) rfl rfl, ?_⟩
                | refine ⟨_, _, _, _, _, _, st.rowAt 0 rfl rfl, _, _, _, _, _, _, st.rowAt 5 rfl rfl, ?_⟩
                | refine Br.nay (by simp) ?_
                | fail
          | some o1 =>
            cases bg
            · have := hkeep rfl (by rw [hs1]; rfl)
              rw [hs1, hs2] at this
              cases this
            · rw [hs1] at st
              repeat' first
                | exact LetI.id (by omega) (by omega) ⟨_, by omega, i + 1, seq, tried, refused, now, epoch, x', p2, k2, bs, by simp, rfl, by omega, by omega, by omega, by omega, by omega, hB2, hO, st.pick [1, 2, 3, 4, 6, 7] rfl (by decide)⟩
                | refine Br.sure rfl ?_
                | refine Br.nay rfl ?_
                | refine Br.dec (fun hh => absurd hh (by omega)) (fun _ => ?_)
                | refine Br.eqi (fun _ => ?_) (fun _ => ?_)
                | refine ⟨_, st.cell 0 (i := 0) rfl rfl, ?_⟩
                | refine ⟨_, _, _, _, _, _, st.rowAt 0 rfl rfl, _, _, _, _, _, _, st.rowAt 5 rfl rfl, ?_⟩
                | refine Br.nay (by simp) ?_
                | fail
        | some o2 =>
          have hk2 : 1 ≤ (getS (some o2)).kind ∧ (getS (some o2)).kind ≤ 3 := hok o2 hs2
          cases bg
          · cases hs1 : x.slot with
            | none =>
              have hrj : (getS (some o2)).kind = 2 → tried ≤ refused := hrej o2 hs1 hs2
              rw [hs1, hs2] at st
              repeat' first
                | exact LetI.id (by omega) (by omega) ⟨_, by omega, i + 1, seq, tried, refused, now, epoch, x', p2, k2, bs, by simp, rfl, by omega, by omega, by omega, by omega, by omega, hB2, hO, st.pick [1, 2, 3, 4, 6, 7] rfl (by decide)⟩
                | refine Br.sure rfl ?_
                | refine Br.nay rfl ?_
                | refine Br.dec (fun hh => absurd hh (by omega)) (fun _ => ?_)
                | refine Br.eqi (fun _ => ?_) (fun _ => ?_)
                | refine ⟨_, st.cell 0 (i := 0) rfl rfl, ?_⟩
                | refine ⟨_, _, _, _, _, _, st.rowAt 0 rfl rfl, _, _, _, _, _, _, st.rowAt 5 rfl rfl, ?_⟩
                | refine Br.nay (by simp) ?_
                | fail
            | some o1 =>
              have := hkeep rfl (by rw [hs1]; rfl)
              rw [hs1, hs2] at this
              cases this
              rw [hs1, hs2] at st
              repeat' first
                | exact LetI.id (by omega) (by omega) ⟨_, by omega, i + 1, seq, tried, refused, now, epoch, x', p2, k2, bs, by simp, rfl, by omega, by omega, by omega, by omega, by omega, hB2, hO, st.pick [1, 2, 3, 4, 6, 7] rfl (by decide)⟩
                | refine Br.sure rfl ?_
                | refine Br.nay rfl ?_
                | refine Br.dec (fun hh => absurd hh (by omega)) (fun _ => ?_)
                | refine Br.eqi (fun _ => ?_) (fun _ => ?_)
                | refine ⟨_, st.cell 0 (i := 0) rfl rfl, ?_⟩
                | refine ⟨_, _, _, _, _, _, st.rowAt 0 rfl rfl, _, _, _, _, _, _, st.rowAt 5 rfl rfl, ?_⟩
                | refine Br.nay (by simp) ?_
                | fail
          · have := hbg rfl
            rw [hs2] at this
            cases this
      · have hno : x'.slot = none := by
          cases hh : x'.slot with
          | none => rfl
          | some o => exact absurd (hsl.1 (by rw [hh]; rfl)).1 hs0
        cases hs1 : x.slot with
        | none =>
          rw [hs1, hno] at st
          rw [hno]
          cases bg
          · repeat' first
              | exact LetI.id (by omega) (by omega) ⟨_, by omega, i + 1, seq, tried, refused, now, epoch, x', p2, k2, bs, by simp, rfl, by omega, by omega, by omega, by omega, by omega, hB2, hO, st.pick [1, 2, 3, 4, 6, 7] rfl (by decide)⟩
              | refine Br.sure rfl ?_
              | refine Br.nay rfl ?_
              | refine Br.dec (fun hh => absurd hh (by omega)) (fun _ => ?_)
              | refine Br.eqi (fun _ => ?_) (fun _ => ?_)
              | refine ⟨_, st.cell 0 (i := 0) rfl rfl, ?_⟩
              | refine ⟨_, _, _, _, _, _, st.rowAt 0 rfl rfl, _, _, _, _, _, _, st.rowAt 5 rfl rfl, ?_⟩
              | refine Br.nay (by simp) ?_
              | fail
          · repeat' first
              | exact LetI.id (by omega) (by omega) ⟨_, by omega, i + 1, seq, tried, refused, now, epoch, x', p2, k2, bs, by simp, rfl, by omega, by omega, by omega, by omega, by omega, hB2, hO, st.pick [1, 2, 3, 4, 6, 7] rfl (by decide)⟩
              | refine Br.sure rfl ?_
              | refine Br.nay rfl ?_
              | refine Br.dec (fun hh => absurd hh (by omega)) (fun _ => ?_)
              | refine Br.eqi (fun _ => ?_) (fun _ => ?_)
              | refine ⟨_, st.cell 0 (i := 0) rfl rfl, ?_⟩
              | refine ⟨_, _, _, _, _, _, st.rowAt 0 rfl rfl, _, _, _, _, _, _, st.rowAt 5 rfl rfl, ?_⟩
              | refine Br.nay (by simp) ?_
              | fail
        | some o1 =>
          cases bg
          · have := hkeep rfl (by rw [hs1]; rfl)
            rw [hs1, hno] at this
            cases this
          · rw [hs1, hno] at st
            rw [hno]
            repeat' first
              | exact LetI.id (by omega) (by omega) ⟨_, by omega, i + 1, seq, tried, refused, now, epoch, x', p2, k2, bs, by simp, rfl, by omega, by omega, by omega, by omega, by omega, hB2, hO, st.pick [1, 2, 3, 4, 6, 7] rfl (by decide)⟩
              | refine Br.sure rfl ?_
              | refine Br.nay rfl ?_
              | refine Br.dec (fun hh => absurd hh (by omega)) (fun _ => ?_)
              | refine Br.eqi (fun _ => ?_) (fun _ => ?_)
              | refine ⟨_, st.cell 0 (i := 0) rfl rfl, ?_⟩
              | refine ⟨_, _, _, _, _, _, st.rowAt 0 rfl rfl, _, _, _, _, _, _, st.rowAt 5 rfl rfl, ?_⟩
              | refine Br.nay (by simp) ?_
              | fail
  · refine Pu.go kcalled_pu st ?_; clear st; intro w st
    exact ⟨_, rfl, rfl, st.kp⟩
end Go.Proofs.Ytljipmhkpnigkaa

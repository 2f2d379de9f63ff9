/- ClientBudget: the walk. -/
import Derived.Test.YtljipmhkpnigkaaKG
import Derived.Test.YtljipmhkpnigkaaKJ
import Derived.Test.YtljipmhkpnigkaaDK4
namespace Go.Proofs.Ytljipmhkpnigkaa
open Go.Vc Go.Codec

/-- a byte -/
abbrev U8S := { n : Int // 0 ≤ n ∧ n ≤ 255 }
abbrev tkE (x : U8S) : List Value := [.int .u8 x.1]
abbrev TkAt (w : World) (p : Option Addr) (l : List U8S) : Prop := ElAt tkE 1 w p l
theorem setsL_all' {l cs : List Value} (h : l.length = cs.length) : setsL cs 0 l = l := by
  rw [setsL_eq l cs 0 (by omega)]
  simp [h]
theorem tm_in {n m : Int} (h : 0 ≤ n) (hm : 0 < m) : 0 ≤ n.tmod m ∧ n.tmod m < m := ⟨Int.tmod_nonneg _ h, Int.tmod_lt_of_pos _ hm⟩
section
variable {S : Nat → Prop} {w0 w : World} {L2 : List Atom} {b : Nat} {c : Cfg} {cp : Option Addr} {cn ck : Nat} {x : Clt} {p : Option Addr} {k bt bs : Nat}
theorem dropL {X L : List Atom} (st : St S w0 w (X ++ L)) : St S w0 w L :=
  st.drop (· + X.length) (fun _ _ h => by omega) (fun k A hA => by rw [List.getElem?_append_right (by omega)]; simpa using hA)
theorem ktake_goB (st : St S w0 w (clA b c cp cn ck x p k bt bs ++ L2)) (hx : okK x) {f : Frm} {nd sn : Int} (hm : f.ch.mem = [(nd, sn)]) (now : Int) {bm t kf : Nat} (j : Nat) (hj : L2[j]? = some (.blk bm t [.int .i64 nd, .int .i64 sn])) {R : Ending → World → Prop}
    (hR : ∀ q n m X p2 k2 w', Snt (Clt.takeC c x f now).2 (.slice q n m) X → St S w0 w' ((X ++ clA b c cp cn ck (Clt.takeC c x f now).1 p2 k2 bt bs) ++ L2) → R (.returned (.slice q n m)) w') :
    Ca Try.prog 40 #[.pointer (some ⟨b, 0, none⟩), frmV f (some ⟨bm, 0, none⟩) kf, .int .i64 now] w R := by
  have hrow : (clA b c cp cn ck x p k bt bs ++ L2)[4 + j]? = some (.blk bm t [.int .i64 nd, .int .i64 sn]) := by
    rw [List.getElem?_append_right (by show 4 ≤ 4 + j; omega)]
    show L2[4 + j - 4]? = _
    rw [show 4 + j - 4 = j by omega]; exact hj
  have hM : MemAt w (some ⟨bm, 0, none⟩) [(nd, sn)] := fun i hi => by
    obtain rfl : i = 0 := by simpa using hi
    exact ⟨_, rfl, st.rowAt (4 + j) hrow rfl⟩
  rw [← hm] at hM
  refine Ca.mono (ktake_ca hx (by rw [hm]; show 1 ≤ 1000; decide) now hM ?_ st.enter) ?_
  · intro a ha hft
    obtain ⟨i, A, hA, hg⟩ := feet_mem.1 hft
    have hi : i < 4 := by
      rcases Nat.lt_or_ge i 4 with h | h
      · exact h
      · rw [List.getElem?_eq_none (by show 4 ≤ i; omega)] at hA; cases hA
    refine st.disj i (4 + j) A _ (by omega) (app_left hA) hrow a.block hg ?_
    cases ha
    rfl
  · rintro e w' ⟨L', ⟨q, n, m, X, p2, k2, rfl, hX, rfl⟩, st'⟩
    exact hR q n m X p2 k2 w' hX (st.leave st')
end
abbrev frR2 (s t : Int) : Frm := ⟨3, fun i => if i = 2 then s else if i = 3 then t else if i = 6 then 1 else 0, .none, .none, .none, .none⟩
abbrev restB (bch bm bcf : Nat) (c : Cfg) (p : Option Addr) (k : Nat) : List Atom := [.blk bch 53 (frmL frK (some ⟨bm, 0, none⟩) 1), .blk bm 64 [.int .i64 0, .int .i64 1], .blk bcf 24 (cfL c p c.quanta.length k), .row 0 3 1 (.slice p c.quanta.length k) c.quanta.length (cellsOf intE c.quanta)]
set_option maxRecDepth 100000 in
set_option maxHeartbeats 8000000 in
theorem lawKBudget_pw {w0 : World} {c0 : Cfg} {p0 : Option Addr} {n k : Nat} (hM : IntAt w0 p0 c0.quanta) (hn : n = c0.quanta.length) {l : List U8S} {pl : Option Addr} {nl kl : Nat} (hA : TkAt w0 pl l) (hnl : nl = l.length) :
    Pw Try.prog 11 #[cfV c0 p0 n k, .slice pl nl kl] (.bool true) w0 := by
  subst hn hnl
  have st : St No w0 w0 [] := St.start w0
  refine lawKBudget_ok _ _ _ _ _ _ _ _ _ _ _ _ _ _ _ _ _ _ _ ?_
  unfold lawKBudget
  refine St.alloc st ?_; clear st; intro bcf w st
  refine ⟨_, _, _, st.cell 0 (i := 3) rfl rfl, Br.dec (fun h1 => ?_) (fun h1 => ?_)⟩
  · refine Pu.go kcalled_pu st ?_; clear st; intro w st
    exact ⟨_, rfl, rfl, st.kp⟩
  refine Br.dec (fun h2 => ?_) (fun h2 => ?_)
  · refine Pu.go kcalled_pu st ?_; clear st; intro w st
    exact ⟨_, rfl, rfl, st.kp⟩
  refine ⟨_, _, _, _, _, _, _, _, _, _, _, _, _, _, st.rowAt 0 rfl rfl, ?_⟩
  refine (rfit_ca (c := c0) (hM.no st.kp) rfl (by omega)).mono ?_
  rintro _ w1 ⟨_, rfl, pz, kz, rfl, ho, hk1⟩
  replace st := st.pushRow0 hk1 ho (Nat.le_refl _)
  clear ho hk1
  have hc := fitS_ok c0
  generalize fitS c0 = c at hc st ⊢
  refine ⟨_, _, _, _, _, _, _, _, _, _, _, _, _, _, rfl, st.wrRow 1 rfl rfl rfl, ?_⟩
  refine St.storeRow st 1 rfl ?_; clear st; intro w st
  replace st : St No w0 w [.row 0 3 1 (.slice pz c.quanta.length kz) c.quanta.length (cellsOf intE c.quanta), .blk bcf 24 (cfL c pz c.quanta.length kz)] := st
  have hcap := owns_cap (st.hold 0 _ rfl)
  obtain ⟨hbud1, hbud2⟩ := hc.budget
  obtain ⟨hfil1, hfil2⟩ := hc.refill
  have hcl := hc.clients.1
  refine ⟨_, _, _, _, _, _, _, _, _, _, _, _, _, _, st.rowAt 1 rfl rfl, ?_⟩
  refine (knew_ca (c := c) (id := 0) (ElAt.of_owns intE_len (st.hold 0 _ rfl) rfl) rfl hcap.1 hcap.2 hc (by omega)).mono ?_
  rintro _ w1 ⟨b, bt, bs, rfl, st1⟩
  replace st := st.made st1
  clear st1
  refine ⟨_, _, rfl, Br.nay rfl ?_⟩
  refine St.alloc st ?_; clear st; intro bm w st
  refine St.alloc st ?_; clear st; intro bch w st
  refine ⟨st.wrRow 0 rfl rfl rfl, ?_⟩
  refine St.storeRow st 0 rfl ?_; clear st; intro w st
  rw [setsL_all' (by rfl)] at st
  replace st : St No w0 w ([] ++ (clA b c pz c.quanta.length kz (newC c 0) none 0 bt bs ++ restB bch bm bcf c pz kz)) := st.pick [2, 3, 4, 5, 0, 1, 7, 6] rfl (by decide)
  refine ⟨fun q v w' => ∃ (i : Nat) (calls now tries : Int) (x : Clt) (X : List Atom) (p2 : Option Addr) (k2 bs : Nat), v = [.int .i64 calls, .int .i64 now, .int .i64 tries, .bool false, .int .i64 (i : Int)] ∧ q = l.length - i ∧ i ≤ l.length ∧ (0 ≤ calls ∧ calls ≤ i) ∧ (0 ≤ now ∧ now ≤ 9 * i) ∧ 0 ≤ tries ∧ BI c x now calls tries ∧ St No w0 w' (X ++ (clA b c pz c.quanta.length kz x p2 k2 bt bs ++ restB bch bm bcf c pz kz)), ⟨_, 0, 0, 0, 0, newC c 0, [], none, 0, bs, rfl, rfl, by omega, by omega, by omega, by omega, newC_BI hc 0, st⟩, ?_⟩
  clear st
  rintro calls now tries _ _ _ w ⟨i, _, _, _, x, X, p2, k2, bs, hv, rfl, hi, hcs, hnow, ht, hB, st⟩
  obtain ⟨rfl, rfl, rfl, rfl, rfl⟩ : _ ∧ _ ∧ _ ∧ _ ∧ _ := by simpa using hv
  clear hv
  refine Br.dec (fun h3 => ?_) (fun h3 => ?_)
  · refine Tk.go (kcall_tk (x := x) (hB.okK hc (by omega)) rfl ⟨2, [107], [], 0⟩ 0 549755813888 now) (dropL st) ?_
    clear st
    rintro _ _ w ⟨q, n, m, X, bs, rfl, hX, rfl⟩ st
    rw [List.append_assoc] at st
    have hB2 := hB.callC hc ⟨2, [107], [], 0⟩ 0 549755813888 (by omega)
    clear hB
    generalize Clt.callC c x ⟨2, [107], [], 0⟩ 0 549755813888 now = y at hB2 hX st ⊢
    obtain ⟨x, code, o⟩ := y
    dsimp only at hB2 hX st
    refine ⟨_, _, _, _, rfl, ?_⟩
    refine ⟨fun v w' => v = [.int .i64 (calls + if code = 0 then 1 else 0)] ∧ St No w0 w' (X ++ (clA b c pz c.quanta.length kz x p2 k2 bt bs ++ restB bch bm bcf c pz kz)), ?_, ?_⟩
    · refine Br.eqi (fun h4 => ?_) (fun h4 => ?_)
      · refine LetI.id (by omega) (by omega) ⟨?_, st⟩
        rw [if_pos h4]
      · refine ⟨?_, st⟩
        rw [if_neg h4, Int.add_zero]
    clear st
    rintro _ w ⟨hv, st⟩
    have hc1 : 0 ≤ calls + (if code = 0 then 1 else 0) ∧ calls + (if code = 0 then 1 else 0) ≤ i + 1 := by split <;> omega
    clear hcs
    generalize hcd : calls + (if code = 0 then 1 else 0) = calls' at hv hB2 hc1
    obtain rfl : _ = calls' := by simpa using hv
    clear hv hcd calls
    rename_i calls
    refine ⟨fun q v w' => ∃ (kk : Nat) (t : Int) (o : Option (Int × Frm)) (X : List Atom) (sp : Option Addr) (sn sk : Nat) (x : Clt) (p2 : Option Addr) (k2 : Nat) (tries : Int), v = [.int .i64 t, .slice sp sn sk, .int .i64 tries, .int .i64 (kk : Int)] ∧ q = 9 - kk ∧ kk ≤ 9 ∧ now ≤ t ∧ t ≤ now + kk ∧ Snt o (.slice sp sn sk) X ∧ BI c x t calls (tries + outN o) ∧ 0 ≤ tries ∧ St No w0 w' (X ++ (clA b c pz c.quanta.length kz x p2 k2 bt bs ++ restB bch bm bcf c pz kz)), ⟨_, 0, now, o, X, q, n, m, x, p2, k2, tries, rfl, rfl, by omega, by omega, by omega, hX, hB2, ht, st⟩, ?_⟩
    clear st ht hB2 hX tries
    rintro t sp sn sk tries _ _ w ⟨kk, _, o, X, _, _, _, x, p2, k2, _, hv, rfl, hkk, ht1, ht2, hX, hB, ht, st⟩
    obtain ⟨rfl, ⟨rfl, rfl, rfl⟩, rfl, rfl⟩ : _ ∧ (_ ∧ _ ∧ _) ∧ _ ∧ _ := by simpa using hv
    clear hv
    obtain ⟨a, ha, hr⟩ := hA i (by omega)
    replace hr := Row.kp st.kp (not_no _) hr
    have h8 := (l[i]'(by omega)).2
    have htm := tm_in h8.1 (show (0 : Int) < 9 by omega)
    refine NilOk.intro ha ⟨⟨by omega, by omega⟩, _, hr.1, LetI.id (by omega) (by omega) ⟨by omega, LetI.of ?_⟩⟩
    refine Br.dec (fun h4 => ?_) (fun h4 => ?_)
    · refine Br.dec (fun h5 => ?_) (fun h5 => ?_)
      · refine LetI.id (by omega) (by omega) ?_
        have hfw := hB.fewer hc (m' := tries) (by have := outN_in o; omega)
        refine Tk.go (ktick_tk (hfw.okK hc (by omega)) ⟨by have := hc.timeout.1; omega, by have := hc.timeout.2; omega⟩ (t + 1)) (dropL st) ?_
        clear st hX
        rintro _ _ w ⟨sp, sn, sk, X, rfl, hX, rfl⟩ st
        rw [List.append_assoc] at st
        obtain ⟨hB3, ho⟩ := (hfw.later (now' := t + 1) (by omega)).tickC hc (by omega)
        clear hB hfw
        have hB : BI c (Clt.tickC c x (t + 1)).1 (t + 1) calls (tries + outN (Clt.tickC c x (t + 1)).2) := by rw [ho, Int.add_zero]; exact hB3
        clear hB3 ho
        generalize Clt.tickC c x (t + 1) = y at hB hX st
        obtain ⟨x, o⟩ := y
        dsimp only at hB hX st
        refine ⟨_, _, _, rfl, ?_⟩
        refine ⟨fun q v w' => ∃ (j : Nat) (o : Option (Int × Frm)) (X : List Atom) (sp : Option Addr) (sn sk : Nat) (x : Clt) (p2 : Option Addr) (k2 : Nat) (tries : Int), v = [.slice sp sn sk, .int .i64 tries, .int .i64 (j : Int)] ∧ q = 3 - j ∧ j ≤ 3 ∧ Snt o (.slice sp sn sk) X ∧ BI c x (t + 1) calls (tries + outN o) ∧ 0 ≤ tries ∧ St No w0 w' (X ++ (clA b c pz c.quanta.length kz x p2 k2 bt bs ++ restB bch bm bcf c pz kz)), ⟨_, 0, o, X, sp, sn, sk, x, p2, k2, tries, rfl, rfl, by omega, hX, hB, ht, st⟩, ?_⟩
        clear st ht hB hX
        rintro sp sn sk tries _ _ w ⟨j, o, X, _, _, _, x, p2, k2, _, hv, rfl, hj, hX, hB, ht, st⟩
        obtain ⟨⟨rfl, rfl, rfl⟩, rfl, rfl⟩ : (_ ∧ _ ∧ _) ∧ _ ∧ _ := by simpa using hv
        clear hv
        have hfew := (hB.fewer hc (m' := tries) (by have := outN_in o; omega)).few hc
        have hdiv := div_le (t + 1) c.refill (by omega) hc.refill.1
        refine Br.dec (fun h5 => ?_) (fun h5 => ?_)
        · refine Br.dec (fun h6 => ?_) (fun h6 => ?_)
          · have hX0 := hX
            rcases hX with ⟨rfl, hv, rfl⟩ | ⟨to, f, g, rfl, hv, rfl⟩
            · cases hv; exact absurd h6 (by omega)
            · cases hv
              refine NilOk.intro rfl ⟨⟨by omega, by omega⟩, _, st.cell 0 (i := 1) rfl rfl, Br.eqi (fun h7 => ?_) (fun h7 => ?_)⟩
              · refine ⟨_, _, _, _, _, _, _, _, _, _, _, _, _, _, _, _, _, _, _, _, _, _, _, _, _, _, _, _, _, _, _, st.rowAt 5 rfl rfl, ?_⟩
                refine ktake_goB (f := frK) st.tail (hB.okK hc (by omega)) rfl (t + 1) 1 rfl ?_
                clear st
                intro q n m X p3 k3 w hX st
                rw [List.append_assoc] at st
                have hB2 := (hB.takeC hc frK (by decide) (by omega)).fewer hc (m' := tries + outN (Clt.takeC c x frK (t + 1)).2) (by have := outN_in (some (to, f)); omega)
                exact ⟨_, _, _, rfl, LetI.id (by omega) (by omega) ⟨_, by omega, j + 1, _, X, q, n, m, _, p3, k3, tries, rfl, rfl, by omega, hX, hB2, ht, st⟩⟩
              · have ho : outN (some (to, f)) = 1 := if_neg h7
                rw [ho] at hB
                refine LetI.id (by omega) (by omega) ?_
                refine Pw.go (kseq_pw (st.hold 1 _ rfl)) st ?_; clear st; intro w st
                refine ⟨_, rfl, ?_⟩
                refine Pw.go (ktries_pw (st.hold 1 _ rfl)) st ?_; clear st; intro w st
                refine ⟨_, rfl, ?_⟩
                refine ktake_go0 (f := frR2 (x.call.nums 2) (x.call.nums 3)) st.tail (hB.okK hc (by omega)) rfl (t + 1) ?_
                clear st
                intro q n m X p3 k3 w hX st
                rw [List.append_assoc] at st
                have hB2 := hB.takeC hc (frR2 (x.call.nums 2) (x.call.nums 3)) (Nat.zero_le _) (by omega)
                exact ⟨_, _, _, rfl, LetI.id (by omega) (by omega) ⟨_, by omega, j + 1, _, X, q, n, m, _, p3, k3, tries + 1, rfl, rfl, by omega, hX, hB2, by omega, st⟩⟩
          · refine LetI.id (by omega) (by omega) ⟨_, by omega, kk + 1, (t + 1), o, X, sp, sn, sk, x, p2, k2, tries, by simp, rfl, by omega, by omega, by omega, hX, hB, ht, st⟩
        · refine LetI.id (by omega) (by omega) ⟨_, by omega, kk + 1, (t + 1), o, X, sp, sn, sk, x, p2, k2, tries, by simp, rfl, by omega, by omega, by omega, hX, hB, ht, st⟩
      · replace h5 : kk = 0 := by omega
        refine ⟨fun q v w' => ∃ (j : Nat) (o : Option (Int × Frm)) (X : List Atom) (sp : Option Addr) (sn sk : Nat) (x : Clt) (p2 : Option Addr) (k2 : Nat) (tries : Int), v = [.slice sp sn sk, .int .i64 tries, .int .i64 (j : Int)] ∧ q = 3 - j ∧ j ≤ 3 ∧ Snt o (.slice sp sn sk) X ∧ BI c x t calls (tries + outN o) ∧ 0 ≤ tries ∧ St No w0 w' (X ++ (clA b c pz c.quanta.length kz x p2 k2 bt bs ++ restB bch bm bcf c pz kz)), ⟨_, 0, o, X, sp, sn, sk, x, p2, k2, tries, rfl, rfl, by omega, hX, hB, ht, st⟩, ?_⟩
        clear st ht hB hX
        rintro sp sn sk tries _ _ w ⟨j, o, X, _, _, _, x, p2, k2, _, hv, rfl, hj, hX, hB, ht, st⟩
        obtain ⟨⟨rfl, rfl, rfl⟩, rfl, rfl⟩ : (_ ∧ _ ∧ _) ∧ _ ∧ _ := by simpa using hv
        clear hv
        have hfew := (hB.fewer hc (m' := tries) (by have := outN_in o; omega)).few hc
        have hdiv := div_le t c.refill (by omega) hc.refill.1
        refine Br.dec (fun h5 => ?_) (fun h5 => ?_)
        · refine Br.dec (fun h6 => ?_) (fun h6 => ?_)
          · have hX0 := hX
            rcases hX with ⟨rfl, hv, rfl⟩ | ⟨to, f, g, rfl, hv, rfl⟩
            · cases hv; exact absurd h6 (by omega)
            · cases hv
              refine NilOk.intro rfl ⟨⟨by omega, by omega⟩, _, st.cell 0 (i := 1) rfl rfl, Br.eqi (fun h7 => ?_) (fun h7 => ?_)⟩
              · refine ⟨_, _, _, _, _, _, _, _, _, _, _, _, _, _, _, _, _, _, _, _, _, _, _, _, _, _, _, _, _, _, _, st.rowAt 5 rfl rfl, ?_⟩
                refine ktake_goB (f := frK) st.tail (hB.okK hc (by omega)) rfl t 1 rfl ?_
                clear st
                intro q n m X p3 k3 w hX st
                rw [List.append_assoc] at st
                have hB2 := (hB.takeC hc frK (by decide) (by omega)).fewer hc (m' := tries + outN (Clt.takeC c x frK t).2) (by have := outN_in (some (to, f)); omega)
                exact ⟨_, _, _, rfl, LetI.id (by omega) (by omega) ⟨_, by omega, j + 1, _, X, q, n, m, _, p3, k3, tries, rfl, rfl, by omega, hX, hB2, ht, st⟩⟩
              · have ho : outN (some (to, f)) = 1 := if_neg h7
                rw [ho] at hB
                refine LetI.id (by omega) (by omega) ?_
                refine Pw.go (kseq_pw (st.hold 1 _ rfl)) st ?_; clear st; intro w st
                refine ⟨_, rfl, ?_⟩
                refine Pw.go (ktries_pw (st.hold 1 _ rfl)) st ?_; clear st; intro w st
                refine ⟨_, rfl, ?_⟩
                refine ktake_go0 (f := frR2 (x.call.nums 2) (x.call.nums 3)) st.tail (hB.okK hc (by omega)) rfl t ?_
                clear st
                intro q n m X p3 k3 w hX st
                rw [List.append_assoc] at st
                have hB2 := hB.takeC hc (frR2 (x.call.nums 2) (x.call.nums 3)) (Nat.zero_le _) (by omega)
                exact ⟨_, _, _, rfl, LetI.id (by omega) (by omega) ⟨_, by omega, j + 1, _, X, q, n, m, _, p3, k3, tries + 1, rfl, rfl, by omega, hX, hB2, by omega, st⟩⟩
          · refine LetI.id (by omega) (by omega) ⟨_, by omega, kk + 1, t, o, X, sp, sn, sk, x, p2, k2, tries, by simp, rfl, by omega, by omega, by omega, hX, hB, ht, st⟩
        · refine LetI.id (by omega) (by omega) ⟨_, by omega, kk + 1, t, o, X, sp, sn, sk, x, p2, k2, tries, by simp, rfl, by omega, by omega, by omega, hX, hB, ht, st⟩
    · replace st := (dropL st)
      have hfew := (hB.fewer hc (m' := tries) (by have := outN_in o; omega)).few hc
      have hdiv := div_le t c.refill (by omega) hfil1
      refine ⟨_, st.cell 6 (i := 10) rfl rfl, LetI.id (by omega) (by omega) ⟨_, st.cell 6 (i := 11) rfl rfl, by omega, ?_⟩⟩
      rw [Int.tdiv_eq_ediv_of_nonneg (by omega)]
      refine LetI.id (by omega) (by omega) (LetI.id (by omega) (by omega) (Br.dec (fun h6 => absurd h6 (by omega)) (fun _ => ?_)))
      refine LetI.id (by omega) (by omega) ⟨_, by omega, i + 1, calls, t, tries, x, [], p2, k2, bs, by simp, rfl, by omega, by omega, by omega, ht, hB.fewer hc (by have := outN_in o; omega), st⟩
  · refine Pu.go kcalled_pu st ?_; clear st; intro w st
    exact ⟨_, rfl, rfl, st.kp⟩
end Go.Proofs.Ytljipmhkpnigkaa

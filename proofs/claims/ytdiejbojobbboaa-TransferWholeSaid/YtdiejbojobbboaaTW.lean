/- The law TransferWhole: what it tells is true for every input. -/
import Derived.Test.YtdiejbojobbboaaTV
import Derived.Test.YtdiejbojobbboaaDW
namespace Go.Proofs.Ytdiejbojobbboaa
open Go.Vc Go.Tr

abbrev twoE (x : Int × Int) : List Value := [.int .u8 x.1, .int .u8 x.2]
abbrev TwoAt (w : World) (p : Option Addr) (l : List (Int × Int)) : Prop := ElAt twoE 2 w p l
abbrev intE (n : Int) : List Value := [.int .i64 n]
theorem intE_len (n : Int) : (intE n).length = 1 := rfl
theorem intE_plain (n : Int) : ∀ u ∈ intE n, notAgg u = true := by simp [intE, notAgg]
theorem infoPc : (Try.prog.info? 32).map (fun i => (i.zero, i.size, i.bytes)) = some (some (.agg #[.int .i64 0, .int .i64 0, .int .i64 0, .string (mk [])]), 4, 40) := by kernel_rfl
theorem infoInt : (Try.prog.info? 3).map (fun i => (i.zero, i.size, i.bytes)) = some (some (.int .i64 0), 1, 8) := by kernel_rfl
theorem sizePc : sizeT Try.prog 32 = 4 := by kernel_rfl
abbrev mailA (l : List Pc) (p : Option Addr) (k : Nat) : Atom := .row 0 32 4 (.slice p l.length k) l.length (cellsOf pcE l)
abbrev toldA (l : List Int) (p : Option Addr) (k : Nat) : Atom := .row 0 3 1 (.slice p l.length k) l.length (cellsOf intE l)
set_option maxRecDepth 100000 in
set_option maxHeartbeats 16000000 in
theorem lawTWhole_pw {w0 : World} {n k0 : Nat} {pl : Option Addr} {l : List (Int × Int)} (text : List UInt8) {n2 n3 : Int} (h2 : 0 ≤ n2 ∧ n2 ≤ 255) (h3 : 0 ≤ n3 ∧ n3 ≤ 255) (hM : TwoAt w0 pl l) (hn : n = l.length) (hr8 : ∀ x ∈ l, (0 ≤ x.1 ∧ x.1 ≤ 255) ∧ (0 ≤ x.2 ∧ x.2 ≤ 255)) :
    Pw Try.prog 5 #[.string (mk text), .agg #[.int .u8 n2, .int .u8 n3], .slice pl n k0] (.bool true) w0 := by
  subst hn
  have st : St No w0 w0 [] := St.start w0
  obtain ⟨i0, hi0, hz0, hsi0, hbi0⟩ := info_at infoPc
  obtain ⟨i1, hi1, hz1, hsi1, hbi1⟩ := info_at infoInt
  have hmt : (mk text).size = text.length := rfl
  refine lawTWhole_ok _ _ _ _ _ _ _ _ ?_
  unfold lawTWhole
  refine St.alloc st ?_; clear st; intro bz w st
  refine Br.dec (fun h => ?_) (fun ht => ?_)
  · repeat' first
      | (with_reducible refine St.alloc st ?_; (try clear st); intro b w st)
      | with_reducible refine sz_and (by (repeat rw [ByteArray.size_append]); omega) ?_
      | (refine Pu.go (gone_pu) st ?_; (try clear st); intro w st; refine ⟨_, rfl, ?_⟩)
      | (with_reducible apply ex0c; case h => first | exact St.cell st 0 rfl rfl | exact St.cell st 1 rfl rfl | exact St.cell st 2 rfl rfl | exact St.cell st 3 rfl rfl | fail)
      | (with_reducible apply ex1c; case h => first | exact St.cell st 0 rfl rfl | exact St.cell st 1 rfl rfl | exact St.cell st 2 rfl rfl | exact St.cell st 3 rfl rfl | fail)
      | (with_reducible apply ex3c; case h => first | exact St.cell st 0 rfl rfl | exact St.cell st 1 rfl rfl | exact St.cell st 2 rfl rfl | exact St.cell st 3 rfl rfl | fail)
      | (with_reducible apply ex0r; case h => first | exact St.rows st 0 rfl | exact St.rows st 1 rfl | exact St.rows st 2 rfl | exact St.rows st 3 rfl | fail)
      | (with_reducible apply exr2; case h => first | exact St.rows st 0 rfl | exact St.rows st 1 rfl | exact St.rows st 2 rfl | exact St.rows st 3 rfl | fail)
      | (with_reducible apply exr3; case h => first | exact St.rows st 0 rfl | exact St.rows st 1 rfl | exact St.rows st 2 rfl | exact St.rows st 3 rfl | fail)
      | (with_reducible apply exr4; case h => first | exact St.rows st 0 rfl | exact St.rows st 1 rfl | exact St.rows st 2 rfl | exact St.rows st 3 rfl | fail)
      | (with_reducible apply exr5; case h => first | exact St.rows st 0 rfl | exact St.rows st 1 rfl | exact St.rows st 2 rfl | exact St.rows st 3 rfl | fail)
      | (with_reducible apply exr6; case h => first | exact St.rows st 0 rfl | exact St.rows st 1 rfl | exact St.rows st 2 rfl | exact St.rows st 3 rfl | fail)
      | (with_reducible apply exWr; case h => first | exact St.wr st 0 rfl rfl | exact St.wr st 1 rfl rfl | exact St.wr st 2 rfl rfl | exact St.wr st 3 rfl rfl | fail)
      | (with_reducible apply exWrRow; case h => first | exact St.wrRow st 0 rfl rfl rfl | exact St.wrRow st 1 rfl rfl rfl | exact St.wrRow st 2 rfl rfl rfl | exact St.wrRow st 3 rfl rfl rfl | fail)
      | (with_reducible refine LetW.cell ?_; (first | refine St.store st 0 rfl ?_ | refine St.store st 1 rfl ?_ | refine St.store st 2 rfl ?_ | refine St.store st 3 rfl ?_ | fail); (try clear st); intro w st; simp only [List.set] at st)
      | (with_reducible refine LetW.rows ?_; (first | refine St.storeRow st 0 rfl ?_ | refine St.storeRow st 1 rfl ?_ | refine St.storeRow st 2 rfl ?_ | refine St.storeRow st 3 rfl ?_ | fail); (try clear st); intro w st; simp only [List.set, setsL] at st)
      | ((with_reducible apply exr4); case h => first | exact St.rowAt st 0 rfl rfl | exact St.rowAt st 1 rfl rfl | exact St.rowAt st 2 rfl rfl | exact St.rowAt st 3 rfl rfl | fail)
      | ((with_reducible apply exr5); case h => first | exact St.rowAt st 0 rfl rfl | exact St.rowAt st 1 rfl rfl | exact St.rowAt st 2 rfl rfl | exact St.rowAt st 3 rfl rfl | fail)
      | ((with_reducible apply exr6); case h => first | exact St.rowAt st 0 rfl rfl | exact St.rowAt st 1 rfl rfl | exact St.rowAt st 2 rfl rfl | exact St.rowAt st 3 rfl rfl | fail)
      | with_reducible refine LetI.id (by omega) (by omega) ?_
      | with_reducible refine Br.dec (fun h => ?_) (fun h => ?_)
      | with_reducible refine Br.eqi (fun h => ?_) (fun h => ?_)
      | with_reducible refine Br.nei (fun h => ?_) (fun h => ?_)
      | with_reducible refine Br.eqs' (fun h => ?_) (fun h => ?_)
      | with_reducible refine Br.eqs (fun h => ?_) (fun h => ?_)
      | with_reducible refine Br.not ?_
      | with_reducible refine Br.and_ ?_
      | with_reducible refine Br.sure rfl ?_
      | with_reducible refine Br.nay rfl ?_
      | with_reducible refine Br.eqb (fun h => ?_) (fun h => ?_)
      | with_reducible refine Br.bool (fun h => ?_) (fun h => ?_)
      | fail
    exact ⟨rfl, st.kp⟩
  refine Br.dec (fun h => ?_) (fun hlen => ?_)
  · repeat' first
      | (with_reducible refine St.alloc st ?_; (try clear st); intro b w st)
      | with_reducible refine sz_and (by (repeat rw [ByteArray.size_append]); omega) ?_
      | (refine Pu.go (gone_pu) st ?_; (try clear st); intro w st; refine ⟨_, rfl, ?_⟩)
      | (with_reducible apply ex0c; case h => first | exact St.cell st 0 rfl rfl | exact St.cell st 1 rfl rfl | exact St.cell st 2 rfl rfl | exact St.cell st 3 rfl rfl | fail)
      | (with_reducible apply ex1c; case h => first | exact St.cell st 0 rfl rfl | exact St.cell st 1 rfl rfl | exact St.cell st 2 rfl rfl | exact St.cell st 3 rfl rfl | fail)
      | (with_reducible apply ex3c; case h => first | exact St.cell st 0 rfl rfl | exact St.cell st 1 rfl rfl | exact St.cell st 2 rfl rfl | exact St.cell st 3 rfl rfl | fail)
      | (with_reducible apply ex0r; case h => first | exact St.rows st 0 rfl | exact St.rows st 1 rfl | exact St.rows st 2 rfl | exact St.rows st 3 rfl | fail)
      | (with_reducible apply exr2; case h => first | exact St.rows st 0 rfl | exact St.rows st 1 rfl | exact St.rows st 2 rfl | exact St.rows st 3 rfl | fail)
      | (with_reducible apply exr3; case h => first | exact St.rows st 0 rfl | exact St.rows st 1 rfl | exact St.rows st 2 rfl | exact St.rows st 3 rfl | fail)
      | (with_reducible apply exr4; case h => first | exact St.rows st 0 rfl | exact St.rows st 1 rfl | exact St.rows st 2 rfl | exact St.rows st 3 rfl | fail)
      | (with_reducible apply exr5; case h => first | exact St.rows st 0 rfl | exact St.rows st 1 rfl | exact St.rows st 2 rfl | exact St.rows st 3 rfl | fail)
      | (with_reducible apply exr6; case h => first | exact St.rows st 0 rfl | exact St.rows st 1 rfl | exact St.rows st 2 rfl | exact St.rows st 3 rfl | fail)
      | (with_reducible apply exWr; case h => first | exact St.wr st 0 rfl rfl | exact St.wr st 1 rfl rfl | exact St.wr st 2 rfl rfl | exact St.wr st 3 rfl rfl | fail)
      | (with_reducible apply exWrRow; case h => first | exact St.wrRow st 0 rfl rfl rfl | exact St.wrRow st 1 rfl rfl rfl | exact St.wrRow st 2 rfl rfl rfl | exact St.wrRow st 3 rfl rfl rfl | fail)
      | (with_reducible refine LetW.cell ?_; (first | refine St.store st 0 rfl ?_ | refine St.store st 1 rfl ?_ | refine St.store st 2 rfl ?_ | refine St.store st 3 rfl ?_ | fail); (try clear st); intro w st; simp only [List.set] at st)
      | (with_reducible refine LetW.rows ?_; (first | refine St.storeRow st 0 rfl ?_ | refine St.storeRow st 1 rfl ?_ | refine St.storeRow st 2 rfl ?_ | refine St.storeRow st 3 rfl ?_ | fail); (try clear st); intro w st; simp only [List.set, setsL] at st)
      | ((with_reducible apply exr4); case h => first | exact St.rowAt st 0 rfl rfl | exact St.rowAt st 1 rfl rfl | exact St.rowAt st 2 rfl rfl | exact St.rowAt st 3 rfl rfl | fail)
      | ((with_reducible apply exr5); case h => first | exact St.rowAt st 0 rfl rfl | exact St.rowAt st 1 rfl rfl | exact St.rowAt st 2 rfl rfl | exact St.rowAt st 3 rfl rfl | fail)
      | ((with_reducible apply exr6); case h => first | exact St.rowAt st 0 rfl rfl | exact St.rowAt st 1 rfl rfl | exact St.rowAt st 2 rfl rfl | exact St.rowAt st 3 rfl rfl | fail)
      | with_reducible refine LetI.id (by omega) (by omega) ?_
      | with_reducible refine Br.dec (fun h => ?_) (fun h => ?_)
      | with_reducible refine Br.eqi (fun h => ?_) (fun h => ?_)
      | with_reducible refine Br.nei (fun h => ?_) (fun h => ?_)
      | with_reducible refine Br.eqs' (fun h => ?_) (fun h => ?_)
      | with_reducible refine Br.eqs (fun h => ?_) (fun h => ?_)
      | with_reducible refine Br.not ?_
      | with_reducible refine Br.and_ ?_
      | with_reducible refine Br.sure rfl ?_
      | with_reducible refine Br.nay rfl ?_
      | with_reducible refine Br.eqb (fun h => ?_) (fun h => ?_)
      | with_reducible refine Br.bool (fun h => ?_) (fun h => ?_)
      | fail
    exact ⟨rfl, st.kp⟩
  obtain ⟨wn, hwn⟩ : ∃ q : Nat, 1 + n3 % 16 = (q : Int) := ⟨(1 + n3 % 16).toNat, by omega⟩
  obtain ⟨sz, hsz⟩ : ∃ q : Nat, 1 + n2 % 60 = (q : Int) := ⟨(1 + n2 % 60).toNat, by omega⟩
  refine ⟨⟨by decide, by decide⟩, _, st.cell 0 rfl rfl, ?_⟩
  refine LetI.id (by omega) (by omega) ⟨by decide, LetI.of ?_⟩
  rw [Int.tmod_eq_emod_of_nonneg (by omega)]
  refine LetI.id (by omega) (by omega) ?_
  rw [hsz]
  refine ⟨⟨by decide, by decide⟩, _, st.cell 0 rfl rfl, ?_⟩
  refine LetI.id (by omega) (by omega) ⟨by decide, LetI.of ?_⟩
  rw [Int.tmod_eq_emod_of_nonneg (by omega)]
  refine LetI.id (by omega) (by omega) ?_
  rw [hwn]
  have ho : argOk 7 (sz : Int) (wn : Int) := by unfold argOk inB; omega
  have hs0 := newN_ok (l := text) ho (by omega)
  simp only [Int.toNat_natCast] at hs0
  have hI0 : Inv (newN 7 sz text wn) (newN 7 sz text wn) .new 0 0 [] [] :=
    ⟨hs0, rfl, hs0, ⟨rfl, rfl, rfl⟩, ⟨fun x hx => by simp [Rcv.new] at hx, by decide⟩, rfl, .inr ⟨rfl, rfl, rfl⟩, Nat.le_refl _, Nat.zero_le _, fun _ h => (by cases h), fun _ h => (by cases h), Nat.le_refl _, Nat.le_refl _⟩
  have htx : (newN 7 sz text wn).text = text := rfl
  refine (topen_ca (l := text) (by omega)).mono ?_
  rintro _ w1 (⟨hno, _⟩ | ⟨_, bs, pp, kk, rfl, st1⟩)
  · exact absurd ho hno
  replace st := st.made st1
  clear st1
  simp only [Int.toNat_natCast, List.cons_append, List.nil_append] at st
  refine ⟨_, _, rfl, ?_⟩
  refine rnew_go st ?_
  clear st
  intro br w st
  refine ⟨_, rfl, Br.nei (fun h => absurd rfl h) (fun _ => ?_)⟩
  generalize newN 7 sz text wn = s0 at *
  refine ⟨fun m v w' => ∃ (i : Nat) (s : Snd) (r : Rcv) (got sent : Nat) (mail : List Pc) (told : List Int) (p : Option Addr) (k : Nat) (pm : Option Addr) (km : Nat) (pt : Option Addr) (kt : Nat),
    v = [.slice pm mail.length km, .int .i64 (sent : Int), .bool false, .int .i64 (got : Int), .slice pt told.length kt, .int .i64 (i : Int)] ∧ m = l.length - i ∧ i ≤ l.length ∧ Inv s0 s r got sent mail told ∧ mail.length ≤ i ∧ told.length ≤ i ∧
    St No w0 w' [rcvB br r p k, rcvR r p k, sndA bs s pp kk, sndR s0 pp kk, mailA mail pm km, toldA told pt kt],
    ⟨_, 0, s0, .new, 0, 0, [], [], none, 0, none, 0, none, 0, rfl, rfl, Nat.zero_le _, hI0, Nat.le_refl _, Nat.le_refl _, ((st.nil0 3 1).nil0 32 4).pick [2, 3, 4, 5, 0, 1] rfl (by decide)⟩, ?_⟩
  clear st hI0
  rintro pm _ km _ _ _ pt _ kt _ _ w ⟨i, s, r, got, sent, mail, told, p, k, pm1, km1, pt1, kt1, hv, rfl, hi, hI, hml, htl, st⟩
  obtain ⟨⟨rfl, rfl, rfl⟩, rfl, rfl, rfl, ⟨rfl, rfl, rfl⟩, rfl⟩ : _ ∧ _ ∧ _ ∧ _ ∧ _ ∧ _ := by simpa using hv
  clear hv
  refine Br.dec (fun h1 => ?_) (fun h1 => ?_)
  case refine_2 =>
    repeat' first
      | (with_reducible refine St.alloc st ?_; (try clear st); intro b w st)
      | with_reducible refine sz_and (by (repeat rw [ByteArray.size_append]); omega) ?_
      | (refine Pu.go (gone_pu) st ?_; (try clear st); intro w st; refine ⟨_, rfl, ?_⟩)
      | (with_reducible apply ex0c; case h => first | exact St.cell st 0 rfl rfl | exact St.cell st 1 rfl rfl | exact St.cell st 2 rfl rfl | exact St.cell st 3 rfl rfl | fail)
      | (with_reducible apply ex1c; case h => first | exact St.cell st 0 rfl rfl | exact St.cell st 1 rfl rfl | exact St.cell st 2 rfl rfl | exact St.cell st 3 rfl rfl | fail)
      | (with_reducible apply ex3c; case h => first | exact St.cell st 0 rfl rfl | exact St.cell st 1 rfl rfl | exact St.cell st 2 rfl rfl | exact St.cell st 3 rfl rfl | fail)
      | (with_reducible apply ex0r; case h => first | exact St.rows st 0 rfl | exact St.rows st 1 rfl | exact St.rows st 2 rfl | exact St.rows st 3 rfl | fail)
      | (with_reducible apply exr2; case h => first | exact St.rows st 0 rfl | exact St.rows st 1 rfl | exact St.rows st 2 rfl | exact St.rows st 3 rfl | fail)
      | (with_reducible apply exr3; case h => first | exact St.rows st 0 rfl | exact St.rows st 1 rfl | exact St.rows st 2 rfl | exact St.rows st 3 rfl | fail)
      | (with_reducible apply exr4; case h => first | exact St.rows st 0 rfl | exact St.rows st 1 rfl | exact St.rows st 2 rfl | exact St.rows st 3 rfl | fail)
      | (with_reducible apply exr5; case h => first | exact St.rows st 0 rfl | exact St.rows st 1 rfl | exact St.rows st 2 rfl | exact St.rows st 3 rfl | fail)
      | (with_reducible apply exr6; case h => first | exact St.rows st 0 rfl | exact St.rows st 1 rfl | exact St.rows st 2 rfl | exact St.rows st 3 rfl | fail)
      | (with_reducible apply exWr; case h => first | exact St.wr st 0 rfl rfl | exact St.wr st 1 rfl rfl | exact St.wr st 2 rfl rfl | exact St.wr st 3 rfl rfl | fail)
      | (with_reducible apply exWrRow; case h => first | exact St.wrRow st 0 rfl rfl rfl | exact St.wrRow st 1 rfl rfl rfl | exact St.wrRow st 2 rfl rfl rfl | exact St.wrRow st 3 rfl rfl rfl | fail)
      | (with_reducible refine LetW.cell ?_; (first | refine St.store st 0 rfl ?_ | refine St.store st 1 rfl ?_ | refine St.store st 2 rfl ?_ | refine St.store st 3 rfl ?_ | fail); (try clear st); intro w st; simp only [List.set] at st)
      | (with_reducible refine LetW.rows ?_; (first | refine St.storeRow st 0 rfl ?_ | refine St.storeRow st 1 rfl ?_ | refine St.storeRow st 2 rfl ?_ | refine St.storeRow st 3 rfl ?_ | fail); (try clear st); intro w st; simp only [List.set, setsL] at st)
      | ((with_reducible apply exr4); case h => first | exact St.rowAt st 0 rfl rfl | exact St.rowAt st 1 rfl rfl | exact St.rowAt st 2 rfl rfl | exact St.rowAt st 3 rfl rfl | fail)
      | ((with_reducible apply exr5); case h => first | exact St.rowAt st 0 rfl rfl | exact St.rowAt st 1 rfl rfl | exact St.rowAt st 2 rfl rfl | exact St.rowAt st 3 rfl rfl | fail)
      | ((with_reducible apply exr6); case h => first | exact St.rowAt st 0 rfl rfl | exact St.rowAt st 1 rfl rfl | exact St.rowAt st 2 rfl rfl | exact St.rowAt st 3 rfl rfl | fail)
      | with_reducible refine LetI.id (by omega) (by omega) ?_
      | with_reducible refine Br.dec (fun h => ?_) (fun h => ?_)
      | with_reducible refine Br.eqi (fun h => ?_) (fun h => ?_)
      | with_reducible refine Br.nei (fun h => ?_) (fun h => ?_)
      | with_reducible refine Br.eqs' (fun h => ?_) (fun h => ?_)
      | with_reducible refine Br.eqs (fun h => ?_) (fun h => ?_)
      | with_reducible refine Br.not ?_
      | with_reducible refine Br.and_ ?_
      | with_reducible refine Br.sure rfl ?_
      | with_reducible refine Br.nay rfl ?_
      | with_reducible refine Br.eqb (fun h => ?_) (fun h => ?_)
      | with_reducible refine Br.bool (fun h => ?_) (fun h => ?_)
      | fail
    exact ⟨rfl, st.kp⟩
  have hil : i < l.length := by omega
  have hx8 := hr8 _ (List.getElem_mem hil)
  obtain ⟨a, rfl, hr0⟩ := hM i hil
  have hr := Row.kp st.kp (not_no _) hr0
  have hS := hI.same
  have hrow : ∀ s' : Snd, s'.id = s0.id ∧ s'.size = s0.size ∧ s'.text = s0.text → sndR s' pp kk = sndR s0 pp kk := fun s' h => by
    have : s'.total = s0.total := by show cnt _ _ = cnt _ _; rw [h.2.1, h.2.2]
    unfold sndR
    rw [this, h.2.1, h.2.2]
  have hf0 := hI.few; have hf1 := hI.s0ok.few; have hf2 := hI.le; have hf3 := hI.snt
  refine NilOk.intro rfl ⟨⟨by omega, by omega⟩, ⟨by decide, by decide⟩, _, by simpa using Row.get hr (j := 1) rfl, ?_⟩
  refine LetI.id (by omega) (by omega) (NilOk.intro rfl ⟨⟨by omega, by omega⟩, ⟨by decide, by decide⟩, _, by simpa [addr_zero] using Row.get hr (j := 0) rfl, by decide, LetI.of ?_⟩)
  rw [Int.tmod_eq_emod_of_nonneg (by omega)]
  have hx2 := hx8.2
  have hx1 : 0 ≤ l[i].1 % 8 ∧ l[i].1 % 8 < 8 := by omega
  generalize l[i].1 % 8 = c at hx1 ⊢
  generalize l[i].2 = u at hx2 ⊢
  clear hr hr0 hx8
  rcases (show (c = 0 ∨ c = 1 ∨ c = 2) ∨ (c = 3 ∨ c = 4) ∨ c = 5 ∨ c = 6 ∨ c = 7 by omega) with h7 | h7 | rfl | rfl | rfl
  · rcases h7 with rfl | rfl | rfl <;> (
      repeat' first
        | refine Br.sure rfl ?_
        | refine Br.nay rfl ?_
      rw [← hrow s hS] at st
      refine Tr.go (snext_tr _ s pp kk hI.ok) st 2 3 rfl rfl (by decide) (fun _ hg => hg) ?_
      clear st
      intro w st
      simp only [List.set] at st
      rw [hrow s hS] at st
      refine ⟨_, _, _, _, _, rfl, ?_⟩
      by_cases hc : canN s
      · obtain ⟨hout, hIn⟩ := hI.next hc
        have hlt : s.sent < s.total := by unfold canN at hc; omega
        have htt := hI.total
        rw [hout, decide_eq_true hc]
        repeat' first
          | (with_reducible refine St.alloc st ?_; (try clear st); intro b w st)
          | with_reducible refine sz_and (by (repeat rw [ByteArray.size_append]); omega) ?_
          | (with_reducible apply ex0c; case h => first | exact St.cell st 0 rfl rfl | exact St.cell st 1 rfl rfl | exact St.cell st 2 rfl rfl | exact St.cell st 3 rfl rfl | exact St.cell st 4 rfl rfl | exact St.cell st 5 rfl rfl | exact St.cell st 6 rfl rfl | fail)
          | (with_reducible apply ex1c; case h => first | exact St.cell st 0 rfl rfl | exact St.cell st 1 rfl rfl | exact St.cell st 2 rfl rfl | exact St.cell st 3 rfl rfl | exact St.cell st 4 rfl rfl | exact St.cell st 5 rfl rfl | exact St.cell st 6 rfl rfl | fail)
          | (with_reducible apply ex3c; case h => first | exact St.cell st 0 rfl rfl | exact St.cell st 1 rfl rfl | exact St.cell st 2 rfl rfl | exact St.cell st 3 rfl rfl | exact St.cell st 4 rfl rfl | exact St.cell st 5 rfl rfl | exact St.cell st 6 rfl rfl | fail)
          | (with_reducible apply ex0r; case h => first | exact St.rows st 0 rfl | exact St.rows st 1 rfl | exact St.rows st 2 rfl | exact St.rows st 3 rfl | exact St.rows st 4 rfl | exact St.rows st 5 rfl | exact St.rows st 6 rfl | fail)
          | (with_reducible apply exr2; case h => first | exact St.rows st 0 rfl | exact St.rows st 1 rfl | exact St.rows st 2 rfl | exact St.rows st 3 rfl | exact St.rows st 4 rfl | exact St.rows st 5 rfl | exact St.rows st 6 rfl | fail)
          | (with_reducible apply exr3; case h => first | exact St.rows st 0 rfl | exact St.rows st 1 rfl | exact St.rows st 2 rfl | exact St.rows st 3 rfl | exact St.rows st 4 rfl | exact St.rows st 5 rfl | exact St.rows st 6 rfl | fail)
          | (with_reducible apply exr4; case h => first | exact St.rows st 0 rfl | exact St.rows st 1 rfl | exact St.rows st 2 rfl | exact St.rows st 3 rfl | exact St.rows st 4 rfl | exact St.rows st 5 rfl | exact St.rows st 6 rfl | fail)
          | (with_reducible apply exr5; case h => first | exact St.rows st 0 rfl | exact St.rows st 1 rfl | exact St.rows st 2 rfl | exact St.rows st 3 rfl | exact St.rows st 4 rfl | exact St.rows st 5 rfl | exact St.rows st 6 rfl | fail)
          | (with_reducible apply exr6; case h => first | exact St.rows st 0 rfl | exact St.rows st 1 rfl | exact St.rows st 2 rfl | exact St.rows st 3 rfl | exact St.rows st 4 rfl | exact St.rows st 5 rfl | exact St.rows st 6 rfl | fail)
          | (with_reducible apply exWr; case h => first | exact St.wr st 0 rfl rfl | exact St.wr st 1 rfl rfl | exact St.wr st 2 rfl rfl | exact St.wr st 3 rfl rfl | exact St.wr st 4 rfl rfl | exact St.wr st 5 rfl rfl | exact St.wr st 6 rfl rfl | fail)
          | (with_reducible apply exWrRow; case h => first | exact St.wrRow st 0 rfl rfl rfl | exact St.wrRow st 1 rfl rfl rfl | exact St.wrRow st 2 rfl rfl rfl | exact St.wrRow st 3 rfl rfl rfl | exact St.wrRow st 4 rfl rfl rfl | exact St.wrRow st 5 rfl rfl rfl | exact St.wrRow st 6 rfl rfl rfl | fail)
          | (with_reducible refine LetW.cell ?_; (first | refine St.store st 0 rfl ?_ | refine St.store st 1 rfl ?_ | refine St.store st 2 rfl ?_ | refine St.store st 3 rfl ?_ | refine St.store st 4 rfl ?_ | refine St.store st 5 rfl ?_ | refine St.store st 6 rfl ?_ | fail); (try clear st); intro w st; simp only [List.set] at st)
          | (with_reducible refine LetW.rows ?_; (first | refine St.storeRow st 0 rfl ?_ | refine St.storeRow st 1 rfl ?_ | refine St.storeRow st 2 rfl ?_ | refine St.storeRow st 3 rfl ?_ | refine St.storeRow st 4 rfl ?_ | refine St.storeRow st 5 rfl ?_ | refine St.storeRow st 6 rfl ?_ | fail); (try clear st); intro w st; simp only [List.set, setsL] at st)
          | ((with_reducible apply exr4); case h => first | exact St.rowAt st 0 rfl rfl | exact St.rowAt st 1 rfl rfl | exact St.rowAt st 2 rfl rfl | exact St.rowAt st 3 rfl rfl | exact St.rowAt st 4 rfl rfl | exact St.rowAt st 5 rfl rfl | exact St.rowAt st 6 rfl rfl | fail)
          | ((with_reducible apply exr5); case h => first | exact St.rowAt st 0 rfl rfl | exact St.rowAt st 1 rfl rfl | exact St.rowAt st 2 rfl rfl | exact St.rowAt st 3 rfl rfl | exact St.rowAt st 4 rfl rfl | exact St.rowAt st 5 rfl rfl | exact St.rowAt st 6 rfl rfl | fail)
          | ((with_reducible apply exr6); case h => first | exact St.rowAt st 0 rfl rfl | exact St.rowAt st 1 rfl rfl | exact St.rowAt st 2 rfl rfl | exact St.rowAt st 3 rfl rfl | exact St.rowAt st 4 rfl rfl | exact St.rowAt st 5 rfl rfl | exact St.rowAt st 6 rfl rfl | fail)
          | with_reducible refine LetI.id (by omega) (by omega) ?_
          | fail
        refine Br.sure rfl ?_
        repeat' first
          | (with_reducible refine St.alloc st ?_; (try clear st); intro b w st)
          | with_reducible refine sz_and (by (repeat rw [ByteArray.size_append]); omega) ?_
          | (with_reducible apply ex0c; case h => first | exact St.cell st 0 rfl rfl | exact St.cell st 1 rfl rfl | exact St.cell st 2 rfl rfl | exact St.cell st 3 rfl rfl | exact St.cell st 4 rfl rfl | exact St.cell st 5 rfl rfl | exact St.cell st 6 rfl rfl | fail)
          | (with_reducible apply ex1c; case h => first | exact St.cell st 0 rfl rfl | exact St.cell st 1 rfl rfl | exact St.cell st 2 rfl rfl | exact St.cell st 3 rfl rfl | exact St.cell st 4 rfl rfl | exact St.cell st 5 rfl rfl | exact St.cell st 6 rfl rfl | fail)
          | (with_reducible apply ex3c; case h => first | exact St.cell st 0 rfl rfl | exact St.cell st 1 rfl rfl | exact St.cell st 2 rfl rfl | exact St.cell st 3 rfl rfl | exact St.cell st 4 rfl rfl | exact St.cell st 5 rfl rfl | exact St.cell st 6 rfl rfl | fail)
          | (with_reducible apply ex0r; case h => first | exact St.rows st 0 rfl | exact St.rows st 1 rfl | exact St.rows st 2 rfl | exact St.rows st 3 rfl | exact St.rows st 4 rfl | exact St.rows st 5 rfl | exact St.rows st 6 rfl | fail)
          | (with_reducible apply exr2; case h => first | exact St.rows st 0 rfl | exact St.rows st 1 rfl | exact St.rows st 2 rfl | exact St.rows st 3 rfl | exact St.rows st 4 rfl | exact St.rows st 5 rfl | exact St.rows st 6 rfl | fail)
          | (with_reducible apply exr3; case h => first | exact St.rows st 0 rfl | exact St.rows st 1 rfl | exact St.rows st 2 rfl | exact St.rows st 3 rfl | exact St.rows st 4 rfl | exact St.rows st 5 rfl | exact St.rows st 6 rfl | fail)
          | (with_reducible apply exr4; case h => first | exact St.rows st 0 rfl | exact St.rows st 1 rfl | exact St.rows st 2 rfl | exact St.rows st 3 rfl | exact St.rows st 4 rfl | exact St.rows st 5 rfl | exact St.rows st 6 rfl | fail)
          | (with_reducible apply exr5; case h => first | exact St.rows st 0 rfl | exact St.rows st 1 rfl | exact St.rows st 2 rfl | exact St.rows st 3 rfl | exact St.rows st 4 rfl | exact St.rows st 5 rfl | exact St.rows st 6 rfl | fail)
          | (with_reducible apply exr6; case h => first | exact St.rows st 0 rfl | exact St.rows st 1 rfl | exact St.rows st 2 rfl | exact St.rows st 3 rfl | exact St.rows st 4 rfl | exact St.rows st 5 rfl | exact St.rows st 6 rfl | fail)
          | (with_reducible apply exWr; case h => first | exact St.wr st 0 rfl rfl | exact St.wr st 1 rfl rfl | exact St.wr st 2 rfl rfl | exact St.wr st 3 rfl rfl | exact St.wr st 4 rfl rfl | exact St.wr st 5 rfl rfl | exact St.wr st 6 rfl rfl | fail)
          | (with_reducible apply exWrRow; case h => first | exact St.wrRow st 0 rfl rfl rfl | exact St.wrRow st 1 rfl rfl rfl | exact St.wrRow st 2 rfl rfl rfl | exact St.wrRow st 3 rfl rfl rfl | exact St.wrRow st 4 rfl rfl rfl | exact St.wrRow st 5 rfl rfl rfl | exact St.wrRow st 6 rfl rfl rfl | fail)
          | (with_reducible refine LetW.cell ?_; (first | refine St.store st 0 rfl ?_ | refine St.store st 1 rfl ?_ | refine St.store st 2 rfl ?_ | refine St.store st 3 rfl ?_ | refine St.store st 4 rfl ?_ | refine St.store st 5 rfl ?_ | refine St.store st 6 rfl ?_ | fail); (try clear st); intro w st; simp only [List.set] at st)
          | (with_reducible refine LetW.rows ?_; (first | refine St.storeRow st 0 rfl ?_ | refine St.storeRow st 1 rfl ?_ | refine St.storeRow st 2 rfl ?_ | refine St.storeRow st 3 rfl ?_ | refine St.storeRow st 4 rfl ?_ | refine St.storeRow st 5 rfl ?_ | refine St.storeRow st 6 rfl ?_ | fail); (try clear st); intro w st; simp only [List.set, setsL] at st)
          | ((with_reducible apply exr4); case h => first | exact St.rowAt st 0 rfl rfl | exact St.rowAt st 1 rfl rfl | exact St.rowAt st 2 rfl rfl | exact St.rowAt st 3 rfl rfl | exact St.rowAt st 4 rfl rfl | exact St.rowAt st 5 rfl rfl | exact St.rowAt st 6 rfl rfl | fail)
          | ((with_reducible apply exr5); case h => first | exact St.rowAt st 0 rfl rfl | exact St.rowAt st 1 rfl rfl | exact St.rowAt st 2 rfl rfl | exact St.rowAt st 3 rfl rfl | exact St.rowAt st 4 rfl rfl | exact St.rowAt st 5 rfl rfl | exact St.rowAt st 6 rfl rfl | fail)
          | ((with_reducible apply exr6); case h => first | exact St.rowAt st 0 rfl rfl | exact St.rowAt st 1 rfl rfl | exact St.rowAt st 2 rfl rfl | exact St.rowAt st 3 rfl rfl | exact St.rowAt st 4 rfl rfl | exact St.rowAt st 5 rfl rfl | exact St.rowAt st 6 rfl rfl | fail)
          | with_reducible refine LetI.id (by omega) (by omega) ?_
          | fail
        refine LetI.of ?_
        rw [show IntKind.i64.wrap ((pcN s0 s.sent).at_ + 1) = (s.sent : Int) + 1 from wrap_id (by show -9223372036854775808 ≤ (s.sent : Int) + 1; omega) (by show (s.sent : Int) + 1 ≤ 9223372036854775807; omega), show max (sent : Int) ((s.sent : Int) + 1) = ((max sent (s.sent + 1) : Nat) : Int) by omega]
        refine LetI.of ?_
        repeat' first
          | (with_reducible refine St.alloc st ?_; (try clear st); intro b w st)
          | with_reducible refine sz_and (by (repeat rw [ByteArray.size_append]); omega) ?_
          | (with_reducible apply ex0c; case h => first | exact St.cell st 0 rfl rfl | exact St.cell st 1 rfl rfl | exact St.cell st 2 rfl rfl | exact St.cell st 3 rfl rfl | exact St.cell st 4 rfl rfl | exact St.cell st 5 rfl rfl | exact St.cell st 6 rfl rfl | exact St.cell st 7 rfl rfl | fail)
          | (with_reducible apply ex1c; case h => first | exact St.cell st 0 rfl rfl | exact St.cell st 1 rfl rfl | exact St.cell st 2 rfl rfl | exact St.cell st 3 rfl rfl | exact St.cell st 4 rfl rfl | exact St.cell st 5 rfl rfl | exact St.cell st 6 rfl rfl | exact St.cell st 7 rfl rfl | fail)
          | (with_reducible apply ex3c; case h => first | exact St.cell st 0 rfl rfl | exact St.cell st 1 rfl rfl | exact St.cell st 2 rfl rfl | exact St.cell st 3 rfl rfl | exact St.cell st 4 rfl rfl | exact St.cell st 5 rfl rfl | exact St.cell st 6 rfl rfl | exact St.cell st 7 rfl rfl | fail)
          | (with_reducible apply ex0r; case h => first | exact St.rows st 0 rfl | exact St.rows st 1 rfl | exact St.rows st 2 rfl | exact St.rows st 3 rfl | exact St.rows st 4 rfl | exact St.rows st 5 rfl | exact St.rows st 6 rfl | exact St.rows st 7 rfl | fail)
          | (with_reducible apply exr2; case h => first | exact St.rows st 0 rfl | exact St.rows st 1 rfl | exact St.rows st 2 rfl | exact St.rows st 3 rfl | exact St.rows st 4 rfl | exact St.rows st 5 rfl | exact St.rows st 6 rfl | exact St.rows st 7 rfl | fail)
          | (with_reducible apply exr3; case h => first | exact St.rows st 0 rfl | exact St.rows st 1 rfl | exact St.rows st 2 rfl | exact St.rows st 3 rfl | exact St.rows st 4 rfl | exact St.rows st 5 rfl | exact St.rows st 6 rfl | exact St.rows st 7 rfl | fail)
          | (with_reducible apply exr4; case h => first | exact St.rows st 0 rfl | exact St.rows st 1 rfl | exact St.rows st 2 rfl | exact St.rows st 3 rfl | exact St.rows st 4 rfl | exact St.rows st 5 rfl | exact St.rows st 6 rfl | exact St.rows st 7 rfl | fail)
          | (with_reducible apply exr5; case h => first | exact St.rows st 0 rfl | exact St.rows st 1 rfl | exact St.rows st 2 rfl | exact St.rows st 3 rfl | exact St.rows st 4 rfl | exact St.rows st 5 rfl | exact St.rows st 6 rfl | exact St.rows st 7 rfl | fail)
          | (with_reducible apply exr6; case h => first | exact St.rows st 0 rfl | exact St.rows st 1 rfl | exact St.rows st 2 rfl | exact St.rows st 3 rfl | exact St.rows st 4 rfl | exact St.rows st 5 rfl | exact St.rows st 6 rfl | exact St.rows st 7 rfl | fail)
          | (with_reducible apply exWr; case h => first | exact St.wr st 0 rfl rfl | exact St.wr st 1 rfl rfl | exact St.wr st 2 rfl rfl | exact St.wr st 3 rfl rfl | exact St.wr st 4 rfl rfl | exact St.wr st 5 rfl rfl | exact St.wr st 6 rfl rfl | exact St.wr st 7 rfl rfl | fail)
          | (with_reducible apply exWrRow; case h => first | exact St.wrRow st 0 rfl rfl rfl | exact St.wrRow st 1 rfl rfl rfl | exact St.wrRow st 2 rfl rfl rfl | exact St.wrRow st 3 rfl rfl rfl | exact St.wrRow st 4 rfl rfl rfl | exact St.wrRow st 5 rfl rfl rfl | exact St.wrRow st 6 rfl rfl rfl | exact St.wrRow st 7 rfl rfl rfl | fail)
          | (with_reducible refine LetW.cell ?_; (first | refine St.store st 0 rfl ?_ | refine St.store st 1 rfl ?_ | refine St.store st 2 rfl ?_ | refine St.store st 3 rfl ?_ | refine St.store st 4 rfl ?_ | refine St.store st 5 rfl ?_ | refine St.store st 6 rfl ?_ | refine St.store st 7 rfl ?_ | fail); (try clear st); intro w st; simp only [List.set] at st)
          | (with_reducible refine LetW.rows ?_; (first | refine St.storeRow st 0 rfl ?_ | refine St.storeRow st 1 rfl ?_ | refine St.storeRow st 2 rfl ?_ | refine St.storeRow st 3 rfl ?_ | refine St.storeRow st 4 rfl ?_ | refine St.storeRow st 5 rfl ?_ | refine St.storeRow st 6 rfl ?_ | refine St.storeRow st 7 rfl ?_ | fail); (try clear st); intro w st; simp only [List.set, setsL] at st)
          | ((with_reducible apply exr4); case h => first | exact St.rowAt st 0 rfl rfl | exact St.rowAt st 1 rfl rfl | exact St.rowAt st 2 rfl rfl | exact St.rowAt st 3 rfl rfl | exact St.rowAt st 4 rfl rfl | exact St.rowAt st 5 rfl rfl | exact St.rowAt st 6 rfl rfl | exact St.rowAt st 7 rfl rfl | fail)
          | ((with_reducible apply exr5); case h => first | exact St.rowAt st 0 rfl rfl | exact St.rowAt st 1 rfl rfl | exact St.rowAt st 2 rfl rfl | exact St.rowAt st 3 rfl rfl | exact St.rowAt st 4 rfl rfl | exact St.rowAt st 5 rfl rfl | exact St.rowAt st 6 rfl rfl | exact St.rowAt st 7 rfl rfl | fail)
          | ((with_reducible apply exr6); case h => first | exact St.rowAt st 0 rfl rfl | exact St.rowAt st 1 rfl rfl | exact St.rowAt st 2 rfl rfl | exact St.rowAt st 3 rfl rfl | exact St.rowAt st 4 rfl rfl | exact St.rowAt st 5 rfl rfl | exact St.rowAt st 6 rfl rfl | exact St.rowAt st 7 rfl rfl | fail)
          | with_reducible refine LetI.id (by omega) (by omega) ?_
          | fail
        refine St.append10 st 6 0 Try.underlying56 hi0 hz0 hsi0 hbi0 rfl (by decide) pcE_len pcE_plain (n := mail.length) (x := pcN s0 s.sent) rfl rfl (by simp [maxLen]; omega) (by omega) ?_
        clear st
        intro p' c' w st
        simp only [List.set] at st
        refine ⟨_, _, _, rfl, ?_⟩
        repeat' first
          | (with_reducible refine St.alloc st ?_; (try clear st); intro b w st)
          | with_reducible refine sz_and (by (repeat rw [ByteArray.size_append]); omega) ?_
          | (with_reducible apply ex0c; case h => first | exact St.cell st 0 rfl rfl | exact St.cell st 1 rfl rfl | exact St.cell st 2 rfl rfl | exact St.cell st 3 rfl rfl | exact St.cell st 4 rfl rfl | exact St.cell st 5 rfl rfl | exact St.cell st 6 rfl rfl | exact St.cell st 7 rfl rfl | fail)
          | (with_reducible apply ex1c; case h => first | exact St.cell st 0 rfl rfl | exact St.cell st 1 rfl rfl | exact St.cell st 2 rfl rfl | exact St.cell st 3 rfl rfl | exact St.cell st 4 rfl rfl | exact St.cell st 5 rfl rfl | exact St.cell st 6 rfl rfl | exact St.cell st 7 rfl rfl | fail)
          | (with_reducible apply ex3c; case h => first | exact St.cell st 0 rfl rfl | exact St.cell st 1 rfl rfl | exact St.cell st 2 rfl rfl | exact St.cell st 3 rfl rfl | exact St.cell st 4 rfl rfl | exact St.cell st 5 rfl rfl | exact St.cell st 6 rfl rfl | exact St.cell st 7 rfl rfl | fail)
          | (with_reducible apply ex0r; case h => first | exact St.rows st 0 rfl | exact St.rows st 1 rfl | exact St.rows st 2 rfl | exact St.rows st 3 rfl | exact St.rows st 4 rfl | exact St.rows st 5 rfl | exact St.rows st 6 rfl | exact St.rows st 7 rfl | fail)
          | (with_reducible apply exr2; case h => first | exact St.rows st 0 rfl | exact St.rows st 1 rfl | exact St.rows st 2 rfl | exact St.rows st 3 rfl | exact St.rows st 4 rfl | exact St.rows st 5 rfl | exact St.rows st 6 rfl | exact St.rows st 7 rfl | fail)
          | (with_reducible apply exr3; case h => first | exact St.rows st 0 rfl | exact St.rows st 1 rfl | exact St.rows st 2 rfl | exact St.rows st 3 rfl | exact St.rows st 4 rfl | exact St.rows st 5 rfl | exact St.rows st 6 rfl | exact St.rows st 7 rfl | fail)
          | (with_reducible apply exr4; case h => first | exact St.rows st 0 rfl | exact St.rows st 1 rfl | exact St.rows st 2 rfl | exact St.rows st 3 rfl | exact St.rows st 4 rfl | exact St.rows st 5 rfl | exact St.rows st 6 rfl | exact St.rows st 7 rfl | fail)
          | (with_reducible apply exr5; case h => first | exact St.rows st 0 rfl | exact St.rows st 1 rfl | exact St.rows st 2 rfl | exact St.rows st 3 rfl | exact St.rows st 4 rfl | exact St.rows st 5 rfl | exact St.rows st 6 rfl | exact St.rows st 7 rfl | fail)
          | (with_reducible apply exr6; case h => first | exact St.rows st 0 rfl | exact St.rows st 1 rfl | exact St.rows st 2 rfl | exact St.rows st 3 rfl | exact St.rows st 4 rfl | exact St.rows st 5 rfl | exact St.rows st 6 rfl | exact St.rows st 7 rfl | fail)
          | (with_reducible apply exWr; case h => first | exact St.wr st 0 rfl rfl | exact St.wr st 1 rfl rfl | exact St.wr st 2 rfl rfl | exact St.wr st 3 rfl rfl | exact St.wr st 4 rfl rfl | exact St.wr st 5 rfl rfl | exact St.wr st 6 rfl rfl | exact St.wr st 7 rfl rfl | fail)
          | (with_reducible apply exWrRow; case h => first | exact St.wrRow st 0 rfl rfl rfl | exact St.wrRow st 1 rfl rfl rfl | exact St.wrRow st 2 rfl rfl rfl | exact St.wrRow st 3 rfl rfl rfl | exact St.wrRow st 4 rfl rfl rfl | exact St.wrRow st 5 rfl rfl rfl | exact St.wrRow st 6 rfl rfl rfl | exact St.wrRow st 7 rfl rfl rfl | fail)
          | (with_reducible refine LetW.cell ?_; (first | refine St.store st 0 rfl ?_ | refine St.store st 1 rfl ?_ | refine St.store st 2 rfl ?_ | refine St.store st 3 rfl ?_ | refine St.store st 4 rfl ?_ | refine St.store st 5 rfl ?_ | refine St.store st 6 rfl ?_ | refine St.store st 7 rfl ?_ | fail); (try clear st); intro w st; simp only [List.set] at st)
          | (with_reducible refine LetW.rows ?_; (first | refine St.storeRow st 0 rfl ?_ | refine St.storeRow st 1 rfl ?_ | refine St.storeRow st 2 rfl ?_ | refine St.storeRow st 3 rfl ?_ | refine St.storeRow st 4 rfl ?_ | refine St.storeRow st 5 rfl ?_ | refine St.storeRow st 6 rfl ?_ | refine St.storeRow st 7 rfl ?_ | fail); (try clear st); intro w st; simp only [List.set, setsL] at st)
          | ((with_reducible apply exr4); case h => first | exact St.rowAt st 0 rfl rfl | exact St.rowAt st 1 rfl rfl | exact St.rowAt st 2 rfl rfl | exact St.rowAt st 3 rfl rfl | exact St.rowAt st 4 rfl rfl | exact St.rowAt st 5 rfl rfl | exact St.rowAt st 6 rfl rfl | exact St.rowAt st 7 rfl rfl | fail)
          | ((with_reducible apply exr5); case h => first | exact St.rowAt st 0 rfl rfl | exact St.rowAt st 1 rfl rfl | exact St.rowAt st 2 rfl rfl | exact St.rowAt st 3 rfl rfl | exact St.rowAt st 4 rfl rfl | exact St.rowAt st 5 rfl rfl | exact St.rowAt st 6 rfl rfl | exact St.rowAt st 7 rfl rfl | fail)
          | ((with_reducible apply exr6); case h => first | exact St.rowAt st 0 rfl rfl | exact St.rowAt st 1 rfl rfl | exact St.rowAt st 2 rfl rfl | exact St.rowAt st 3 rfl rfl | exact St.rowAt st 4 rfl rfl | exact St.rowAt st 5 rfl rfl | exact St.rowAt st 6 rfl rfl | exact St.rowAt st 7 rfl rfl | fail)
          | with_reducible refine LetI.id (by omega) (by omega) ?_
          | fail
        replace st : St No w0 w [rcvB br (r) p k, rcvR (r) p k, sndA bs (nextN s) pp kk, sndR s0 pp kk, mailA (mail ++ [pcN s0 s.sent]) p' c', toldA (told) pt kt] := by
          show St No w0 w [_, _, _, _, .row 0 _ 4 (.slice p' (mail ++ [pcN s0 s.sent]).length c') (mail ++ [pcN s0 s.sent]).length _, _]
          rw [show (mail ++ [pcN s0 s.sent]).length = mail.length + 1 by simp]
          exact st.pick [2, 3, 4, 5, 6, 7] rfl (by decide)
        have hI2 : Inv s0 (nextN s) (r) (got) (max sent (s.sent + 1)) (mail ++ [pcN s0 s.sent]) (told) := hIn
        have hk2 := hI2.known
        refine Tr.go (rtext_tr br _ hI2.rok hI2.pos _ _) st 0 1 rfl rfl (by decide) (fun _ hg => hg) ?_
        clear st
        intro w st
        simp only [List.set] at st
        refine ⟨_, _, rfl, ?_⟩
        by_cases ha : allR (r)
        · rw [decide_eq_true ha, hI2.text ha, htx]
          refine Br.sure rfl (Br.not (Br.sure (by simp) ?_))
          repeat' first
            | (with_reducible refine St.alloc st ?_; (try clear st); intro b w st)
            | with_reducible refine sz_and (by (repeat rw [ByteArray.size_append]); omega) ?_
            | (refine Tu.go (shave_tu _ _ pp kk hI2.ok) st 0 rfl (fun _ hg => hg) ?_; (try clear st); intro w st; simp only [List.set] at st; refine ⟨_, rfl, ?_⟩)
            | (refine Tu.go (shave_tu _ _ pp kk hI2.ok) st 1 rfl (fun _ hg => hg) ?_; (try clear st); intro w st; simp only [List.set] at st; refine ⟨_, rfl, ?_⟩)
            | (refine Tu.go (shave_tu _ _ pp kk hI2.ok) st 2 rfl (fun _ hg => hg) ?_; (try clear st); intro w st; simp only [List.set] at st; refine ⟨_, rfl, ?_⟩)
            | (refine Tu.go (shave_tu _ _ pp kk hI2.ok) st 3 rfl (fun _ hg => hg) ?_; (try clear st); intro w st; simp only [List.set] at st; refine ⟨_, rfl, ?_⟩)
            | (refine Tu.go (shave_tu _ _ pp kk hI2.ok) st 4 rfl (fun _ hg => hg) ?_; (try clear st); intro w st; simp only [List.set] at st; refine ⟨_, rfl, ?_⟩)
            | (refine Tu.go (shave_tu _ _ pp kk hI2.ok) st 5 rfl (fun _ hg => hg) ?_; (try clear st); intro w st; simp only [List.set] at st; refine ⟨_, rfl, ?_⟩)
            | (with_reducible apply ex0c; case h => first | exact St.cell st 0 rfl rfl | exact St.cell st 1 rfl rfl | exact St.cell st 2 rfl rfl | exact St.cell st 3 rfl rfl | exact St.cell st 4 rfl rfl | exact St.cell st 5 rfl rfl | fail)
            | (with_reducible apply ex1c; case h => first | exact St.cell st 0 rfl rfl | exact St.cell st 1 rfl rfl | exact St.cell st 2 rfl rfl | exact St.cell st 3 rfl rfl | exact St.cell st 4 rfl rfl | exact St.cell st 5 rfl rfl | fail)
            | (with_reducible apply ex3c; case h => first | exact St.cell st 0 rfl rfl | exact St.cell st 1 rfl rfl | exact St.cell st 2 rfl rfl | exact St.cell st 3 rfl rfl | exact St.cell st 4 rfl rfl | exact St.cell st 5 rfl rfl | fail)
            | (with_reducible apply ex0r; case h => first | exact St.rows st 0 rfl | exact St.rows st 1 rfl | exact St.rows st 2 rfl | exact St.rows st 3 rfl | exact St.rows st 4 rfl | exact St.rows st 5 rfl | fail)
            | (with_reducible apply exr2; case h => first | exact St.rows st 0 rfl | exact St.rows st 1 rfl | exact St.rows st 2 rfl | exact St.rows st 3 rfl | exact St.rows st 4 rfl | exact St.rows st 5 rfl | fail)
            | (with_reducible apply exr3; case h => first | exact St.rows st 0 rfl | exact St.rows st 1 rfl | exact St.rows st 2 rfl | exact St.rows st 3 rfl | exact St.rows st 4 rfl | exact St.rows st 5 rfl | fail)
            | (with_reducible apply exr4; case h => first | exact St.rows st 0 rfl | exact St.rows st 1 rfl | exact St.rows st 2 rfl | exact St.rows st 3 rfl | exact St.rows st 4 rfl | exact St.rows st 5 rfl | fail)
            | (with_reducible apply exr5; case h => first | exact St.rows st 0 rfl | exact St.rows st 1 rfl | exact St.rows st 2 rfl | exact St.rows st 3 rfl | exact St.rows st 4 rfl | exact St.rows st 5 rfl | fail)
            | (with_reducible apply exr6; case h => first | exact St.rows st 0 rfl | exact St.rows st 1 rfl | exact St.rows st 2 rfl | exact St.rows st 3 rfl | exact St.rows st 4 rfl | exact St.rows st 5 rfl | fail)
            | (with_reducible apply exWr; case h => first | exact St.wr st 0 rfl rfl | exact St.wr st 1 rfl rfl | exact St.wr st 2 rfl rfl | exact St.wr st 3 rfl rfl | exact St.wr st 4 rfl rfl | exact St.wr st 5 rfl rfl | fail)
            | (with_reducible apply exWrRow; case h => first | exact St.wrRow st 0 rfl rfl rfl | exact St.wrRow st 1 rfl rfl rfl | exact St.wrRow st 2 rfl rfl rfl | exact St.wrRow st 3 rfl rfl rfl | exact St.wrRow st 4 rfl rfl rfl | exact St.wrRow st 5 rfl rfl rfl | fail)
            | (with_reducible refine LetW.cell ?_; (first | refine St.store st 0 rfl ?_ | refine St.store st 1 rfl ?_ | refine St.store st 2 rfl ?_ | refine St.store st 3 rfl ?_ | refine St.store st 4 rfl ?_ | refine St.store st 5 rfl ?_ | fail); (try clear st); intro w st; simp only [List.set] at st)
            | (with_reducible refine LetW.rows ?_; (first | refine St.storeRow st 0 rfl ?_ | refine St.storeRow st 1 rfl ?_ | refine St.storeRow st 2 rfl ?_ | refine St.storeRow st 3 rfl ?_ | refine St.storeRow st 4 rfl ?_ | refine St.storeRow st 5 rfl ?_ | fail); (try clear st); intro w st; simp only [List.set, setsL] at st)
            | ((with_reducible apply exr4); case h => first | exact St.rowAt st 0 rfl rfl | exact St.rowAt st 1 rfl rfl | exact St.rowAt st 2 rfl rfl | exact St.rowAt st 3 rfl rfl | exact St.rowAt st 4 rfl rfl | exact St.rowAt st 5 rfl rfl | fail)
            | ((with_reducible apply exr5); case h => first | exact St.rowAt st 0 rfl rfl | exact St.rowAt st 1 rfl rfl | exact St.rowAt st 2 rfl rfl | exact St.rowAt st 3 rfl rfl | exact St.rowAt st 4 rfl rfl | exact St.rowAt st 5 rfl rfl | fail)
            | ((with_reducible apply exr6); case h => first | exact St.rowAt st 0 rfl rfl | exact St.rowAt st 1 rfl rfl | exact St.rowAt st 2 rfl rfl | exact St.rowAt st 3 rfl rfl | exact St.rowAt st 4 rfl rfl | exact St.rowAt st 5 rfl rfl | fail)
            | with_reducible refine LetI.id (by omega) (by omega) ?_
            | fail
          refine Br.dec (fun h => by omega) (fun _ => ?_)
          repeat' first
            | (with_reducible refine St.alloc st ?_; (try clear st); intro b w st)
            | with_reducible refine sz_and (by (repeat rw [ByteArray.size_append]); omega) ?_
            | (refine Tu.go (sdone_tu _ _ pp kk hI2.ok) st 0 rfl (fun _ hg => hg) ?_; (try clear st); intro w st; simp only [List.set] at st; refine ⟨_, rfl, ?_⟩)
            | (refine Tu.go (sdone_tu _ _ pp kk hI2.ok) st 1 rfl (fun _ hg => hg) ?_; (try clear st); intro w st; simp only [List.set] at st; refine ⟨_, rfl, ?_⟩)
            | (refine Tu.go (sdone_tu _ _ pp kk hI2.ok) st 2 rfl (fun _ hg => hg) ?_; (try clear st); intro w st; simp only [List.set] at st; refine ⟨_, rfl, ?_⟩)
            | (refine Tu.go (sdone_tu _ _ pp kk hI2.ok) st 3 rfl (fun _ hg => hg) ?_; (try clear st); intro w st; simp only [List.set] at st; refine ⟨_, rfl, ?_⟩)
            | (refine Tu.go (sdone_tu _ _ pp kk hI2.ok) st 4 rfl (fun _ hg => hg) ?_; (try clear st); intro w st; simp only [List.set] at st; refine ⟨_, rfl, ?_⟩)
            | (refine Tu.go (sdone_tu _ _ pp kk hI2.ok) st 5 rfl (fun _ hg => hg) ?_; (try clear st); intro w st; simp only [List.set] at st; refine ⟨_, rfl, ?_⟩)
            | (with_reducible apply ex0c; case h => first | exact St.cell st 0 rfl rfl | exact St.cell st 1 rfl rfl | exact St.cell st 2 rfl rfl | exact St.cell st 3 rfl rfl | exact St.cell st 4 rfl rfl | exact St.cell st 5 rfl rfl | fail)
            | (with_reducible apply ex1c; case h => first | exact St.cell st 0 rfl rfl | exact St.cell st 1 rfl rfl | exact St.cell st 2 rfl rfl | exact St.cell st 3 rfl rfl | exact St.cell st 4 rfl rfl | exact St.cell st 5 rfl rfl | fail)
            | (with_reducible apply ex3c; case h => first | exact St.cell st 0 rfl rfl | exact St.cell st 1 rfl rfl | exact St.cell st 2 rfl rfl | exact St.cell st 3 rfl rfl | exact St.cell st 4 rfl rfl | exact St.cell st 5 rfl rfl | fail)
            | (with_reducible apply ex0r; case h => first | exact St.rows st 0 rfl | exact St.rows st 1 rfl | exact St.rows st 2 rfl | exact St.rows st 3 rfl | exact St.rows st 4 rfl | exact St.rows st 5 rfl | fail)
            | (with_reducible apply exr2; case h => first | exact St.rows st 0 rfl | exact St.rows st 1 rfl | exact St.rows st 2 rfl | exact St.rows st 3 rfl | exact St.rows st 4 rfl | exact St.rows st 5 rfl | fail)
            | (with_reducible apply exr3; case h => first | exact St.rows st 0 rfl | exact St.rows st 1 rfl | exact St.rows st 2 rfl | exact St.rows st 3 rfl | exact St.rows st 4 rfl | exact St.rows st 5 rfl | fail)
            | (with_reducible apply exr4; case h => first | exact St.rows st 0 rfl | exact St.rows st 1 rfl | exact St.rows st 2 rfl | exact St.rows st 3 rfl | exact St.rows st 4 rfl | exact St.rows st 5 rfl | fail)
            | (with_reducible apply exr5; case h => first | exact St.rows st 0 rfl | exact St.rows st 1 rfl | exact St.rows st 2 rfl | exact St.rows st 3 rfl | exact St.rows st 4 rfl | exact St.rows st 5 rfl | fail)
            | (with_reducible apply exr6; case h => first | exact St.rows st 0 rfl | exact St.rows st 1 rfl | exact St.rows st 2 rfl | exact St.rows st 3 rfl | exact St.rows st 4 rfl | exact St.rows st 5 rfl | fail)
            | (with_reducible apply exWr; case h => first | exact St.wr st 0 rfl rfl | exact St.wr st 1 rfl rfl | exact St.wr st 2 rfl rfl | exact St.wr st 3 rfl rfl | exact St.wr st 4 rfl rfl | exact St.wr st 5 rfl rfl | fail)
            | (with_reducible apply exWrRow; case h => first | exact St.wrRow st 0 rfl rfl rfl | exact St.wrRow st 1 rfl rfl rfl | exact St.wrRow st 2 rfl rfl rfl | exact St.wrRow st 3 rfl rfl rfl | exact St.wrRow st 4 rfl rfl rfl | exact St.wrRow st 5 rfl rfl rfl | fail)
            | (with_reducible refine LetW.cell ?_; (first | refine St.store st 0 rfl ?_ | refine St.store st 1 rfl ?_ | refine St.store st 2 rfl ?_ | refine St.store st 3 rfl ?_ | refine St.store st 4 rfl ?_ | refine St.store st 5 rfl ?_ | fail); (try clear st); intro w st; simp only [List.set] at st)
            | (with_reducible refine LetW.rows ?_; (first | refine St.storeRow st 0 rfl ?_ | refine St.storeRow st 1 rfl ?_ | refine St.storeRow st 2 rfl ?_ | refine St.storeRow st 3 rfl ?_ | refine St.storeRow st 4 rfl ?_ | refine St.storeRow st 5 rfl ?_ | fail); (try clear st); intro w st; simp only [List.set, setsL] at st)
            | ((with_reducible apply exr4); case h => first | exact St.rowAt st 0 rfl rfl | exact St.rowAt st 1 rfl rfl | exact St.rowAt st 2 rfl rfl | exact St.rowAt st 3 rfl rfl | exact St.rowAt st 4 rfl rfl | exact St.rowAt st 5 rfl rfl | fail)
            | ((with_reducible apply exr5); case h => first | exact St.rowAt st 0 rfl rfl | exact St.rowAt st 1 rfl rfl | exact St.rowAt st 2 rfl rfl | exact St.rowAt st 3 rfl rfl | exact St.rowAt st 4 rfl rfl | exact St.rowAt st 5 rfl rfl | fail)
            | ((with_reducible apply exr6); case h => first | exact St.rowAt st 0 rfl rfl | exact St.rowAt st 1 rfl rfl | exact St.rowAt st 2 rfl rfl | exact St.rowAt st 3 rfl rfl | exact St.rowAt st 4 rfl rfl | exact St.rowAt st 5 rfl rfl | fail)
            | with_reducible refine LetI.id (by omega) (by omega) ?_
            | fail
          refine Br.dec (fun h => Br.not (Br.sure rfl ?_)) (fun h => ?_)
          · refine LetI.id (by omega) (by omega) ?_
            exact ⟨_, by omega, i + 1, nextN s, r, got, max sent (s.sent + 1), mail ++ [pcN s0 s.sent], told, p, k, p', c', pt, kt, by first | (simp; done) | (simp; omega), rfl, by omega, hI2, by first | omega | (simp; omega), by first | omega | (simp; omega), st⟩
          · refine LetI.id (by omega) (by omega) ?_
            exact ⟨_, by omega, i + 1, nextN s, r, got, max sent (s.sent + 1), mail ++ [pcN s0 s.sent], told, p, k, p', c', pt, kt, by first | (simp; done) | (simp; omega), rfl, by omega, hI2, by first | omega | (simp; omega), by first | omega | (simp; omega), st⟩
        · rw [decide_eq_false ha]
          refine Br.nay rfl ?_
          repeat' first
            | (with_reducible refine St.alloc st ?_; (try clear st); intro b w st)
            | with_reducible refine sz_and (by (repeat rw [ByteArray.size_append]); omega) ?_
            | (refine Tu.go (shave_tu _ _ pp kk hI2.ok) st 0 rfl (fun _ hg => hg) ?_; (try clear st); intro w st; simp only [List.set] at st; refine ⟨_, rfl, ?_⟩)
            | (refine Tu.go (shave_tu _ _ pp kk hI2.ok) st 1 rfl (fun _ hg => hg) ?_; (try clear st); intro w st; simp only [List.set] at st; refine ⟨_, rfl, ?_⟩)
            | (refine Tu.go (shave_tu _ _ pp kk hI2.ok) st 2 rfl (fun _ hg => hg) ?_; (try clear st); intro w st; simp only [List.set] at st; refine ⟨_, rfl, ?_⟩)
            | (refine Tu.go (shave_tu _ _ pp kk hI2.ok) st 3 rfl (fun _ hg => hg) ?_; (try clear st); intro w st; simp only [List.set] at st; refine ⟨_, rfl, ?_⟩)
            | (refine Tu.go (shave_tu _ _ pp kk hI2.ok) st 4 rfl (fun _ hg => hg) ?_; (try clear st); intro w st; simp only [List.set] at st; refine ⟨_, rfl, ?_⟩)
            | (refine Tu.go (shave_tu _ _ pp kk hI2.ok) st 5 rfl (fun _ hg => hg) ?_; (try clear st); intro w st; simp only [List.set] at st; refine ⟨_, rfl, ?_⟩)
            | (with_reducible apply ex0c; case h => first | exact St.cell st 0 rfl rfl | exact St.cell st 1 rfl rfl | exact St.cell st 2 rfl rfl | exact St.cell st 3 rfl rfl | exact St.cell st 4 rfl rfl | exact St.cell st 5 rfl rfl | fail)
            | (with_reducible apply ex1c; case h => first | exact St.cell st 0 rfl rfl | exact St.cell st 1 rfl rfl | exact St.cell st 2 rfl rfl | exact St.cell st 3 rfl rfl | exact St.cell st 4 rfl rfl | exact St.cell st 5 rfl rfl | fail)
            | (with_reducible apply ex3c; case h => first | exact St.cell st 0 rfl rfl | exact St.cell st 1 rfl rfl | exact St.cell st 2 rfl rfl | exact St.cell st 3 rfl rfl | exact St.cell st 4 rfl rfl | exact St.cell st 5 rfl rfl | fail)
            | (with_reducible apply ex0r; case h => first | exact St.rows st 0 rfl | exact St.rows st 1 rfl | exact St.rows st 2 rfl | exact St.rows st 3 rfl | exact St.rows st 4 rfl | exact St.rows st 5 rfl | fail)
            | (with_reducible apply exr2; case h => first | exact St.rows st 0 rfl | exact St.rows st 1 rfl | exact St.rows st 2 rfl | exact St.rows st 3 rfl | exact St.rows st 4 rfl | exact St.rows st 5 rfl | fail)
            | (with_reducible apply exr3; case h => first | exact St.rows st 0 rfl | exact St.rows st 1 rfl | exact St.rows st 2 rfl | exact St.rows st 3 rfl | exact St.rows st 4 rfl | exact St.rows st 5 rfl | fail)
            | (with_reducible apply exr4; case h => first | exact St.rows st 0 rfl | exact St.rows st 1 rfl | exact St.rows st 2 rfl | exact St.rows st 3 rfl | exact St.rows st 4 rfl | exact St.rows st 5 rfl | fail)
            | (with_reducible apply exr5; case h => first | exact St.rows st 0 rfl | exact St.rows st 1 rfl | exact St.rows st 2 rfl | exact St.rows st 3 rfl | exact St.rows st 4 rfl | exact St.rows st 5 rfl | fail)
            | (with_reducible apply exr6; case h => first | exact St.rows st 0 rfl | exact St.rows st 1 rfl | exact St.rows st 2 rfl | exact St.rows st 3 rfl | exact St.rows st 4 rfl | exact St.rows st 5 rfl | fail)
            | (with_reducible apply exWr; case h => first | exact St.wr st 0 rfl rfl | exact St.wr st 1 rfl rfl | exact St.wr st 2 rfl rfl | exact St.wr st 3 rfl rfl | exact St.wr st 4 rfl rfl | exact St.wr st 5 rfl rfl | fail)
            | (with_reducible apply exWrRow; case h => first | exact St.wrRow st 0 rfl rfl rfl | exact St.wrRow st 1 rfl rfl rfl | exact St.wrRow st 2 rfl rfl rfl | exact St.wrRow st 3 rfl rfl rfl | exact St.wrRow st 4 rfl rfl rfl | exact St.wrRow st 5 rfl rfl rfl | fail)
            | (with_reducible refine LetW.cell ?_; (first | refine St.store st 0 rfl ?_ | refine St.store st 1 rfl ?_ | refine St.store st 2 rfl ?_ | refine St.store st 3 rfl ?_ | refine St.store st 4 rfl ?_ | refine St.store st 5 rfl ?_ | fail); (try clear st); intro w st; simp only [List.set] at st)
            | (with_reducible refine LetW.rows ?_; (first | refine St.storeRow st 0 rfl ?_ | refine St.storeRow st 1 rfl ?_ | refine St.storeRow st 2 rfl ?_ | refine St.storeRow st 3 rfl ?_ | refine St.storeRow st 4 rfl ?_ | refine St.storeRow st 5 rfl ?_ | fail); (try clear st); intro w st; simp only [List.set, setsL] at st)
            | ((with_reducible apply exr4); case h => first | exact St.rowAt st 0 rfl rfl | exact St.rowAt st 1 rfl rfl | exact St.rowAt st 2 rfl rfl | exact St.rowAt st 3 rfl rfl | exact St.rowAt st 4 rfl rfl | exact St.rowAt st 5 rfl rfl | fail)
            | ((with_reducible apply exr5); case h => first | exact St.rowAt st 0 rfl rfl | exact St.rowAt st 1 rfl rfl | exact St.rowAt st 2 rfl rfl | exact St.rowAt st 3 rfl rfl | exact St.rowAt st 4 rfl rfl | exact St.rowAt st 5 rfl rfl | fail)
            | ((with_reducible apply exr6); case h => first | exact St.rowAt st 0 rfl rfl | exact St.rowAt st 1 rfl rfl | exact St.rowAt st 2 rfl rfl | exact St.rowAt st 3 rfl rfl | exact St.rowAt st 4 rfl rfl | exact St.rowAt st 5 rfl rfl | fail)
            | with_reducible refine LetI.id (by omega) (by omega) ?_
            | fail
          refine Br.dec (fun h => by omega) (fun _ => ?_)
          repeat' first
            | (with_reducible refine St.alloc st ?_; (try clear st); intro b w st)
            | with_reducible refine sz_and (by (repeat rw [ByteArray.size_append]); omega) ?_
            | (refine Tu.go (sdone_tu _ _ pp kk hI2.ok) st 0 rfl (fun _ hg => hg) ?_; (try clear st); intro w st; simp only [List.set] at st; refine ⟨_, rfl, ?_⟩)
            | (refine Tu.go (sdone_tu _ _ pp kk hI2.ok) st 1 rfl (fun _ hg => hg) ?_; (try clear st); intro w st; simp only [List.set] at st; refine ⟨_, rfl, ?_⟩)
            | (refine Tu.go (sdone_tu _ _ pp kk hI2.ok) st 2 rfl (fun _ hg => hg) ?_; (try clear st); intro w st; simp only [List.set] at st; refine ⟨_, rfl, ?_⟩)
            | (refine Tu.go (sdone_tu _ _ pp kk hI2.ok) st 3 rfl (fun _ hg => hg) ?_; (try clear st); intro w st; simp only [List.set] at st; refine ⟨_, rfl, ?_⟩)
            | (refine Tu.go (sdone_tu _ _ pp kk hI2.ok) st 4 rfl (fun _ hg => hg) ?_; (try clear st); intro w st; simp only [List.set] at st; refine ⟨_, rfl, ?_⟩)
            | (refine Tu.go (sdone_tu _ _ pp kk hI2.ok) st 5 rfl (fun _ hg => hg) ?_; (try clear st); intro w st; simp only [List.set] at st; refine ⟨_, rfl, ?_⟩)
            | (with_reducible apply ex0c; case h => first | exact St.cell st 0 rfl rfl | exact St.cell st 1 rfl rfl | exact St.cell st 2 rfl rfl | exact St.cell st 3 rfl rfl | exact St.cell st 4 rfl rfl | exact St.cell st 5 rfl rfl | fail)
            | (with_reducible apply ex1c; case h => first | exact St.cell st 0 rfl rfl | exact St.cell st 1 rfl rfl | exact St.cell st 2 rfl rfl | exact St.cell st 3 rfl rfl | exact St.cell st 4 rfl rfl | exact St.cell st 5 rfl rfl | fail)
            | (with_reducible apply ex3c; case h => first | exact St.cell st 0 rfl rfl | exact St.cell st 1 rfl rfl | exact St.cell st 2 rfl rfl | exact St.cell st 3 rfl rfl | exact St.cell st 4 rfl rfl | exact St.cell st 5 rfl rfl | fail)
            | (with_reducible apply ex0r; case h => first | exact St.rows st 0 rfl | exact St.rows st 1 rfl | exact St.rows st 2 rfl | exact St.rows st 3 rfl | exact St.rows st 4 rfl | exact St.rows st 5 rfl | fail)
            | (with_reducible apply exr2; case h => first | exact St.rows st 0 rfl | exact St.rows st 1 rfl | exact St.rows st 2 rfl | exact St.rows st 3 rfl | exact St.rows st 4 rfl | exact St.rows st 5 rfl | fail)
            | (with_reducible apply exr3; case h => first | exact St.rows st 0 rfl | exact St.rows st 1 rfl | exact St.rows st 2 rfl | exact St.rows st 3 rfl | exact St.rows st 4 rfl | exact St.rows st 5 rfl | fail)
            | (with_reducible apply exr4; case h => first | exact St.rows st 0 rfl | exact St.rows st 1 rfl | exact St.rows st 2 rfl | exact St.rows st 3 rfl | exact St.rows st 4 rfl | exact St.rows st 5 rfl | fail)
            | (with_reducible apply exr5; case h => first | exact St.rows st 0 rfl | exact St.rows st 1 rfl | exact St.rows st 2 rfl | exact St.rows st 3 rfl | exact St.rows st 4 rfl | exact St.rows st 5 rfl | fail)
            | (with_reducible apply exr6; case h => first | exact St.rows st 0 rfl | exact St.rows st 1 rfl | exact St.rows st 2 rfl | exact St.rows st 3 rfl | exact St.rows st 4 rfl | exact St.rows st 5 rfl | fail)
            | (with_reducible apply exWr; case h => first | exact St.wr st 0 rfl rfl | exact St.wr st 1 rfl rfl | exact St.wr st 2 rfl rfl | exact St.wr st 3 rfl rfl | exact St.wr st 4 rfl rfl | exact St.wr st 5 rfl rfl | fail)
            | (with_reducible apply exWrRow; case h => first | exact St.wrRow st 0 rfl rfl rfl | exact St.wrRow st 1 rfl rfl rfl | exact St.wrRow st 2 rfl rfl rfl | exact St.wrRow st 3 rfl rfl rfl | exact St.wrRow st 4 rfl rfl rfl | exact St.wrRow st 5 rfl rfl rfl | fail)
            | (with_reducible refine LetW.cell ?_; (first | refine St.store st 0 rfl ?_ | refine St.store st 1 rfl ?_ | refine St.store st 2 rfl ?_ | refine St.store st 3 rfl ?_ | refine St.store st 4 rfl ?_ | refine St.store st 5 rfl ?_ | fail); (try clear st); intro w st; simp only [List.set] at st)
            | (with_reducible refine LetW.rows ?_; (first | refine St.storeRow st 0 rfl ?_ | refine St.storeRow st 1 rfl ?_ | refine St.storeRow st 2 rfl ?_ | refine St.storeRow st 3 rfl ?_ | refine St.storeRow st 4 rfl ?_ | refine St.storeRow st 5 rfl ?_ | fail); (try clear st); intro w st; simp only [List.set, setsL] at st)
            | ((with_reducible apply exr4); case h => first | exact St.rowAt st 0 rfl rfl | exact St.rowAt st 1 rfl rfl | exact St.rowAt st 2 rfl rfl | exact St.rowAt st 3 rfl rfl | exact St.rowAt st 4 rfl rfl | exact St.rowAt st 5 rfl rfl | fail)
            | ((with_reducible apply exr5); case h => first | exact St.rowAt st 0 rfl rfl | exact St.rowAt st 1 rfl rfl | exact St.rowAt st 2 rfl rfl | exact St.rowAt st 3 rfl rfl | exact St.rowAt st 4 rfl rfl | exact St.rowAt st 5 rfl rfl | fail)
            | ((with_reducible apply exr6); case h => first | exact St.rowAt st 0 rfl rfl | exact St.rowAt st 1 rfl rfl | exact St.rowAt st 2 rfl rfl | exact St.rowAt st 3 rfl rfl | exact St.rowAt st 4 rfl rfl | exact St.rowAt st 5 rfl rfl | fail)
            | with_reducible refine LetI.id (by omega) (by omega) ?_
            | fail
          refine Br.dec (fun h => absurd (hI2.done h) ha) (fun h => ?_)
          refine LetI.id (by omega) (by omega) ?_
          exact ⟨_, by omega, i + 1, nextN s, r, got, max sent (s.sent + 1), mail ++ [pcN s0 s.sent], told, p, k, p', c', pt, kt, by first | (simp; done) | (simp; omega), rfl, by omega, hI2, by first | omega | (simp; omega), by first | omega | (simp; omega), st⟩
      · rw [decide_eq_false hc]
        repeat' first
          | (with_reducible refine St.alloc st ?_; (try clear st); intro b w st)
          | with_reducible refine sz_and (by (repeat rw [ByteArray.size_append]); omega) ?_
          | (with_reducible apply ex0c; case h => first | exact St.cell st 0 rfl rfl | exact St.cell st 1 rfl rfl | exact St.cell st 2 rfl rfl | exact St.cell st 3 rfl rfl | exact St.cell st 4 rfl rfl | exact St.cell st 5 rfl rfl | exact St.cell st 6 rfl rfl | fail)
          | (with_reducible apply ex1c; case h => first | exact St.cell st 0 rfl rfl | exact St.cell st 1 rfl rfl | exact St.cell st 2 rfl rfl | exact St.cell st 3 rfl rfl | exact St.cell st 4 rfl rfl | exact St.cell st 5 rfl rfl | exact St.cell st 6 rfl rfl | fail)
          | (with_reducible apply ex3c; case h => first | exact St.cell st 0 rfl rfl | exact St.cell st 1 rfl rfl | exact St.cell st 2 rfl rfl | exact St.cell st 3 rfl rfl | exact St.cell st 4 rfl rfl | exact St.cell st 5 rfl rfl | exact St.cell st 6 rfl rfl | fail)
          | (with_reducible apply ex0r; case h => first | exact St.rows st 0 rfl | exact St.rows st 1 rfl | exact St.rows st 2 rfl | exact St.rows st 3 rfl | exact St.rows st 4 rfl | exact St.rows st 5 rfl | exact St.rows st 6 rfl | fail)
          | (with_reducible apply exr2; case h => first | exact St.rows st 0 rfl | exact St.rows st 1 rfl | exact St.rows st 2 rfl | exact St.rows st 3 rfl | exact St.rows st 4 rfl | exact St.rows st 5 rfl | exact St.rows st 6 rfl | fail)
          | (with_reducible apply exr3; case h => first | exact St.rows st 0 rfl | exact St.rows st 1 rfl | exact St.rows st 2 rfl | exact St.rows st 3 rfl | exact St.rows st 4 rfl | exact St.rows st 5 rfl | exact St.rows st 6 rfl | fail)
          | (with_reducible apply exr4; case h => first | exact St.rows st 0 rfl | exact St.rows st 1 rfl | exact St.rows st 2 rfl | exact St.rows st 3 rfl | exact St.rows st 4 rfl | exact St.rows st 5 rfl | exact St.rows st 6 rfl | fail)
          | (with_reducible apply exr5; case h => first | exact St.rows st 0 rfl | exact St.rows st 1 rfl | exact St.rows st 2 rfl | exact St.rows st 3 rfl | exact St.rows st 4 rfl | exact St.rows st 5 rfl | exact St.rows st 6 rfl | fail)
          | (with_reducible apply exr6; case h => first | exact St.rows st 0 rfl | exact St.rows st 1 rfl | exact St.rows st 2 rfl | exact St.rows st 3 rfl | exact St.rows st 4 rfl | exact St.rows st 5 rfl | exact St.rows st 6 rfl | fail)
          | (with_reducible apply exWr; case h => first | exact St.wr st 0 rfl rfl | exact St.wr st 1 rfl rfl | exact St.wr st 2 rfl rfl | exact St.wr st 3 rfl rfl | exact St.wr st 4 rfl rfl | exact St.wr st 5 rfl rfl | exact St.wr st 6 rfl rfl | fail)
          | (with_reducible apply exWrRow; case h => first | exact St.wrRow st 0 rfl rfl rfl | exact St.wrRow st 1 rfl rfl rfl | exact St.wrRow st 2 rfl rfl rfl | exact St.wrRow st 3 rfl rfl rfl | exact St.wrRow st 4 rfl rfl rfl | exact St.wrRow st 5 rfl rfl rfl | exact St.wrRow st 6 rfl rfl rfl | fail)
          | (with_reducible refine LetW.cell ?_; (first | refine St.store st 0 rfl ?_ | refine St.store st 1 rfl ?_ | refine St.store st 2 rfl ?_ | refine St.store st 3 rfl ?_ | refine St.store st 4 rfl ?_ | refine St.store st 5 rfl ?_ | refine St.store st 6 rfl ?_ | fail); (try clear st); intro w st; simp only [List.set] at st)
          | (with_reducible refine LetW.rows ?_; (first | refine St.storeRow st 0 rfl ?_ | refine St.storeRow st 1 rfl ?_ | refine St.storeRow st 2 rfl ?_ | refine St.storeRow st 3 rfl ?_ | refine St.storeRow st 4 rfl ?_ | refine St.storeRow st 5 rfl ?_ | refine St.storeRow st 6 rfl ?_ | fail); (try clear st); intro w st; simp only [List.set, setsL] at st)
          | ((with_reducible apply exr4); case h => first | exact St.rowAt st 0 rfl rfl | exact St.rowAt st 1 rfl rfl | exact St.rowAt st 2 rfl rfl | exact St.rowAt st 3 rfl rfl | exact St.rowAt st 4 rfl rfl | exact St.rowAt st 5 rfl rfl | exact St.rowAt st 6 rfl rfl | fail)
          | ((with_reducible apply exr5); case h => first | exact St.rowAt st 0 rfl rfl | exact St.rowAt st 1 rfl rfl | exact St.rowAt st 2 rfl rfl | exact St.rowAt st 3 rfl rfl | exact St.rowAt st 4 rfl rfl | exact St.rowAt st 5 rfl rfl | exact St.rowAt st 6 rfl rfl | fail)
          | ((with_reducible apply exr6); case h => first | exact St.rowAt st 0 rfl rfl | exact St.rowAt st 1 rfl rfl | exact St.rowAt st 2 rfl rfl | exact St.rowAt st 3 rfl rfl | exact St.rowAt st 4 rfl rfl | exact St.rowAt st 5 rfl rfl | exact St.rowAt st 6 rfl rfl | fail)
          | with_reducible refine LetI.id (by omega) (by omega) ?_
          | fail
        refine Br.nay rfl ?_
        replace st : St No w0 w [rcvB br (r) p k, rcvR (r) p k, sndA bs (nextN s) pp kk, sndR s0 pp kk, mailA (mail) pm km, toldA (told) pt kt] := st.pick [1, 2, 3, 4, 5, 6] rfl (by decide)
        have hI2 : Inv s0 (nextN s) (r) (got) (sent) (mail) (told) := hI.stay hc
        have hk2 := hI2.known
        refine Tr.go (rtext_tr br _ hI2.rok hI2.pos _ _) st 0 1 rfl rfl (by decide) (fun _ hg => hg) ?_
        clear st
        intro w st
        simp only [List.set] at st
        refine ⟨_, _, rfl, ?_⟩
        by_cases ha : allR (r)
        · rw [decide_eq_true ha, hI2.text ha, htx]
          refine Br.sure rfl (Br.not (Br.sure (by simp) ?_))
          repeat' first
            | (with_reducible refine St.alloc st ?_; (try clear st); intro b w st)
            | with_reducible refine sz_and (by (repeat rw [ByteArray.size_append]); omega) ?_
            | (refine Tu.go (shave_tu _ _ pp kk hI2.ok) st 0 rfl (fun _ hg => hg) ?_; (try clear st); intro w st; simp only [List.set] at st; refine ⟨_, rfl, ?_⟩)
            | (refine Tu.go (shave_tu _ _ pp kk hI2.ok) st 1 rfl (fun _ hg => hg) ?_; (try clear st); intro w st; simp only [List.set] at st; refine ⟨_, rfl, ?_⟩)
            | (refine Tu.go (shave_tu _ _ pp kk hI2.ok) st 2 rfl (fun _ hg => hg) ?_; (try clear st); intro w st; simp only [List.set] at st; refine ⟨_, rfl, ?_⟩)
            | (refine Tu.go (shave_tu _ _ pp kk hI2.ok) st 3 rfl (fun _ hg => hg) ?_; (try clear st); intro w st; simp only [List.set] at st; refine ⟨_, rfl, ?_⟩)
            | (refine Tu.go (shave_tu _ _ pp kk hI2.ok) st 4 rfl (fun _ hg => hg) ?_; (try clear st); intro w st; simp only [List.set] at st; refine ⟨_, rfl, ?_⟩)
            | (refine Tu.go (shave_tu _ _ pp kk hI2.ok) st 5 rfl (fun _ hg => hg) ?_; (try clear st); intro w st; simp only [List.set] at st; refine ⟨_, rfl, ?_⟩)
            | (with_reducible apply ex0c; case h => first | exact St.cell st 0 rfl rfl | exact St.cell st 1 rfl rfl | exact St.cell st 2 rfl rfl | exact St.cell st 3 rfl rfl | exact St.cell st 4 rfl rfl | exact St.cell st 5 rfl rfl | fail)
            | (with_reducible apply ex1c; case h => first | exact St.cell st 0 rfl rfl | exact St.cell st 1 rfl rfl | exact St.cell st 2 rfl rfl | exact St.cell st 3 rfl rfl | exact St.cell st 4 rfl rfl | exact St.cell st 5 rfl rfl | fail)
            | (with_reducible apply ex3c; case h => first | exact St.cell st 0 rfl rfl | exact St.cell st 1 rfl rfl | exact St.cell st 2 rfl rfl | exact St.cell st 3 rfl rfl | exact St.cell st 4 rfl rfl | exact St.cell st 5 rfl rfl | fail)
            | (with_reducible apply ex0r; case h => first | exact St.rows st 0 rfl | exact St.rows st 1 rfl | exact St.rows st 2 rfl | exact St.rows st 3 rfl | exact St.rows st 4 rfl | exact St.rows st 5 rfl | fail)
            | (with_reducible apply exr2; case h => first | exact St.rows st 0 rfl | exact St.rows st 1 rfl | exact St.rows st 2 rfl | exact St.rows st 3 rfl | exact St.rows st 4 rfl | exact St.rows st 5 rfl | fail)
            | (with_reducible apply exr3; case h => first | exact St.rows st 0 rfl | exact St.rows st 1 rfl | exact St.rows st 2 rfl | exact St.rows st 3 rfl | exact St.rows st 4 rfl | exact St.rows st 5 rfl | fail)
            | (with_reducible apply exr4; case h => first | exact St.rows st 0 rfl | exact St.rows st 1 rfl | exact St.rows st 2 rfl | exact St.rows st 3 rfl | exact St.rows st 4 rfl | exact St.rows st 5 rfl | fail)
            | (with_reducible apply exr5; case h => first | exact St.rows st 0 rfl | exact St.rows st 1 rfl | exact St.rows st 2 rfl | exact St.rows st 3 rfl | exact St.rows st 4 rfl | exact St.rows st 5 rfl | fail)
            | (with_reducible apply exr6; case h => first | exact St.rows st 0 rfl | exact St.rows st 1 rfl | exact St.rows st 2 rfl | exact St.rows st 3 rfl | exact St.rows st 4 rfl | exact St.rows st 5 rfl | fail)
            | (with_reducible apply exWr; case h => first | exact St.wr st 0 rfl rfl | exact St.wr st 1 rfl rfl | exact St.wr st 2 rfl rfl | exact St.wr st 3 rfl rfl | exact St.wr st 4 rfl rfl | exact St.wr st 5 rfl rfl | fail)
            | (with_reducible apply exWrRow; case h => first | exact St.wrRow st 0 rfl rfl rfl | exact St.wrRow st 1 rfl rfl rfl | exact St.wrRow st 2 rfl rfl rfl | exact St.wrRow st 3 rfl rfl rfl | exact St.wrRow st 4 rfl rfl rfl | exact St.wrRow st 5 rfl rfl rfl | fail)
            | (with_reducible refine LetW.cell ?_; (first | refine St.store st 0 rfl ?_ | refine St.store st 1 rfl ?_ | refine St.store st 2 rfl ?_ | refine St.store st 3 rfl ?_ | refine St.store st 4 rfl ?_ | refine St.store st 5 rfl ?_ | fail); (try clear st); intro w st; simp only [List.set] at st)
            | (with_reducible refine LetW.rows ?_; (first | refine St.storeRow st 0 rfl ?_ | refine St.storeRow st 1 rfl ?_ | refine St.storeRow st 2 rfl ?_ | refine St.storeRow st 3 rfl ?_ | refine St.storeRow st 4 rfl ?_ | refine St.storeRow st 5 rfl ?_ | fail); (try clear st); intro w st; simp only [List.set, setsL] at st)
            | ((with_reducible apply exr4); case h => first | exact St.rowAt st 0 rfl rfl | exact St.rowAt st 1 rfl rfl | exact St.rowAt st 2 rfl rfl | exact St.rowAt st 3 rfl rfl | exact St.rowAt st 4 rfl rfl | exact St.rowAt st 5 rfl rfl | fail)
            | ((with_reducible apply exr5); case h => first | exact St.rowAt st 0 rfl rfl | exact St.rowAt st 1 rfl rfl | exact St.rowAt st 2 rfl rfl | exact St.rowAt st 3 rfl rfl | exact St.rowAt st 4 rfl rfl | exact St.rowAt st 5 rfl rfl | fail)
            | ((with_reducible apply exr6); case h => first | exact St.rowAt st 0 rfl rfl | exact St.rowAt st 1 rfl rfl | exact St.rowAt st 2 rfl rfl | exact St.rowAt st 3 rfl rfl | exact St.rowAt st 4 rfl rfl | exact St.rowAt st 5 rfl rfl | fail)
            | with_reducible refine LetI.id (by omega) (by omega) ?_
            | fail
          refine Br.dec (fun h => by omega) (fun _ => ?_)
          repeat' first
            | (with_reducible refine St.alloc st ?_; (try clear st); intro b w st)
            | with_reducible refine sz_and (by (repeat rw [ByteArray.size_append]); omega) ?_
            | (refine Tu.go (sdone_tu _ _ pp kk hI2.ok) st 0 rfl (fun _ hg => hg) ?_; (try clear st); intro w st; simp only [List.set] at st; refine ⟨_, rfl, ?_⟩)
            | (refine Tu.go (sdone_tu _ _ pp kk hI2.ok) st 1 rfl (fun _ hg => hg) ?_; (try clear st); intro w st; simp only [List.set] at st; refine ⟨_, rfl, ?_⟩)
            | (refine Tu.go (sdone_tu _ _ pp kk hI2.ok) st 2 rfl (fun _ hg => hg) ?_; (try clear st); intro w st; simp only [List.set] at st; refine ⟨_, rfl, ?_⟩)
            | (refine Tu.go (sdone_tu _ _ pp kk hI2.ok) st 3 rfl (fun _ hg => hg) ?_; (try clear st); intro w st; simp only [List.set] at st; refine ⟨_, rfl, ?_⟩)
            | (refine Tu.go (sdone_tu _ _ pp kk hI2.ok) st 4 rfl (fun _ hg => hg) ?_; (try clear st); intro w st; simp only [List.set] at st; refine ⟨_, rfl, ?_⟩)
            | (refine Tu.go (sdone_tu _ _ pp kk hI2.ok) st 5 rfl (fun _ hg => hg) ?_; (try clear st); intro w st; simp only [List.set] at st; refine ⟨_, rfl, ?_⟩)
            | (with_reducible apply ex0c; case h => first | exact St.cell st 0 rfl rfl | exact St.cell st 1 rfl rfl | exact St.cell st 2 rfl rfl | exact St.cell st 3 rfl rfl | exact St.cell st 4 rfl rfl | exact St.cell st 5 rfl rfl | fail)
            | (with_reducible apply ex1c; case h => first | exact St.cell st 0 rfl rfl | exact St.cell st 1 rfl rfl | exact St.cell st 2 rfl rfl | exact St.cell st 3 rfl rfl | exact St.cell st 4 rfl rfl | exact St.cell st 5 rfl rfl | fail)
            | (with_reducible apply ex3c; case h => first | exact St.cell st 0 rfl rfl | exact St.cell st 1 rfl rfl | exact St.cell st 2 rfl rfl | exact St.cell st 3 rfl rfl | exact St.cell st 4 rfl rfl | exact St.cell st 5 rfl rfl | fail)
            | (with_reducible apply ex0r; case h => first | exact St.rows st 0 rfl | exact St.rows st 1 rfl | exact St.rows st 2 rfl | exact St.rows st 3 rfl | exact St.rows st 4 rfl | exact St.rows st 5 rfl | fail)
            | (with_reducible apply exr2; case h => first | exact St.rows st 0 rfl | exact St.rows st 1 rfl | exact St.rows st 2 rfl | exact St.rows st 3 rfl | exact St.rows st 4 rfl | exact St.rows st 5 rfl | fail)
            | (with_reducible apply exr3; case h => first | exact St.rows st 0 rfl | exact St.rows st 1 rfl | exact St.rows st 2 rfl | exact St.rows st 3 rfl | exact St.rows st 4 rfl | exact St.rows st 5 rfl | fail)
            | (with_reducible apply exr4; case h => first | exact St.rows st 0 rfl | exact St.rows st 1 rfl | exact St.rows st 2 rfl | exact St.rows st 3 rfl | exact St.rows st 4 rfl | exact St.rows st 5 rfl | fail)
            | (with_reducible apply exr5; case h => first | exact St.rows st 0 rfl | exact St.rows st 1 rfl | exact St.rows st 2 rfl | exact St.rows st 3 rfl | exact St.rows st 4 rfl | exact St.rows st 5 rfl | fail)
            | (with_reducible apply exr6; case h => first | exact St.rows st 0 rfl | exact St.rows st 1 rfl | exact St.rows st 2 rfl | exact St.rows st 3 rfl | exact St.rows st 4 rfl | exact St.rows st 5 rfl | fail)
            | (with_reducible apply exWr; case h => first | exact St.wr st 0 rfl rfl | exact St.wr st 1 rfl rfl | exact St.wr st 2 rfl rfl | exact St.wr st 3 rfl rfl | exact St.wr st 4 rfl rfl | exact St.wr st 5 rfl rfl | fail)
            | (with_reducible apply exWrRow; case h => first | exact St.wrRow st 0 rfl rfl rfl | exact St.wrRow st 1 rfl rfl rfl | exact St.wrRow st 2 rfl rfl rfl | exact St.wrRow st 3 rfl rfl rfl | exact St.wrRow st 4 rfl rfl rfl | exact St.wrRow st 5 rfl rfl rfl | fail)
            | (with_reducible refine LetW.cell ?_; (first | refine St.store st 0 rfl ?_ | refine St.store st 1 rfl ?_ | refine St.store st 2 rfl ?_ | refine St.store st 3 rfl ?_ | refine St.store st 4 rfl ?_ | refine St.store st 5 rfl ?_ | fail); (try clear st); intro w st; simp only [List.set] at st)
            | (with_reducible refine LetW.rows ?_; (first | refine St.storeRow st 0 rfl ?_ | refine St.storeRow st 1 rfl ?_ | refine St.storeRow st 2 rfl ?_ | refine St.storeRow st 3 rfl ?_ | refine St.storeRow st 4 rfl ?_ | refine St.storeRow st 5 rfl ?_ | fail); (try clear st); intro w st; simp only [List.set, setsL] at st)
            | ((with_reducible apply exr4); case h => first | exact St.rowAt st 0 rfl rfl | exact St.rowAt st 1 rfl rfl | exact St.rowAt st 2 rfl rfl | exact St.rowAt st 3 rfl rfl | exact St.rowAt st 4 rfl rfl | exact St.rowAt st 5 rfl rfl | fail)
            | ((with_reducible apply exr5); case h => first | exact St.rowAt st 0 rfl rfl | exact St.rowAt st 1 rfl rfl | exact St.rowAt st 2 rfl rfl | exact St.rowAt st 3 rfl rfl | exact St.rowAt st 4 rfl rfl | exact St.rowAt st 5 rfl rfl | fail)
            | ((with_reducible apply exr6); case h => first | exact St.rowAt st 0 rfl rfl | exact St.rowAt st 1 rfl rfl | exact St.rowAt st 2 rfl rfl | exact St.rowAt st 3 rfl rfl | exact St.rowAt st 4 rfl rfl | exact St.rowAt st 5 rfl rfl | fail)
            | with_reducible refine LetI.id (by omega) (by omega) ?_
            | fail
          refine Br.dec (fun h => Br.not (Br.sure rfl ?_)) (fun h => ?_)
          · refine LetI.id (by omega) (by omega) ?_
            exact ⟨_, by omega, i + 1, nextN s, r, got, sent, mail, told, p, k, pm, km, pt, kt, by first | (simp; done) | (simp; omega), rfl, by omega, hI2, by first | omega | (simp; omega), by first | omega | (simp; omega), st⟩
          · refine LetI.id (by omega) (by omega) ?_
            exact ⟨_, by omega, i + 1, nextN s, r, got, sent, mail, told, p, k, pm, km, pt, kt, by first | (simp; done) | (simp; omega), rfl, by omega, hI2, by first | omega | (simp; omega), by first | omega | (simp; omega), st⟩
        · rw [decide_eq_false ha]
          refine Br.nay rfl ?_
          repeat' first
            | (with_reducible refine St.alloc st ?_; (try clear st); intro b w st)
            | with_reducible refine sz_and (by (repeat rw [ByteArray.size_append]); omega) ?_
            | (refine Tu.go (shave_tu _ _ pp kk hI2.ok) st 0 rfl (fun _ hg => hg) ?_; (try clear st); intro w st; simp only [List.set] at st; refine ⟨_, rfl, ?_⟩)
            | (refine Tu.go (shave_tu _ _ pp kk hI2.ok) st 1 rfl (fun _ hg => hg) ?_; (try clear st); intro w st; simp only [List.set] at st; refine ⟨_, rfl, ?_⟩)
            | (refine Tu.go (shave_tu _ _ pp kk hI2.ok) st 2 rfl (fun _ hg => hg) ?_; (try clear st); intro w st; simp only [List.set] at st; refine ⟨_, rfl, ?_⟩)
            | (refine Tu.go (shave_tu _ _ pp kk hI2.ok) st 3 rfl (fun _ hg => hg) ?_; (try clear st); intro w st; simp only [List.set] at st; refine ⟨_, rfl, ?_⟩)
            | (refine Tu.go (shave_tu _ _ pp kk hI2.ok) st 4 rfl (fun _ hg => hg) ?_; (try clear st); intro w st; simp only [List.set] at st; refine ⟨_, rfl, ?_⟩)
            | (refine Tu.go (shave_tu _ _ pp kk hI2.ok) st 5 rfl (fun _ hg => hg) ?_; (try clear st); intro w st; simp only [List.set] at st; refine ⟨_, rfl, ?_⟩)
            | (with_reducible apply ex0c; case h => first | exact St.cell st 0 rfl rfl | exact St.cell st 1 rfl rfl | exact St.cell st 2 rfl rfl | exact St.cell st 3 rfl rfl | exact St.cell st 4 rfl rfl | exact St.cell st 5 rfl rfl | fail)
            | (with_reducible apply ex1c; case h => first | exact St.cell st 0 rfl rfl | exact St.cell st 1 rfl rfl | exact St.cell st 2 rfl rfl | exact St.cell st 3 rfl rfl | exact St.cell st 4 rfl rfl | exact St.cell st 5 rfl rfl | fail)
            | (with_reducible apply ex3c; case h => first | exact St.cell st 0 rfl rfl | exact St.cell st 1 rfl rfl | exact St.cell st 2 rfl rfl | exact St.cell st 3 rfl rfl | exact St.cell st 4 rfl rfl | exact St.cell st 5 rfl rfl | fail)
            | (with_reducible apply ex0r; case h => first | exact St.rows st 0 rfl | exact St.rows st 1 rfl | exact St.rows st 2 rfl | exact St.rows st 3 rfl | exact St.rows st 4 rfl | exact St.rows st 5 rfl | fail)
            | (with_reducible apply exr2; case h => first | exact St.rows st 0 rfl | exact St.rows st 1 rfl | exact St.rows st 2 rfl | exact St.rows st 3 rfl | exact St.rows st 4 rfl | exact St.rows st 5 rfl | fail)
            | (with_reducible apply exr3; case h => first | exact St.rows st 0 rfl | exact St.rows st 1 rfl | exact St.rows st 2 rfl | exact St.rows st 3 rfl | exact St.rows st 4 rfl | exact St.rows st 5 rfl | fail)
            | (with_reducible apply exr4; case h => first | exact St.rows st 0 rfl | exact St.rows st 1 rfl | exact St.rows st 2 rfl | exact St.rows st 3 rfl | exact St.rows st 4 rfl | exact St.rows st 5 rfl | fail)
            | (with_reducible apply exr5; case h => first | exact St.rows st 0 rfl | exact St.rows st 1 rfl | exact St.rows st 2 rfl | exact St.rows st 3 rfl | exact St.rows st 4 rfl | exact St.rows st 5 rfl | fail)
            | (with_reducible apply exr6; case h => first | exact St.rows st 0 rfl | exact St.rows st 1 rfl | exact St.rows st 2 rfl | exact St.rows st 3 rfl | exact St.rows st 4 rfl | exact St.rows st 5 rfl | fail)
            | (with_reducible apply exWr; case h => first | exact St.wr st 0 rfl rfl | exact St.wr st 1 rfl rfl | exact St.wr st 2 rfl rfl | exact St.wr st 3 rfl rfl | exact St.wr st 4 rfl rfl | exact St.wr st 5 rfl rfl | fail)
            | (with_reducible apply exWrRow; case h => first | exact St.wrRow st 0 rfl rfl rfl | exact St.wrRow st 1 rfl rfl rfl | exact St.wrRow st 2 rfl rfl rfl | exact St.wrRow st 3 rfl rfl rfl | exact St.wrRow st 4 rfl rfl rfl | exact St.wrRow st 5 rfl rfl rfl | fail)
            | (with_reducible refine LetW.cell ?_; (first | refine St.store st 0 rfl ?_ | refine St.store st 1 rfl ?_ | refine St.store st 2 rfl ?_ | refine St.store st 3 rfl ?_ | refine St.store st 4 rfl ?_ | refine St.store st 5 rfl ?_ | fail); (try clear st); intro w st; simp only [List.set] at st)
            | (with_reducible refine LetW.rows ?_; (first | refine St.storeRow st 0 rfl ?_ | refine St.storeRow st 1 rfl ?_ | refine St.storeRow st 2 rfl ?_ | refine St.storeRow st 3 rfl ?_ | refine St.storeRow st 4 rfl ?_ | refine St.storeRow st 5 rfl ?_ | fail); (try clear st); intro w st; simp only [List.set, setsL] at st)
            | ((with_reducible apply exr4); case h => first | exact St.rowAt st 0 rfl rfl | exact St.rowAt st 1 rfl rfl | exact St.rowAt st 2 rfl rfl | exact St.rowAt st 3 rfl rfl | exact St.rowAt st 4 rfl rfl | exact St.rowAt st 5 rfl rfl | fail)
            | ((with_reducible apply exr5); case h => first | exact St.rowAt st 0 rfl rfl | exact St.rowAt st 1 rfl rfl | exact St.rowAt st 2 rfl rfl | exact St.rowAt st 3 rfl rfl | exact St.rowAt st 4 rfl rfl | exact St.rowAt st 5 rfl rfl | fail)
            | ((with_reducible apply exr6); case h => first | exact St.rowAt st 0 rfl rfl | exact St.rowAt st 1 rfl rfl | exact St.rowAt st 2 rfl rfl | exact St.rowAt st 3 rfl rfl | exact St.rowAt st 4 rfl rfl | exact St.rowAt st 5 rfl rfl | fail)
            | with_reducible refine LetI.id (by omega) (by omega) ?_
            | fail
          refine Br.dec (fun h => by omega) (fun _ => ?_)
          repeat' first
            | (with_reducible refine St.alloc st ?_; (try clear st); intro b w st)
            | with_reducible refine sz_and (by (repeat rw [ByteArray.size_append]); omega) ?_
            | (refine Tu.go (sdone_tu _ _ pp kk hI2.ok) st 0 rfl (fun _ hg => hg) ?_; (try clear st); intro w st; simp only [List.set] at st; refine ⟨_, rfl, ?_⟩)
            | (refine Tu.go (sdone_tu _ _ pp kk hI2.ok) st 1 rfl (fun _ hg => hg) ?_; (try clear st); intro w st; simp only [List.set] at st; refine ⟨_, rfl, ?_⟩)
            | (refine Tu.go (sdone_tu _ _ pp kk hI2.ok) st 2 rfl (fun _ hg => hg) ?_; (try clear st); intro w st; simp only [List.set] at st; refine ⟨_, rfl, ?_⟩)
            | (refine Tu.go (sdone_tu _ _ pp kk hI2.ok) st 3 rfl (fun _ hg => hg) ?_; (try clear st); intro w st; simp only [List.set] at st; refine ⟨_, rfl, ?_⟩)
            | (refine Tu.go (sdone_tu _ _ pp kk hI2.ok) st 4 rfl (fun _ hg => hg) ?_; (try clear st); intro w st; simp only [List.set] at st; refine ⟨_, rfl, ?_⟩)
            | (refine Tu.go (sdone_tu _ _ pp kk hI2.ok) st 5 rfl (fun _ hg => hg) ?_; (try clear st); intro w st; simp only [List.set] at st; refine ⟨_, rfl, ?_⟩)
            | (with_reducible apply ex0c; case h => first | exact St.cell st 0 rfl rfl | exact St.cell st 1 rfl rfl | exact St.cell st 2 rfl rfl | exact St.cell st 3 rfl rfl | exact St.cell st 4 rfl rfl | exact St.cell st 5 rfl rfl | fail)
            | (with_reducible apply ex1c; case h => first | exact St.cell st 0 rfl rfl | exact St.cell st 1 rfl rfl | exact St.cell st 2 rfl rfl | exact St.cell st 3 rfl rfl | exact St.cell st 4 rfl rfl | exact St.cell st 5 rfl rfl | fail)
            | (with_reducible apply ex3c; case h => first | exact St.cell st 0 rfl rfl | exact St.cell st 1 rfl rfl | exact St.cell st 2 rfl rfl | exact St.cell st 3 rfl rfl | exact St.cell st 4 rfl rfl | exact St.cell st 5 rfl rfl | fail)
            | (with_reducible apply ex0r; case h => first | exact St.rows st 0 rfl | exact St.rows st 1 rfl | exact St.rows st 2 rfl | exact St.rows st 3 rfl | exact St.rows st 4 rfl | exact St.rows st 5 rfl | fail)
            | (with_reducible apply exr2; case h => first | exact St.rows st 0 rfl | exact St.rows st 1 rfl | exact St.rows st 2 rfl | exact St.rows st 3 rfl | exact St.rows st 4 rfl | exact St.rows st 5 rfl | fail)
            | (with_reducible apply exr3; case h => first | exact St.rows st 0 rfl | exact St.rows st 1 rfl | exact St.rows st 2 rfl | exact St.rows st 3 rfl | exact St.rows st 4 rfl | exact St.rows st 5 rfl | fail)
            | (with_reducible apply exr4; case h => first | exact St.rows st 0 rfl | exact St.rows st 1 rfl | exact St.rows st 2 rfl | exact St.rows st 3 rfl | exact St.rows st 4 rfl | exact St.rows st 5 rfl | fail)
            | (with_reducible apply exr5; case h => first | exact St.rows st 0 rfl | exact St.rows st 1 rfl | exact St.rows st 2 rfl | exact St.rows st 3 rfl | exact St.rows st 4 rfl | exact St.rows st 5 rfl | fail)
            | (with_reducible apply exr6; case h => first | exact St.rows st 0 rfl | exact St.rows st 1 rfl | exact St.rows st 2 rfl | exact St.rows st 3 rfl | exact St.rows st 4 rfl | exact St.rows st 5 rfl | fail)
            | (with_reducible apply exWr; case h => first | exact St.wr st 0 rfl rfl | exact St.wr st 1 rfl rfl | exact St.wr st 2 rfl rfl | exact St.wr st 3 rfl rfl | exact St.wr st 4 rfl rfl | exact St.wr st 5 rfl rfl | fail)
            | (with_reducible apply exWrRow; case h => first | exact St.wrRow st 0 rfl rfl rfl | exact St.wrRow st 1 rfl rfl rfl | exact St.wrRow st 2 rfl rfl rfl | exact St.wrRow st 3 rfl rfl rfl | exact St.wrRow st 4 rfl rfl rfl | exact St.wrRow st 5 rfl rfl rfl | fail)
            | (with_reducible refine LetW.cell ?_; (first | refine St.store st 0 rfl ?_ | refine St.store st 1 rfl ?_ | refine St.store st 2 rfl ?_ | refine St.store st 3 rfl ?_ | refine St.store st 4 rfl ?_ | refine St.store st 5 rfl ?_ | fail); (try clear st); intro w st; simp only [List.set] at st)
            | (with_reducible refine LetW.rows ?_; (first | refine St.storeRow st 0 rfl ?_ | refine St.storeRow st 1 rfl ?_ | refine St.storeRow st 2 rfl ?_ | refine St.storeRow st 3 rfl ?_ | refine St.storeRow st 4 rfl ?_ | refine St.storeRow st 5 rfl ?_ | fail); (try clear st); intro w st; simp only [List.set, setsL] at st)
            | ((with_reducible apply exr4); case h => first | exact St.rowAt st 0 rfl rfl | exact St.rowAt st 1 rfl rfl | exact St.rowAt st 2 rfl rfl | exact St.rowAt st 3 rfl rfl | exact St.rowAt st 4 rfl rfl | exact St.rowAt st 5 rfl rfl | fail)
            | ((with_reducible apply exr5); case h => first | exact St.rowAt st 0 rfl rfl | exact St.rowAt st 1 rfl rfl | exact St.rowAt st 2 rfl rfl | exact St.rowAt st 3 rfl rfl | exact St.rowAt st 4 rfl rfl | exact St.rowAt st 5 rfl rfl | fail)
            | ((with_reducible apply exr6); case h => first | exact St.rowAt st 0 rfl rfl | exact St.rowAt st 1 rfl rfl | exact St.rowAt st 2 rfl rfl | exact St.rowAt st 3 rfl rfl | exact St.rowAt st 4 rfl rfl | exact St.rowAt st 5 rfl rfl | fail)
            | with_reducible refine LetI.id (by omega) (by omega) ?_
            | fail
          refine Br.dec (fun h => absurd (hI2.done h) ha) (fun h => ?_)
          refine LetI.id (by omega) (by omega) ?_
          exact ⟨_, by omega, i + 1, nextN s, r, got, sent, mail, told, p, k, pm, km, pt, kt, by first | (simp; done) | (simp; omega), rfl, by omega, hI2, by first | omega | (simp; omega), by first | omega | (simp; omega), st⟩)
  · rcases h7 with rfl | rfl <;> (
      repeat' first
        | refine Br.sure rfl ?_
        | refine Br.nay rfl ?_
      refine Br.dec (fun hpos => ?_) (fun hpos => ?_)
      · have hq : u % (mail.length : Int) = (((u.toNat % mail.length : Nat)) : Int) := by rw [Int.natCast_emod]; congr 1; omega
        have hqlt : u.toNat % mail.length < mail.length := Nat.mod_lt _ (by omega)
        refine ⟨by omega, LetI.of ?_⟩
        rw [Int.tmod_eq_emod_of_nonneg (by omega), hq]
        generalize u.toNat % mail.length = q at hqlt
        have hx := List.getElem_mem hqlt
        obtain ⟨f1, f2, f3, f4⟩ := hI.take hx
        obtain ⟨am, hpm, hrm⟩ := ElAt.of_owns pcE_len (st.hold 4 _ rfl) rfl q hqlt
        cases hpm
        refine NilOk.intro rfl ⟨⟨by omega, by omega⟩, _, _, _, _, by simpa using hrm, ?_⟩
        refine Tk.go (rtake_tk br _ hI.rok _ _ mail[q] ?_) st ?_
        · obtain ⟨j, hj, he⟩ := hI.mail _ hx
          rw [he]
          show -9223372036854775808 ≤ (s0.total : Int) ∧ (s0.total : Int) ≤ 9223372036854775807
          omega
        clear st
        rintro _ _ w ⟨rfl, p', k', rfl⟩ st
        simp only [List.cons_append, List.nil_append] at st
        generalize hrr : takeR r mail[q] = r2 at *
        refine ⟨_, _, rfl, ?_⟩
        refine Br.nei (fun h => absurd f1 h) (fun _ => ?_)
        refine Br.dec (fun h => by omega) (fun _ => ?_)
        refine LetI.id (by omega) (by omega) ?_
        refine Br.dec (fun h => by omega) (fun _ => ?_)
        refine Br.dec (fun h => by omega) (fun _ => ?_)
        repeat' first
          | (with_reducible refine St.alloc st ?_; (try clear st); intro b w st)
          | with_reducible refine sz_and (by (repeat rw [ByteArray.size_append]); omega) ?_
          | (with_reducible apply ex0c; case h => first | exact St.cell st 0 rfl rfl | exact St.cell st 1 rfl rfl | exact St.cell st 2 rfl rfl | exact St.cell st 3 rfl rfl | exact St.cell st 4 rfl rfl | exact St.cell st 5 rfl rfl | exact St.cell st 6 rfl rfl | fail)
          | (with_reducible apply ex1c; case h => first | exact St.cell st 0 rfl rfl | exact St.cell st 1 rfl rfl | exact St.cell st 2 rfl rfl | exact St.cell st 3 rfl rfl | exact St.cell st 4 rfl rfl | exact St.cell st 5 rfl rfl | exact St.cell st 6 rfl rfl | fail)
          | (with_reducible apply ex3c; case h => first | exact St.cell st 0 rfl rfl | exact St.cell st 1 rfl rfl | exact St.cell st 2 rfl rfl | exact St.cell st 3 rfl rfl | exact St.cell st 4 rfl rfl | exact St.cell st 5 rfl rfl | exact St.cell st 6 rfl rfl | fail)
          | (with_reducible apply ex0r; case h => first | exact St.rows st 0 rfl | exact St.rows st 1 rfl | exact St.rows st 2 rfl | exact St.rows st 3 rfl | exact St.rows st 4 rfl | exact St.rows st 5 rfl | exact St.rows st 6 rfl | fail)
          | (with_reducible apply exr2; case h => first | exact St.rows st 0 rfl | exact St.rows st 1 rfl | exact St.rows st 2 rfl | exact St.rows st 3 rfl | exact St.rows st 4 rfl | exact St.rows st 5 rfl | exact St.rows st 6 rfl | fail)
          | (with_reducible apply exr3; case h => first | exact St.rows st 0 rfl | exact St.rows st 1 rfl | exact St.rows st 2 rfl | exact St.rows st 3 rfl | exact St.rows st 4 rfl | exact St.rows st 5 rfl | exact St.rows st 6 rfl | fail)
          | (with_reducible apply exr4; case h => first | exact St.rows st 0 rfl | exact St.rows st 1 rfl | exact St.rows st 2 rfl | exact St.rows st 3 rfl | exact St.rows st 4 rfl | exact St.rows st 5 rfl | exact St.rows st 6 rfl | fail)
          | (with_reducible apply exr5; case h => first | exact St.rows st 0 rfl | exact St.rows st 1 rfl | exact St.rows st 2 rfl | exact St.rows st 3 rfl | exact St.rows st 4 rfl | exact St.rows st 5 rfl | exact St.rows st 6 rfl | fail)
          | (with_reducible apply exr6; case h => first | exact St.rows st 0 rfl | exact St.rows st 1 rfl | exact St.rows st 2 rfl | exact St.rows st 3 rfl | exact St.rows st 4 rfl | exact St.rows st 5 rfl | exact St.rows st 6 rfl | fail)
          | (with_reducible apply exWr; case h => first | exact St.wr st 0 rfl rfl | exact St.wr st 1 rfl rfl | exact St.wr st 2 rfl rfl | exact St.wr st 3 rfl rfl | exact St.wr st 4 rfl rfl | exact St.wr st 5 rfl rfl | exact St.wr st 6 rfl rfl | fail)
          | (with_reducible apply exWrRow; case h => first | exact St.wrRow st 0 rfl rfl rfl | exact St.wrRow st 1 rfl rfl rfl | exact St.wrRow st 2 rfl rfl rfl | exact St.wrRow st 3 rfl rfl rfl | exact St.wrRow st 4 rfl rfl rfl | exact St.wrRow st 5 rfl rfl rfl | exact St.wrRow st 6 rfl rfl rfl | fail)
          | (with_reducible refine LetW.cell ?_; (first | refine St.store st 0 rfl ?_ | refine St.store st 1 rfl ?_ | refine St.store st 2 rfl ?_ | refine St.store st 3 rfl ?_ | refine St.store st 4 rfl ?_ | refine St.store st 5 rfl ?_ | refine St.store st 6 rfl ?_ | fail); (try clear st); intro w st; simp only [List.set] at st)
          | (with_reducible refine LetW.rows ?_; (first | refine St.storeRow st 0 rfl ?_ | refine St.storeRow st 1 rfl ?_ | refine St.storeRow st 2 rfl ?_ | refine St.storeRow st 3 rfl ?_ | refine St.storeRow st 4 rfl ?_ | refine St.storeRow st 5 rfl ?_ | refine St.storeRow st 6 rfl ?_ | fail); (try clear st); intro w st; simp only [List.set, setsL] at st)
          | ((with_reducible apply exr4); case h => first | exact St.rowAt st 0 rfl rfl | exact St.rowAt st 1 rfl rfl | exact St.rowAt st 2 rfl rfl | exact St.rowAt st 3 rfl rfl | exact St.rowAt st 4 rfl rfl | exact St.rowAt st 5 rfl rfl | exact St.rowAt st 6 rfl rfl | fail)
          | ((with_reducible apply exr5); case h => first | exact St.rowAt st 0 rfl rfl | exact St.rowAt st 1 rfl rfl | exact St.rowAt st 2 rfl rfl | exact St.rowAt st 3 rfl rfl | exact St.rowAt st 4 rfl rfl | exact St.rowAt st 5 rfl rfl | exact St.rowAt st 6 rfl rfl | fail)
          | ((with_reducible apply exr6); case h => first | exact St.rowAt st 0 rfl rfl | exact St.rowAt st 1 rfl rfl | exact St.rowAt st 2 rfl rfl | exact St.rowAt st 3 rfl rfl | exact St.rowAt st 4 rfl rfl | exact St.rowAt st 5 rfl rfl | exact St.rowAt st 6 rfl rfl | fail)
          | with_reducible refine LetI.id (by omega) (by omega) ?_
          | fail
        refine St.append10 st 6 0 Try.underlying57 hi1 hz1 hsi1 hbi1 rfl (by decide) intE_len intE_plain (n := told.length) (x := (r2.ps.length : Int)) rfl rfl (by simp [maxLen]; omega) (by omega) ?_
        clear st
        intro p2 c2 w st
        simp only [List.set] at st
        refine ⟨_, _, _, rfl, ?_⟩
        replace st : St No w0 w [rcvB br (r2) p' k', rcvR (r2) p' k', sndA bs (s) pp kk, sndR s0 pp kk, mailA (mail) (some am) km, toldA (told ++ [(r2.ps.length : Int)]) p2 c2] := by
          show St No w0 w [_, _, _, _, _, .row 0 _ 1 (.slice p2 (told ++ [(r2.ps.length : Int)]).length c2) (told ++ [(r2.ps.length : Int)]).length _]
          rw [show (told ++ [(r2.ps.length : Int)]).length = told.length + 1 by simp]
          exact st.pick [1, 2, 3, 4, 5, 6] rfl (by decide)
        have hI2 : Inv s0 (s) (r2) (r2.ps.length) (sent) (mail) (told ++ [(r2.ps.length : Int)]) := f4
        have hk2 := hI2.known
        refine Tr.go (rtext_tr br _ hI2.rok hI2.pos _ _) st 0 1 rfl rfl (by decide) (fun _ hg => hg) ?_
        clear st
        intro w st
        simp only [List.set] at st
        refine ⟨_, _, rfl, ?_⟩
        by_cases ha : allR (r2)
        · rw [decide_eq_true ha, hI2.text ha, htx]
          refine Br.sure rfl (Br.not (Br.sure (by simp) ?_))
          repeat' first
            | (with_reducible refine St.alloc st ?_; (try clear st); intro b w st)
            | with_reducible refine sz_and (by (repeat rw [ByteArray.size_append]); omega) ?_
            | (refine Tu.go (shave_tu _ _ pp kk hI2.ok) st 0 rfl (fun _ hg => hg) ?_; (try clear st); intro w st; simp only [List.set] at st; refine ⟨_, rfl, ?_⟩)
            | (refine Tu.go (shave_tu _ _ pp kk hI2.ok) st 1 rfl (fun _ hg => hg) ?_; (try clear st); intro w st; simp only [List.set] at st; refine ⟨_, rfl, ?_⟩)
            | (refine Tu.go (shave_tu _ _ pp kk hI2.ok) st 2 rfl (fun _ hg => hg) ?_; (try clear st); intro w st; simp only [List.set] at st; refine ⟨_, rfl, ?_⟩)
            | (refine Tu.go (shave_tu _ _ pp kk hI2.ok) st 3 rfl (fun _ hg => hg) ?_; (try clear st); intro w st; simp only [List.set] at st; refine ⟨_, rfl, ?_⟩)
            | (refine Tu.go (shave_tu _ _ pp kk hI2.ok) st 4 rfl (fun _ hg => hg) ?_; (try clear st); intro w st; simp only [List.set] at st; refine ⟨_, rfl, ?_⟩)
            | (refine Tu.go (shave_tu _ _ pp kk hI2.ok) st 5 rfl (fun _ hg => hg) ?_; (try clear st); intro w st; simp only [List.set] at st; refine ⟨_, rfl, ?_⟩)
            | (with_reducible apply ex0c; case h => first | exact St.cell st 0 rfl rfl | exact St.cell st 1 rfl rfl | exact St.cell st 2 rfl rfl | exact St.cell st 3 rfl rfl | exact St.cell st 4 rfl rfl | exact St.cell st 5 rfl rfl | fail)
            | (with_reducible apply ex1c; case h => first | exact St.cell st 0 rfl rfl | exact St.cell st 1 rfl rfl | exact St.cell st 2 rfl rfl | exact St.cell st 3 rfl rfl | exact St.cell st 4 rfl rfl | exact St.cell st 5 rfl rfl | fail)
            | (with_reducible apply ex3c; case h => first | exact St.cell st 0 rfl rfl | exact St.cell st 1 rfl rfl | exact St.cell st 2 rfl rfl | exact St.cell st 3 rfl rfl | exact St.cell st 4 rfl rfl | exact St.cell st 5 rfl rfl | fail)
            | (with_reducible apply ex0r; case h => first | exact St.rows st 0 rfl | exact St.rows st 1 rfl | exact St.rows st 2 rfl | exact St.rows st 3 rfl | exact St.rows st 4 rfl | exact St.rows st 5 rfl | fail)
            | (with_reducible apply exr2; case h => first | exact St.rows st 0 rfl | exact St.rows st 1 rfl | exact St.rows st 2 rfl | exact St.rows st 3 rfl | exact St.rows st 4 rfl | exact St.rows st 5 rfl | fail)
            | (with_reducible apply exr3; case h => first | exact St.rows st 0 rfl | exact St.rows st 1 rfl | exact St.rows st 2 rfl | exact St.rows st 3 rfl | exact St.rows st 4 rfl | exact St.rows st 5 rfl | fail)
            | (with_reducible apply exr4; case h => first | exact St.rows st 0 rfl | exact St.rows st 1 rfl | exact St.rows st 2 rfl | exact St.rows st 3 rfl | exact St.rows st 4 rfl | exact St.rows st 5 rfl | fail)
            | (with_reducible apply exr5; case h => first | exact St.rows st 0 rfl | exact St.rows st 1 rfl | exact St.rows st 2 rfl | exact St.rows st 3 rfl | exact St.rows st 4 rfl | exact St.rows st 5 rfl | fail)
            | (with_reducible apply exr6; case h => first | exact St.rows st 0 rfl | exact St.rows st 1 rfl | exact St.rows st 2 rfl | exact St.rows st 3 rfl | exact St.rows st 4 rfl | exact St.rows st 5 rfl | fail)
            | (with_reducible apply exWr; case h => first | exact St.wr st 0 rfl rfl | exact St.wr st 1 rfl rfl | exact St.wr st 2 rfl rfl | exact St.wr st 3 rfl rfl | exact St.wr st 4 rfl rfl | exact St.wr st 5 rfl rfl | fail)
            | (with_reducible apply exWrRow; case h => first | exact St.wrRow st 0 rfl rfl rfl | exact St.wrRow st 1 rfl rfl rfl | exact St.wrRow st 2 rfl rfl rfl | exact St.wrRow st 3 rfl rfl rfl | exact St.wrRow st 4 rfl rfl rfl | exact St.wrRow st 5 rfl rfl rfl | fail)
            | (with_reducible refine LetW.cell ?_; (first | refine St.store st 0 rfl ?_ | refine St.store st 1 rfl ?_ | refine St.store st 2 rfl ?_ | refine St.store st 3 rfl ?_ | refine St.store st 4 rfl ?_ | refine St.store st 5 rfl ?_ | fail); (try clear st); intro w st; simp only [List.set] at st)
            | (with_reducible refine LetW.rows ?_; (first | refine St.storeRow st 0 rfl ?_ | refine St.storeRow st 1 rfl ?_ | refine St.storeRow st 2 rfl ?_ | refine St.storeRow st 3 rfl ?_ | refine St.storeRow st 4 rfl ?_ | refine St.storeRow st 5 rfl ?_ | fail); (try clear st); intro w st; simp only [List.set, setsL] at st)
            | ((with_reducible apply exr4); case h => first | exact St.rowAt st 0 rfl rfl | exact St.rowAt st 1 rfl rfl | exact St.rowAt st 2 rfl rfl | exact St.rowAt st 3 rfl rfl | exact St.rowAt st 4 rfl rfl | exact St.rowAt st 5 rfl rfl | fail)
            | ((with_reducible apply exr5); case h => first | exact St.rowAt st 0 rfl rfl | exact St.rowAt st 1 rfl rfl | exact St.rowAt st 2 rfl rfl | exact St.rowAt st 3 rfl rfl | exact St.rowAt st 4 rfl rfl | exact St.rowAt st 5 rfl rfl | fail)
            | ((with_reducible apply exr6); case h => first | exact St.rowAt st 0 rfl rfl | exact St.rowAt st 1 rfl rfl | exact St.rowAt st 2 rfl rfl | exact St.rowAt st 3 rfl rfl | exact St.rowAt st 4 rfl rfl | exact St.rowAt st 5 rfl rfl | fail)
            | with_reducible refine LetI.id (by omega) (by omega) ?_
            | fail
          refine Br.dec (fun h => by omega) (fun _ => ?_)
          repeat' first
            | (with_reducible refine St.alloc st ?_; (try clear st); intro b w st)
            | with_reducible refine sz_and (by (repeat rw [ByteArray.size_append]); omega) ?_
            | (refine Tu.go (sdone_tu _ _ pp kk hI2.ok) st 0 rfl (fun _ hg => hg) ?_; (try clear st); intro w st; simp only [List.set] at st; refine ⟨_, rfl, ?_⟩)
            | (refine Tu.go (sdone_tu _ _ pp kk hI2.ok) st 1 rfl (fun _ hg => hg) ?_; (try clear st); intro w st; simp only [List.set] at st; refine ⟨_, rfl, ?_⟩)
            | (refine Tu.go (sdone_tu _ _ pp kk hI2.ok) st 2 rfl (fun _ hg => hg) ?_; (try clear st); intro w st; simp only [List.set] at st; refine ⟨_, rfl, ?_⟩)
            | (refine Tu.go (sdone_tu _ _ pp kk hI2.ok) st 3 rfl (fun _ hg => hg) ?_; (try clear st); intro w st; simp only [List.set] at st; refine ⟨_, rfl, ?_⟩)
            | (refine Tu.go (sdone_tu _ _ pp kk hI2.ok) st 4 rfl (fun _ hg => hg) ?_; (try clear st); intro w st; simp only [List.set] at st; refine ⟨_, rfl, ?_⟩)
            | (refine Tu.go (sdone_tu _ _ pp kk hI2.ok) st 5 rfl (fun _ hg => hg) ?_; (try clear st); intro w st; simp only [List.set] at st; refine ⟨_, rfl, ?_⟩)
            | (with_reducible apply ex0c; case h => first | exact St.cell st 0 rfl rfl | exact St.cell st 1 rfl rfl | exact St.cell st 2 rfl rfl | exact St.cell st 3 rfl rfl | exact St.cell st 4 rfl rfl | exact St.cell st 5 rfl rfl | fail)
            | (with_reducible apply ex1c; case h => first | exact St.cell st 0 rfl rfl | exact St.cell st 1 rfl rfl | exact St.cell st 2 rfl rfl | exact St.cell st 3 rfl rfl | exact St.cell st 4 rfl rfl | exact St.cell st 5 rfl rfl | fail)
            | (with_reducible apply ex3c; case h => first | exact St.cell st 0 rfl rfl | exact St.cell st 1 rfl rfl | exact St.cell st 2 rfl rfl | exact St.cell st 3 rfl rfl | exact St.cell st 4 rfl rfl | exact St.cell st 5 rfl rfl | fail)
            | (with_reducible apply ex0r; case h => first | exact St.rows st 0 rfl | exact St.rows st 1 rfl | exact St.rows st 2 rfl | exact St.rows st 3 rfl | exact St.rows st 4 rfl | exact St.rows st 5 rfl | fail)
            | (with_reducible apply exr2; case h => first | exact St.rows st 0 rfl | exact St.rows st 1 rfl | exact St.rows st 2 rfl | exact St.rows st 3 rfl | exact St.rows st 4 rfl | exact St.rows st 5 rfl | fail)
            | (with_reducible apply exr3; case h => first | exact St.rows st 0 rfl | exact St.rows st 1 rfl | exact St.rows st 2 rfl | exact St.rows st 3 rfl | exact St.rows st 4 rfl | exact St.rows st 5 rfl | fail)
            | (with_reducible apply exr4; case h => first | exact St.rows st 0 rfl | exact St.rows st 1 rfl | exact St.rows st 2 rfl | exact St.rows st 3 rfl | exact St.rows st 4 rfl | exact St.rows st 5 rfl | fail)
            | (with_reducible apply exr5; case h => first | exact St.rows st 0 rfl | exact St.rows st 1 rfl | exact St.rows st 2 rfl | exact St.rows st 3 rfl | exact St.rows st 4 rfl | exact St.rows st 5 rfl | fail)
            | (with_reducible apply exr6; case h => first | exact St.rows st 0 rfl | exact St.rows st 1 rfl | exact St.rows st 2 rfl | exact St.rows st 3 rfl | exact St.rows st 4 rfl | exact St.rows st 5 rfl | fail)
            | (with_reducible apply exWr; case h => first | exact St.wr st 0 rfl rfl | exact St.wr st 1 rfl rfl | exact St.wr st 2 rfl rfl | exact St.wr st 3 rfl rfl | exact St.wr st 4 rfl rfl | exact St.wr st 5 rfl rfl | fail)
            | (with_reducible apply exWrRow; case h => first | exact St.wrRow st 0 rfl rfl rfl | exact St.wrRow st 1 rfl rfl rfl | exact St.wrRow st 2 rfl rfl rfl | exact St.wrRow st 3 rfl rfl rfl | exact St.wrRow st 4 rfl rfl rfl | exact St.wrRow st 5 rfl rfl rfl | fail)
            | (with_reducible refine LetW.cell ?_; (first | refine St.store st 0 rfl ?_ | refine St.store st 1 rfl ?_ | refine St.store st 2 rfl ?_ | refine St.store st 3 rfl ?_ | refine St.store st 4 rfl ?_ | refine St.store st 5 rfl ?_ | fail); (try clear st); intro w st; simp only [List.set] at st)
            | (with_reducible refine LetW.rows ?_; (first | refine St.storeRow st 0 rfl ?_ | refine St.storeRow st 1 rfl ?_ | refine St.storeRow st 2 rfl ?_ | refine St.storeRow st 3 rfl ?_ | refine St.storeRow st 4 rfl ?_ | refine St.storeRow st 5 rfl ?_ | fail); (try clear st); intro w st; simp only [List.set, setsL] at st)
            | ((with_reducible apply exr4); case h => first | exact St.rowAt st 0 rfl rfl | exact St.rowAt st 1 rfl rfl | exact St.rowAt st 2 rfl rfl | exact St.rowAt st 3 rfl rfl | exact St.rowAt st 4 rfl rfl | exact St.rowAt st 5 rfl rfl | fail)
            | ((with_reducible apply exr5); case h => first | exact St.rowAt st 0 rfl rfl | exact St.rowAt st 1 rfl rfl | exact St.rowAt st 2 rfl rfl | exact St.rowAt st 3 rfl rfl | exact St.rowAt st 4 rfl rfl | exact St.rowAt st 5 rfl rfl | fail)
            | ((with_reducible apply exr6); case h => first | exact St.rowAt st 0 rfl rfl | exact St.rowAt st 1 rfl rfl | exact St.rowAt st 2 rfl rfl | exact St.rowAt st 3 rfl rfl | exact St.rowAt st 4 rfl rfl | exact St.rowAt st 5 rfl rfl | fail)
            | with_reducible refine LetI.id (by omega) (by omega) ?_
            | fail
          refine Br.dec (fun h => Br.not (Br.sure rfl ?_)) (fun h => ?_)
          · refine LetI.id (by omega) (by omega) ?_
            exact ⟨_, by omega, i + 1, s, r2, r2.ps.length, sent, mail, told ++ [(r2.ps.length : Int)], p', k', (some am), km, p2, c2, by first | (simp; done) | (simp; omega), rfl, by omega, hI2, by first | omega | (simp; omega), by first | omega | (simp; omega), st⟩
          · refine LetI.id (by omega) (by omega) ?_
            exact ⟨_, by omega, i + 1, s, r2, r2.ps.length, sent, mail, told ++ [(r2.ps.length : Int)], p', k', (some am), km, p2, c2, by first | (simp; done) | (simp; omega), rfl, by omega, hI2, by first | omega | (simp; omega), by first | omega | (simp; omega), st⟩
        · rw [decide_eq_false ha]
          refine Br.nay rfl ?_
          repeat' first
            | (with_reducible refine St.alloc st ?_; (try clear st); intro b w st)
            | with_reducible refine sz_and (by (repeat rw [ByteArray.size_append]); omega) ?_
            | (refine Tu.go (shave_tu _ _ pp kk hI2.ok) st 0 rfl (fun _ hg => hg) ?_; (try clear st); intro w st; simp only [List.set] at st; refine ⟨_, rfl, ?_⟩)
            | (refine Tu.go (shave_tu _ _ pp kk hI2.ok) st 1 rfl (fun _ hg => hg) ?_; (try clear st); intro w st; simp only [List.set] at st; refine ⟨_, rfl, ?_⟩)
            | (refine Tu.go (shave_tu _ _ pp kk hI2.ok) st 2 rfl (fun _ hg => hg) ?_; (try clear st); intro w st; simp only [List.set] at st; refine ⟨_, rfl, ?_⟩)
            | (refine Tu.go (shave_tu _ _ pp kk hI2.ok) st 3 rfl (fun _ hg => hg) ?_; (try clear st); intro w st; simp only [List.set] at st; refine ⟨_, rfl, ?_⟩)
            | (refine Tu.go (shave_tu _ _ pp kk hI2.ok) st 4 rfl (fun _ hg => hg) ?_; (try clear st); intro w st; simp only [List.set] at st; refine ⟨_, rfl, ?_⟩)
            | (refine Tu.go (shave_tu _ _ pp kk hI2.ok) st 5 rfl (fun _ hg => hg) ?_; (try clear st); intro w st; simp only [List.set] at st; refine ⟨_, rfl, ?_⟩)
            | (with_reducible apply ex0c; case h => first | exact St.cell st 0 rfl rfl | exact St.cell st 1 rfl rfl | exact St.cell st 2 rfl rfl | exact St.cell st 3 rfl rfl | exact St.cell st 4 rfl rfl | exact St.cell st 5 rfl rfl | fail)
            | (with_reducible apply ex1c; case h => first | exact St.cell st 0 rfl rfl | exact St.cell st 1 rfl rfl | exact St.cell st 2 rfl rfl | exact St.cell st 3 rfl rfl | exact St.cell st 4 rfl rfl | exact St.cell st 5 rfl rfl | fail)
            | (with_reducible apply ex3c; case h => first | exact St.cell st 0 rfl rfl | exact St.cell st 1 rfl rfl | exact St.cell st 2 rfl rfl | exact St.cell st 3 rfl rfl | exact St.cell st 4 rfl rfl | exact St.cell st 5 rfl rfl | fail)
            | (with_reducible apply ex0r; case h => first | exact St.rows st 0 rfl | exact St.rows st 1 rfl | exact St.rows st 2 rfl | exact St.rows st 3 rfl | exact St.rows st 4 rfl | exact St.rows st 5 rfl | fail)
            | (with_reducible apply exr2; case h => first | exact St.rows st 0 rfl | exact St.rows st 1 rfl | exact St.rows st 2 rfl | exact St.rows st 3 rfl | exact St.rows st 4 rfl | exact St.rows st 5 rfl | fail)
            | (with_reducible apply exr3; case h => first | exact St.rows st 0 rfl | exact St.rows st 1 rfl | exact St.rows st 2 rfl | exact St.rows st 3 rfl | exact St.rows st 4 rfl | exact St.rows st 5 rfl | fail)
            | (with_reducible apply exr4; case h => first | exact St.rows st 0 rfl | exact St.rows st 1 rfl | exact St.rows st 2 rfl | exact St.rows st 3 rfl | exact St.rows st 4 rfl | exact St.rows st 5 rfl | fail)
            | (with_reducible apply exr5; case h => first | exact St.rows st 0 rfl | exact St.rows st 1 rfl | exact St.rows st 2 rfl | exact St.rows st 3 rfl | exact St.rows st 4 rfl | exact St.rows st 5 rfl | fail)
            | (with_reducible apply exr6; case h => first | exact St.rows st 0 rfl | exact St.rows st 1 rfl | exact St.rows st 2 rfl | exact St.rows st 3 rfl | exact St.rows st 4 rfl | exact St.rows st 5 rfl | fail)
            | (with_reducible apply exWr; case h => first | exact St.wr st 0 rfl rfl | exact St.wr st 1 rfl rfl | exact St.wr st 2 rfl rfl | exact St.wr st 3 rfl rfl | exact St.wr st 4 rfl rfl | exact St.wr st 5 rfl rfl | fail)
            | (with_reducible apply exWrRow; case h => first | exact St.wrRow st 0 rfl rfl rfl | exact St.wrRow st 1 rfl rfl rfl | exact St.wrRow st 2 rfl rfl rfl | exact St.wrRow st 3 rfl rfl rfl | exact St.wrRow st 4 rfl rfl rfl | exact St.wrRow st 5 rfl rfl rfl | fail)
            | (with_reducible refine LetW.cell ?_; (first | refine St.store st 0 rfl ?_ | refine St.store st 1 rfl ?_ | refine St.store st 2 rfl ?_ | refine St.store st 3 rfl ?_ | refine St.store st 4 rfl ?_ | refine St.store st 5 rfl ?_ | fail); (try clear st); intro w st; simp only [List.set] at st)
            | (with_reducible refine LetW.rows ?_; (first | refine St.storeRow st 0 rfl ?_ | refine St.storeRow st 1 rfl ?_ | refine St.storeRow st 2 rfl ?_ | refine St.storeRow st 3 rfl ?_ | refine St.storeRow st 4 rfl ?_ | refine St.storeRow st 5 rfl ?_ | fail); (try clear st); intro w st; simp only [List.set, setsL] at st)
            | ((with_reducible apply exr4); case h => first | exact St.rowAt st 0 rfl rfl | exact St.rowAt st 1 rfl rfl | exact St.rowAt st 2 rfl rfl | exact St.rowAt st 3 rfl rfl | exact St.rowAt st 4 rfl rfl | exact St.rowAt st 5 rfl rfl | fail)
            | ((with_reducible apply exr5); case h => first | exact St.rowAt st 0 rfl rfl | exact St.rowAt st 1 rfl rfl | exact St.rowAt st 2 rfl rfl | exact St.rowAt st 3 rfl rfl | exact St.rowAt st 4 rfl rfl | exact St.rowAt st 5 rfl rfl | fail)
            | ((with_reducible apply exr6); case h => first | exact St.rowAt st 0 rfl rfl | exact St.rowAt st 1 rfl rfl | exact St.rowAt st 2 rfl rfl | exact St.rowAt st 3 rfl rfl | exact St.rowAt st 4 rfl rfl | exact St.rowAt st 5 rfl rfl | fail)
            | with_reducible refine LetI.id (by omega) (by omega) ?_
            | fail
          refine Br.dec (fun h => by omega) (fun _ => ?_)
          repeat' first
            | (with_reducible refine St.alloc st ?_; (try clear st); intro b w st)
            | with_reducible refine sz_and (by (repeat rw [ByteArray.size_append]); omega) ?_
            | (refine Tu.go (sdone_tu _ _ pp kk hI2.ok) st 0 rfl (fun _ hg => hg) ?_; (try clear st); intro w st; simp only [List.set] at st; refine ⟨_, rfl, ?_⟩)
            | (refine Tu.go (sdone_tu _ _ pp kk hI2.ok) st 1 rfl (fun _ hg => hg) ?_; (try clear st); intro w st; simp only [List.set] at st; refine ⟨_, rfl, ?_⟩)
            | (refine Tu.go (sdone_tu _ _ pp kk hI2.ok) st 2 rfl (fun _ hg => hg) ?_; (try clear st); intro w st; simp only [List.set] at st; refine ⟨_, rfl, ?_⟩)
            | (refine Tu.go (sdone_tu _ _ pp kk hI2.ok) st 3 rfl (fun _ hg => hg) ?_; (try clear st); intro w st; simp only [List.set] at st; refine ⟨_, rfl, ?_⟩)
            | (refine Tu.go (sdone_tu _ _ pp kk hI2.ok) st 4 rfl (fun _ hg => hg) ?_; (try clear st); intro w st; simp only [List.set] at st; refine ⟨_, rfl, ?_⟩)
            | (refine Tu.go (sdone_tu _ _ pp kk hI2.ok) st 5 rfl (fun _ hg => hg) ?_; (try clear st); intro w st; simp only [List.set] at st; refine ⟨_, rfl, ?_⟩)
            | (with_reducible apply ex0c; case h => first | exact St.cell st 0 rfl rfl | exact St.cell st 1 rfl rfl | exact St.cell st 2 rfl rfl | exact St.cell st 3 rfl rfl | exact St.cell st 4 rfl rfl | exact St.cell st 5 rfl rfl | fail)
            | (with_reducible apply ex1c; case h => first | exact St.cell st 0 rfl rfl | exact St.cell st 1 rfl rfl | exact St.cell st 2 rfl rfl | exact St.cell st 3 rfl rfl | exact St.cell st 4 rfl rfl | exact St.cell st 5 rfl rfl | fail)
            | (with_reducible apply ex3c; case h => first | exact St.cell st 0 rfl rfl | exact St.cell st 1 rfl rfl | exact St.cell st 2 rfl rfl | exact St.cell st 3 rfl rfl | exact St.cell st 4 rfl rfl | exact St.cell st 5 rfl rfl | fail)
            | (with_reducible apply ex0r; case h => first | exact St.rows st 0 rfl | exact St.rows st 1 rfl | exact St.rows st 2 rfl | exact St.rows st 3 rfl | exact St.rows st 4 rfl | exact St.rows st 5 rfl | fail)
            | (with_reducible apply exr2; case h => first | exact St.rows st 0 rfl | exact St.rows st 1 rfl | exact St.rows st 2 rfl | exact St.rows st 3 rfl | exact St.rows st 4 rfl | exact St.rows st 5 rfl | fail)
            | (with_reducible apply exr3; case h => first | exact St.rows st 0 rfl | exact St.rows st 1 rfl | exact St.rows st 2 rfl | exact St.rows st 3 rfl | exact St.rows st 4 rfl | exact St.rows st 5 rfl | fail)
            | (with_reducible apply exr4; case h => first | exact St.rows st 0 rfl | exact St.rows st 1 rfl | exact St.rows st 2 rfl | exact St.rows st 3 rfl | exact St.rows st 4 rfl | exact St.rows st 5 rfl | fail)
            | (with_reducible apply exr5; case h => first | exact St.rows st 0 rfl | exact St.rows st 1 rfl | exact St.rows st 2 rfl | exact St.rows st 3 rfl | exact St.rows st 4 rfl | exact St.rows st 5 rfl | fail)
            | (with_reducible apply exr6; case h => first | exact St.rows st 0 rfl | exact St.rows st 1 rfl | exact St.rows st 2 rfl | exact St.rows st 3 rfl | exact St.rows st 4 rfl | exact St.rows st 5 rfl | fail)
            | (with_reducible apply exWr; case h => first | exact St.wr st 0 rfl rfl | exact St.wr st 1 rfl rfl | exact St.wr st 2 rfl rfl | exact St.wr st 3 rfl rfl | exact St.wr st 4 rfl rfl | exact St.wr st 5 rfl rfl | fail)
            | (with_reducible apply exWrRow; case h => first | exact St.wrRow st 0 rfl rfl rfl | exact St.wrRow st 1 rfl rfl rfl | exact St.wrRow st 2 rfl rfl rfl | exact St.wrRow st 3 rfl rfl rfl | exact St.wrRow st 4 rfl rfl rfl | exact St.wrRow st 5 rfl rfl rfl | fail)
            | (with_reducible refine LetW.cell ?_; (first | refine St.store st 0 rfl ?_ | refine St.store st 1 rfl ?_ | refine St.store st 2 rfl ?_ | refine St.store st 3 rfl ?_ | refine St.store st 4 rfl ?_ | refine St.store st 5 rfl ?_ | fail); (try clear st); intro w st; simp only [List.set] at st)
            | (with_reducible refine LetW.rows ?_; (first | refine St.storeRow st 0 rfl ?_ | refine St.storeRow st 1 rfl ?_ | refine St.storeRow st 2 rfl ?_ | refine St.storeRow st 3 rfl ?_ | refine St.storeRow st 4 rfl ?_ | refine St.storeRow st 5 rfl ?_ | fail); (try clear st); intro w st; simp only [List.set, setsL] at st)
            | ((with_reducible apply exr4); case h => first | exact St.rowAt st 0 rfl rfl | exact St.rowAt st 1 rfl rfl | exact St.rowAt st 2 rfl rfl | exact St.rowAt st 3 rfl rfl | exact St.rowAt st 4 rfl rfl | exact St.rowAt st 5 rfl rfl | fail)
            | ((with_reducible apply exr5); case h => first | exact St.rowAt st 0 rfl rfl | exact St.rowAt st 1 rfl rfl | exact St.rowAt st 2 rfl rfl | exact St.rowAt st 3 rfl rfl | exact St.rowAt st 4 rfl rfl | exact St.rowAt st 5 rfl rfl | fail)
            | ((with_reducible apply exr6); case h => first | exact St.rowAt st 0 rfl rfl | exact St.rowAt st 1 rfl rfl | exact St.rowAt st 2 rfl rfl | exact St.rowAt st 3 rfl rfl | exact St.rowAt st 4 rfl rfl | exact St.rowAt st 5 rfl rfl | fail)
            | with_reducible refine LetI.id (by omega) (by omega) ?_
            | fail
          refine Br.dec (fun h => absurd (hI2.done h) ha) (fun h => ?_)
          refine LetI.id (by omega) (by omega) ?_
          exact ⟨_, by omega, i + 1, s, r2, r2.ps.length, sent, mail, told ++ [(r2.ps.length : Int)], p', k', (some am), km, p2, c2, by first | (simp; done) | (simp; omega), rfl, by omega, hI2, by first | omega | (simp; omega), by first | omega | (simp; omega), st⟩
      · skip
        replace st : St No w0 w [rcvB br (r) p k, rcvR (r) p k, sndA bs (s) pp kk, sndR s0 pp kk, mailA (mail) pm km, toldA (told) pt kt] := st
        have hI2 : Inv s0 (s) (r) (got) (sent) (mail) (told) := hI
        have hk2 := hI2.known
        refine Tr.go (rtext_tr br _ hI2.rok hI2.pos _ _) st 0 1 rfl rfl (by decide) (fun _ hg => hg) ?_
        clear st
        intro w st
        simp only [List.set] at st
        refine ⟨_, _, rfl, ?_⟩
        by_cases ha : allR (r)
        · rw [decide_eq_true ha, hI2.text ha, htx]
          refine Br.sure rfl (Br.not (Br.sure (by simp) ?_))
          repeat' first
            | (with_reducible refine St.alloc st ?_; (try clear st); intro b w st)
            | with_reducible refine sz_and (by (repeat rw [ByteArray.size_append]); omega) ?_
            | (refine Tu.go (shave_tu _ _ pp kk hI2.ok) st 0 rfl (fun _ hg => hg) ?_; (try clear st); intro w st; simp only [List.set] at st; refine ⟨_, rfl, ?_⟩)
            | (refine Tu.go (shave_tu _ _ pp kk hI2.ok) st 1 rfl (fun _ hg => hg) ?_; (try clear st); intro w st; simp only [List.set] at st; refine ⟨_, rfl, ?_⟩)
            | (refine Tu.go (shave_tu _ _ pp kk hI2.ok) st 2 rfl (fun _ hg => hg) ?_; (try clear st); intro w st; simp only [List.set] at st; refine ⟨_, rfl, ?_⟩)
            | (refine Tu.go (shave_tu _ _ pp kk hI2.ok) st 3 rfl (fun _ hg => hg) ?_; (try clear st); intro w st; simp only [List.set] at st; refine ⟨_, rfl, ?_⟩)
            | (refine Tu.go (shave_tu _ _ pp kk hI2.ok) st 4 rfl (fun _ hg => hg) ?_; (try clear st); intro w st; simp only [List.set] at st; refine ⟨_, rfl, ?_⟩)
            | (refine Tu.go (shave_tu _ _ pp kk hI2.ok) st 5 rfl (fun _ hg => hg) ?_; (try clear st); intro w st; simp only [List.set] at st; refine ⟨_, rfl, ?_⟩)
            | (with_reducible apply ex0c; case h => first | exact St.cell st 0 rfl rfl | exact St.cell st 1 rfl rfl | exact St.cell st 2 rfl rfl | exact St.cell st 3 rfl rfl | exact St.cell st 4 rfl rfl | exact St.cell st 5 rfl rfl | fail)
            | (with_reducible apply ex1c; case h => first | exact St.cell st 0 rfl rfl | exact St.cell st 1 rfl rfl | exact St.cell st 2 rfl rfl | exact St.cell st 3 rfl rfl | exact St.cell st 4 rfl rfl | exact St.cell st 5 rfl rfl | fail)
            | (with_reducible apply ex3c; case h => first | exact St.cell st 0 rfl rfl | exact St.cell st 1 rfl rfl | exact St.cell st 2 rfl rfl | exact St.cell st 3 rfl rfl | exact St.cell st 4 rfl rfl | exact St.cell st 5 rfl rfl | fail)
            | (with_reducible apply ex0r; case h => first | exact St.rows st 0 rfl | exact St.rows st 1 rfl | exact St.rows st 2 rfl | exact St.rows st 3 rfl | exact St.rows st 4 rfl | exact St.rows st 5 rfl | fail)
            | (with_reducible apply exr2; case h => first | exact St.rows st 0 rfl | exact St.rows st 1 rfl | exact St.rows st 2 rfl | exact St.rows st 3 rfl | exact St.rows st 4 rfl | exact St.rows st 5 rfl | fail)
            | (with_reducible apply exr3; case h => first | exact St.rows st 0 rfl | exact St.rows st 1 rfl | exact St.rows st 2 rfl | exact St.rows st 3 rfl | exact St.rows st 4 rfl | exact St.rows st 5 rfl | fail)
            | (with_reducible apply exr4; case h => first | exact St.rows st 0 rfl | exact St.rows st 1 rfl | exact St.rows st 2 rfl | exact St.rows st 3 rfl | exact St.rows st 4 rfl | exact St.rows st 5 rfl | fail)
            | (with_reducible apply exr5; case h => first | exact St.rows st 0 rfl | exact St.rows st 1 rfl | exact St.rows st 2 rfl | exact St.rows st 3 rfl | exact St.rows st 4 rfl | exact St.rows st 5 rfl | fail)
            | (with_reducible apply exr6; case h => first | exact St.rows st 0 rfl | exact St.rows st 1 rfl | exact St.rows st 2 rfl | exact St.rows st 3 rfl | exact St.rows st 4 rfl | exact St.rows st 5 rfl | fail)
            | (with_reducible apply exWr; case h => first | exact St.wr st 0 rfl rfl | exact St.wr st 1 rfl rfl | exact St.wr st 2 rfl rfl | exact St.wr st 3 rfl rfl | exact St.wr st 4 rfl rfl | exact St.wr st 5 rfl rfl | fail)
            | (with_reducible apply exWrRow; case h => first | exact St.wrRow st 0 rfl rfl rfl | exact St.wrRow st 1 rfl rfl rfl | exact St.wrRow st 2 rfl rfl rfl | exact St.wrRow st 3 rfl rfl rfl | exact St.wrRow st 4 rfl rfl rfl | exact St.wrRow st 5 rfl rfl rfl | fail)
            | (with_reducible refine LetW.cell ?_; (first | refine St.store st 0 rfl ?_ | refine St.store st 1 rfl ?_ | refine St.store st 2 rfl ?_ | refine St.store st 3 rfl ?_ | refine St.store st 4 rfl ?_ | refine St.store st 5 rfl ?_ | fail); (try clear st); intro w st; simp only [List.set] at st)
            | (with_reducible refine LetW.rows ?_; (first | refine St.storeRow st 0 rfl ?_ | refine St.storeRow st 1 rfl ?_ | refine St.storeRow st 2 rfl ?_ | refine St.storeRow st 3 rfl ?_ | refine St.storeRow st 4 rfl ?_ | refine St.storeRow st 5 rfl ?_ | fail); (try clear st); intro w st; simp only [List.set, setsL] at st)
            | ((with_reducible apply exr4); case h => first | exact St.rowAt st 0 rfl rfl | exact St.rowAt st 1 rfl rfl | exact St.rowAt st 2 rfl rfl | exact St.rowAt st 3 rfl rfl | exact St.rowAt st 4 rfl rfl | exact St.rowAt st 5 rfl rfl | fail)
            | ((with_reducible apply exr5); case h => first | exact St.rowAt st 0 rfl rfl | exact St.rowAt st 1 rfl rfl | exact St.rowAt st 2 rfl rfl | exact St.rowAt st 3 rfl rfl | exact St.rowAt st 4 rfl rfl | exact St.rowAt st 5 rfl rfl | fail)
            | ((with_reducible apply exr6); case h => first | exact St.rowAt st 0 rfl rfl | exact St.rowAt st 1 rfl rfl | exact St.rowAt st 2 rfl rfl | exact St.rowAt st 3 rfl rfl | exact St.rowAt st 4 rfl rfl | exact St.rowAt st 5 rfl rfl | fail)
            | with_reducible refine LetI.id (by omega) (by omega) ?_
            | fail
          refine Br.dec (fun h => by omega) (fun _ => ?_)
          repeat' first
            | (with_reducible refine St.alloc st ?_; (try clear st); intro b w st)
            | with_reducible refine sz_and (by (repeat rw [ByteArray.size_append]); omega) ?_
            | (refine Tu.go (sdone_tu _ _ pp kk hI2.ok) st 0 rfl (fun _ hg => hg) ?_; (try clear st); intro w st; simp only [List.set] at st; refine ⟨_, rfl, ?_⟩)
            | (refine Tu.go (sdone_tu _ _ pp kk hI2.ok) st 1 rfl (fun _ hg => hg) ?_; (try clear st); intro w st; simp only [List.set] at st; refine ⟨_, rfl, ?_⟩)
            | (refine Tu.go (sdone_tu _ _ pp kk hI2.ok) st 2 rfl (fun _ hg => hg) ?_; (try clear st); intro w st; simp only [List.set] at st; refine ⟨_, rfl, ?_⟩)
            | (refine Tu.go (sdone_tu _ _ pp kk hI2.ok) st 3 rfl (fun _ hg => hg) ?_; (try clear st); intro w st; simp only [List.set] at st; refine ⟨_, rfl, ?_⟩)
            | (refine Tu.go (sdone_tu _ _ pp kk hI2.ok) st 4 rfl (fun _ hg => hg) ?_; (try clear st); intro w st; simp only [List.set] at st; refine ⟨_, rfl, ?_⟩)
            | (refine Tu.go (sdone_tu _ _ pp kk hI2.ok) st 5 rfl (fun _ hg => hg) ?_; (try clear st); intro w st; simp only [List.set] at st; refine ⟨_, rfl, ?_⟩)
            | (with_reducible apply ex0c; case h => first | exact St.cell st 0 rfl rfl | exact St.cell st 1 rfl rfl | exact St.cell st 2 rfl rfl | exact St.cell st 3 rfl rfl | exact St.cell st 4 rfl rfl | exact St.cell st 5 rfl rfl | fail)
            | (with_reducible apply ex1c; case h => first | exact St.cell st 0 rfl rfl | exact St.cell st 1 rfl rfl | exact St.cell st 2 rfl rfl | exact St.cell st 3 rfl rfl | exact St.cell st 4 rfl rfl | exact St.cell st 5 rfl rfl | fail)
            | (with_reducible apply ex3c; case h => first | exact St.cell st 0 rfl rfl | exact St.cell st 1 rfl rfl | exact St.cell st 2 rfl rfl | exact St.cell st 3 rfl rfl | exact St.cell st 4 rfl rfl | exact St.cell st 5 rfl rfl | fail)
            | (with_reducible apply ex0r; case h => first | exact St.rows st 0 rfl | exact St.rows st 1 rfl | exact St.rows st 2 rfl | exact St.rows st 3 rfl | exact St.rows st 4 rfl | exact St.rows st 5 rfl | fail)
            | (with_reducible apply exr2; case h => first | exact St.rows st 0 rfl | exact St.rows st 1 rfl | exact St.rows st 2 rfl | exact St.rows st 3 rfl | exact St.rows st 4 rfl | exact St.rows st 5 rfl | fail)
            | (with_reducible apply exr3; case h => first | exact St.rows st 0 rfl | exact St.rows st 1 rfl | exact St.rows st 2 rfl | exact St.rows st 3 rfl | exact St.rows st 4 rfl | exact St.rows st 5 rfl | fail)
            | (with_reducible apply exr4; case h => first | exact St.rows st 0 rfl | exact St.rows st 1 rfl | exact St.rows st 2 rfl | exact St.rows st 3 rfl | exact St.rows st 4 rfl | exact St.rows st 5 rfl | fail)
            | (with_reducible apply exr5; case h => first | exact St.rows st 0 rfl | exact St.rows st 1 rfl | exact St.rows st 2 rfl | exact St.rows st 3 rfl | exact St.rows st 4 rfl | exact St.rows st 5 rfl | fail)
            | (with_reducible apply exr6; case h => first | exact St.rows st 0 rfl | exact St.rows st 1 rfl | exact St.rows st 2 rfl | exact St.rows st 3 rfl | exact St.rows st 4 rfl | exact St.rows st 5 rfl | fail)
            | (with_reducible apply exWr; case h => first | exact St.wr st 0 rfl rfl | exact St.wr st 1 rfl rfl | exact St.wr st 2 rfl rfl | exact St.wr st 3 rfl rfl | exact St.wr st 4 rfl rfl | exact St.wr st 5 rfl rfl | fail)
            | (with_reducible apply exWrRow; case h => first | exact St.wrRow st 0 rfl rfl rfl | exact St.wrRow st 1 rfl rfl rfl | exact St.wrRow st 2 rfl rfl rfl | exact St.wrRow st 3 rfl rfl rfl | exact St.wrRow st 4 rfl rfl rfl | exact St.wrRow st 5 rfl rfl rfl | fail)
            | (with_reducible refine LetW.cell ?_; (first | refine St.store st 0 rfl ?_ | refine St.store st 1 rfl ?_ | refine St.store st 2 rfl ?_ | refine St.store st 3 rfl ?_ | refine St.store st 4 rfl ?_ | refine St.store st 5 rfl ?_ | fail); (try clear st); intro w st; simp only [List.set] at st)
            | (with_reducible refine LetW.rows ?_; (first | refine St.storeRow st 0 rfl ?_ | refine St.storeRow st 1 rfl ?_ | refine St.storeRow st 2 rfl ?_ | refine St.storeRow st 3 rfl ?_ | refine St.storeRow st 4 rfl ?_ | refine St.storeRow st 5 rfl ?_ | fail); (try clear st); intro w st; simp only [List.set, setsL] at st)
            | ((with_reducible apply exr4); case h => first | exact St.rowAt st 0 rfl rfl | exact St.rowAt st 1 rfl rfl | exact St.rowAt st 2 rfl rfl | exact St.rowAt st 3 rfl rfl | exact St.rowAt st 4 rfl rfl | exact St.rowAt st 5 rfl rfl | fail)
            | ((with_reducible apply exr5); case h => first | exact St.rowAt st 0 rfl rfl | exact St.rowAt st 1 rfl rfl | exact St.rowAt st 2 rfl rfl | exact St.rowAt st 3 rfl rfl | exact St.rowAt st 4 rfl rfl | exact St.rowAt st 5 rfl rfl | fail)
            | ((with_reducible apply exr6); case h => first | exact St.rowAt st 0 rfl rfl | exact St.rowAt st 1 rfl rfl | exact St.rowAt st 2 rfl rfl | exact St.rowAt st 3 rfl rfl | exact St.rowAt st 4 rfl rfl | exact St.rowAt st 5 rfl rfl | fail)
            | with_reducible refine LetI.id (by omega) (by omega) ?_
            | fail
          refine Br.dec (fun h => Br.not (Br.sure rfl ?_)) (fun h => ?_)
          · refine LetI.id (by omega) (by omega) ?_
            exact ⟨_, by omega, i + 1, s, r, got, sent, mail, told, p, k, pm, km, pt, kt, by first | (simp; done) | (simp; omega), rfl, by omega, hI2, by first | omega | (simp; omega), by first | omega | (simp; omega), st⟩
          · refine LetI.id (by omega) (by omega) ?_
            exact ⟨_, by omega, i + 1, s, r, got, sent, mail, told, p, k, pm, km, pt, kt, by first | (simp; done) | (simp; omega), rfl, by omega, hI2, by first | omega | (simp; omega), by first | omega | (simp; omega), st⟩
        · rw [decide_eq_false ha]
          refine Br.nay rfl ?_
          repeat' first
            | (with_reducible refine St.alloc st ?_; (try clear st); intro b w st)
            | with_reducible refine sz_and (by (repeat rw [ByteArray.size_append]); omega) ?_
            | (refine Tu.go (shave_tu _ _ pp kk hI2.ok) st 0 rfl (fun _ hg => hg) ?_; (try clear st); intro w st; simp only [List.set] at st; refine ⟨_, rfl, ?_⟩)
            | (refine Tu.go (shave_tu _ _ pp kk hI2.ok) st 1 rfl (fun _ hg => hg) ?_; (try clear st); intro w st; simp only [List.set] at st; refine ⟨_, rfl, ?_⟩)
            | (refine Tu.go (shave_tu _ _ pp kk hI2.ok) st 2 rfl (fun _ hg => hg) ?_; (try clear st); intro w st; simp only [List.set] at st; refine ⟨_, rfl, ?_⟩)
            | (refine Tu.go (shave_tu _ _ pp kk hI2.ok) st 3 rfl (fun _ hg => hg) ?_; (try clear st); intro w st; simp only [List.set] at st; refine ⟨_, rfl, ?_⟩)
            | (refine Tu.go (shave_tu _ _ pp kk hI2.ok) st 4 rfl (fun _ hg => hg) ?_; (try clear st); intro w st; simp only [List.set] at st; refine ⟨_, rfl, ?_⟩)
            | (refine Tu.go (shave_tu _ _ pp kk hI2.ok) st 5 rfl (fun _ hg => hg) ?_; (try clear st); intro w st; simp only [List.set] at st; refine ⟨_, rfl, ?_⟩)
            | (with_reducible apply ex0c; case h => first | exact St.cell st 0 rfl rfl | exact St.cell st 1 rfl rfl | exact St.cell st 2 rfl rfl | exact St.cell st 3 rfl rfl | exact St.cell st 4 rfl rfl | exact St.cell st 5 rfl rfl | fail)
            | (with_reducible apply ex1c; case h => first | exact St.cell st 0 rfl rfl | exact St.cell st 1 rfl rfl | exact St.cell st 2 rfl rfl | exact St.cell st 3 rfl rfl | exact St.cell st 4 rfl rfl | exact St.cell st 5 rfl rfl | fail)
            | (with_reducible apply ex3c; case h => first | exact St.cell st 0 rfl rfl | exact St.cell st 1 rfl rfl | exact St.cell st 2 rfl rfl | exact St.cell st 3 rfl rfl | exact St.cell st 4 rfl rfl | exact St.cell st 5 rfl rfl | fail)
            | (with_reducible apply ex0r; case h => first | exact St.rows st 0 rfl | exact St.rows st 1 rfl | exact St.rows st 2 rfl | exact St.rows st 3 rfl | exact St.rows st 4 rfl | exact St.rows st 5 rfl | fail)
            | (with_reducible apply exr2; case h => first | exact St.rows st 0 rfl | exact St.rows st 1 rfl | exact St.rows st 2 rfl | exact St.rows st 3 rfl | exact St.rows st 4 rfl | exact St.rows st 5 rfl | fail)
            | (with_reducible apply exr3; case h => first | exact St.rows st 0 rfl | exact St.rows st 1 rfl | exact St.rows st 2 rfl | exact St.rows st 3 rfl | exact St.rows st 4 rfl | exact St.rows st 5 rfl | fail)
            | (with_reducible apply exr4; case h => first | exact St.rows st 0 rfl | exact St.rows st 1 rfl | exact St.rows st 2 rfl | exact St.rows st 3 rfl | exact St.rows st 4 rfl | exact St.rows st 5 rfl | fail)
            | (with_reducible apply exr5; case h => first | exact St.rows st 0 rfl | exact St.rows st 1 rfl | exact St.rows st 2 rfl | exact St.rows st 3 rfl | exact St.rows st 4 rfl | exact St.rows st 5 rfl | fail)
            | (with_reducible apply exr6; case h => first | exact St.rows st 0 rfl | exact St.rows st 1 rfl | exact St.rows st 2 rfl | exact St.rows st 3 rfl | exact St.rows st 4 rfl | exact St.rows st 5 rfl | fail)
            | (with_reducible apply exWr; case h => first | exact St.wr st 0 rfl rfl | exact St.wr st 1 rfl rfl | exact St.wr st 2 rfl rfl | exact St.wr st 3 rfl rfl | exact St.wr st 4 rfl rfl | exact St.wr st 5 rfl rfl | fail)
            | (with_reducible apply exWrRow; case h => first | exact St.wrRow st 0 rfl rfl rfl | exact St.wrRow st 1 rfl rfl rfl | exact St.wrRow st 2 rfl rfl rfl | exact St.wrRow st 3 rfl rfl rfl | exact St.wrRow st 4 rfl rfl rfl | exact St.wrRow st 5 rfl rfl rfl | fail)
            | (with_reducible refine LetW.cell ?_; (first | refine St.store st 0 rfl ?_ | refine St.store st 1 rfl ?_ | refine St.store st 2 rfl ?_ | refine St.store st 3 rfl ?_ | refine St.store st 4 rfl ?_ | refine St.store st 5 rfl ?_ | fail); (try clear st); intro w st; simp only [List.set] at st)
            | (with_reducible refine LetW.rows ?_; (first | refine St.storeRow st 0 rfl ?_ | refine St.storeRow st 1 rfl ?_ | refine St.storeRow st 2 rfl ?_ | refine St.storeRow st 3 rfl ?_ | refine St.storeRow st 4 rfl ?_ | refine St.storeRow st 5 rfl ?_ | fail); (try clear st); intro w st; simp only [List.set, setsL] at st)
            | ((with_reducible apply exr4); case h => first | exact St.rowAt st 0 rfl rfl | exact St.rowAt st 1 rfl rfl | exact St.rowAt st 2 rfl rfl | exact St.rowAt st 3 rfl rfl | exact St.rowAt st 4 rfl rfl | exact St.rowAt st 5 rfl rfl | fail)
            | ((with_reducible apply exr5); case h => first | exact St.rowAt st 0 rfl rfl | exact St.rowAt st 1 rfl rfl | exact St.rowAt st 2 rfl rfl | exact St.rowAt st 3 rfl rfl | exact St.rowAt st 4 rfl rfl | exact St.rowAt st 5 rfl rfl | fail)
            | ((with_reducible apply exr6); case h => first | exact St.rowAt st 0 rfl rfl | exact St.rowAt st 1 rfl rfl | exact St.rowAt st 2 rfl rfl | exact St.rowAt st 3 rfl rfl | exact St.rowAt st 4 rfl rfl | exact St.rowAt st 5 rfl rfl | fail)
            | with_reducible refine LetI.id (by omega) (by omega) ?_
            | fail
          refine Br.dec (fun h => by omega) (fun _ => ?_)
          repeat' first
            | (with_reducible refine St.alloc st ?_; (try clear st); intro b w st)
            | with_reducible refine sz_and (by (repeat rw [ByteArray.size_append]); omega) ?_
            | (refine Tu.go (sdone_tu _ _ pp kk hI2.ok) st 0 rfl (fun _ hg => hg) ?_; (try clear st); intro w st; simp only [List.set] at st; refine ⟨_, rfl, ?_⟩)
            | (refine Tu.go (sdone_tu _ _ pp kk hI2.ok) st 1 rfl (fun _ hg => hg) ?_; (try clear st); intro w st; simp only [List.set] at st; refine ⟨_, rfl, ?_⟩)
            | (refine Tu.go (sdone_tu _ _ pp kk hI2.ok) st 2 rfl (fun _ hg => hg) ?_; (try clear st); intro w st; simp only [List.set] at st; refine ⟨_, rfl, ?_⟩)
            | (refine Tu.go (sdone_tu _ _ pp kk hI2.ok) st 3 rfl (fun _ hg => hg) ?_; (try clear st); intro w st; simp only [List.set] at st; refine ⟨_, rfl, ?_⟩)
            | (refine Tu.go (sdone_tu _ _ pp kk hI2.ok) st 4 rfl (fun _ hg => hg) ?_; (try clear st); intro w st; simp only [List.set] at st; refine ⟨_, rfl, ?_⟩)
            | (refine Tu.go (sdone_tu _ _ pp kk hI2.ok) st 5 rfl (fun _ hg => hg) ?_; (try clear st); intro w st; simp only [List.set] at st; refine ⟨_, rfl, ?_⟩)
            | (with_reducible apply ex0c; case h => first | exact St.cell st 0 rfl rfl | exact St.cell st 1 rfl rfl | exact St.cell st 2 rfl rfl | exact St.cell st 3 rfl rfl | exact St.cell st 4 rfl rfl | exact St.cell st 5 rfl rfl | fail)
            | (with_reducible apply ex1c; case h => first | exact St.cell st 0 rfl rfl | exact St.cell st 1 rfl rfl | exact St.cell st 2 rfl rfl | exact St.cell st 3 rfl rfl | exact St.cell st 4 rfl rfl | exact St.cell st 5 rfl rfl | fail)
            | (with_reducible apply ex3c; case h => first | exact St.cell st 0 rfl rfl | exact St.cell st 1 rfl rfl | exact St.cell st 2 rfl rfl | exact St.cell st 3 rfl rfl | exact St.cell st 4 rfl rfl | exact St.cell st 5 rfl rfl | fail)
            | (with_reducible apply ex0r; case h => first | exact St.rows st 0 rfl | exact St.rows st 1 rfl | exact St.rows st 2 rfl | exact St.rows st 3 rfl | exact St.rows st 4 rfl | exact St.rows st 5 rfl | fail)
            | (with_reducible apply exr2; case h => first | exact St.rows st 0 rfl | exact St.rows st 1 rfl | exact St.rows st 2 rfl | exact St.rows st 3 rfl | exact St.rows st 4 rfl | exact St.rows st 5 rfl | fail)
            | (with_reducible apply exr3; case h => first | exact St.rows st 0 rfl | exact St.rows st 1 rfl | exact St.rows st 2 rfl | exact St.rows st 3 rfl | exact St.rows st 4 rfl | exact St.rows st 5 rfl | fail)
            | (with_reducible apply exr4; case h => first | exact St.rows st 0 rfl | exact St.rows st 1 rfl | exact St.rows st 2 rfl | exact St.rows st 3 rfl | exact St.rows st 4 rfl | exact St.rows st 5 rfl | fail)
            | (with_reducible apply exr5; case h => first | exact St.rows st 0 rfl | exact St.rows st 1 rfl | exact St.rows st 2 rfl | exact St.rows st 3 rfl | exact St.rows st 4 rfl | exact St.rows st 5 rfl | fail)
            | (with_reducible apply exr6; case h => first | exact St.rows st 0 rfl | exact St.rows st 1 rfl | exact St.rows st 2 rfl | exact St.rows st 3 rfl | exact St.rows st 4 rfl | exact St.rows st 5 rfl | fail)
            | (with_reducible apply exWr; case h => first | exact St.wr st 0 rfl rfl | exact St.wr st 1 rfl rfl | exact St.wr st 2 rfl rfl | exact St.wr st 3 rfl rfl | exact St.wr st 4 rfl rfl | exact St.wr st 5 rfl rfl | fail)
            | (with_reducible apply exWrRow; case h => first | exact St.wrRow st 0 rfl rfl rfl | exact St.wrRow st 1 rfl rfl rfl | exact St.wrRow st 2 rfl rfl rfl | exact St.wrRow st 3 rfl rfl rfl | exact St.wrRow st 4 rfl rfl rfl | exact St.wrRow st 5 rfl rfl rfl | fail)
            | (with_reducible refine LetW.cell ?_; (first | refine St.store st 0 rfl ?_ | refine St.store st 1 rfl ?_ | refine St.store st 2 rfl ?_ | refine St.store st 3 rfl ?_ | refine St.store st 4 rfl ?_ | refine St.store st 5 rfl ?_ | fail); (try clear st); intro w st; simp only [List.set] at st)
            | (with_reducible refine LetW.rows ?_; (first | refine St.storeRow st 0 rfl ?_ | refine St.storeRow st 1 rfl ?_ | refine St.storeRow st 2 rfl ?_ | refine St.storeRow st 3 rfl ?_ | refine St.storeRow st 4 rfl ?_ | refine St.storeRow st 5 rfl ?_ | fail); (try clear st); intro w st; simp only [List.set, setsL] at st)
            | ((with_reducible apply exr4); case h => first | exact St.rowAt st 0 rfl rfl | exact St.rowAt st 1 rfl rfl | exact St.rowAt st 2 rfl rfl | exact St.rowAt st 3 rfl rfl | exact St.rowAt st 4 rfl rfl | exact St.rowAt st 5 rfl rfl | fail)
            | ((with_reducible apply exr5); case h => first | exact St.rowAt st 0 rfl rfl | exact St.rowAt st 1 rfl rfl | exact St.rowAt st 2 rfl rfl | exact St.rowAt st 3 rfl rfl | exact St.rowAt st 4 rfl rfl | exact St.rowAt st 5 rfl rfl | fail)
            | ((with_reducible apply exr6); case h => first | exact St.rowAt st 0 rfl rfl | exact St.rowAt st 1 rfl rfl | exact St.rowAt st 2 rfl rfl | exact St.rowAt st 3 rfl rfl | exact St.rowAt st 4 rfl rfl | exact St.rowAt st 5 rfl rfl | fail)
            | with_reducible refine LetI.id (by omega) (by omega) ?_
            | fail
          refine Br.dec (fun h => absurd (hI2.done h) ha) (fun h => ?_)
          refine LetI.id (by omega) (by omega) ?_
          exact ⟨_, by omega, i + 1, s, r, got, sent, mail, told, p, k, pm, km, pt, kt, by first | (simp; done) | (simp; omega), rfl, by omega, hI2, by first | omega | (simp; omega), by first | omega | (simp; omega), st⟩)
  · skip
    repeat' first
      | refine Br.sure rfl ?_
      | refine Br.nay rfl ?_
    refine Br.dec (fun hpos => ?_) (fun hpos => ?_)
    · have hq : u % (mail.length : Int) = (((u.toNat % mail.length : Nat)) : Int) := by rw [Int.natCast_emod]; congr 1; omega
      have hqlt : u.toNat % mail.length < mail.length := Nat.mod_lt _ (by omega)
      refine ⟨by omega, LetI.of ?_⟩
      rw [Int.tmod_eq_emod_of_nonneg (by omega), hq]
      generalize u.toNat % mail.length = q at hqlt
      have hcm := owns_cap (st.hold 4 _ rfl)
      have hMm : ElAt pcE 4 w pm mail := ElAt.of_owns pcE_len (st.hold 4 _ rfl) rfl
      refine ⟨⟨by omega, by omega, by omega, by omega, fun h => by cases h⟩, ?_⟩
      refine LetI.id (by omega) (by omega) ⟨⟨by omega, by omega, by omega, by omega, fun h => by cases h⟩, ?_⟩
      have e1 : ((q : Int) + 1).toNat = q + 1 := by omega
      simp only [Int.toNat_natCast, Int.toNat_zero, Nat.sub_zero, e1, sizePc]
      rw [slice0 _ _ _ _ rfl]
      have st2 := st.nil0 32 4
      refine St.appendAny0 st2 0 (xs := []) (l := mail.take q) Try.underlying56 hi0 hz0 hsi0 hbi0 rfl (by decide) pcE_len pcE_plain rfl (hMm.take q) (by rw [List.length_take]; omega) (by simp [maxLen]; omega) (by omega) ?_
      clear st st2
      intro p' c' w st
      simp only [List.set, List.nil_append, Nat.zero_add] at st
      refine ⟨_, _, _, rfl, ?_⟩
      have hMm : ElAt pcE 4 w pm mail := ElAt.of_owns pcE_len (st.hold 5 _ rfl) rfl
      have hd : ElAt pcE 4 w (if km = q + 1 then pm else pm.map (fun x => x.add ((q + 1) * 4))) (mail.drop (q + 1)) := by
        by_cases hc : km = q + 1
        · rw [List.drop_eq_nil_of_le (by omega)]
          exact ElAt.nil _ _
        · rw [if_neg hc]; exact hMm.drop (q + 1)
      refine St.appendAny0 st 0 (xs := mail.take q) (l := mail.drop (q + 1)) Try.underlying56 hi0 hz0 hsi0 hbi0 rfl (by decide) pcE_len pcE_plain (by simp) hd (by rw [List.length_drop]) (by simp [maxLen]; omega) (by omega) ?_
      clear st
      intro p2 c2 w st
      simp only [List.set] at st
      refine ⟨_, _, _, rfl, ?_⟩
      replace st : St No w0 w [rcvB br (r) p k, rcvR (r) p k, sndA bs (s) pp kk, sndR s0 pp kk, mailA (mail.take q ++ mail.drop (q + 1)) p2 c2, toldA (told) pt kt] := by
        have hl : (mail.take q ++ mail.drop (q + 1)).length = 0 + q + (mail.length - (q + 1)) := by simp; omega
        show St No w0 w [_, _, _, _, .row 0 _ 4 (.slice p2 (mail.take q ++ mail.drop (q + 1)).length c2) (mail.take q ++ mail.drop (q + 1)).length _, _]
        rw [hl]
        exact st.pick [1, 2, 3, 4, 0, 6] rfl (by decide)
      have hI2 : Inv s0 (s) (r) (got) (sent) (mail.take q ++ mail.drop (q + 1)) (told) := hI.lose (fun x hx => by rcases List.mem_append.1 hx with hx | hx; exact List.mem_of_mem_take hx; exact List.mem_of_mem_drop hx)
      have hk2 := hI2.known
      refine Tr.go (rtext_tr br _ hI2.rok hI2.pos _ _) st 0 1 rfl rfl (by decide) (fun _ hg => hg) ?_
      clear st
      intro w st
      simp only [List.set] at st
      refine ⟨_, _, rfl, ?_⟩
      by_cases ha : allR (r)
      · rw [decide_eq_true ha, hI2.text ha, htx]
        refine Br.sure rfl (Br.not (Br.sure (by simp) ?_))
        repeat' first
          | (with_reducible refine St.alloc st ?_; (try clear st); intro b w st)
          | with_reducible refine sz_and (by (repeat rw [ByteArray.size_append]); omega) ?_
          | (refine Tu.go (shave_tu _ _ pp kk hI2.ok) st 0 rfl (fun _ hg => hg) ?_; (try clear st); intro w st; simp only [List.set] at st; refine ⟨_, rfl, ?_⟩)
          | (refine Tu.go (shave_tu _ _ pp kk hI2.ok) st 1 rfl (fun _ hg => hg) ?_; (try clear st); intro w st; simp only [List.set] at st; refine ⟨_, rfl, ?_⟩)
          | (refine Tu.go (shave_tu _ _ pp kk hI2.ok) st 2 rfl (fun _ hg => hg) ?_; (try clear st); intro w st; simp only [List.set] at st; refine ⟨_, rfl, ?_⟩)
          | (refine Tu.go (shave_tu _ _ pp kk hI2.ok) st 3 rfl (fun _ hg => hg) ?_; (try clear st); intro w st; simp only [List.set] at st; refine ⟨_, rfl, ?_⟩)
          | (refine Tu.go (shave_tu _ _ pp kk hI2.ok) st 4 rfl (fun _ hg => hg) ?_; (try clear st); intro w st; simp only [List.set] at st; refine ⟨_, rfl, ?_⟩)
          | (refine Tu.go (shave_tu _ _ pp kk hI2.ok) st 5 rfl (fun _ hg => hg) ?_; (try clear st); intro w st; simp only [List.set] at st; refine ⟨_, rfl, ?_⟩)
          | (with_reducible apply ex0c; case h => first | exact St.cell st 0 rfl rfl | exact St.cell st 1 rfl rfl | exact St.cell st 2 rfl rfl | exact St.cell st 3 rfl rfl | exact St.cell st 4 rfl rfl | exact St.cell st 5 rfl rfl | fail)
          | (with_reducible apply ex1c; case h => first | exact St.cell st 0 rfl rfl | exact St.cell st 1 rfl rfl | exact St.cell st 2 rfl rfl | exact St.cell st 3 rfl rfl | exact St.cell st 4 rfl rfl | exact St.cell st 5 rfl rfl | fail)
          | (with_reducible apply ex3c; case h => first | exact St.cell st 0 rfl rfl | exact St.cell st 1 rfl rfl | exact St.cell st 2 rfl rfl | exact St.cell st 3 rfl rfl | exact St.cell st 4 rfl rfl | exact St.cell st 5 rfl rfl | fail)
          | (with_reducible apply ex0r; case h => first | exact St.rows st 0 rfl | exact St.rows st 1 rfl | exact St.rows st 2 rfl | exact St.rows st 3 rfl | exact St.rows st 4 rfl | exact St.rows st 5 rfl | fail)
          | (with_reducible apply exr2; case h => first | exact St.rows st 0 rfl | exact St.rows st 1 rfl | exact St.rows st 2 rfl | exact St.rows st 3 rfl | exact St.rows st 4 rfl | exact St.rows st 5 rfl | fail)
          | (with_reducible apply exr3; case h => first | exact St.rows st 0 rfl | exact St.rows st 1 rfl | exact St.rows st 2 rfl | exact St.rows st 3 rfl | exact St.rows st 4 rfl | exact St.rows st 5 rfl | fail)
          | (with_reducible apply exr4; case h => first | exact St.rows st 0 rfl | exact St.rows st 1 rfl | exact St.rows st 2 rfl | exact St.rows st 3 rfl | exact St.rows st 4 rfl | exact St.rows st 5 rfl | fail)
          | (with_reducible apply exr5; case h => first | exact St.rows st 0 rfl | exact St.rows st 1 rfl | exact St.rows st 2 rfl | exact St.rows st 3 rfl | exact St.rows st 4 rfl | exact St.rows st 5 rfl | fail)
          | (with_reducible apply exr6; case h => first | exact St.rows st 0 rfl | exact St.rows st 1 rfl | exact St.rows st 2 rfl | exact St.rows st 3 rfl | exact St.rows st 4 rfl | exact St.rows st 5 rfl | fail)
          | (with_reducible apply exWr; case h => first | exact St.wr st 0 rfl rfl | exact St.wr st 1 rfl rfl | exact St.wr st 2 rfl rfl | exact St.wr st 3 rfl rfl | exact St.wr st 4 rfl rfl | exact St.wr st 5 rfl rfl | fail)
          | (with_reducible apply exWrRow; case h => first | exact St.wrRow st 0 rfl rfl rfl | exact St.wrRow st 1 rfl rfl rfl | exact St.wrRow st 2 rfl rfl rfl | exact St.wrRow st 3 rfl rfl rfl | exact St.wrRow st 4 rfl rfl rfl | exact St.wrRow st 5 rfl rfl rfl | fail)
          | (with_reducible refine LetW.cell ?_; (first | refine St.store st 0 rfl ?_ | refine St.store st 1 rfl ?_ | refine St.store st 2 rfl ?_ | refine St.store st 3 rfl ?_ | refine St.store st 4 rfl ?_ | refine St.store st 5 rfl ?_ | fail); (try clear st); intro w st; simp only [List.set] at st)
          | (with_reducible refine LetW.rows ?_; (first | refine St.storeRow st 0 rfl ?_ | refine St.storeRow st 1 rfl ?_ | refine St.storeRow st 2 rfl ?_ | refine St.storeRow st 3 rfl ?_ | refine St.storeRow st 4 rfl ?_ | refine St.storeRow st 5 rfl ?_ | fail); (try clear st); intro w st; simp only [List.set, setsL] at st)
          | ((with_reducible apply exr4); case h => first | exact St.rowAt st 0 rfl rfl | exact St.rowAt st 1 rfl rfl | exact St.rowAt st 2 rfl rfl | exact St.rowAt st 3 rfl rfl | exact St.rowAt st 4 rfl rfl | exact St.rowAt st 5 rfl rfl | fail)
          | ((with_reducible apply exr5); case h => first | exact St.rowAt st 0 rfl rfl | exact St.rowAt st 1 rfl rfl | exact St.rowAt st 2 rfl rfl | exact St.rowAt st 3 rfl rfl | exact St.rowAt st 4 rfl rfl | exact St.rowAt st 5 rfl rfl | fail)
          | ((with_reducible apply exr6); case h => first | exact St.rowAt st 0 rfl rfl | exact St.rowAt st 1 rfl rfl | exact St.rowAt st 2 rfl rfl | exact St.rowAt st 3 rfl rfl | exact St.rowAt st 4 rfl rfl | exact St.rowAt st 5 rfl rfl | fail)
          | with_reducible refine LetI.id (by omega) (by omega) ?_
          | fail
        refine Br.dec (fun h => by omega) (fun _ => ?_)
        repeat' first
          | (with_reducible refine St.alloc st ?_; (try clear st); intro b w st)
          | with_reducible refine sz_and (by (repeat rw [ByteArray.size_append]); omega) ?_
          | (refine Tu.go (sdone_tu _ _ pp kk hI2.ok) st 0 rfl (fun _ hg => hg) ?_; (try clear st); intro w st; simp only [List.set] at st; refine ⟨_, rfl, ?_⟩)
          | (refine Tu.go (sdone_tu _ _ pp kk hI2.ok) st 1 rfl (fun _ hg => hg) ?_; (try clear st); intro w st; simp only [List.set] at st; refine ⟨_, rfl, ?_⟩)
          | (refine Tu.go (sdone_tu _ _ pp kk hI2.ok) st 2 rfl (fun _ hg => hg) ?_; (try clear st); intro w st; simp only [List.set] at st; refine ⟨_, rfl, ?_⟩)
          | (refine Tu.go (sdone_tu _ _ pp kk hI2.ok) st 3 rfl (fun _ hg => hg) ?_; (try clear st); intro w st; simp only [List.set] at st; refine ⟨_, rfl, ?_⟩)
          | (refine Tu.go (sdone_tu _ _ pp kk hI2.ok) st 4 rfl (fun _ hg => hg) ?_; (try clear st); intro w st; simp only [List.set] at st; refine ⟨_, rfl, ?_⟩)
          | (refine Tu.go (sdone_tu _ _ pp kk hI2.ok) st 5 rfl (fun _ hg => hg) ?_; (try clear st); intro w st; simp only [List.set] at st; refine ⟨_, rfl, ?_⟩)
          | (with_reducible apply ex0c; case h => first | exact St.cell st 0 rfl rfl | exact St.cell st 1 rfl rfl | exact St.cell st 2 rfl rfl | exact St.cell st 3 rfl rfl | exact St.cell st 4 rfl rfl | exact St.cell st 5 rfl rfl | fail)
          | (with_reducible apply ex1c; case h => first | exact St.cell st 0 rfl rfl | exact St.cell st 1 rfl rfl | exact St.cell st 2 rfl rfl | exact St.cell st 3 rfl rfl | exact St.cell st 4 rfl rfl | exact St.cell st 5 rfl rfl | fail)
          | (with_reducible apply ex3c; case h => first | exact St.cell st 0 rfl rfl | exact St.cell st 1 rfl rfl | exact St.cell st 2 rfl rfl | exact St.cell st 3 rfl rfl | exact St.cell st 4 rfl rfl | exact St.cell st 5 rfl rfl | fail)
          | (with_reducible apply ex0r; case h => first | exact St.rows st 0 rfl | exact St.rows st 1 rfl | exact St.rows st 2 rfl | exact St.rows st 3 rfl | exact St.rows st 4 rfl | exact St.rows st 5 rfl | fail)
          | (with_reducible apply exr2; case h => first | exact St.rows st 0 rfl | exact St.rows st 1 rfl | exact St.rows st 2 rfl | exact St.rows st 3 rfl | exact St.rows st 4 rfl | exact St.rows st 5 rfl | fail)
          | (with_reducible apply exr3; case h => first | exact St.rows st 0 rfl | exact St.rows st 1 rfl | exact St.rows st 2 rfl | exact St.rows st 3 rfl | exact St.rows st 4 rfl | exact St.rows st 5 rfl | fail)
          | (with_reducible apply exr4; case h => first | exact St.rows st 0 rfl | exact St.rows st 1 rfl | exact St.rows st 2 rfl | exact St.rows st 3 rfl | exact St.rows st 4 rfl | exact St.rows st 5 rfl | fail)
          | (with_reducible apply exr5; case h => first | exact St.rows st 0 rfl | exact St.rows st 1 rfl | exact St.rows st 2 rfl | exact St.rows st 3 rfl | exact St.rows st 4 rfl | exact St.rows st 5 rfl | fail)
          | (with_reducible apply exr6; case h => first | exact St.rows st 0 rfl | exact St.rows st 1 rfl | exact St.rows st 2 rfl | exact St.rows st 3 rfl | exact St.rows st 4 rfl | exact St.rows st 5 rfl | fail)
          | (with_reducible apply exWr; case h => first | exact St.wr st 0 rfl rfl | exact St.wr st 1 rfl rfl | exact St.wr st 2 rfl rfl | exact St.wr st 3 rfl rfl | exact St.wr st 4 rfl rfl | exact St.wr st 5 rfl rfl | fail)
          | (with_reducible apply exWrRow; case h => first | exact St.wrRow st 0 rfl rfl rfl | exact St.wrRow st 1 rfl rfl rfl | exact St.wrRow st 2 rfl rfl rfl | exact St.wrRow st 3 rfl rfl rfl | exact St.wrRow st 4 rfl rfl rfl | exact St.wrRow st 5 rfl rfl rfl | fail)
          | (with_reducible refine LetW.cell ?_; (first | refine St.store st 0 rfl ?_ | refine St.store st 1 rfl ?_ | refine St.store st 2 rfl ?_ | refine St.store st 3 rfl ?_ | refine St.store st 4 rfl ?_ | refine St.store st 5 rfl ?_ | fail); (try clear st); intro w st; simp only [List.set] at st)
          | (with_reducible refine LetW.rows ?_; (first | refine St.storeRow st 0 rfl ?_ | refine St.storeRow st 1 rfl ?_ | refine St.storeRow st 2 rfl ?_ | refine St.storeRow st 3 rfl ?_ | refine St.storeRow st 4 rfl ?_ | refine St.storeRow st 5 rfl ?_ | fail); (try clear st); intro w st; simp only [List.set, setsL] at st)
          | ((with_reducible apply exr4); case h => first | exact St.rowAt st 0 rfl rfl | exact St.rowAt st 1 rfl rfl | exact St.rowAt st 2 rfl rfl | exact St.rowAt st 3 rfl rfl | exact St.rowAt st 4 rfl rfl | exact St.rowAt st 5 rfl rfl | fail)
          | ((with_reducible apply exr5); case h => first | exact St.rowAt st 0 rfl rfl | exact St.rowAt st 1 rfl rfl | exact St.rowAt st 2 rfl rfl | exact St.rowAt st 3 rfl rfl | exact St.rowAt st 4 rfl rfl | exact St.rowAt st 5 rfl rfl | fail)
          | ((with_reducible apply exr6); case h => first | exact St.rowAt st 0 rfl rfl | exact St.rowAt st 1 rfl rfl | exact St.rowAt st 2 rfl rfl | exact St.rowAt st 3 rfl rfl | exact St.rowAt st 4 rfl rfl | exact St.rowAt st 5 rfl rfl | fail)
          | with_reducible refine LetI.id (by omega) (by omega) ?_
          | fail
        refine Br.dec (fun h => Br.not (Br.sure rfl ?_)) (fun h => ?_)
        · refine LetI.id (by omega) (by omega) ?_
          exact ⟨_, by omega, i + 1, s, r, got, sent, mail.take q ++ mail.drop (q + 1), told, p, k, p2, c2, pt, kt, by first | (simp; done) | (simp; omega), rfl, by omega, hI2, by first | omega | (simp; omega), by first | omega | (simp; omega), st⟩
        · refine LetI.id (by omega) (by omega) ?_
          exact ⟨_, by omega, i + 1, s, r, got, sent, mail.take q ++ mail.drop (q + 1), told, p, k, p2, c2, pt, kt, by first | (simp; done) | (simp; omega), rfl, by omega, hI2, by first | omega | (simp; omega), by first | omega | (simp; omega), st⟩
      · rw [decide_eq_false ha]
        refine Br.nay rfl ?_
        repeat' first
          | (with_reducible refine St.alloc st ?_; (try clear st); intro b w st)
          | with_reducible refine sz_and (by (repeat rw [ByteArray.size_append]); omega) ?_
          | (refine Tu.go (shave_tu _ _ pp kk hI2.ok) st 0 rfl (fun _ hg => hg) ?_; (try clear st); intro w st; simp only [List.set] at st; refine ⟨_, rfl, ?_⟩)
          | (refine Tu.go (shave_tu _ _ pp kk hI2.ok) st 1 rfl (fun _ hg => hg) ?_; (try clear st); intro w st; simp only [List.set] at st; refine ⟨_, rfl, ?_⟩)
          | (refine Tu.go (shave_tu _ _ pp kk hI2.ok) st 2 rfl (fun _ hg => hg) ?_; (try clear st); intro w st; simp only [List.set] at st; refine ⟨_, rfl, ?_⟩)
          | (refine Tu.go (shave_tu _ _ pp kk hI2.ok) st 3 rfl (fun _ hg => hg) ?_; (try clear st); intro w st; simp only [List.set] at st; refine ⟨_, rfl, ?_⟩)
          | (refine Tu.go (shave_tu _ _ pp kk hI2.ok) st 4 rfl (fun _ hg => hg) ?_; (try clear st); intro w st; simp only [List.set] at st; refine ⟨_, rfl, ?_⟩)
          | (refine Tu.go (shave_tu _ _ pp kk hI2.ok) st 5 rfl (fun _ hg => hg) ?_; (try clear st); intro w st; simp only [List.set] at st; refine ⟨_, rfl, ?_⟩)
          | (with_reducible apply ex0c; case h => first | exact St.cell st 0 rfl rfl | exact St.cell st 1 rfl rfl | exact St.cell st 2 rfl rfl | exact St.cell st 3 rfl rfl | exact St.cell st 4 rfl rfl | exact St.cell st 5 rfl rfl | fail)
          | (with_reducible apply ex1c; case h => first | exact St.cell st 0 rfl rfl | exact St.cell st 1 rfl rfl | exact St.cell st 2 rfl rfl | exact St.cell st 3 rfl rfl | exact St.cell st 4 rfl rfl | exact St.cell st 5 rfl rfl | fail)
          | (with_reducible apply ex3c; case h => first | exact St.cell st 0 rfl rfl | exact St.cell st 1 rfl rfl | exact St.cell st 2 rfl rfl | exact St.cell st 3 rfl rfl | exact St.cell st 4 rfl rfl | exact St.cell st 5 rfl rfl | fail)
          | (with_reducible apply ex0r; case h => first | exact St.rows st 0 rfl | exact St.rows st 1 rfl | exact St.rows st 2 rfl | exact St.rows st 3 rfl | exact St.rows st 4 rfl | exact St.rows st 5 rfl | fail)
          | (with_reducible apply exr2; case h => first | exact St.rows st 0 rfl | exact St.rows st 1 rfl | exact St.rows st 2 rfl | exact St.rows st 3 rfl | exact St.rows st 4 rfl | exact St.rows st 5 rfl | fail)
          | (with_reducible apply exr3; case h => first | exact St.rows st 0 rfl | exact St.rows st 1 rfl | exact St.rows st 2 rfl | exact St.rows st 3 rfl | exact St.rows st 4 rfl | exact St.rows st 5 rfl | fail)
          | (with_reducible apply exr4; case h => first | exact St.rows st 0 rfl | exact St.rows st 1 rfl | exact St.rows st 2 rfl | exact St.rows st 3 rfl | exact St.rows st 4 rfl | exact St.rows st 5 rfl | fail)
          | (with_reducible apply exr5; case h => first | exact St.rows st 0 rfl | exact St.rows st 1 rfl | exact St.rows st 2 rfl | exact St.rows st 3 rfl | exact St.rows st 4 rfl | exact St.rows st 5 rfl | fail)
          | (with_reducible apply exr6; case h => first | exact St.rows st 0 rfl | exact St.rows st 1 rfl | exact St.rows st 2 rfl | exact St.rows st 3 rfl | exact St.rows st 4 rfl | exact St.rows st 5 rfl | fail)
          | (with_reducible apply exWr; case h => first | exact St.wr st 0 rfl rfl | exact St.wr st 1 rfl rfl | exact St.wr st 2 rfl rfl | exact St.wr st 3 rfl rfl | exact St.wr st 4 rfl rfl | exact St.wr st 5 rfl rfl | fail)
          | (with_reducible apply exWrRow; case h => first | exact St.wrRow st 0 rfl rfl rfl | exact St.wrRow st 1 rfl rfl rfl | exact St.wrRow st 2 rfl rfl rfl | exact St.wrRow st 3 rfl rfl rfl | exact St.wrRow st 4 rfl rfl rfl | exact St.wrRow st 5 rfl rfl rfl | fail)
          | (with_reducible refine LetW.cell ?_; (first | refine St.store st 0 rfl ?_ | refine St.store st 1 rfl ?_ | refine St.store st 2 rfl ?_ | refine St.store st 3 rfl ?_ | refine St.store st 4 rfl ?_ | refine St.store st 5 rfl ?_ | fail); (try clear st); intro w st; simp only [List.set] at st)
          | (with_reducible refine LetW.rows ?_; (first | refine St.storeRow st 0 rfl ?_ | refine St.storeRow st 1 rfl ?_ | refine St.storeRow st 2 rfl ?_ | refine St.storeRow st 3 rfl ?_ | refine St.storeRow st 4 rfl ?_ | refine St.storeRow st 5 rfl ?_ | fail); (try clear st); intro w st; simp only [List.set, setsL] at st)
          | ((with_reducible apply exr4); case h => first | exact St.rowAt st 0 rfl rfl | exact St.rowAt st 1 rfl rfl | exact St.rowAt st 2 rfl rfl | exact St.rowAt st 3 rfl rfl | exact St.rowAt st 4 rfl rfl | exact St.rowAt st 5 rfl rfl | fail)
          | ((with_reducible apply exr5); case h => first | exact St.rowAt st 0 rfl rfl | exact St.rowAt st 1 rfl rfl | exact St.rowAt st 2 rfl rfl | exact St.rowAt st 3 rfl rfl | exact St.rowAt st 4 rfl rfl | exact St.rowAt st 5 rfl rfl | fail)
          | ((with_reducible apply exr6); case h => first | exact St.rowAt st 0 rfl rfl | exact St.rowAt st 1 rfl rfl | exact St.rowAt st 2 rfl rfl | exact St.rowAt st 3 rfl rfl | exact St.rowAt st 4 rfl rfl | exact St.rowAt st 5 rfl rfl | fail)
          | with_reducible refine LetI.id (by omega) (by omega) ?_
          | fail
        refine Br.dec (fun h => by omega) (fun _ => ?_)
        repeat' first
          | (with_reducible refine St.alloc st ?_; (try clear st); intro b w st)
          | with_reducible refine sz_and (by (repeat rw [ByteArray.size_append]); omega) ?_
          | (refine Tu.go (sdone_tu _ _ pp kk hI2.ok) st 0 rfl (fun _ hg => hg) ?_; (try clear st); intro w st; simp only [List.set] at st; refine ⟨_, rfl, ?_⟩)
          | (refine Tu.go (sdone_tu _ _ pp kk hI2.ok) st 1 rfl (fun _ hg => hg) ?_; (try clear st); intro w st; simp only [List.set] at st; refine ⟨_, rfl, ?_⟩)
          | (refine Tu.go (sdone_tu _ _ pp kk hI2.ok) st 2 rfl (fun _ hg => hg) ?_; (try clear st); intro w st; simp only [List.set] at st; refine ⟨_, rfl, ?_⟩)
          | (refine Tu.go (sdone_tu _ _ pp kk hI2.ok) st 3 rfl (fun _ hg => hg) ?_; (try clear st); intro w st; simp only [List.set] at st; refine ⟨_, rfl, ?_⟩)
          | (refine Tu.go (sdone_tu _ _ pp kk hI2.ok) st 4 rfl (fun _ hg => hg) ?_; (try clear st); intro w st; simp only [List.set] at st; refine ⟨_, rfl, ?_⟩)
          | (refine Tu.go (sdone_tu _ _ pp kk hI2.ok) st 5 rfl (fun _ hg => hg) ?_; (try clear st); intro w st; simp only [List.set] at st; refine ⟨_, rfl, ?_⟩)
          | (with_reducible apply ex0c; case h => first | exact St.cell st 0 rfl rfl | exact St.cell st 1 rfl rfl | exact St.cell st 2 rfl rfl | exact St.cell st 3 rfl rfl | exact St.cell st 4 rfl rfl | exact St.cell st 5 rfl rfl | fail)
          | (with_reducible apply ex1c; case h => first | exact St.cell st 0 rfl rfl | exact St.cell st 1 rfl rfl | exact St.cell st 2 rfl rfl | exact St.cell st 3 rfl rfl | exact St.cell st 4 rfl rfl | exact St.cell st 5 rfl rfl | fail)
          | (with_reducible apply ex3c; case h => first | exact St.cell st 0 rfl rfl | exact St.cell st 1 rfl rfl | exact St.cell st 2 rfl rfl | exact St.cell st 3 rfl rfl | exact St.cell st 4 rfl rfl | exact St.cell st 5 rfl rfl | fail)
          | (with_reducible apply ex0r; case h => first | exact St.rows st 0 rfl | exact St.rows st 1 rfl | exact St.rows st 2 rfl | exact St.rows st 3 rfl | exact St.rows st 4 rfl | exact St.rows st 5 rfl | fail)
          | (with_reducible apply exr2; case h => first | exact St.rows st 0 rfl | exact St.rows st 1 rfl | exact St.rows st 2 rfl | exact St.rows st 3 rfl | exact St.rows st 4 rfl | exact St.rows st 5 rfl | fail)
          | (with_reducible apply exr3; case h => first | exact St.rows st 0 rfl | exact St.rows st 1 rfl | exact St.rows st 2 rfl | exact St.rows st 3 rfl | exact St.rows st 4 rfl | exact St.rows st 5 rfl | fail)
          | (with_reducible apply exr4; case h => first | exact St.rows st 0 rfl | exact St.rows st 1 rfl | exact St.rows st 2 rfl | exact St.rows st 3 rfl | exact St.rows st 4 rfl | exact St.rows st 5 rfl | fail)
          | (with_reducible apply exr5; case h => first | exact St.rows st 0 rfl | exact St.rows st 1 rfl | exact St.rows st 2 rfl | exact St.rows st 3 rfl | exact St.rows st 4 rfl | exact St.rows st 5 rfl | fail)
          | (with_reducible apply exr6; case h => first | exact St.rows st 0 rfl | exact St.rows st 1 rfl | exact St.rows st 2 rfl | exact St.rows st 3 rfl | exact St.rows st 4 rfl | exact St.rows st 5 rfl | fail)
          | (with_reducible apply exWr; case h => first | exact St.wr st 0 rfl rfl | exact St.wr st 1 rfl rfl | exact St.wr st 2 rfl rfl | exact St.wr st 3 rfl rfl | exact St.wr st 4 rfl rfl | exact St.wr st 5 rfl rfl | fail)
          | (with_reducible apply exWrRow; case h => first | exact St.wrRow st 0 rfl rfl rfl | exact St.wrRow st 1 rfl rfl rfl | exact St.wrRow st 2 rfl rfl rfl | exact St.wrRow st 3 rfl rfl rfl | exact St.wrRow st 4 rfl rfl rfl | exact St.wrRow st 5 rfl rfl rfl | fail)
          | (with_reducible refine LetW.cell ?_; (first | refine St.store st 0 rfl ?_ | refine St.store st 1 rfl ?_ | refine St.store st 2 rfl ?_ | refine St.store st 3 rfl ?_ | refine St.store st 4 rfl ?_ | refine St.store st 5 rfl ?_ | fail); (try clear st); intro w st; simp only [List.set] at st)
          | (with_reducible refine LetW.rows ?_; (first | refine St.storeRow st 0 rfl ?_ | refine St.storeRow st 1 rfl ?_ | refine St.storeRow st 2 rfl ?_ | refine St.storeRow st 3 rfl ?_ | refine St.storeRow st 4 rfl ?_ | refine St.storeRow st 5 rfl ?_ | fail); (try clear st); intro w st; simp only [List.set, setsL] at st)
          | ((with_reducible apply exr4); case h => first | exact St.rowAt st 0 rfl rfl | exact St.rowAt st 1 rfl rfl | exact St.rowAt st 2 rfl rfl | exact St.rowAt st 3 rfl rfl | exact St.rowAt st 4 rfl rfl | exact St.rowAt st 5 rfl rfl | fail)
          | ((with_reducible apply exr5); case h => first | exact St.rowAt st 0 rfl rfl | exact St.rowAt st 1 rfl rfl | exact St.rowAt st 2 rfl rfl | exact St.rowAt st 3 rfl rfl | exact St.rowAt st 4 rfl rfl | exact St.rowAt st 5 rfl rfl | fail)
          | ((with_reducible apply exr6); case h => first | exact St.rowAt st 0 rfl rfl | exact St.rowAt st 1 rfl rfl | exact St.rowAt st 2 rfl rfl | exact St.rowAt st 3 rfl rfl | exact St.rowAt st 4 rfl rfl | exact St.rowAt st 5 rfl rfl | fail)
          | with_reducible refine LetI.id (by omega) (by omega) ?_
          | fail
        refine Br.dec (fun h => absurd (hI2.done h) ha) (fun h => ?_)
        refine LetI.id (by omega) (by omega) ?_
        exact ⟨_, by omega, i + 1, s, r, got, sent, mail.take q ++ mail.drop (q + 1), told, p, k, p2, c2, pt, kt, by first | (simp; done) | (simp; omega), rfl, by omega, hI2, by first | omega | (simp; omega), by first | omega | (simp; omega), st⟩
    · skip
      replace st : St No w0 w [rcvB br (r) p k, rcvR (r) p k, sndA bs (s) pp kk, sndR s0 pp kk, mailA (mail) pm km, toldA (told) pt kt] := st
      have hI2 : Inv s0 (s) (r) (got) (sent) (mail) (told) := hI
      have hk2 := hI2.known
      refine Tr.go (rtext_tr br _ hI2.rok hI2.pos _ _) st 0 1 rfl rfl (by decide) (fun _ hg => hg) ?_
      clear st
      intro w st
      simp only [List.set] at st
      refine ⟨_, _, rfl, ?_⟩
      by_cases ha : allR (r)
      · rw [decide_eq_true ha, hI2.text ha, htx]
        refine Br.sure rfl (Br.not (Br.sure (by simp) ?_))
        repeat' first
          | (with_reducible refine St.alloc st ?_; (try clear st); intro b w st)
          | with_reducible refine sz_and (by (repeat rw [ByteArray.size_append]); omega) ?_
          | (refine Tu.go (shave_tu _ _ pp kk hI2.ok) st 0 rfl (fun _ hg => hg) ?_; (try clear st); intro w st; simp only [List.set] at st; refine ⟨_, rfl, ?_⟩)
          | (refine Tu.go (shave_tu _ _ pp kk hI2.ok) st 1 rfl (fun _ hg => hg) ?_; (try clear st); intro w st; simp only [List.set] at st; refine ⟨_, rfl, ?_⟩)
          | (refine Tu.go (shave_tu _ _ pp kk hI2.ok) st 2 rfl (fun _ hg => hg) ?_; (try clear st); intro w st; simp only [List.set] at st; refine ⟨_, rfl, ?_⟩)
          | (refine Tu.go (shave_tu _ _ pp kk hI2.ok) st 3 rfl (fun _ hg => hg) ?_; (try clear st); intro w st; simp only [List.set] at st; refine ⟨_, rfl, ?_⟩)
          | (refine Tu.go (shave_tu _ _ pp kk hI2.ok) st 4 rfl (fun _ hg => hg) ?_; (try clear st); intro w st; simp only [List.set] at st; refine ⟨_, rfl, ?_⟩)
          | (refine Tu.go (shave_tu _ _ pp kk hI2.ok) st 5 rfl (fun _ hg => hg) ?_; (try clear st); intro w st; simp only [List.set] at st; refine ⟨_, rfl, ?_⟩)
          | (with_reducible apply ex0c; case h => first | exact St.cell st 0 rfl rfl | exact St.cell st 1 rfl rfl | exact St.cell st 2 rfl rfl | exact St.cell st 3 rfl rfl | exact St.cell st 4 rfl rfl | exact St.cell st 5 rfl rfl | fail)
          | (with_reducible apply ex1c; case h => first | exact St.cell st 0 rfl rfl | exact St.cell st 1 rfl rfl | exact St.cell st 2 rfl rfl | exact St.cell st 3 rfl rfl | exact St.cell st 4 rfl rfl | exact St.cell st 5 rfl rfl | fail)
          | (with_reducible apply ex3c; case h => first | exact St.cell st 0 rfl rfl | exact St.cell st 1 rfl rfl | exact St.cell st 2 rfl rfl | exact St.cell st 3 rfl rfl | exact St.cell st 4 rfl rfl | exact St.cell st 5 rfl rfl | fail)
          | (with_reducible apply ex0r; case h => first | exact St.rows st 0 rfl | exact St.rows st 1 rfl | exact St.rows st 2 rfl | exact St.rows st 3 rfl | exact St.rows st 4 rfl | exact St.rows st 5 rfl | fail)
          | (with_reducible apply exr2; case h => first | exact St.rows st 0 rfl | exact St.rows st 1 rfl | exact St.rows st 2 rfl | exact St.rows st 3 rfl | exact St.rows st 4 rfl | exact St.rows st 5 rfl | fail)
          | (with_reducible apply exr3; case h => first | exact St.rows st 0 rfl | exact St.rows st 1 rfl | exact St.rows st 2 rfl | exact St.rows st 3 rfl | exact St.rows st 4 rfl | exact St.rows st 5 rfl | fail)
          | (with_reducible apply exr4; case h => first | exact St.rows st 0 rfl | exact St.rows st 1 rfl | exact St.rows st 2 rfl | exact St.rows st 3 rfl | exact St.rows st 4 rfl | exact St.rows st 5 rfl | fail)
          | (with_reducible apply exr5; case h => first | exact St.rows st 0 rfl | exact St.rows st 1 rfl | exact St.rows st 2 rfl | exact St.rows st 3 rfl | exact St.rows st 4 rfl | exact St.rows st 5 rfl | fail)
          | (with_reducible apply exr6; case h => first | exact St.rows st 0 rfl | exact St.rows st 1 rfl | exact St.rows st 2 rfl | exact St.rows st 3 rfl | exact St.rows st 4 rfl | exact St.rows st 5 rfl | fail)
          | (with_reducible apply exWr; case h => first | exact St.wr st 0 rfl rfl | exact St.wr st 1 rfl rfl | exact St.wr st 2 rfl rfl | exact St.wr st 3 rfl rfl | exact St.wr st 4 rfl rfl | exact St.wr st 5 rfl rfl | fail)
          | (with_reducible apply exWrRow; case h => first | exact St.wrRow st 0 rfl rfl rfl | exact St.wrRow st 1 rfl rfl rfl | exact St.wrRow st 2 rfl rfl rfl | exact St.wrRow st 3 rfl rfl rfl | exact St.wrRow st 4 rfl rfl rfl | exact St.wrRow st 5 rfl rfl rfl | fail)
          | (with_reducible refine LetW.cell ?_; (first | refine St.store st 0 rfl ?_ | refine St.store st 1 rfl ?_ | refine St.store st 2 rfl ?_ | refine St.store st 3 rfl ?_ | refine St.store st 4 rfl ?_ | refine St.store st 5 rfl ?_ | fail); (try clear st); intro w st; simp only [List.set] at st)
          | (with_reducible refine LetW.rows ?_; (first | refine St.storeRow st 0 rfl ?_ | refine St.storeRow st 1 rfl ?_ | refine St.storeRow st 2 rfl ?_ | refine St.storeRow st 3 rfl ?_ | refine St.storeRow st 4 rfl ?_ | refine St.storeRow st 5 rfl ?_ | fail); (try clear st); intro w st; simp only [List.set, setsL] at st)
          | ((with_reducible apply exr4); case h => first | exact St.rowAt st 0 rfl rfl | exact St.rowAt st 1 rfl rfl | exact St.rowAt st 2 rfl rfl | exact St.rowAt st 3 rfl rfl | exact St.rowAt st 4 rfl rfl | exact St.rowAt st 5 rfl rfl | fail)
          | ((with_reducible apply exr5); case h => first | exact St.rowAt st 0 rfl rfl | exact St.rowAt st 1 rfl rfl | exact St.rowAt st 2 rfl rfl | exact St.rowAt st 3 rfl rfl | exact St.rowAt st 4 rfl rfl | exact St.rowAt st 5 rfl rfl | fail)
          | ((with_reducible apply exr6); case h => first | exact St.rowAt st 0 rfl rfl | exact St.rowAt st 1 rfl rfl | exact St.rowAt st 2 rfl rfl | exact St.rowAt st 3 rfl rfl | exact St.rowAt st 4 rfl rfl | exact St.rowAt st 5 rfl rfl | fail)
          | with_reducible refine LetI.id (by omega) (by omega) ?_
          | fail
        refine Br.dec (fun h => by omega) (fun _ => ?_)
        repeat' first
          | (with_reducible refine St.alloc st ?_; (try clear st); intro b w st)
          | with_reducible refine sz_and (by (repeat rw [ByteArray.size_append]); omega) ?_
          | (refine Tu.go (sdone_tu _ _ pp kk hI2.ok) st 0 rfl (fun _ hg => hg) ?_; (try clear st); intro w st; simp only [List.set] at st; refine ⟨_, rfl, ?_⟩)
          | (refine Tu.go (sdone_tu _ _ pp kk hI2.ok) st 1 rfl (fun _ hg => hg) ?_; (try clear st); intro w st; simp only [List.set] at st; refine ⟨_, rfl, ?_⟩)
          | (refine Tu.go (sdone_tu _ _ pp kk hI2.ok) st 2 rfl (fun _ hg => hg) ?_; (try clear st); intro w st; simp only [List.set] at st; refine ⟨_, rfl, ?_⟩)
          | (refine Tu.go (sdone_tu _ _ pp kk hI2.ok) st 3 rfl (fun _ hg => hg) ?_; (try clear st); intro w st; simp only [List.set] at st; refine ⟨_, rfl, ?_⟩)
          | (refine Tu.go (sdone_tu _ _ pp kk hI2.ok) st 4 rfl (fun _ hg => hg) ?_; (try clear st); intro w st; simp only [List.set] at st; refine ⟨_, rfl, ?_⟩)
          | (refine Tu.go (sdone_tu _ _ pp kk hI2.ok) st 5 rfl (fun _ hg => hg) ?_; (try clear st); intro w st; simp only [List.set] at st; refine ⟨_, rfl, ?_⟩)
          | (with_reducible apply ex0c; case h => first | exact St.cell st 0 rfl rfl | exact St.cell st 1 rfl rfl | exact St.cell st 2 rfl rfl | exact St.cell st 3 rfl rfl | exact St.cell st 4 rfl rfl | exact St.cell st 5 rfl rfl | fail)
          | (with_reducible apply ex1c; case h => first | exact St.cell st 0 rfl rfl | exact St.cell st 1 rfl rfl | exact St.cell st 2 rfl rfl | exact St.cell st 3 rfl rfl | exact St.cell st 4 rfl rfl | exact St.cell st 5 rfl rfl | fail)
          | (with_reducible apply ex3c; case h => first | exact St.cell st 0 rfl rfl | exact St.cell st 1 rfl rfl | exact St.cell st 2 rfl rfl | exact St.cell st 3 rfl rfl | exact St.cell st 4 rfl rfl | exact St.cell st 5 rfl rfl | fail)
          | (with_reducible apply ex0r; case h => first | exact St.rows st 0 rfl | exact St.rows st 1 rfl | exact St.rows st 2 rfl | exact St.rows st 3 rfl | exact St.rows st 4 rfl | exact St.rows st 5 rfl | fail)
          | (with_reducible apply exr2; case h => first | exact St.rows st 0 rfl | exact St.rows st 1 rfl | exact St.rows st 2 rfl | exact St.rows st 3 rfl | exact St.rows st 4 rfl | exact St.rows st 5 rfl | fail)
          | (with_reducible apply exr3; case h => first | exact St.rows st 0 rfl | exact St.rows st 1 rfl | exact St.rows st 2 rfl | exact St.rows st 3 rfl | exact St.rows st 4 rfl | exact St.rows st 5 rfl | fail)
          | (with_reducible apply exr4; case h => first | exact St.rows st 0 rfl | exact St.rows st 1 rfl | exact St.rows st 2 rfl | exact St.rows st 3 rfl | exact St.rows st 4 rfl | exact St.rows st 5 rfl | fail)
          | (with_reducible apply exr5; case h => first | exact St.rows st 0 rfl | exact St.rows st 1 rfl | exact St.rows st 2 rfl | exact St.rows st 3 rfl | exact St.rows st 4 rfl | exact St.rows st 5 rfl | fail)
          | (with_reducible apply exr6; case h => first | exact St.rows st 0 rfl | exact St.rows st 1 rfl | exact St.rows st 2 rfl | exact St.rows st 3 rfl | exact St.rows st 4 rfl | exact St.rows st 5 rfl | fail)
          | (with_reducible apply exWr; case h => first | exact St.wr st 0 rfl rfl | exact St.wr st 1 rfl rfl | exact St.wr st 2 rfl rfl | exact St.wr st 3 rfl rfl | exact St.wr st 4 rfl rfl | exact St.wr st 5 rfl rfl | fail)
          | (with_reducible apply exWrRow; case h => first | exact St.wrRow st 0 rfl rfl rfl | exact St.wrRow st 1 rfl rfl rfl | exact St.wrRow st 2 rfl rfl rfl | exact St.wrRow st 3 rfl rfl rfl | exact St.wrRow st 4 rfl rfl rfl | exact St.wrRow st 5 rfl rfl rfl | fail)
          | (with_reducible refine LetW.cell ?_; (first | refine St.store st 0 rfl ?_ | refine St.store st 1 rfl ?_ | refine St.store st 2 rfl ?_ | refine St.store st 3 rfl ?_ | refine St.store st 4 rfl ?_ | refine St.store st 5 rfl ?_ | fail); (try clear st); intro w st; simp only [List.set] at st)
          | (with_reducible refine LetW.rows ?_; (first | refine St.storeRow st 0 rfl ?_ | refine St.storeRow st 1 rfl ?_ | refine St.storeRow st 2 rfl ?_ | refine St.storeRow st 3 rfl ?_ | refine St.storeRow st 4 rfl ?_ | refine St.storeRow st 5 rfl ?_ | fail); (try clear st); intro w st; simp only [List.set, setsL] at st)
          | ((with_reducible apply exr4); case h => first | exact St.rowAt st 0 rfl rfl | exact St.rowAt st 1 rfl rfl | exact St.rowAt st 2 rfl rfl | exact St.rowAt st 3 rfl rfl | exact St.rowAt st 4 rfl rfl | exact St.rowAt st 5 rfl rfl | fail)
          | ((with_reducible apply exr5); case h => first | exact St.rowAt st 0 rfl rfl | exact St.rowAt st 1 rfl rfl | exact St.rowAt st 2 rfl rfl | exact St.rowAt st 3 rfl rfl | exact St.rowAt st 4 rfl rfl | exact St.rowAt st 5 rfl rfl | fail)
          | ((with_reducible apply exr6); case h => first | exact St.rowAt st 0 rfl rfl | exact St.rowAt st 1 rfl rfl | exact St.rowAt st 2 rfl rfl | exact St.rowAt st 3 rfl rfl | exact St.rowAt st 4 rfl rfl | exact St.rowAt st 5 rfl rfl | fail)
          | with_reducible refine LetI.id (by omega) (by omega) ?_
          | fail
        refine Br.dec (fun h => Br.not (Br.sure rfl ?_)) (fun h => ?_)
        · refine LetI.id (by omega) (by omega) ?_
          exact ⟨_, by omega, i + 1, s, r, got, sent, mail, told, p, k, pm, km, pt, kt, by first | (simp; done) | (simp; omega), rfl, by omega, hI2, by first | omega | (simp; omega), by first | omega | (simp; omega), st⟩
        · refine LetI.id (by omega) (by omega) ?_
          exact ⟨_, by omega, i + 1, s, r, got, sent, mail, told, p, k, pm, km, pt, kt, by first | (simp; done) | (simp; omega), rfl, by omega, hI2, by first | omega | (simp; omega), by first | omega | (simp; omega), st⟩
      · rw [decide_eq_false ha]
        refine Br.nay rfl ?_
        repeat' first
          | (with_reducible refine St.alloc st ?_; (try clear st); intro b w st)
          | with_reducible refine sz_and (by (repeat rw [ByteArray.size_append]); omega) ?_
          | (refine Tu.go (shave_tu _ _ pp kk hI2.ok) st 0 rfl (fun _ hg => hg) ?_; (try clear st); intro w st; simp only [List.set] at st; refine ⟨_, rfl, ?_⟩)
          | (refine Tu.go (shave_tu _ _ pp kk hI2.ok) st 1 rfl (fun _ hg => hg) ?_; (try clear st); intro w st; simp only [List.set] at st; refine ⟨_, rfl, ?_⟩)
          | (refine Tu.go (shave_tu _ _ pp kk hI2.ok) st 2 rfl (fun _ hg => hg) ?_; (try clear st); intro w st; simp only [List.set] at st; refine ⟨_, rfl, ?_⟩)
          | (refine Tu.go (shave_tu _ _ pp kk hI2.ok) st 3 rfl (fun _ hg => hg) ?_; (try clear st); intro w st; simp only [List.set] at st; refine ⟨_, rfl, ?_⟩)
          | (refine Tu.go (shave_tu _ _ pp kk hI2.ok) st 4 rfl (fun _ hg => hg) ?_; (try clear st); intro w st; simp only [List.set] at st; refine ⟨_, rfl, ?_⟩)
          | (refine Tu.go (shave_tu _ _ pp kk hI2.ok) st 5 rfl (fun _ hg => hg) ?_; (try clear st); intro w st; simp only [List.set] at st; refine ⟨_, rfl, ?_⟩)
          | (with_reducible apply ex0c; case h => first | exact St.cell st 0 rfl rfl | exact St.cell st 1 rfl rfl | exact St.cell st 2 rfl rfl | exact St.cell st 3 rfl rfl | exact St.cell st 4 rfl rfl | exact St.cell st 5 rfl rfl | fail)
          | (with_reducible apply ex1c; case h => first | exact St.cell st 0 rfl rfl | exact St.cell st 1 rfl rfl | exact St.cell st 2 rfl rfl | exact St.cell st 3 rfl rfl | exact St.cell st 4 rfl rfl | exact St.cell st 5 rfl rfl | fail)
          | (with_reducible apply ex3c; case h => first | exact St.cell st 0 rfl rfl | exact St.cell st 1 rfl rfl | exact St.cell st 2 rfl rfl | exact St.cell st 3 rfl rfl | exact St.cell st 4 rfl rfl | exact St.cell st 5 rfl rfl | fail)
          | (with_reducible apply ex0r; case h => first | exact St.rows st 0 rfl | exact St.rows st 1 rfl | exact St.rows st 2 rfl | exact St.rows st 3 rfl | exact St.rows st 4 rfl | exact St.rows st 5 rfl | fail)
          | (with_reducible apply exr2; case h => first | exact St.rows st 0 rfl | exact St.rows st 1 rfl | exact St.rows st 2 rfl | exact St.rows st 3 rfl | exact St.rows st 4 rfl | exact St.rows st 5 rfl | fail)
          | (with_reducible apply exr3; case h => first | exact St.rows st 0 rfl | exact St.rows st 1 rfl | exact St.rows st 2 rfl | exact St.rows st 3 rfl | exact St.rows st 4 rfl | exact St.rows st 5 rfl | fail)
          | (with_reducible apply exr4; case h => first | exact St.rows st 0 rfl | exact St.rows st 1 rfl | exact St.rows st 2 rfl | exact St.rows st 3 rfl | exact St.rows st 4 rfl | exact St.rows st 5 rfl | fail)
          | (with_reducible apply exr5; case h => first | exact St.rows st 0 rfl | exact St.rows st 1 rfl | exact St.rows st 2 rfl | exact St.rows st 3 rfl | exact St.rows st 4 rfl | exact St.rows st 5 rfl | fail)
          | (with_reducible apply exr6; case h => first | exact St.rows st 0 rfl | exact St.rows st 1 rfl | exact St.rows st 2 rfl | exact St.rows st 3 rfl | exact St.rows st 4 rfl | exact St.rows st 5 rfl | fail)
          | (with_reducible apply exWr; case h => first | exact St.wr st 0 rfl rfl | exact St.wr st 1 rfl rfl | exact St.wr st 2 rfl rfl | exact St.wr st 3 rfl rfl | exact St.wr st 4 rfl rfl | exact St.wr st 5 rfl rfl | fail)
          | (with_reducible apply exWrRow; case h => first | exact St.wrRow st 0 rfl rfl rfl | exact St.wrRow st 1 rfl rfl rfl | exact St.wrRow st 2 rfl rfl rfl | exact St.wrRow st 3 rfl rfl rfl | exact St.wrRow st 4 rfl rfl rfl | exact St.wrRow st 5 rfl rfl rfl | fail)
          | (with_reducible refine LetW.cell ?_; (first | refine St.store st 0 rfl ?_ | refine St.store st 1 rfl ?_ | refine St.store st 2 rfl ?_ | refine St.store st 3 rfl ?_ | refine St.store st 4 rfl ?_ | refine St.store st 5 rfl ?_ | fail); (try clear st); intro w st; simp only [List.set] at st)
          | (with_reducible refine LetW.rows ?_; (first | refine St.storeRow st 0 rfl ?_ | refine St.storeRow st 1 rfl ?_ | refine St.storeRow st 2 rfl ?_ | refine St.storeRow st 3 rfl ?_ | refine St.storeRow st 4 rfl ?_ | refine St.storeRow st 5 rfl ?_ | fail); (try clear st); intro w st; simp only [List.set, setsL] at st)
          | ((with_reducible apply exr4); case h => first | exact St.rowAt st 0 rfl rfl | exact St.rowAt st 1 rfl rfl | exact St.rowAt st 2 rfl rfl | exact St.rowAt st 3 rfl rfl | exact St.rowAt st 4 rfl rfl | exact St.rowAt st 5 rfl rfl | fail)
          | ((with_reducible apply exr5); case h => first | exact St.rowAt st 0 rfl rfl | exact St.rowAt st 1 rfl rfl | exact St.rowAt st 2 rfl rfl | exact St.rowAt st 3 rfl rfl | exact St.rowAt st 4 rfl rfl | exact St.rowAt st 5 rfl rfl | fail)
          | ((with_reducible apply exr6); case h => first | exact St.rowAt st 0 rfl rfl | exact St.rowAt st 1 rfl rfl | exact St.rowAt st 2 rfl rfl | exact St.rowAt st 3 rfl rfl | exact St.rowAt st 4 rfl rfl | exact St.rowAt st 5 rfl rfl | fail)
          | with_reducible refine LetI.id (by omega) (by omega) ?_
          | fail
        refine Br.dec (fun h => by omega) (fun _ => ?_)
        repeat' first
          | (with_reducible refine St.alloc st ?_; (try clear st); intro b w st)
          | with_reducible refine sz_and (by (repeat rw [ByteArray.size_append]); omega) ?_
          | (refine Tu.go (sdone_tu _ _ pp kk hI2.ok) st 0 rfl (fun _ hg => hg) ?_; (try clear st); intro w st; simp only [List.set] at st; refine ⟨_, rfl, ?_⟩)
          | (refine Tu.go (sdone_tu _ _ pp kk hI2.ok) st 1 rfl (fun _ hg => hg) ?_; (try clear st); intro w st; simp only [List.set] at st; refine ⟨_, rfl, ?_⟩)
          | (refine Tu.go (sdone_tu _ _ pp kk hI2.ok) st 2 rfl (fun _ hg => hg) ?_; (try clear st); intro w st; simp only [List.set] at st; refine ⟨_, rfl, ?_⟩)
          | (refine Tu.go (sdone_tu _ _ pp kk hI2.ok) st 3 rfl (fun _ hg => hg) ?_; (try clear st); intro w st; simp only [List.set] at st; refine ⟨_, rfl, ?_⟩)
          | (refine Tu.go (sdone_tu _ _ pp kk hI2.ok) st 4 rfl (fun _ hg => hg) ?_; (try clear st); intro w st; simp only [List.set] at st; refine ⟨_, rfl, ?_⟩)
          | (refine Tu.go (sdone_tu _ _ pp kk hI2.ok) st 5 rfl (fun _ hg => hg) ?_; (try clear st); intro w st; simp only [List.set] at st; refine ⟨_, rfl, ?_⟩)
          | (with_reducible apply ex0c; case h => first | exact St.cell st 0 rfl rfl | exact St.cell st 1 rfl rfl | exact St.cell st 2 rfl rfl | exact St.cell st 3 rfl rfl | exact St.cell st 4 rfl rfl | exact St.cell st 5 rfl rfl | fail)
          | (with_reducible apply ex1c; case h => first | exact St.cell st 0 rfl rfl | exact St.cell st 1 rfl rfl | exact St.cell st 2 rfl rfl | exact St.cell st 3 rfl rfl | exact St.cell st 4 rfl rfl | exact St.cell st 5 rfl rfl | fail)
          | (with_reducible apply ex3c; case h => first | exact St.cell st 0 rfl rfl | exact St.cell st 1 rfl rfl | exact St.cell st 2 rfl rfl | exact St.cell st 3 rfl rfl | exact St.cell st 4 rfl rfl | exact St.cell st 5 rfl rfl | fail)
          | (with_reducible apply ex0r; case h => first | exact St.rows st 0 rfl | exact St.rows st 1 rfl | exact St.rows st 2 rfl | exact St.rows st 3 rfl | exact St.rows st 4 rfl | exact St.rows st 5 rfl | fail)
          | (with_reducible apply exr2; case h => first | exact St.rows st 0 rfl | exact St.rows st 1 rfl | exact St.rows st 2 rfl | exact St.rows st 3 rfl | exact St.rows st 4 rfl | exact St.rows st 5 rfl | fail)
          | (with_reducible apply exr3; case h => first | exact St.rows st 0 rfl | exact St.rows st 1 rfl | exact St.rows st 2 rfl | exact St.rows st 3 rfl | exact St.rows st 4 rfl | exact St.rows st 5 rfl | fail)
          | (with_reducible apply exr4; case h => first | exact St.rows st 0 rfl | exact St.rows st 1 rfl | exact St.rows st 2 rfl | exact St.rows st 3 rfl | exact St.rows st 4 rfl | exact St.rows st 5 rfl | fail)
          | (with_reducible apply exr5; case h => first | exact St.rows st 0 rfl | exact St.rows st 1 rfl | exact St.rows st 2 rfl | exact St.rows st 3 rfl | exact St.rows st 4 rfl | exact St.rows st 5 rfl | fail)
          | (with_reducible apply exr6; case h => first | exact St.rows st 0 rfl | exact St.rows st 1 rfl | exact St.rows st 2 rfl | exact St.rows st 3 rfl | exact St.rows st 4 rfl | exact St.rows st 5 rfl | fail)
          | (with_reducible apply exWr; case h => first | exact St.wr st 0 rfl rfl | exact St.wr st 1 rfl rfl | exact St.wr st 2 rfl rfl | exact St.wr st 3 rfl rfl | exact St.wr st 4 rfl rfl | exact St.wr st 5 rfl rfl | fail)
          | (with_reducible apply exWrRow; case h => first | exact St.wrRow st 0 rfl rfl rfl | exact St.wrRow st 1 rfl rfl rfl | exact St.wrRow st 2 rfl rfl rfl | exact St.wrRow st 3 rfl rfl rfl | exact St.wrRow st 4 rfl rfl rfl | exact St.wrRow st 5 rfl rfl rfl | fail)
          | (with_reducible refine LetW.cell ?_; (first | refine St.store st 0 rfl ?_ | refine St.store st 1 rfl ?_ | refine St.store st 2 rfl ?_ | refine St.store st 3 rfl ?_ | refine St.store st 4 rfl ?_ | refine St.store st 5 rfl ?_ | fail); (try clear st); intro w st; simp only [List.set] at st)
          | (with_reducible refine LetW.rows ?_; (first | refine St.storeRow st 0 rfl ?_ | refine St.storeRow st 1 rfl ?_ | refine St.storeRow st 2 rfl ?_ | refine St.storeRow st 3 rfl ?_ | refine St.storeRow st 4 rfl ?_ | refine St.storeRow st 5 rfl ?_ | fail); (try clear st); intro w st; simp only [List.set, setsL] at st)
          | ((with_reducible apply exr4); case h => first | exact St.rowAt st 0 rfl rfl | exact St.rowAt st 1 rfl rfl | exact St.rowAt st 2 rfl rfl | exact St.rowAt st 3 rfl rfl | exact St.rowAt st 4 rfl rfl | exact St.rowAt st 5 rfl rfl | fail)
          | ((with_reducible apply exr5); case h => first | exact St.rowAt st 0 rfl rfl | exact St.rowAt st 1 rfl rfl | exact St.rowAt st 2 rfl rfl | exact St.rowAt st 3 rfl rfl | exact St.rowAt st 4 rfl rfl | exact St.rowAt st 5 rfl rfl | fail)
          | ((with_reducible apply exr6); case h => first | exact St.rowAt st 0 rfl rfl | exact St.rowAt st 1 rfl rfl | exact St.rowAt st 2 rfl rfl | exact St.rowAt st 3 rfl rfl | exact St.rowAt st 4 rfl rfl | exact St.rowAt st 5 rfl rfl | fail)
          | with_reducible refine LetI.id (by omega) (by omega) ?_
          | fail
        refine Br.dec (fun h => absurd (hI2.done h) ha) (fun h => ?_)
        refine LetI.id (by omega) (by omega) ?_
        exact ⟨_, by omega, i + 1, s, r, got, sent, mail, told, p, k, pm, km, pt, kt, by first | (simp; done) | (simp; omega), rfl, by omega, hI2, by first | omega | (simp; omega), by first | omega | (simp; omega), st⟩
  · skip
    repeat' first
      | refine Br.sure rfl ?_
      | refine Br.nay rfl ?_
    refine Br.dec (fun hpos => ?_) (fun hpos => ?_)
    · have hq : u % (told.length : Int) = (((u.toNat % told.length : Nat)) : Int) := by rw [Int.natCast_emod]; congr 1; omega
      have hqlt : u.toNat % told.length < told.length := Nat.mod_lt _ (by omega)
      refine ⟨by omega, LetI.of ?_⟩
      rw [Int.tmod_eq_emod_of_nonneg (by omega), hq]
      generalize u.toNat % told.length = q at hqlt
      have hx := List.getElem_mem hqlt
      obtain ⟨f1, f2⟩ := hI.ack hx
      obtain ⟨am, hpm, hrm⟩ := ElAt.of_owns intE_len (st.hold 5 _ rfl) rfl q hqlt
      cases hpm
      have hcell := Row.get hrm (j := 0) rfl
      rw [Nat.zero_add, addr_zero] at hcell
      refine NilOk.intro rfl ⟨⟨by omega, by omega⟩, _, hcell, ?_⟩
      refine Tu.go (sack_tu _ s pp kk hI.ok 7 told[q]) st 2 rfl (fun _ hg => hg) ?_
      clear st
      intro w st
      simp only [List.set] at st
      rw [f1]
      refine ⟨_, rfl, Br.nei (fun h => absurd rfl h) (fun _ => ?_)⟩
      replace st : St No w0 w [rcvB br (r) p k, rcvR (r) p k, sndA bs ((ackN s 7 told[q]).1) pp kk, sndR s0 pp kk, mailA (mail) pm km, toldA (told) (some am) kt] := st
      have hI2 : Inv s0 ((ackN s 7 told[q]).1) (r) (got) (sent) (mail) (told) := f2
      have hk2 := hI2.known
      refine Tr.go (rtext_tr br _ hI2.rok hI2.pos _ _) st 0 1 rfl rfl (by decide) (fun _ hg => hg) ?_
      clear st
      intro w st
      simp only [List.set] at st
      refine ⟨_, _, rfl, ?_⟩
      by_cases ha : allR (r)
      · rw [decide_eq_true ha, hI2.text ha, htx]
        refine Br.sure rfl (Br.not (Br.sure (by simp) ?_))
        repeat' first
          | (with_reducible refine St.alloc st ?_; (try clear st); intro b w st)
          | with_reducible refine sz_and (by (repeat rw [ByteArray.size_append]); omega) ?_
          | (refine Tu.go (shave_tu _ _ pp kk hI2.ok) st 0 rfl (fun _ hg => hg) ?_; (try clear st); intro w st; simp only [List.set] at st; refine ⟨_, rfl, ?_⟩)
          | (refine Tu.go (shave_tu _ _ pp kk hI2.ok) st 1 rfl (fun _ hg => hg) ?_; (try clear st); intro w st; simp only [List.set] at st; refine ⟨_, rfl, ?_⟩)
          | (refine Tu.go (shave_tu _ _ pp kk hI2.ok) st 2 rfl (fun _ hg => hg) ?_; (try clear st); intro w st; simp only [List.set] at st; refine ⟨_, rfl, ?_⟩)
          | (refine Tu.go (shave_tu _ _ pp kk hI2.ok) st 3 rfl (fun _ hg => hg) ?_; (try clear st); intro w st; simp only [List.set] at st; refine ⟨_, rfl, ?_⟩)
          | (refine Tu.go (shave_tu _ _ pp kk hI2.ok) st 4 rfl (fun _ hg => hg) ?_; (try clear st); intro w st; simp only [List.set] at st; refine ⟨_, rfl, ?_⟩)
          | (refine Tu.go (shave_tu _ _ pp kk hI2.ok) st 5 rfl (fun _ hg => hg) ?_; (try clear st); intro w st; simp only [List.set] at st; refine ⟨_, rfl, ?_⟩)
          | (with_reducible apply ex0c; case h => first | exact St.cell st 0 rfl rfl | exact St.cell st 1 rfl rfl | exact St.cell st 2 rfl rfl | exact St.cell st 3 rfl rfl | exact St.cell st 4 rfl rfl | exact St.cell st 5 rfl rfl | fail)
          | (with_reducible apply ex1c; case h => first | exact St.cell st 0 rfl rfl | exact St.cell st 1 rfl rfl | exact St.cell st 2 rfl rfl | exact St.cell st 3 rfl rfl | exact St.cell st 4 rfl rfl | exact St.cell st 5 rfl rfl | fail)
          | (with_reducible apply ex3c; case h => first | exact St.cell st 0 rfl rfl | exact St.cell st 1 rfl rfl | exact St.cell st 2 rfl rfl | exact St.cell st 3 rfl rfl | exact St.cell st 4 rfl rfl | exact St.cell st 5 rfl rfl | fail)
          | (with_reducible apply ex0r; case h => first | exact St.rows st 0 rfl | exact St.rows st 1 rfl | exact St.rows st 2 rfl | exact St.rows st 3 rfl | exact St.rows st 4 rfl | exact St.rows st 5 rfl | fail)
          | (with_reducible apply exr2; case h => first | exact St.rows st 0 rfl | exact St.rows st 1 rfl | exact St.rows st 2 rfl | exact St.rows st 3 rfl | exact St.rows st 4 rfl | exact St.rows st 5 rfl | fail)
          | (with_reducible apply exr3; case h => first | exact St.rows st 0 rfl | exact St.rows st 1 rfl | exact St.rows st 2 rfl | exact St.rows st 3 rfl | exact St.rows st 4 rfl | exact St.rows st 5 rfl | fail)
          | (with_reducible apply exr4; case h => first | exact St.rows st 0 rfl | exact St.rows st 1 rfl | exact St.rows st 2 rfl | exact St.rows st 3 rfl | exact St.rows st 4 rfl | exact St.rows st 5 rfl | fail)
          | (with_reducible apply exr5; case h => first | exact St.rows st 0 rfl | exact St.rows st 1 rfl | exact St.rows st 2 rfl | exact St.rows st 3 rfl | exact St.rows st 4 rfl | exact St.rows st 5 rfl | fail)
          | (with_reducible apply exr6; case h => first | exact St.rows st 0 rfl | exact St.rows st 1 rfl | exact St.rows st 2 rfl | exact St.rows st 3 rfl | exact St.rows st 4 rfl | exact St.rows st 5 rfl | fail)
          | (with_reducible apply exWr; case h => first | exact St.wr st 0 rfl rfl | exact St.wr st 1 rfl rfl | exact St.wr st 2 rfl rfl | exact St.wr st 3 rfl rfl | exact St.wr st 4 rfl rfl | exact St.wr st 5 rfl rfl | fail)
          | (with_reducible apply exWrRow; case h => first | exact St.wrRow st 0 rfl rfl rfl | exact St.wrRow st 1 rfl rfl rfl | exact St.wrRow st 2 rfl rfl rfl | exact St.wrRow st 3 rfl rfl rfl | exact St.wrRow st 4 rfl rfl rfl | exact St.wrRow st 5 rfl rfl rfl | fail)
          | (with_reducible refine LetW.cell ?_; (first | refine St.store st 0 rfl ?_ | refine St.store st 1 rfl ?_ | refine St.store st 2 rfl ?_ | refine St.store st 3 rfl ?_ | refine St.store st 4 rfl ?_ | refine St.store st 5 rfl ?_ | fail); (try clear st); intro w st; simp only [List.set] at st)
          | (with_reducible refine LetW.rows ?_; (first | refine St.storeRow st 0 rfl ?_ | refine St.storeRow st 1 rfl ?_ | refine St.storeRow st 2 rfl ?_ | refine St.storeRow st 3 rfl ?_ | refine St.storeRow st 4 rfl ?_ | refine St.storeRow st 5 rfl ?_ | fail); (try clear st); intro w st; simp only [List.set, setsL] at st)
          | ((with_reducible apply exr4); case h => first | exact St.rowAt st 0 rfl rfl | exact St.rowAt st 1 rfl rfl | exact St.rowAt st 2 rfl rfl | exact St.rowAt st 3 rfl rfl | exact St.rowAt st 4 rfl rfl | exact St.rowAt st 5 rfl rfl | fail)
          | ((with_reducible apply exr5); case h => first | exact St.rowAt st 0 rfl rfl | exact St.rowAt st 1 rfl rfl | exact St.rowAt st 2 rfl rfl | exact St.rowAt st 3 rfl rfl | exact St.rowAt st 4 rfl rfl | exact St.rowAt st 5 rfl rfl | fail)
          | ((with_reducible apply exr6); case h => first | exact St.rowAt st 0 rfl rfl | exact St.rowAt st 1 rfl rfl | exact St.rowAt st 2 rfl rfl | exact St.rowAt st 3 rfl rfl | exact St.rowAt st 4 rfl rfl | exact St.rowAt st 5 rfl rfl | fail)
          | with_reducible refine LetI.id (by omega) (by omega) ?_
          | fail
        refine Br.dec (fun h => by omega) (fun _ => ?_)
        repeat' first
          | (with_reducible refine St.alloc st ?_; (try clear st); intro b w st)
          | with_reducible refine sz_and (by (repeat rw [ByteArray.size_append]); omega) ?_
          | (refine Tu.go (sdone_tu _ _ pp kk hI2.ok) st 0 rfl (fun _ hg => hg) ?_; (try clear st); intro w st; simp only [List.set] at st; refine ⟨_, rfl, ?_⟩)
          | (refine Tu.go (sdone_tu _ _ pp kk hI2.ok) st 1 rfl (fun _ hg => hg) ?_; (try clear st); intro w st; simp only [List.set] at st; refine ⟨_, rfl, ?_⟩)
          | (refine Tu.go (sdone_tu _ _ pp kk hI2.ok) st 2 rfl (fun _ hg => hg) ?_; (try clear st); intro w st; simp only [List.set] at st; refine ⟨_, rfl, ?_⟩)
          | (refine Tu.go (sdone_tu _ _ pp kk hI2.ok) st 3 rfl (fun _ hg => hg) ?_; (try clear st); intro w st; simp only [List.set] at st; refine ⟨_, rfl, ?_⟩)
          | (refine Tu.go (sdone_tu _ _ pp kk hI2.ok) st 4 rfl (fun _ hg => hg) ?_; (try clear st); intro w st; simp only [List.set] at st; refine ⟨_, rfl, ?_⟩)
          | (refine Tu.go (sdone_tu _ _ pp kk hI2.ok) st 5 rfl (fun _ hg => hg) ?_; (try clear st); intro w st; simp only [List.set] at st; refine ⟨_, rfl, ?_⟩)
          | (with_reducible apply ex0c; case h => first | exact St.cell st 0 rfl rfl | exact St.cell st 1 rfl rfl | exact St.cell st 2 rfl rfl | exact St.cell st 3 rfl rfl | exact St.cell st 4 rfl rfl | exact St.cell st 5 rfl rfl | fail)
          | (with_reducible apply ex1c; case h => first | exact St.cell st 0 rfl rfl | exact St.cell st 1 rfl rfl | exact St.cell st 2 rfl rfl | exact St.cell st 3 rfl rfl | exact St.cell st 4 rfl rfl | exact St.cell st 5 rfl rfl | fail)
          | (with_reducible apply ex3c; case h => first | exact St.cell st 0 rfl rfl | exact St.cell st 1 rfl rfl | exact St.cell st 2 rfl rfl | exact St.cell st 3 rfl rfl | exact St.cell st 4 rfl rfl | exact St.cell st 5 rfl rfl | fail)
          | (with_reducible apply ex0r; case h => first | exact St.rows st 0 rfl | exact St.rows st 1 rfl | exact St.rows st 2 rfl | exact St.rows st 3 rfl | exact St.rows st 4 rfl | exact St.rows st 5 rfl | fail)
          | (with_reducible apply exr2; case h => first | exact St.rows st 0 rfl | exact St.rows st 1 rfl | exact St.rows st 2 rfl | exact St.rows st 3 rfl | exact St.rows st 4 rfl | exact St.rows st 5 rfl | fail)
          | (with_reducible apply exr3; case h => first | exact St.rows st 0 rfl | exact St.rows st 1 rfl | exact St.rows st 2 rfl | exact St.rows st 3 rfl | exact St.rows st 4 rfl | exact St.rows st 5 rfl | fail)
          | (with_reducible apply exr4; case h => first | exact St.rows st 0 rfl | exact St.rows st 1 rfl | exact St.rows st 2 rfl | exact St.rows st 3 rfl | exact St.rows st 4 rfl | exact St.rows st 5 rfl | fail)
          | (with_reducible apply exr5; case h => first | exact St.rows st 0 rfl | exact St.rows st 1 rfl | exact St.rows st 2 rfl | exact St.rows st 3 rfl | exact St.rows st 4 rfl | exact St.rows st 5 rfl | fail)
          | (with_reducible apply exr6; case h => first | exact St.rows st 0 rfl | exact St.rows st 1 rfl | exact St.rows st 2 rfl | exact St.rows st 3 rfl | exact St.rows st 4 rfl | exact St.rows st 5 rfl | fail)
          | (with_reducible apply exWr; case h => first | exact St.wr st 0 rfl rfl | exact St.wr st 1 rfl rfl | exact St.wr st 2 rfl rfl | exact St.wr st 3 rfl rfl | exact St.wr st 4 rfl rfl | exact St.wr st 5 rfl rfl | fail)
          | (with_reducible apply exWrRow; case h => first | exact St.wrRow st 0 rfl rfl rfl | exact St.wrRow st 1 rfl rfl rfl | exact St.wrRow st 2 rfl rfl rfl | exact St.wrRow st 3 rfl rfl rfl | exact St.wrRow st 4 rfl rfl rfl | exact St.wrRow st 5 rfl rfl rfl | fail)
          | (with_reducible refine LetW.cell ?_; (first | refine St.store st 0 rfl ?_ | refine St.store st 1 rfl ?_ | refine St.store st 2 rfl ?_ | refine St.store st 3 rfl ?_ | refine St.store st 4 rfl ?_ | refine St.store st 5 rfl ?_ | fail); (try clear st); intro w st; simp only [List.set] at st)
          | (with_reducible refine LetW.rows ?_; (first | refine St.storeRow st 0 rfl ?_ | refine St.storeRow st 1 rfl ?_ | refine St.storeRow st 2 rfl ?_ | refine St.storeRow st 3 rfl ?_ | refine St.storeRow st 4 rfl ?_ | refine St.storeRow st 5 rfl ?_ | fail); (try clear st); intro w st; simp only [List.set, setsL] at st)
          | ((with_reducible apply exr4); case h => first | exact St.rowAt st 0 rfl rfl | exact St.rowAt st 1 rfl rfl | exact St.rowAt st 2 rfl rfl | exact St.rowAt st 3 rfl rfl | exact St.rowAt st 4 rfl rfl | exact St.rowAt st 5 rfl rfl | fail)
          | ((with_reducible apply exr5); case h => first | exact St.rowAt st 0 rfl rfl | exact St.rowAt st 1 rfl rfl | exact St.rowAt st 2 rfl rfl | exact St.rowAt st 3 rfl rfl | exact St.rowAt st 4 rfl rfl | exact St.rowAt st 5 rfl rfl | fail)
          | ((with_reducible apply exr6); case h => first | exact St.rowAt st 0 rfl rfl | exact St.rowAt st 1 rfl rfl | exact St.rowAt st 2 rfl rfl | exact St.rowAt st 3 rfl rfl | exact St.rowAt st 4 rfl rfl | exact St.rowAt st 5 rfl rfl | fail)
          | with_reducible refine LetI.id (by omega) (by omega) ?_
          | fail
        refine Br.dec (fun h => Br.not (Br.sure rfl ?_)) (fun h => ?_)
        · refine LetI.id (by omega) (by omega) ?_
          exact ⟨_, by omega, i + 1, (ackN s 7 told[q]).1, r, got, sent, mail, told, p, k, pm, km, (some am), kt, by first | (simp; done) | (simp; omega), rfl, by omega, hI2, by first | omega | (simp; omega), by first | omega | (simp; omega), st⟩
        · refine LetI.id (by omega) (by omega) ?_
          exact ⟨_, by omega, i + 1, (ackN s 7 told[q]).1, r, got, sent, mail, told, p, k, pm, km, (some am), kt, by first | (simp; done) | (simp; omega), rfl, by omega, hI2, by first | omega | (simp; omega), by first | omega | (simp; omega), st⟩
      · rw [decide_eq_false ha]
        refine Br.nay rfl ?_
        repeat' first
          | (with_reducible refine St.alloc st ?_; (try clear st); intro b w st)
          | with_reducible refine sz_and (by (repeat rw [ByteArray.size_append]); omega) ?_
          | (refine Tu.go (shave_tu _ _ pp kk hI2.ok) st 0 rfl (fun _ hg => hg) ?_; (try clear st); intro w st; simp only [List.set] at st; refine ⟨_, rfl, ?_⟩)
          | (refine Tu.go (shave_tu _ _ pp kk hI2.ok) st 1 rfl (fun _ hg => hg) ?_; (try clear st); intro w st; simp only [List.set] at st; refine ⟨_, rfl, ?_⟩)
          | (refine Tu.go (shave_tu _ _ pp kk hI2.ok) st 2 rfl (fun _ hg => hg) ?_; (try clear st); intro w st; simp only [List.set] at st; refine ⟨_, rfl, ?_⟩)
          | (refine Tu.go (shave_tu _ _ pp kk hI2.ok) st 3 rfl (fun _ hg => hg) ?_; (try clear st); intro w st; simp only [List.set] at st; refine ⟨_, rfl, ?_⟩)
          | (refine Tu.go (shave_tu _ _ pp kk hI2.ok) st 4 rfl (fun _ hg => hg) ?_; (try clear st); intro w st; simp only [List.set] at st; refine ⟨_, rfl, ?_⟩)
          | (refine Tu.go (shave_tu _ _ pp kk hI2.ok) st 5 rfl (fun _ hg => hg) ?_; (try clear st); intro w st; simp only [List.set] at st; refine ⟨_, rfl, ?_⟩)
          | (with_reducible apply ex0c; case h => first | exact St.cell st 0 rfl rfl | exact St.cell st 1 rfl rfl | exact St.cell st 2 rfl rfl | exact St.cell st 3 rfl rfl | exact St.cell st 4 rfl rfl | exact St.cell st 5 rfl rfl | fail)
          | (with_reducible apply ex1c; case h => first | exact St.cell st 0 rfl rfl | exact St.cell st 1 rfl rfl | exact St.cell st 2 rfl rfl | exact St.cell st 3 rfl rfl | exact St.cell st 4 rfl rfl | exact St.cell st 5 rfl rfl | fail)
          | (with_reducible apply ex3c; case h => first | exact St.cell st 0 rfl rfl | exact St.cell st 1 rfl rfl | exact St.cell st 2 rfl rfl | exact St.cell st 3 rfl rfl | exact St.cell st 4 rfl rfl | exact St.cell st 5 rfl rfl | fail)
          | (with_reducible apply ex0r; case h => first | exact St.rows st 0 rfl | exact St.rows st 1 rfl | exact St.rows st 2 rfl | exact St.rows st 3 rfl | exact St.rows st 4 rfl | exact St.rows st 5 rfl | fail)
          | (with_reducible apply exr2; case h => first | exact St.rows st 0 rfl | exact St.rows st 1 rfl | exact St.rows st 2 rfl | exact St.rows st 3 rfl | exact St.rows st 4 rfl | exact St.rows st 5 rfl | fail)
          | (with_reducible apply exr3; case h => first | exact St.rows st 0 rfl | exact St.rows st 1 rfl | exact St.rows st 2 rfl | exact St.rows st 3 rfl | exact St.rows st 4 rfl | exact St.rows st 5 rfl | fail)
          | (with_reducible apply exr4; case h => first | exact St.rows st 0 rfl | exact St.rows st 1 rfl | exact St.rows st 2 rfl | exact St.rows st 3 rfl | exact St.rows st 4 rfl | exact St.rows st 5 rfl | fail)
          | (with_reducible apply exr5; case h => first | exact St.rows st 0 rfl | exact St.rows st 1 rfl | exact St.rows st 2 rfl | exact St.rows st 3 rfl | exact St.rows st 4 rfl | exact St.rows st 5 rfl | fail)
          | (with_reducible apply exr6; case h => first | exact St.rows st 0 rfl | exact St.rows st 1 rfl | exact St.rows st 2 rfl | exact St.rows st 3 rfl | exact St.rows st 4 rfl | exact St.rows st 5 rfl | fail)
          | (with_reducible apply exWr; case h => first | exact St.wr st 0 rfl rfl | exact St.wr st 1 rfl rfl | exact St.wr st 2 rfl rfl | exact St.wr st 3 rfl rfl | exact St.wr st 4 rfl rfl | exact St.wr st 5 rfl rfl | fail)
          | (with_reducible apply exWrRow; case h => first | exact St.wrRow st 0 rfl rfl rfl | exact St.wrRow st 1 rfl rfl rfl | exact St.wrRow st 2 rfl rfl rfl | exact St.wrRow st 3 rfl rfl rfl | exact St.wrRow st 4 rfl rfl rfl | exact St.wrRow st 5 rfl rfl rfl | fail)
          | (with_reducible refine LetW.cell ?_; (first | refine St.store st 0 rfl ?_ | refine St.store st 1 rfl ?_ | refine St.store st 2 rfl ?_ | refine St.store st 3 rfl ?_ | refine St.store st 4 rfl ?_ | refine St.store st 5 rfl ?_ | fail); (try clear st); intro w st; simp only [List.set] at st)
          | (with_reducible refine LetW.rows ?_; (first | refine St.storeRow st 0 rfl ?_ | refine St.storeRow st 1 rfl ?_ | refine St.storeRow st 2 rfl ?_ | refine St.storeRow st 3 rfl ?_ | refine St.storeRow st 4 rfl ?_ | refine St.storeRow st 5 rfl ?_ | fail); (try clear st); intro w st; simp only [List.set, setsL] at st)
          | ((with_reducible apply exr4); case h => first | exact St.rowAt st 0 rfl rfl | exact St.rowAt st 1 rfl rfl | exact St.rowAt st 2 rfl rfl | exact St.rowAt st 3 rfl rfl | exact St.rowAt st 4 rfl rfl | exact St.rowAt st 5 rfl rfl | fail)
          | ((with_reducible apply exr5); case h => first | exact St.rowAt st 0 rfl rfl | exact St.rowAt st 1 rfl rfl | exact St.rowAt st 2 rfl rfl | exact St.rowAt st 3 rfl rfl | exact St.rowAt st 4 rfl rfl | exact St.rowAt st 5 rfl rfl | fail)
          | ((with_reducible apply exr6); case h => first | exact St.rowAt st 0 rfl rfl | exact St.rowAt st 1 rfl rfl | exact St.rowAt st 2 rfl rfl | exact St.rowAt st 3 rfl rfl | exact St.rowAt st 4 rfl rfl | exact St.rowAt st 5 rfl rfl | fail)
          | with_reducible refine LetI.id (by omega) (by omega) ?_
          | fail
        refine Br.dec (fun h => by omega) (fun _ => ?_)
        repeat' first
          | (with_reducible refine St.alloc st ?_; (try clear st); intro b w st)
          | with_reducible refine sz_and (by (repeat rw [ByteArray.size_append]); omega) ?_
          | (refine Tu.go (sdone_tu _ _ pp kk hI2.ok) st 0 rfl (fun _ hg => hg) ?_; (try clear st); intro w st; simp only [List.set] at st; refine ⟨_, rfl, ?_⟩)
          | (refine Tu.go (sdone_tu _ _ pp kk hI2.ok) st 1 rfl (fun _ hg => hg) ?_; (try clear st); intro w st; simp only [List.set] at st; refine ⟨_, rfl, ?_⟩)
          | (refine Tu.go (sdone_tu _ _ pp kk hI2.ok) st 2 rfl (fun _ hg => hg) ?_; (try clear st); intro w st; simp only [List.set] at st; refine ⟨_, rfl, ?_⟩)
          | (refine Tu.go (sdone_tu _ _ pp kk hI2.ok) st 3 rfl (fun _ hg => hg) ?_; (try clear st); intro w st; simp only [List.set] at st; refine ⟨_, rfl, ?_⟩)
          | (refine Tu.go (sdone_tu _ _ pp kk hI2.ok) st 4 rfl (fun _ hg => hg) ?_; (try clear st); intro w st; simp only [List.set] at st; refine ⟨_, rfl, ?_⟩)
          | (refine Tu.go (sdone_tu _ _ pp kk hI2.ok) st 5 rfl (fun _ hg => hg) ?_; (try clear st); intro w st; simp only [List.set] at st; refine ⟨_, rfl, ?_⟩)
          | (with_reducible apply ex0c; case h => first | exact St.cell st 0 rfl rfl | exact St.cell st 1 rfl rfl | exact St.cell st 2 rfl rfl | exact St.cell st 3 rfl rfl | exact St.cell st 4 rfl rfl | exact St.cell st 5 rfl rfl | fail)
          | (with_reducible apply ex1c; case h => first | exact St.cell st 0 rfl rfl | exact St.cell st 1 rfl rfl | exact St.cell st 2 rfl rfl | exact St.cell st 3 rfl rfl | exact St.cell st 4 rfl rfl | exact St.cell st 5 rfl rfl | fail)
          | (with_reducible apply ex3c; case h => first | exact St.cell st 0 rfl rfl | exact St.cell st 1 rfl rfl | exact St.cell st 2 rfl rfl | exact St.cell st 3 rfl rfl | exact St.cell st 4 rfl rfl | exact St.cell st 5 rfl rfl | fail)
          | (with_reducible apply ex0r; case h => first | exact St.rows st 0 rfl | exact St.rows st 1 rfl | exact St.rows st 2 rfl | exact St.rows st 3 rfl | exact St.rows st 4 rfl | exact St.rows st 5 rfl | fail)
          | (with_reducible apply exr2; case h => first | exact St.rows st 0 rfl | exact St.rows st 1 rfl | exact St.rows st 2 rfl | exact St.rows st 3 rfl | exact St.rows st 4 rfl | exact St.rows st 5 rfl | fail)
          | (with_reducible apply exr3; case h => first | exact St.rows st 0 rfl | exact St.rows st 1 rfl | exact St.rows st 2 rfl | exact St.rows st 3 rfl | exact St.rows st 4 rfl | exact St.rows st 5 rfl | fail)
          | (with_reducible apply exr4; case h => first | exact St.rows st 0 rfl | exact St.rows st 1 rfl | exact St.rows st 2 rfl | exact St.rows st 3 rfl | exact St.rows st 4 rfl | exact St.rows st 5 rfl | fail)
          | (with_reducible apply exr5; case h => first | exact St.rows st 0 rfl | exact St.rows st 1 rfl | exact St.rows st 2 rfl | exact St.rows st 3 rfl | exact St.rows st 4 rfl | exact St.rows st 5 rfl | fail)
          | (with_reducible apply exr6; case h => first | exact St.rows st 0 rfl | exact St.rows st 1 rfl | exact St.rows st 2 rfl | exact St.rows st 3 rfl | exact St.rows st 4 rfl | exact St.rows st 5 rfl | fail)
          | (with_reducible apply exWr; case h => first | exact St.wr st 0 rfl rfl | exact St.wr st 1 rfl rfl | exact St.wr st 2 rfl rfl | exact St.wr st 3 rfl rfl | exact St.wr st 4 rfl rfl | exact St.wr st 5 rfl rfl | fail)
          | (with_reducible apply exWrRow; case h => first | exact St.wrRow st 0 rfl rfl rfl | exact St.wrRow st 1 rfl rfl rfl | exact St.wrRow st 2 rfl rfl rfl | exact St.wrRow st 3 rfl rfl rfl | exact St.wrRow st 4 rfl rfl rfl | exact St.wrRow st 5 rfl rfl rfl | fail)
          | (with_reducible refine LetW.cell ?_; (first | refine St.store st 0 rfl ?_ | refine St.store st 1 rfl ?_ | refine St.store st 2 rfl ?_ | refine St.store st 3 rfl ?_ | refine St.store st 4 rfl ?_ | refine St.store st 5 rfl ?_ | fail); (try clear st); intro w st; simp only [List.set] at st)
          | (with_reducible refine LetW.rows ?_; (first | refine St.storeRow st 0 rfl ?_ | refine St.storeRow st 1 rfl ?_ | refine St.storeRow st 2 rfl ?_ | refine St.storeRow st 3 rfl ?_ | refine St.storeRow st 4 rfl ?_ | refine St.storeRow st 5 rfl ?_ | fail); (try clear st); intro w st; simp only [List.set, setsL] at st)
          | ((with_reducible apply exr4); case h => first | exact St.rowAt st 0 rfl rfl | exact St.rowAt st 1 rfl rfl | exact St.rowAt st 2 rfl rfl | exact St.rowAt st 3 rfl rfl | exact St.rowAt st 4 rfl rfl | exact St.rowAt st 5 rfl rfl | fail)
          | ((with_reducible apply exr5); case h => first | exact St.rowAt st 0 rfl rfl | exact St.rowAt st 1 rfl rfl | exact St.rowAt st 2 rfl rfl | exact St.rowAt st 3 rfl rfl | exact St.rowAt st 4 rfl rfl | exact St.rowAt st 5 rfl rfl | fail)
          | ((with_reducible apply exr6); case h => first | exact St.rowAt st 0 rfl rfl | exact St.rowAt st 1 rfl rfl | exact St.rowAt st 2 rfl rfl | exact St.rowAt st 3 rfl rfl | exact St.rowAt st 4 rfl rfl | exact St.rowAt st 5 rfl rfl | fail)
          | with_reducible refine LetI.id (by omega) (by omega) ?_
          | fail
        refine Br.dec (fun h => absurd (hI2.done h) ha) (fun h => ?_)
        refine LetI.id (by omega) (by omega) ?_
        exact ⟨_, by omega, i + 1, (ackN s 7 told[q]).1, r, got, sent, mail, told, p, k, pm, km, (some am), kt, by first | (simp; done) | (simp; omega), rfl, by omega, hI2, by first | omega | (simp; omega), by first | omega | (simp; omega), st⟩
    · skip
      replace st : St No w0 w [rcvB br (r) p k, rcvR (r) p k, sndA bs (s) pp kk, sndR s0 pp kk, mailA (mail) pm km, toldA (told) pt kt] := st
      have hI2 : Inv s0 (s) (r) (got) (sent) (mail) (told) := hI
      have hk2 := hI2.known
      refine Tr.go (rtext_tr br _ hI2.rok hI2.pos _ _) st 0 1 rfl rfl (by decide) (fun _ hg => hg) ?_
      clear st
      intro w st
      simp only [List.set] at st
      refine ⟨_, _, rfl, ?_⟩
      by_cases ha : allR (r)
      · rw [decide_eq_true ha, hI2.text ha, htx]
        refine Br.sure rfl (Br.not (Br.sure (by simp) ?_))
        repeat' first
          | (with_reducible refine St.alloc st ?_; (try clear st); intro b w st)
          | with_reducible refine sz_and (by (repeat rw [ByteArray.size_append]); omega) ?_
          | (refine Tu.go (shave_tu _ _ pp kk hI2.ok) st 0 rfl (fun _ hg => hg) ?_; (try clear st); intro w st; simp only [List.set] at st; refine ⟨_, rfl, ?_⟩)
          | (refine Tu.go (shave_tu _ _ pp kk hI2.ok) st 1 rfl (fun _ hg => hg) ?_; (try clear st); intro w st; simp only [List.set] at st; refine ⟨_, rfl, ?_⟩)
          | (refine Tu.go (shave_tu _ _ pp kk hI2.ok) st 2 rfl (fun _ hg => hg) ?_; (try clear st); intro w st; simp only [List.set] at st; refine ⟨_, rfl, ?_⟩)
          | (refine Tu.go (shave_tu _ _ pp kk hI2.ok) st 3 rfl (fun _ hg => hg) ?_; (try clear st); intro w st; simp only [List.set] at st; refine ⟨_, rfl, ?_⟩)
          | (refine Tu.go (shave_tu _ _ pp kk hI2.ok) st 4 rfl (fun _ hg => hg) ?_; (try clear st); intro w st; simp only [List.set] at st; refine ⟨_, rfl, ?_⟩)
          | (refine Tu.go (shave_tu _ _ pp kk hI2.ok) st 5 rfl (fun _ hg => hg) ?_; (try clear st); intro w st; simp only [List.set] at st; refine ⟨_, rfl, ?_⟩)
          | (with_reducible apply ex0c; case h => first | exact St.cell st 0 rfl rfl | exact St.cell st 1 rfl rfl | exact St.cell st 2 rfl rfl | exact St.cell st 3 rfl rfl | exact St.cell st 4 rfl rfl | exact St.cell st 5 rfl rfl | fail)
          | (with_reducible apply ex1c; case h => first | exact St.cell st 0 rfl rfl | exact St.cell st 1 rfl rfl | exact St.cell st 2 rfl rfl | exact St.cell st 3 rfl rfl | exact St.cell st 4 rfl rfl | exact St.cell st 5 rfl rfl | fail)
          | (with_reducible apply ex3c; case h => first | exact St.cell st 0 rfl rfl | exact St.cell st 1 rfl rfl | exact St.cell st 2 rfl rfl | exact St.cell st 3 rfl rfl | exact St.cell st 4 rfl rfl | exact St.cell st 5 rfl rfl | fail)
          | (with_reducible apply ex0r; case h => first | exact St.rows st 0 rfl | exact St.rows st 1 rfl | exact St.rows st 2 rfl | exact St.rows st 3 rfl | exact St.rows st 4 rfl | exact St.rows st 5 rfl | fail)
          | (with_reducible apply exr2; case h => first | exact St.rows st 0 rfl | exact St.rows st 1 rfl | exact St.rows st 2 rfl | exact St.rows st 3 rfl | exact St.rows st 4 rfl | exact St.rows st 5 rfl | fail)
          | (with_reducible apply exr3; case h => first | exact St.rows st 0 rfl | exact St.rows st 1 rfl | exact St.rows st 2 rfl | exact St.rows st 3 rfl | exact St.rows st 4 rfl | exact St.rows st 5 rfl | fail)
          | (with_reducible apply exr4; case h => first | exact St.rows st 0 rfl | exact St.rows st 1 rfl | exact St.rows st 2 rfl | exact St.rows st 3 rfl | exact St.rows st 4 rfl | exact St.rows st 5 rfl | fail)
          | (with_reducible apply exr5; case h => first | exact St.rows st 0 rfl | exact St.rows st 1 rfl | exact St.rows st 2 rfl | exact St.rows st 3 rfl | exact St.rows st 4 rfl | exact St.rows st 5 rfl | fail)
          | (with_reducible apply exr6; case h => first | exact St.rows st 0 rfl | exact St.rows st 1 rfl | exact St.rows st 2 rfl | exact St.rows st 3 rfl | exact St.rows st 4 rfl | exact St.rows st 5 rfl | fail)
          | (with_reducible apply exWr; case h => first | exact St.wr st 0 rfl rfl | exact St.wr st 1 rfl rfl | exact St.wr st 2 rfl rfl | exact St.wr st 3 rfl rfl | exact St.wr st 4 rfl rfl | exact St.wr st 5 rfl rfl | fail)
          | (with_reducible apply exWrRow; case h => first | exact St.wrRow st 0 rfl rfl rfl | exact St.wrRow st 1 rfl rfl rfl | exact St.wrRow st 2 rfl rfl rfl | exact St.wrRow st 3 rfl rfl rfl | exact St.wrRow st 4 rfl rfl rfl | exact St.wrRow st 5 rfl rfl rfl | fail)
          | (with_reducible refine LetW.cell ?_; (first | refine St.store st 0 rfl ?_ | refine St.store st 1 rfl ?_ | refine St.store st 2 rfl ?_ | refine St.store st 3 rfl ?_ | refine St.store st 4 rfl ?_ | refine St.store st 5 rfl ?_ | fail); (try clear st); intro w st; simp only [List.set] at st)
          | (with_reducible refine LetW.rows ?_; (first | refine St.storeRow st 0 rfl ?_ | refine St.storeRow st 1 rfl ?_ | refine St.storeRow st 2 rfl ?_ | refine St.storeRow st 3 rfl ?_ | refine St.storeRow st 4 rfl ?_ | refine St.storeRow st 5 rfl ?_ | fail); (try clear st); intro w st; simp only [List.set, setsL] at st)
          | ((with_reducible apply exr4); case h => first | exact St.rowAt st 0 rfl rfl | exact St.rowAt st 1 rfl rfl | exact St.rowAt st 2 rfl rfl | exact St.rowAt st 3 rfl rfl | exact St.rowAt st 4 rfl rfl | exact St.rowAt st 5 rfl rfl | fail)
          | ((with_reducible apply exr5); case h => first | exact St.rowAt st 0 rfl rfl | exact St.rowAt st 1 rfl rfl | exact St.rowAt st 2 rfl rfl | exact St.rowAt st 3 rfl rfl | exact St.rowAt st 4 rfl rfl | exact St.rowAt st 5 rfl rfl | fail)
          | ((with_reducible apply exr6); case h => first | exact St.rowAt st 0 rfl rfl | exact St.rowAt st 1 rfl rfl | exact St.rowAt st 2 rfl rfl | exact St.rowAt st 3 rfl rfl | exact St.rowAt st 4 rfl rfl | exact St.rowAt st 5 rfl rfl | fail)
          | with_reducible refine LetI.id (by omega) (by omega) ?_
          | fail
        refine Br.dec (fun h => by omega) (fun _ => ?_)
        repeat' first
          | (with_reducible refine St.alloc st ?_; (try clear st); intro b w st)
          | with_reducible refine sz_and (by (repeat rw [ByteArray.size_append]); omega) ?_
          | (refine Tu.go (sdone_tu _ _ pp kk hI2.ok) st 0 rfl (fun _ hg => hg) ?_; (try clear st); intro w st; simp only [List.set] at st; refine ⟨_, rfl, ?_⟩)
          | (refine Tu.go (sdone_tu _ _ pp kk hI2.ok) st 1 rfl (fun _ hg => hg) ?_; (try clear st); intro w st; simp only [List.set] at st; refine ⟨_, rfl, ?_⟩)
          | (refine Tu.go (sdone_tu _ _ pp kk hI2.ok) st 2 rfl (fun _ hg => hg) ?_; (try clear st); intro w st; simp only [List.set] at st; refine ⟨_, rfl, ?_⟩)
          | (refine Tu.go (sdone_tu _ _ pp kk hI2.ok) st 3 rfl (fun _ hg => hg) ?_; (try clear st); intro w st; simp only [List.set] at st; refine ⟨_, rfl, ?_⟩)
          | (refine Tu.go (sdone_tu _ _ pp kk hI2.ok) st 4 rfl (fun _ hg => hg) ?_; (try clear st); intro w st; simp only [List.set] at st; refine ⟨_, rfl, ?_⟩)
          | (refine Tu.go (sdone_tu _ _ pp kk hI2.ok) st 5 rfl (fun _ hg => hg) ?_; (try clear st); intro w st; simp only [List.set] at st; refine ⟨_, rfl, ?_⟩)
          | (with_reducible apply ex0c; case h => first | exact St.cell st 0 rfl rfl | exact St.cell st 1 rfl rfl | exact St.cell st 2 rfl rfl | exact St.cell st 3 rfl rfl | exact St.cell st 4 rfl rfl | exact St.cell st 5 rfl rfl | fail)
          | (with_reducible apply ex1c; case h => first | exact St.cell st 0 rfl rfl | exact St.cell st 1 rfl rfl | exact St.cell st 2 rfl rfl | exact St.cell st 3 rfl rfl | exact St.cell st 4 rfl rfl | exact St.cell st 5 rfl rfl | fail)
          | (with_reducible apply ex3c; case h => first | exact St.cell st 0 rfl rfl | exact St.cell st 1 rfl rfl | exact St.cell st 2 rfl rfl | exact St.cell st 3 rfl rfl | exact St.cell st 4 rfl rfl | exact St.cell st 5 rfl rfl | fail)
          | (with_reducible apply ex0r; case h => first | exact St.rows st 0 rfl | exact St.rows st 1 rfl | exact St.rows st 2 rfl | exact St.rows st 3 rfl | exact St.rows st 4 rfl | exact St.rows st 5 rfl | fail)
          | (with_reducible apply exr2; case h => first | exact St.rows st 0 rfl | exact St.rows st 1 rfl | exact St.rows st 2 rfl | exact St.rows st 3 rfl | exact St.rows st 4 rfl | exact St.rows st 5 rfl | fail)
          | (with_reducible apply exr3; case h => first | exact St.rows st 0 rfl | exact St.rows st 1 rfl | exact St.rows st 2 rfl | exact St.rows st 3 rfl | exact St.rows st 4 rfl | exact St.rows st 5 rfl | fail)
          | (with_reducible apply exr4; case h => first | exact St.rows st 0 rfl | exact St.rows st 1 rfl | exact St.rows st 2 rfl | exact St.rows st 3 rfl | exact St.rows st 4 rfl | exact St.rows st 5 rfl | fail)
          | (with_reducible apply exr5; case h => first | exact St.rows st 0 rfl | exact St.rows st 1 rfl | exact St.rows st 2 rfl | exact St.rows st 3 rfl | exact St.rows st 4 rfl | exact St.rows st 5 rfl | fail)
          | (with_reducible apply exr6; case h => first | exact St.rows st 0 rfl | exact St.rows st 1 rfl | exact St.rows st 2 rfl | exact St.rows st 3 rfl | exact St.rows st 4 rfl | exact St.rows st 5 rfl | fail)
          | (with_reducible apply exWr; case h => first | exact St.wr st 0 rfl rfl | exact St.wr st 1 rfl rfl | exact St.wr st 2 rfl rfl | exact St.wr st 3 rfl rfl | exact St.wr st 4 rfl rfl | exact St.wr st 5 rfl rfl | fail)
          | (with_reducible apply exWrRow; case h => first | exact St.wrRow st 0 rfl rfl rfl | exact St.wrRow st 1 rfl rfl rfl | exact St.wrRow st 2 rfl rfl rfl | exact St.wrRow st 3 rfl rfl rfl | exact St.wrRow st 4 rfl rfl rfl | exact St.wrRow st 5 rfl rfl rfl | fail)
          | (with_reducible refine LetW.cell ?_; (first | refine St.store st 0 rfl ?_ | refine St.store st 1 rfl ?_ | refine St.store st 2 rfl ?_ | refine St.store st 3 rfl ?_ | refine St.store st 4 rfl ?_ | refine St.store st 5 rfl ?_ | fail); (try clear st); intro w st; simp only [List.set] at st)
          | (with_reducible refine LetW.rows ?_; (first | refine St.storeRow st 0 rfl ?_ | refine St.storeRow st 1 rfl ?_ | refine St.storeRow st 2 rfl ?_ | refine St.storeRow st 3 rfl ?_ | refine St.storeRow st 4 rfl ?_ | refine St.storeRow st 5 rfl ?_ | fail); (try clear st); intro w st; simp only [List.set, setsL] at st)
          | ((with_reducible apply exr4); case h => first | exact St.rowAt st 0 rfl rfl | exact St.rowAt st 1 rfl rfl | exact St.rowAt st 2 rfl rfl | exact St.rowAt st 3 rfl rfl | exact St.rowAt st 4 rfl rfl | exact St.rowAt st 5 rfl rfl | fail)
          | ((with_reducible apply exr5); case h => first | exact St.rowAt st 0 rfl rfl | exact St.rowAt st 1 rfl rfl | exact St.rowAt st 2 rfl rfl | exact St.rowAt st 3 rfl rfl | exact St.rowAt st 4 rfl rfl | exact St.rowAt st 5 rfl rfl | fail)
          | ((with_reducible apply exr6); case h => first | exact St.rowAt st 0 rfl rfl | exact St.rowAt st 1 rfl rfl | exact St.rowAt st 2 rfl rfl | exact St.rowAt st 3 rfl rfl | exact St.rowAt st 4 rfl rfl | exact St.rowAt st 5 rfl rfl | fail)
          | with_reducible refine LetI.id (by omega) (by omega) ?_
          | fail
        refine Br.dec (fun h => Br.not (Br.sure rfl ?_)) (fun h => ?_)
        · refine LetI.id (by omega) (by omega) ?_
          exact ⟨_, by omega, i + 1, s, r, got, sent, mail, told, p, k, pm, km, pt, kt, by first | (simp; done) | (simp; omega), rfl, by omega, hI2, by first | omega | (simp; omega), by first | omega | (simp; omega), st⟩
        · refine LetI.id (by omega) (by omega) ?_
          exact ⟨_, by omega, i + 1, s, r, got, sent, mail, told, p, k, pm, km, pt, kt, by first | (simp; done) | (simp; omega), rfl, by omega, hI2, by first | omega | (simp; omega), by first | omega | (simp; omega), st⟩
      · rw [decide_eq_false ha]
        refine Br.nay rfl ?_
        repeat' first
          | (with_reducible refine St.alloc st ?_; (try clear st); intro b w st)
          | with_reducible refine sz_and (by (repeat rw [ByteArray.size_append]); omega) ?_
          | (refine Tu.go (shave_tu _ _ pp kk hI2.ok) st 0 rfl (fun _ hg => hg) ?_; (try clear st); intro w st; simp only [List.set] at st; refine ⟨_, rfl, ?_⟩)
          | (refine Tu.go (shave_tu _ _ pp kk hI2.ok) st 1 rfl (fun _ hg => hg) ?_; (try clear st); intro w st; simp only [List.set] at st; refine ⟨_, rfl, ?_⟩)
          | (refine Tu.go (shave_tu _ _ pp kk hI2.ok) st 2 rfl (fun _ hg => hg) ?_; (try clear st); intro w st; simp only [List.set] at st; refine ⟨_, rfl, ?_⟩)
          | (refine Tu.go (shave_tu _ _ pp kk hI2.ok) st 3 rfl (fun _ hg => hg) ?_; (try clear st); intro w st; simp only [List.set] at st; refine ⟨_, rfl, ?_⟩)
          | (refine Tu.go (shave_tu _ _ pp kk hI2.ok) st 4 rfl (fun _ hg => hg) ?_; (try clear st); intro w st; simp only [List.set] at st; refine ⟨_, rfl, ?_⟩)
          | (refine Tu.go (shave_tu _ _ pp kk hI2.ok) st 5 rfl (fun _ hg => hg) ?_; (try clear st); intro w st; simp only [List.set] at st; refine ⟨_, rfl, ?_⟩)
          | (with_reducible apply ex0c; case h => first | exact St.cell st 0 rfl rfl | exact St.cell st 1 rfl rfl | exact St.cell st 2 rfl rfl | exact St.cell st 3 rfl rfl | exact St.cell st 4 rfl rfl | exact St.cell st 5 rfl rfl | fail)
          | (with_reducible apply ex1c; case h => first | exact St.cell st 0 rfl rfl | exact St.cell st 1 rfl rfl | exact St.cell st 2 rfl rfl | exact St.cell st 3 rfl rfl | exact St.cell st 4 rfl rfl | exact St.cell st 5 rfl rfl | fail)
          | (with_reducible apply ex3c; case h => first | exact St.cell st 0 rfl rfl | exact St.cell st 1 rfl rfl | exact St.cell st 2 rfl rfl | exact St.cell st 3 rfl rfl | exact St.cell st 4 rfl rfl | exact St.cell st 5 rfl rfl | fail)
          | (with_reducible apply ex0r; case h => first | exact St.rows st 0 rfl | exact St.rows st 1 rfl | exact St.rows st 2 rfl | exact St.rows st 3 rfl | exact St.rows st 4 rfl | exact St.rows st 5 rfl | fail)
          | (with_reducible apply exr2; case h => first | exact St.rows st 0 rfl | exact St.rows st 1 rfl | exact St.rows st 2 rfl | exact St.rows st 3 rfl | exact St.rows st 4 rfl | exact St.rows st 5 rfl | fail)
          | (with_reducible apply exr3; case h => first | exact St.rows st 0 rfl | exact St.rows st 1 rfl | exact St.rows st 2 rfl | exact St.rows st 3 rfl | exact St.rows st 4 rfl | exact St.rows st 5 rfl | fail)
          | (with_reducible apply exr4; case h => first | exact St.rows st 0 rfl | exact St.rows st 1 rfl | exact St.rows st 2 rfl | exact St.rows st 3 rfl | exact St.rows st 4 rfl | exact St.rows st 5 rfl | fail)
          | (with_reducible apply exr5; case h => first | exact St.rows st 0 rfl | exact St.rows st 1 rfl | exact St.rows st 2 rfl | exact St.rows st 3 rfl | exact St.rows st 4 rfl | exact St.rows st 5 rfl | fail)
          | (with_reducible apply exr6; case h => first | exact St.rows st 0 rfl | exact St.rows st 1 rfl | exact St.rows st 2 rfl | exact St.rows st 3 rfl | exact St.rows st 4 rfl | exact St.rows st 5 rfl | fail)
          | (with_reducible apply exWr; case h => first | exact St.wr st 0 rfl rfl | exact St.wr st 1 rfl rfl | exact St.wr st 2 rfl rfl | exact St.wr st 3 rfl rfl | exact St.wr st 4 rfl rfl | exact St.wr st 5 rfl rfl | fail)
          | (with_reducible apply exWrRow; case h => first | exact St.wrRow st 0 rfl rfl rfl | exact St.wrRow st 1 rfl rfl rfl | exact St.wrRow st 2 rfl rfl rfl | exact St.wrRow st 3 rfl rfl rfl | exact St.wrRow st 4 rfl rfl rfl | exact St.wrRow st 5 rfl rfl rfl | fail)
          | (with_reducible refine LetW.cell ?_; (first | refine St.store st 0 rfl ?_ | refine St.store st 1 rfl ?_ | refine St.store st 2 rfl ?_ | refine St.store st 3 rfl ?_ | refine St.store st 4 rfl ?_ | refine St.store st 5 rfl ?_ | fail); (try clear st); intro w st; simp only [List.set] at st)
          | (with_reducible refine LetW.rows ?_; (first | refine St.storeRow st 0 rfl ?_ | refine St.storeRow st 1 rfl ?_ | refine St.storeRow st 2 rfl ?_ | refine St.storeRow st 3 rfl ?_ | refine St.storeRow st 4 rfl ?_ | refine St.storeRow st 5 rfl ?_ | fail); (try clear st); intro w st; simp only [List.set, setsL] at st)
          | ((with_reducible apply exr4); case h => first | exact St.rowAt st 0 rfl rfl | exact St.rowAt st 1 rfl rfl | exact St.rowAt st 2 rfl rfl | exact St.rowAt st 3 rfl rfl | exact St.rowAt st 4 rfl rfl | exact St.rowAt st 5 rfl rfl | fail)
          | ((with_reducible apply exr5); case h => first | exact St.rowAt st 0 rfl rfl | exact St.rowAt st 1 rfl rfl | exact St.rowAt st 2 rfl rfl | exact St.rowAt st 3 rfl rfl | exact St.rowAt st 4 rfl rfl | exact St.rowAt st 5 rfl rfl | fail)
          | ((with_reducible apply exr6); case h => first | exact St.rowAt st 0 rfl rfl | exact St.rowAt st 1 rfl rfl | exact St.rowAt st 2 rfl rfl | exact St.rowAt st 3 rfl rfl | exact St.rowAt st 4 rfl rfl | exact St.rowAt st 5 rfl rfl | fail)
          | with_reducible refine LetI.id (by omega) (by omega) ?_
          | fail
        refine Br.dec (fun h => by omega) (fun _ => ?_)
        repeat' first
          | (with_reducible refine St.alloc st ?_; (try clear st); intro b w st)
          | with_reducible refine sz_and (by (repeat rw [ByteArray.size_append]); omega) ?_
          | (refine Tu.go (sdone_tu _ _ pp kk hI2.ok) st 0 rfl (fun _ hg => hg) ?_; (try clear st); intro w st; simp only [List.set] at st; refine ⟨_, rfl, ?_⟩)
          | (refine Tu.go (sdone_tu _ _ pp kk hI2.ok) st 1 rfl (fun _ hg => hg) ?_; (try clear st); intro w st; simp only [List.set] at st; refine ⟨_, rfl, ?_⟩)
          | (refine Tu.go (sdone_tu _ _ pp kk hI2.ok) st 2 rfl (fun _ hg => hg) ?_; (try clear st); intro w st; simp only [List.set] at st; refine ⟨_, rfl, ?_⟩)
          | (refine Tu.go (sdone_tu _ _ pp kk hI2.ok) st 3 rfl (fun _ hg => hg) ?_; (try clear st); intro w st; simp only [List.set] at st; refine ⟨_, rfl, ?_⟩)
          | (refine Tu.go (sdone_tu _ _ pp kk hI2.ok) st 4 rfl (fun _ hg => hg) ?_; (try clear st); intro w st; simp only [List.set] at st; refine ⟨_, rfl, ?_⟩)
          | (refine Tu.go (sdone_tu _ _ pp kk hI2.ok) st 5 rfl (fun _ hg => hg) ?_; (try clear st); intro w st; simp only [List.set] at st; refine ⟨_, rfl, ?_⟩)
          | (with_reducible apply ex0c; case h => first | exact St.cell st 0 rfl rfl | exact St.cell st 1 rfl rfl | exact St.cell st 2 rfl rfl | exact St.cell st 3 rfl rfl | exact St.cell st 4 rfl rfl | exact St.cell st 5 rfl rfl | fail)
          | (with_reducible apply ex1c; case h => first | exact St.cell st 0 rfl rfl | exact St.cell st 1 rfl rfl | exact St.cell st 2 rfl rfl | exact St.cell st 3 rfl rfl | exact St.cell st 4 rfl rfl | exact St.cell st 5 rfl rfl | fail)
          | (with_reducible apply ex3c; case h => first | exact St.cell st 0 rfl rfl | exact St.cell st 1 rfl rfl | exact St.cell st 2 rfl rfl | exact St.cell st 3 rfl rfl | exact St.cell st 4 rfl rfl | exact St.cell st 5 rfl rfl | fail)
          | (with_reducible apply ex0r; case h => first | exact St.rows st 0 rfl | exact St.rows st 1 rfl | exact St.rows st 2 rfl | exact St.rows st 3 rfl | exact St.rows st 4 rfl | exact St.rows st 5 rfl | fail)
          | (with_reducible apply exr2; case h => first | exact St.rows st 0 rfl | exact St.rows st 1 rfl | exact St.rows st 2 rfl | exact St.rows st 3 rfl | exact St.rows st 4 rfl | exact St.rows st 5 rfl | fail)
          | (with_reducible apply exr3; case h => first | exact St.rows st 0 rfl | exact St.rows st 1 rfl | exact St.rows st 2 rfl | exact St.rows st 3 rfl | exact St.rows st 4 rfl | exact St.rows st 5 rfl | fail)
          | (with_reducible apply exr4; case h => first | exact St.rows st 0 rfl | exact St.rows st 1 rfl | exact St.rows st 2 rfl | exact St.rows st 3 rfl | exact St.rows st 4 rfl | exact St.rows st 5 rfl | fail)
          | (with_reducible apply exr5; case h => first | exact St.rows st 0 rfl | exact St.rows st 1 rfl | exact St.rows st 2 rfl | exact St.rows st 3 rfl | exact St.rows st 4 rfl | exact St.rows st 5 rfl | fail)
          | (with_reducible apply exr6; case h => first | exact St.rows st 0 rfl | exact St.rows st 1 rfl | exact St.rows st 2 rfl | exact St.rows st 3 rfl | exact St.rows st 4 rfl | exact St.rows st 5 rfl | fail)
          | (with_reducible apply exWr; case h => first | exact St.wr st 0 rfl rfl | exact St.wr st 1 rfl rfl | exact St.wr st 2 rfl rfl | exact St.wr st 3 rfl rfl | exact St.wr st 4 rfl rfl | exact St.wr st 5 rfl rfl | fail)
          | (with_reducible apply exWrRow; case h => first | exact St.wrRow st 0 rfl rfl rfl | exact St.wrRow st 1 rfl rfl rfl | exact St.wrRow st 2 rfl rfl rfl | exact St.wrRow st 3 rfl rfl rfl | exact St.wrRow st 4 rfl rfl rfl | exact St.wrRow st 5 rfl rfl rfl | fail)
          | (with_reducible refine LetW.cell ?_; (first | refine St.store st 0 rfl ?_ | refine St.store st 1 rfl ?_ | refine St.store st 2 rfl ?_ | refine St.store st 3 rfl ?_ | refine St.store st 4 rfl ?_ | refine St.store st 5 rfl ?_ | fail); (try clear st); intro w st; simp only [List.set] at st)
          | (with_reducible refine LetW.rows ?_; (first | refine St.storeRow st 0 rfl ?_ | refine St.storeRow st 1 rfl ?_ | refine St.storeRow st 2 rfl ?_ | refine St.storeRow st 3 rfl ?_ | refine St.storeRow st 4 rfl ?_ | refine St.storeRow st 5 rfl ?_ | fail); (try clear st); intro w st; simp only [List.set, setsL] at st)
          | ((with_reducible apply exr4); case h => first | exact St.rowAt st 0 rfl rfl | exact St.rowAt st 1 rfl rfl | exact St.rowAt st 2 rfl rfl | exact St.rowAt st 3 rfl rfl | exact St.rowAt st 4 rfl rfl | exact St.rowAt st 5 rfl rfl | fail)
          | ((with_reducible apply exr5); case h => first | exact St.rowAt st 0 rfl rfl | exact St.rowAt st 1 rfl rfl | exact St.rowAt st 2 rfl rfl | exact St.rowAt st 3 rfl rfl | exact St.rowAt st 4 rfl rfl | exact St.rowAt st 5 rfl rfl | fail)
          | ((with_reducible apply exr6); case h => first | exact St.rowAt st 0 rfl rfl | exact St.rowAt st 1 rfl rfl | exact St.rowAt st 2 rfl rfl | exact St.rowAt st 3 rfl rfl | exact St.rowAt st 4 rfl rfl | exact St.rowAt st 5 rfl rfl | fail)
          | with_reducible refine LetI.id (by omega) (by omega) ?_
          | fail
        refine Br.dec (fun h => absurd (hI2.done h) ha) (fun h => ?_)
        refine LetI.id (by omega) (by omega) ?_
        exact ⟨_, by omega, i + 1, s, r, got, sent, mail, told, p, k, pm, km, pt, kt, by first | (simp; done) | (simp; omega), rfl, by omega, hI2, by first | omega | (simp; omega), by first | omega | (simp; omega), st⟩
  · skip
    repeat' first
      | refine Br.sure rfl ?_
      | refine Br.nay rfl ?_
    refine Tu.go (sback_tu _ s pp kk hI.ok) st 2 rfl (fun _ hg => hg) ?_
    clear st
    intro w st
    simp only [List.set] at st
    refine ⟨rfl, ?_⟩
    replace st : St No w0 w [rcvB br (r) p k, rcvR (r) p k, sndA bs (backN s) pp kk, sndR s0 pp kk, mailA (mail) pm km, toldA (told) pt kt] := st
    have hI2 : Inv s0 (backN s) (r) (got) (sent) (mail) (told) := hI.back
    have hk2 := hI2.known
    refine Tr.go (rtext_tr br _ hI2.rok hI2.pos _ _) st 0 1 rfl rfl (by decide) (fun _ hg => hg) ?_
    clear st
    intro w st
    simp only [List.set] at st
    refine ⟨_, _, rfl, ?_⟩
    by_cases ha : allR (r)
    · rw [decide_eq_true ha, hI2.text ha, htx]
      refine Br.sure rfl (Br.not (Br.sure (by simp) ?_))
      repeat' first
        | (with_reducible refine St.alloc st ?_; (try clear st); intro b w st)
        | with_reducible refine sz_and (by (repeat rw [ByteArray.size_append]); omega) ?_
        | (refine Tu.go (shave_tu _ _ pp kk hI2.ok) st 0 rfl (fun _ hg => hg) ?_; (try clear st); intro w st; simp only [List.set] at st; refine ⟨_, rfl, ?_⟩)
        | (refine Tu.go (shave_tu _ _ pp kk hI2.ok) st 1 rfl (fun _ hg => hg) ?_; (try clear st); intro w st; simp only [List.set] at st; refine ⟨_, rfl, ?_⟩)
        | (refine Tu.go (shave_tu _ _ pp kk hI2.ok) st 2 rfl (fun _ hg => hg) ?_; (try clear st); intro w st; simp only [List.set] at st; refine ⟨_, rfl, ?_⟩)
        | (refine Tu.go (shave_tu _ _ pp kk hI2.ok) st 3 rfl (fun _ hg => hg) ?_; (try clear st); intro w st; simp only [List.set] at st; refine ⟨_, rfl, ?_⟩)
        | (refine Tu.go (shave_tu _ _ pp kk hI2.ok) st 4 rfl (fun _ hg => hg) ?_; (try clear st); intro w st; simp only [List.set] at st; refine ⟨_, rfl, ?_⟩)
        | (refine Tu.go (shave_tu _ _ pp kk hI2.ok) st 5 rfl (fun _ hg => hg) ?_; (try clear st); intro w st; simp only [List.set] at st; refine ⟨_, rfl, ?_⟩)
        | (with_reducible apply ex0c; case h => first | exact St.cell st 0 rfl rfl | exact St.cell st 1 rfl rfl | exact St.cell st 2 rfl rfl | exact St.cell st 3 rfl rfl | exact St.cell st 4 rfl rfl | exact St.cell st 5 rfl rfl | fail)
        | (with_reducible apply ex1c; case h => first | exact St.cell st 0 rfl rfl | exact St.cell st 1 rfl rfl | exact St.cell st 2 rfl rfl | exact St.cell st 3 rfl rfl | exact St.cell st 4 rfl rfl | exact St.cell st 5 rfl rfl | fail)
        | (with_reducible apply ex3c; case h => first | exact St.cell st 0 rfl rfl | exact St.cell st 1 rfl rfl | exact St.cell st 2 rfl rfl | exact St.cell st 3 rfl rfl | exact St.cell st 4 rfl rfl | exact St.cell st 5 rfl rfl | fail)
        | (with_reducible apply ex0r; case h => first | exact St.rows st 0 rfl | exact St.rows st 1 rfl | exact St.rows st 2 rfl | exact St.rows st 3 rfl | exact St.rows st 4 rfl | exact St.rows st 5 rfl | fail)
        | (with_reducible apply exr2; case h => first | exact St.rows st 0 rfl | exact St.rows st 1 rfl | exact St.rows st 2 rfl | exact St.rows st 3 rfl | exact St.rows st 4 rfl | exact St.rows st 5 rfl | fail)
        | (with_reducible apply exr3; case h => first | exact St.rows st 0 rfl | exact St.rows st 1 rfl | exact St.rows st 2 rfl | exact St.rows st 3 rfl | exact St.rows st 4 rfl | exact St.rows st 5 rfl | fail)
        | (with_reducible apply exr4; case h => first | exact St.rows st 0 rfl | exact St.rows st 1 rfl | exact St.rows st 2 rfl | exact St.rows st 3 rfl | exact St.rows st 4 rfl | exact St.rows st 5 rfl | fail)
        | (with_reducible apply exr5; case h => first | exact St.rows st 0 rfl | exact St.rows st 1 rfl | exact St.rows st 2 rfl | exact St.rows st 3 rfl | exact St.rows st 4 rfl | exact St.rows st 5 rfl | fail)
        | (with_reducible apply exr6; case h => first | exact St.rows st 0 rfl | exact St.rows st 1 rfl | exact St.rows st 2 rfl | exact St.rows st 3 rfl | exact St.rows st 4 rfl | exact St.rows st 5 rfl | fail)
        | (with_reducible apply exWr; case h => first | exact St.wr st 0 rfl rfl | exact St.wr st 1 rfl rfl | exact St.wr st 2 rfl rfl | exact St.wr st 3 rfl rfl | exact St.wr st 4 rfl rfl | exact St.wr st 5 rfl rfl | fail)
        | (with_reducible apply exWrRow; case h => first | exact St.wrRow st 0 rfl rfl rfl | exact St.wrRow st 1 rfl rfl rfl | exact St.wrRow st 2 rfl rfl rfl | exact St.wrRow st 3 rfl rfl rfl | exact St.wrRow st 4 rfl rfl rfl | exact St.wrRow st 5 rfl rfl rfl | fail)
        | (with_reducible refine LetW.cell ?_; (first | refine St.store st 0 rfl ?_ | refine St.store st 1 rfl ?_ | refine St.store st 2 rfl ?_ | refine St.store st 3 rfl ?_ | refine St.store st 4 rfl ?_ | refine St.store st 5 rfl ?_ | fail); (try clear st); intro w st; simp only [List.set] at st)
        | (with_reducible refine LetW.rows ?_; (first | refine St.storeRow st 0 rfl ?_ | refine St.storeRow st 1 rfl ?_ | refine St.storeRow st 2 rfl ?_ | refine St.storeRow st 3 rfl ?_ | refine St.storeRow st 4 rfl ?_ | refine St.storeRow st 5 rfl ?_ | fail); (try clear st); intro w st; simp only [List.set, setsL] at st)
        | ((with_reducible apply exr4); case h => first | exact St.rowAt st 0 rfl rfl | exact St.rowAt st 1 rfl rfl | exact St.rowAt st 2 rfl rfl | exact St.rowAt st 3 rfl rfl | exact St.rowAt st 4 rfl rfl | exact St.rowAt st 5 rfl rfl | fail)
        | ((with_reducible apply exr5); case h => first | exact St.rowAt st 0 rfl rfl | exact St.rowAt st 1 rfl rfl | exact St.rowAt st 2 rfl rfl | exact St.rowAt st 3 rfl rfl | exact St.rowAt st 4 rfl rfl | exact St.rowAt st 5 rfl rfl | fail)
        | ((with_reducible apply exr6); case h => first | exact St.rowAt st 0 rfl rfl | exact St.rowAt st 1 rfl rfl | exact St.rowAt st 2 rfl rfl | exact St.rowAt st 3 rfl rfl | exact St.rowAt st 4 rfl rfl | exact St.rowAt st 5 rfl rfl | fail)
        | with_reducible refine LetI.id (by omega) (by omega) ?_
        | fail
      refine Br.dec (fun h => by omega) (fun _ => ?_)
      repeat' first
        | (with_reducible refine St.alloc st ?_; (try clear st); intro b w st)
        | with_reducible refine sz_and (by (repeat rw [ByteArray.size_append]); omega) ?_
        | (refine Tu.go (sdone_tu _ _ pp kk hI2.ok) st 0 rfl (fun _ hg => hg) ?_; (try clear st); intro w st; simp only [List.set] at st; refine ⟨_, rfl, ?_⟩)
        | (refine Tu.go (sdone_tu _ _ pp kk hI2.ok) st 1 rfl (fun _ hg => hg) ?_; (try clear st); intro w st; simp only [List.set] at st; refine ⟨_, rfl, ?_⟩)
        | (refine Tu.go (sdone_tu _ _ pp kk hI2.ok) st 2 rfl (fun _ hg => hg) ?_; (try clear st); intro w st; simp only [List.set] at st; refine ⟨_, rfl, ?_⟩)
        | (refine Tu.go (sdone_tu _ _ pp kk hI2.ok) st 3 rfl (fun _ hg => hg) ?_; (try clear st); intro w st; simp only [List.set] at st; refine ⟨_, rfl, ?_⟩)
        | (refine Tu.go (sdone_tu _ _ pp kk hI2.ok) st 4 rfl (fun _ hg => hg) ?_; (try clear st); intro w st; simp only [List.set] at st; refine ⟨_, rfl, ?_⟩)
        | (refine Tu.go (sdone_tu _ _ pp kk hI2.ok) st 5 rfl (fun _ hg => hg) ?_; (try clear st); intro w st; simp only [List.set] at st; refine ⟨_, rfl, ?_⟩)
        | (with_reducible apply ex0c; case h => first | exact St.cell st 0 rfl rfl | exact St.cell st 1 rfl rfl | exact St.cell st 2 rfl rfl | exact St.cell st 3 rfl rfl | exact St.cell st 4 rfl rfl | exact St.cell st 5 rfl rfl | fail)
        | (with_reducible apply ex1c; case h => first | exact St.cell st 0 rfl rfl | exact St.cell st 1 rfl rfl | exact St.cell st 2 rfl rfl | exact St.cell st 3 rfl rfl | exact St.cell st 4 rfl rfl | exact St.cell st 5 rfl rfl | fail)
        | (with_reducible apply ex3c; case h => first | exact St.cell st 0 rfl rfl | exact St.cell st 1 rfl rfl | exact St.cell st 2 rfl rfl | exact St.cell st 3 rfl rfl | exact St.cell st 4 rfl rfl | exact St.cell st 5 rfl rfl | fail)
        | (with_reducible apply ex0r; case h => first | exact St.rows st 0 rfl | exact St.rows st 1 rfl | exact St.rows st 2 rfl | exact St.rows st 3 rfl | exact St.rows st 4 rfl | exact St.rows st 5 rfl | fail)
        | (with_reducible apply exr2; case h => first | exact St.rows st 0 rfl | exact St.rows st 1 rfl | exact St.rows st 2 rfl | exact St.rows st 3 rfl | exact St.rows st 4 rfl | exact St.rows st 5 rfl | fail)
        | (with_reducible apply exr3; case h => first | exact St.rows st 0 rfl | exact St.rows st 1 rfl | exact St.rows st 2 rfl | exact St.rows st 3 rfl | exact St.rows st 4 rfl | exact St.rows st 5 rfl | fail)
        | (with_reducible apply exr4; case h => first | exact St.rows st 0 rfl | exact St.rows st 1 rfl | exact St.rows st 2 rfl | exact St.rows st 3 rfl | exact St.rows st 4 rfl | exact St.rows st 5 rfl | fail)
        | (with_reducible apply exr5; case h => first | exact St.rows st 0 rfl | exact St.rows st 1 rfl | exact St.rows st 2 rfl | exact St.rows st 3 rfl | exact St.rows st 4 rfl | exact St.rows st 5 rfl | fail)
        | (with_reducible apply exr6; case h => first | exact St.rows st 0 rfl | exact St.rows st 1 rfl | exact St.rows st 2 rfl | exact St.rows st 3 rfl | exact St.rows st 4 rfl | exact St.rows st 5 rfl | fail)
        | (with_reducible apply exWr; case h => first | exact St.wr st 0 rfl rfl | exact St.wr st 1 rfl rfl | exact St.wr st 2 rfl rfl | exact St.wr st 3 rfl rfl | exact St.wr st 4 rfl rfl | exact St.wr st 5 rfl rfl | fail)
        | (with_reducible apply exWrRow; case h => first | exact St.wrRow st 0 rfl rfl rfl | exact St.wrRow st 1 rfl rfl rfl | exact St.wrRow st 2 rfl rfl rfl | exact St.wrRow st 3 rfl rfl rfl | exact St.wrRow st 4 rfl rfl rfl | exact St.wrRow st 5 rfl rfl rfl | fail)
        | (with_reducible refine LetW.cell ?_; (first | refine St.store st 0 rfl ?_ | refine St.store st 1 rfl ?_ | refine St.store st 2 rfl ?_ | refine St.store st 3 rfl ?_ | refine St.store st 4 rfl ?_ | refine St.store st 5 rfl ?_ | fail); (try clear st); intro w st; simp only [List.set] at st)
        | (with_reducible refine LetW.rows ?_; (first | refine St.storeRow st 0 rfl ?_ | refine St.storeRow st 1 rfl ?_ | refine St.storeRow st 2 rfl ?_ | refine St.storeRow st 3 rfl ?_ | refine St.storeRow st 4 rfl ?_ | refine St.storeRow st 5 rfl ?_ | fail); (try clear st); intro w st; simp only [List.set, setsL] at st)
        | ((with_reducible apply exr4); case h => first | exact St.rowAt st 0 rfl rfl | exact St.rowAt st 1 rfl rfl | exact St.rowAt st 2 rfl rfl | exact St.rowAt st 3 rfl rfl | exact St.rowAt st 4 rfl rfl | exact St.rowAt st 5 rfl rfl | fail)
        | ((with_reducible apply exr5); case h => first | exact St.rowAt st 0 rfl rfl | exact St.rowAt st 1 rfl rfl | exact St.rowAt st 2 rfl rfl | exact St.rowAt st 3 rfl rfl | exact St.rowAt st 4 rfl rfl | exact St.rowAt st 5 rfl rfl | fail)
        | ((with_reducible apply exr6); case h => first | exact St.rowAt st 0 rfl rfl | exact St.rowAt st 1 rfl rfl | exact St.rowAt st 2 rfl rfl | exact St.rowAt st 3 rfl rfl | exact St.rowAt st 4 rfl rfl | exact St.rowAt st 5 rfl rfl | fail)
        | with_reducible refine LetI.id (by omega) (by omega) ?_
        | fail
      refine Br.dec (fun h => Br.not (Br.sure rfl ?_)) (fun h => ?_)
      · refine LetI.id (by omega) (by omega) ?_
        exact ⟨_, by omega, i + 1, backN s, r, got, sent, mail, told, p, k, pm, km, pt, kt, by first | (simp; done) | (simp; omega), rfl, by omega, hI2, by first | omega | (simp; omega), by first | omega | (simp; omega), st⟩
      · refine LetI.id (by omega) (by omega) ?_
        exact ⟨_, by omega, i + 1, backN s, r, got, sent, mail, told, p, k, pm, km, pt, kt, by first | (simp; done) | (simp; omega), rfl, by omega, hI2, by first | omega | (simp; omega), by first | omega | (simp; omega), st⟩
    · rw [decide_eq_false ha]
      refine Br.nay rfl ?_
      repeat' first
        | (with_reducible refine St.alloc st ?_; (try clear st); intro b w st)
        | with_reducible refine sz_and (by (repeat rw [ByteArray.size_append]); omega) ?_
        | (refine Tu.go (shave_tu _ _ pp kk hI2.ok) st 0 rfl (fun _ hg => hg) ?_; (try clear st); intro w st; simp only [List.set] at st; refine ⟨_, rfl, ?_⟩)
        | (refine Tu.go (shave_tu _ _ pp kk hI2.ok) st 1 rfl (fun _ hg => hg) ?_; (try clear st); intro w st; simp only [List.set] at st; refine ⟨_, rfl, ?_⟩)
        | (refine Tu.go (shave_tu _ _ pp kk hI2.ok) st 2 rfl (fun _ hg => hg) ?_; (try clear st); intro w st; simp only [List.set] at st; refine ⟨_, rfl, ?_⟩)
        | (refine Tu.go (shave_tu _ _ pp kk hI2.ok) st 3 rfl (fun _ hg => hg) ?_; (try clear st); intro w st; simp only [List.set] at st; refine ⟨_, rfl, ?_⟩)
        | (refine Tu.go (shave_tu _ _ pp kk hI2.ok) st 4 rfl (fun _ hg => hg) ?_; (try clear st); intro w st; simp only [List.set] at st; refine ⟨_, rfl, ?_⟩)
        | (refine Tu.go (shave_tu _ _ pp kk hI2.ok) st 5 rfl (fun _ hg => hg) ?_; (try clear st); intro w st; simp only [List.set] at st; refine ⟨_, rfl, ?_⟩)
        | (with_reducible apply ex0c; case h => first | exact St.cell st 0 rfl rfl | exact St.cell st 1 rfl rfl | exact St.cell st 2 rfl rfl | exact St.cell st 3 rfl rfl | exact St.cell st 4 rfl rfl | exact St.cell st 5 rfl rfl | fail)
        | (with_reducible apply ex1c; case h => first | exact St.cell st 0 rfl rfl | exact St.cell st 1 rfl rfl | exact St.cell st 2 rfl rfl | exact St.cell st 3 rfl rfl | exact St.cell st 4 rfl rfl | exact St.cell st 5 rfl rfl | fail)
        | (with_reducible apply ex3c; case h => first | exact St.cell st 0 rfl rfl | exact St.cell st 1 rfl rfl | exact St.cell st 2 rfl rfl | exact St.cell st 3 rfl rfl | exact St.cell st 4 rfl rfl | exact St.cell st 5 rfl rfl | fail)
        | (with_reducible apply ex0r; case h => first | exact St.rows st 0 rfl | exact St.rows st 1 rfl | exact St.rows st 2 rfl | exact St.rows st 3 rfl | exact St.rows st 4 rfl | exact St.rows st 5 rfl | fail)
        | (with_reducible apply exr2; case h => first | exact St.rows st 0 rfl | exact St.rows st 1 rfl | exact St.rows st 2 rfl | exact St.rows st 3 rfl | exact St.rows st 4 rfl | exact St.rows st 5 rfl | fail)
        | (with_reducible apply exr3; case h => first | exact St.rows st 0 rfl | exact St.rows st 1 rfl | exact St.rows st 2 rfl | exact St.rows st 3 rfl | exact St.rows st 4 rfl | exact St.rows st 5 rfl | fail)
        | (with_reducible apply exr4; case h => first | exact St.rows st 0 rfl | exact St.rows st 1 rfl | exact St.rows st 2 rfl | exact St.rows st 3 rfl | exact St.rows st 4 rfl | exact St.rows st 5 rfl | fail)
        | (with_reducible apply exr5; case h => first | exact St.rows st 0 rfl | exact St.rows st 1 rfl | exact St.rows st 2 rfl | exact St.rows st 3 rfl | exact St.rows st 4 rfl | exact St.rows st 5 rfl | fail)
        | (with_reducible apply exr6; case h => first | exact St.rows st 0 rfl | exact St.rows st 1 rfl | exact St.rows st 2 rfl | exact St.rows st 3 rfl | exact St.rows st 4 rfl | exact St.rows st 5 rfl | fail)
        | (with_reducible apply exWr; case h => first | exact St.wr st 0 rfl rfl | exact St.wr st 1 rfl rfl | exact St.wr st 2 rfl rfl | exact St.wr st 3 rfl rfl | exact St.wr st 4 rfl rfl | exact St.wr st 5 rfl rfl | fail)
        | (with_reducible apply exWrRow; case h => first | exact St.wrRow st 0 rfl rfl rfl | exact St.wrRow st 1 rfl rfl rfl | exact St.wrRow st 2 rfl rfl rfl | exact St.wrRow st 3 rfl rfl rfl | exact St.wrRow st 4 rfl rfl rfl | exact St.wrRow st 5 rfl rfl rfl | fail)
        | (with_reducible refine LetW.cell ?_; (first | refine St.store st 0 rfl ?_ | refine St.store st 1 rfl ?_ | refine St.store st 2 rfl ?_ | refine St.store st 3 rfl ?_ | refine St.store st 4 rfl ?_ | refine St.store st 5 rfl ?_ | fail); (try clear st); intro w st; simp only [List.set] at st)
        | (with_reducible refine LetW.rows ?_; (first | refine St.storeRow st 0 rfl ?_ | refine St.storeRow st 1 rfl ?_ | refine St.storeRow st 2 rfl ?_ | refine St.storeRow st 3 rfl ?_ | refine St.storeRow st 4 rfl ?_ | refine St.storeRow st 5 rfl ?_ | fail); (try clear st); intro w st; simp only [List.set, setsL] at st)
        | ((with_reducible apply exr4); case h => first | exact St.rowAt st 0 rfl rfl | exact St.rowAt st 1 rfl rfl | exact St.rowAt st 2 rfl rfl | exact St.rowAt st 3 rfl rfl | exact St.rowAt st 4 rfl rfl | exact St.rowAt st 5 rfl rfl | fail)
        | ((with_reducible apply exr5); case h => first | exact St.rowAt st 0 rfl rfl | exact St.rowAt st 1 rfl rfl | exact St.rowAt st 2 rfl rfl | exact St.rowAt st 3 rfl rfl | exact St.rowAt st 4 rfl rfl | exact St.rowAt st 5 rfl rfl | fail)
        | ((with_reducible apply exr6); case h => first | exact St.rowAt st 0 rfl rfl | exact St.rowAt st 1 rfl rfl | exact St.rowAt st 2 rfl rfl | exact St.rowAt st 3 rfl rfl | exact St.rowAt st 4 rfl rfl | exact St.rowAt st 5 rfl rfl | fail)
        | with_reducible refine LetI.id (by omega) (by omega) ?_
        | fail
      refine Br.dec (fun h => by omega) (fun _ => ?_)
      repeat' first
        | (with_reducible refine St.alloc st ?_; (try clear st); intro b w st)
        | with_reducible refine sz_and (by (repeat rw [ByteArray.size_append]); omega) ?_
        | (refine Tu.go (sdone_tu _ _ pp kk hI2.ok) st 0 rfl (fun _ hg => hg) ?_; (try clear st); intro w st; simp only [List.set] at st; refine ⟨_, rfl, ?_⟩)
        | (refine Tu.go (sdone_tu _ _ pp kk hI2.ok) st 1 rfl (fun _ hg => hg) ?_; (try clear st); intro w st; simp only [List.set] at st; refine ⟨_, rfl, ?_⟩)
        | (refine Tu.go (sdone_tu _ _ pp kk hI2.ok) st 2 rfl (fun _ hg => hg) ?_; (try clear st); intro w st; simp only [List.set] at st; refine ⟨_, rfl, ?_⟩)
        | (refine Tu.go (sdone_tu _ _ pp kk hI2.ok) st 3 rfl (fun _ hg => hg) ?_; (try clear st); intro w st; simp only [List.set] at st; refine ⟨_, rfl, ?_⟩)
        | (refine Tu.go (sdone_tu _ _ pp kk hI2.ok) st 4 rfl (fun _ hg => hg) ?_; (try clear st); intro w st; simp only [List.set] at st; refine ⟨_, rfl, ?_⟩)
        | (refine Tu.go (sdone_tu _ _ pp kk hI2.ok) st 5 rfl (fun _ hg => hg) ?_; (try clear st); intro w st; simp only [List.set] at st; refine ⟨_, rfl, ?_⟩)
        | (with_reducible apply ex0c; case h => first | exact St.cell st 0 rfl rfl | exact St.cell st 1 rfl rfl | exact St.cell st 2 rfl rfl | exact St.cell st 3 rfl rfl | exact St.cell st 4 rfl rfl | exact St.cell st 5 rfl rfl | fail)
        | (with_reducible apply ex1c; case h => first | exact St.cell st 0 rfl rfl | exact St.cell st 1 rfl rfl | exact St.cell st 2 rfl rfl | exact St.cell st 3 rfl rfl | exact St.cell st 4 rfl rfl | exact St.cell st 5 rfl rfl | fail)
        | (with_reducible apply ex3c; case h => first | exact St.cell st 0 rfl rfl | exact St.cell st 1 rfl rfl | exact St.cell st 2 rfl rfl | exact St.cell st 3 rfl rfl | exact St.cell st 4 rfl rfl | exact St.cell st 5 rfl rfl | fail)
        | (with_reducible apply ex0r; case h => first | exact St.rows st 0 rfl | exact St.rows st 1 rfl | exact St.rows st 2 rfl | exact St.rows st 3 rfl | exact St.rows st 4 rfl | exact St.rows st 5 rfl | fail)
        | (with_reducible apply exr2; case h => first | exact St.rows st 0 rfl | exact St.rows st 1 rfl | exact St.rows st 2 rfl | exact St.rows st 3 rfl | exact St.rows st 4 rfl | exact St.rows st 5 rfl | fail)
        | (with_reducible apply exr3; case h => first | exact St.rows st 0 rfl | exact St.rows st 1 rfl | exact St.rows st 2 rfl | exact St.rows st 3 rfl | exact St.rows st 4 rfl | exact St.rows st 5 rfl | fail)
        | (with_reducible apply exr4; case h => first | exact St.rows st 0 rfl | exact St.rows st 1 rfl | exact St.rows st 2 rfl | exact St.rows st 3 rfl | exact St.rows st 4 rfl | exact St.rows st 5 rfl | fail)
        | (with_reducible apply exr5; case h => first | exact St.rows st 0 rfl | exact St.rows st 1 rfl | exact St.rows st 2 rfl | exact St.rows st 3 rfl | exact St.rows st 4 rfl | exact St.rows st 5 rfl | fail)
        | (with_reducible apply exr6; case h => first | exact St.rows st 0 rfl | exact St.rows st 1 rfl | exact St.rows st 2 rfl | exact St.rows st 3 rfl | exact St.rows st 4 rfl | exact St.rows st 5 rfl | fail)
        | (with_reducible apply exWr; case h => first | exact St.wr st 0 rfl rfl | exact St.wr st 1 rfl rfl | exact St.wr st 2 rfl rfl | exact St.wr st 3 rfl rfl | exact St.wr st 4 rfl rfl | exact St.wr st 5 rfl rfl | fail)
        | (with_reducible apply exWrRow; case h => first | exact St.wrRow st 0 rfl rfl rfl | exact St.wrRow st 1 rfl rfl rfl | exact St.wrRow st 2 rfl rfl rfl | exact St.wrRow st 3 rfl rfl rfl | exact St.wrRow st 4 rfl rfl rfl | exact St.wrRow st 5 rfl rfl rfl | fail)
        | (with_reducible refine LetW.cell ?_; (first | refine St.store st 0 rfl ?_ | refine St.store st 1 rfl ?_ | refine St.store st 2 rfl ?_ | refine St.store st 3 rfl ?_ | refine St.store st 4 rfl ?_ | refine St.store st 5 rfl ?_ | fail); (try clear st); intro w st; simp only [List.set] at st)
        | (with_reducible refine LetW.rows ?_; (first | refine St.storeRow st 0 rfl ?_ | refine St.storeRow st 1 rfl ?_ | refine St.storeRow st 2 rfl ?_ | refine St.storeRow st 3 rfl ?_ | refine St.storeRow st 4 rfl ?_ | refine St.storeRow st 5 rfl ?_ | fail); (try clear st); intro w st; simp only [List.set, setsL] at st)
        | ((with_reducible apply exr4); case h => first | exact St.rowAt st 0 rfl rfl | exact St.rowAt st 1 rfl rfl | exact St.rowAt st 2 rfl rfl | exact St.rowAt st 3 rfl rfl | exact St.rowAt st 4 rfl rfl | exact St.rowAt st 5 rfl rfl | fail)
        | ((with_reducible apply exr5); case h => first | exact St.rowAt st 0 rfl rfl | exact St.rowAt st 1 rfl rfl | exact St.rowAt st 2 rfl rfl | exact St.rowAt st 3 rfl rfl | exact St.rowAt st 4 rfl rfl | exact St.rowAt st 5 rfl rfl | fail)
        | ((with_reducible apply exr6); case h => first | exact St.rowAt st 0 rfl rfl | exact St.rowAt st 1 rfl rfl | exact St.rowAt st 2 rfl rfl | exact St.rowAt st 3 rfl rfl | exact St.rowAt st 4 rfl rfl | exact St.rowAt st 5 rfl rfl | fail)
        | with_reducible refine LetI.id (by omega) (by omega) ?_
        | fail
      refine Br.dec (fun h => absurd (hI2.done h) ha) (fun h => ?_)
      refine LetI.id (by omega) (by omega) ?_
      exact ⟨_, by omega, i + 1, backN s, r, got, sent, mail, told, p, k, pm, km, pt, kt, by first | (simp; done) | (simp; omega), rfl, by omega, hI2, by first | omega | (simp; omega), by first | omega | (simp; omega), st⟩
end Go.Proofs.Ytdiejbojobbboaa

/- Package frames: Plain, Put: the contracts. -/
import Derived.Test.YtbdhdjbdooccoaaFA
namespace Go.Proofs.Ytbdhdjbdooccoaa
open Go.Vc Go.Codec

theorem flat_len (f : Frm) : ∀ l : List Nat, (flatF f l).length ≤ 9 * l.length
  | [] => by simp [flatF]
  | i :: l => by
    have := flat_len f l
    have := encI_len (f.nums i)
    have e : flatF f (i :: l) = encI (f.nums i) ++ flatF f l := rfl
    rw [e, List.length_append, List.length_cons]
    omega
theorem flat_take {f : Frm} {l : List Nat} {j : Nat} (h : j < l.length) : flatF f (l.take (j + 1)) = flatF f (l.take j) ++ encI (f.nums l[j]) := by
  rw [List.take_succ_eq_append_getElem h]
  unfold flatF
  rw [List.flatMap_append]
  simp
theorem chk0 (o : Opn) : (putO o).2 = 0 ↔ chkO o = 0 := by unfold putO; split <;> simp_all
theorem chkc0 (c : Chn) : (putC c).2 = 0 ↔ chkC c = 0 := by
  unfold putC
  split
  · have := chk_in c
    simp only []
    omega
  · simp_all
theorem putO_of {o : Opn} (h : chkO o = 0) : (putO o).1 = encO o := by unfold putO; rw [if_neg (by omega)]
theorem putC_of {c : Chn} (h : chkC c = 0) : (putC c).1 = encC c := by unfold putC; rw [if_neg (by omega)]
theorem putO_le (o : Opn) : (putO o).1.length ≤ 116 := by
  unfold putO
  split
  · show (0 : Nat) ≤ 116; omega
  · exact encO_len (by omega)
theorem putC_le (c : Chn) : (putC c).1.length ≤ 135 := by
  unfold putC
  split
  · show (0 : Nat) ≤ 135; omega
  · exact encC_len (chkC_ok.1 (by omega)).l2
theorem frest_pw {w0 : World} {f : Frm} {k : Nat} {p : Option Addr} (hM : MemAt w0 p f.ch.mem) (hl : f.res.val.length ≤ 1000000) :
    ∃ t : List UInt8, (restOk f → t = restF f) ∧ t.length ≤ 2000000 ∧ Pw Try.prog 82 #[frmV f p k] (.tuple #[.string (mk t), .bool (decide (restOk f))]) w0 := by
  refine ⟨if f.kind = 1 then (putO f.op).1 else if f.kind = 2 then encR f.res else if f.kind = 4 then encI f.ent.idx ++ (encI f.ent.cl ++ (encI f.ent.sq ++ (putO f.ent.op).1)) else if f.kind = 8 then (putC f.ch).1 else [], ?_, ?_, ?_⟩
  · rintro ⟨h1, h2, h4, h8⟩
    unfold restF
    split
    · rename_i hk; exact putO_of (h1 hk)
    · split
      · rfl
      · split
        · rename_i hk; unfold encE; rw [putO_of (h4 hk).1]
        · split
          · rename_i hk; exact putC_of (h8 hk)
          · rfl
  · have a1 := putO_le f.op
    have a2 := putO_le f.ent.op
    have a3 := putC_le f.ch
    have b1 := encI_len f.ent.idx
    have b2 := encI_len f.ent.cl
    have b3 := encI_len f.ent.sq
    have c1 := encI_len f.res.code
    have c2 := encT_len (l := f.res.val) (by omega)
    have c3 := encI_len f.res.ver
    have c4 := encI_len f.res.at_
    split
    · omega
    · split
      · unfold encR; simp only [List.length_append]; omega
      · split
        · simp only [List.length_append]; omega
        · split
          · omega
          · simp
  have st : St No w0 w0 [] := St.start w0
  refine frest_ok _ _ _ _ _ _ _ _ _ _ _ _ _ _ _ _ _ _ _ _ _ _ _ _ _ _ _ _ _ _ _ _ _ ?_
  unfold frest
  refine St.alloc st ?_; clear st; intro bf w st
  refine ⟨_, st.cell 0 rfl rfl, Br.eqi (fun h1 => ?_) (fun h1 => ?_)⟩
  · refine ⟨_, _, _, _, st.rowAt 0 rfl rfl, ?_⟩
    refine Pu.go (oput_pu f.op) st ?_; clear st; intro w st
    refine ⟨_, _, rfl, ?_, st.kp⟩
    rw [if_pos h1]
    refine congrArg (fun b => Ending.returned (Value.tuple #[Value.string (mk (putO f.op).1), Value.bool b])) ?_
    show decide ((putO f.op).2 = 0) = _
    rw [decide_eq_decide, chk0]
    exact ⟨fun h => ⟨fun _ => h, fun _ => by omega, fun _ => by omega, fun _ => by omega⟩, fun h => h.1 h1⟩
  rw [if_neg h1]
  refine Br.eqi (fun h2 => ?_) (fun h2 => ?_)
  · refine ⟨_, _, _, _, st.rowAt 0 rfl rfl, ?_⟩
    refine Pu.go (fresult_pu hl) st ?_; clear st; intro w st
    refine ⟨_, _, rfl, ?_, st.kp⟩
    rw [if_pos h2]
    refine congrArg (fun b => Ending.returned (Value.tuple #[Value.string (mk (encR f.res)), Value.bool b])) ?_
    rw [decide_eq_decide]
    exact ⟨fun h => ⟨fun _ => by omega, fun _ => h, fun _ => by omega, fun _ => by omega⟩, fun h => h.2.1 h2⟩
  rw [if_neg h2]
  refine Br.eqi (fun h4 => ?_) (fun h4 => ?_)
  · refine ⟨_, _, _, _, _, _, _, st.rowAt 0 rfl rfl, ?_⟩
    refine Pu.go (fentry_pu f.ent) st ?_; clear st; intro w st
    refine ⟨_, _, rfl, ?_, st.kp⟩
    rw [if_pos h4]
    refine congrArg (fun b => Ending.returned (Value.tuple #[Value.string (mk (encI f.ent.idx ++ (encI f.ent.cl ++ (encI f.ent.sq ++ (putO f.ent.op).1)))), Value.bool b])) ?_
    rw [decide_eq_decide]
    exact ⟨fun h => ⟨fun _ => by omega, fun _ => by omega, fun _ => h, fun _ => by omega⟩, fun h => h.2.2.1 h4⟩
  rw [if_neg h4]
  refine Br.eqi (fun h8 => ?_) (fun h8 => ?_)
  · refine ⟨_, _, _, _, _, st.rowAt 0 rfl rfl, ?_⟩
    refine Pw.go (cput_pw (c := f.ch) (hM.no st.kp) rfl) st ?_; clear st; intro w st
    refine ⟨_, _, rfl, ?_, st.kp⟩
    rw [if_pos h8]
    refine congrArg (fun b => Ending.returned (Value.tuple #[Value.string (mk (putC f.ch).1), Value.bool b])) ?_
    show decide ((putC f.ch).2 = 0) = _
    rw [decide_eq_decide, chkc0]
    exact ⟨fun h => ⟨fun _ => by omega, fun _ => by omega, fun _ => by omega, fun _ => h⟩, fun h => h.2.2.2 h8⟩
  · refine ⟨?_, st.kp⟩
    rw [if_neg h8, decide_eq_true (show restOk f from ⟨fun h => absurd h h1, fun h => absurd h h2, fun h => absurd h h4, fun h => absurd h h8⟩)]
    rfl
set_option maxRecDepth 100000 in
set_option maxHeartbeats 2000000 in
theorem fput_pw {w0 : World} {f : Frm} {k : Nat} {p : Option Addr} (hM : MemAt w0 p f.ch.mem) (hl : f.res.val.length ≤ 1000000) :
    Pw Try.prog 50 #[frmV f p k] (.tuple #[.string (mk (putF f).1), .int .i64 (putF f).2]) w0 := by
  have st : St No w0 w0 [] := St.start w0
  refine fput_ok _ _ _ _ _ _ _ _ _ _ _ _ _ _ _ _ _ _ _ _ _ _ _ _ _ _ _ _ _ _ _ _ _ ?_
  unfold fput
  have hno : ¬ mayF f → ∀ w, Kp No w0 w → (fun (e : Ending) w' => e = Ending.returned (Value.tuple #[Value.string (mk (putF f).1), Value.int IntKind.i64 (putF f).2]) ∧ Kp No w0 w') (Ending.returned (Value.tuple #[Value.string { data := #[] }, Value.int IntKind.i64 2])) w := by
    intro h w hk
    have e : putF f = ([], 2) := by unfold putF; rw [if_pos h]
    rw [e]
    exact ⟨rfl, hk⟩
  refine St.alloc st ?_; clear st; intro bf w st
  refine ⟨_, st.cell 0 rfl rfl, Br.dec (fun h1 => ?_) (fun h1 => ?_)⟩
  · exact hno (fun h => by have := h.1; omega) _ st.kp
  refine ⟨_, st.cell 0 rfl rfl, Br.dec (fun h2 => ?_) (fun h2 => ?_)⟩
  · exact hno (fun h => by have := h.1; omega) _ st.kp
  refine ⟨_, st.cell 0 rfl rfl, ?_⟩
  refine Pu.go (int_pu f.kind) st ?_; clear st; intro w st
  refine ⟨_, rfl, _, st.cell 0 rfl rfl, ?_⟩
  refine (fnumbers_ca f.kind w).mono ?_
  rintro _ w1 ⟨pn, cn, rfl, ho, hk⟩
  replace st := st.pushRow0 hk ho (Nat.le_refl _)
  clear ho hk
  refine ⟨_, _, _, rfl, ?_⟩
  have hlen := numsF_len f.kind
  refine ⟨fun q v w' => ∃ j : Nat, v = [.string ⟨#[]⟩, .int .i64 0, .string (mk (encI f.kind ++ flatF f ((numsF f.kind).take j))), .int .i64 (j : Int)] ∧ q = (numsF f.kind).length - j ∧ j ≤ (numsF f.kind).length ∧ (∀ i ∈ (numsF f.kind).take j, goodN (f.nums i)) ∧ St No w0 w' [fnR (numsF f.kind) pn cn, frmB bf f p k], ⟨_, 0, by simp [flatF], rfl, by omega, by simp, st⟩, ?_⟩
  clear st
  rintro _ _ _ _ _ w ⟨j, hv, rfl, hj, hg, st⟩
  obtain ⟨rfl, rfl, rfl, rfl⟩ : _ ∧ _ ∧ _ ∧ _ := by simpa using hv
  clear hv
  have a1 : (mk (encI f.kind ++ flatF f ((numsF f.kind).take j))).size ≤ 1000 := by
    have h1 := encI_len f.kind
    have h2 := flat_len f ((numsF f.kind).take j)
    rw [List.length_take] at h2
    rw [mk_size, List.length_append]; omega
  refine Br.dec (fun h3 => ?_) (fun h3 => ?_)
  · have hjl : j < (numsF f.kind).length := by omega
    have hi := numsF_lt (List.getElem_mem hjl)
    obtain ⟨a, ha, hr⟩ := (ElAt.of_owns fnE_len (st.hold 0 _ rfl) rfl : FnAt w pn (numsF f.kind)) j hjl
    have ht := flat_take (f := f) hjl
    refine NilOk.intro ha ⟨⟨by omega, by omega⟩, _, _, _, by simpa [addr_zero] using Row.get hr (j := 0) rfl, ?_⟩
    rw [fcallee hi]
    refine Br.sure rfl ?_
    refine Pu.go (ffield_pu hi bf) st ?_; clear st hr; intro w st
    refine ⟨_, rfl, NilOk.intro rfl ⟨_, st.cell 1 rfl (frm_at f p k hi), ?_⟩⟩
    refine Pu.go (fgood_pu _) st ?_; clear st; intro w st
    refine ⟨_, rfl, Br.not (Br.dec (fun h4 => ?_) (fun h4 => ?_))⟩
    · refine Br.sure rfl ?_
      refine Pu.go (ffield_pu hi bf) st ?_; clear st; intro w st
      refine ⟨_, rfl, NilOk.intro rfl ⟨_, st.cell 1 rfl (frm_at f p k hi), ?_⟩⟩
      have a4 : (mk (encI (f.nums (numsF f.kind)[j]))).size ≤ 9 := encI_len _
      refine Pu.go (int_pu _) st ?_; clear st; intro w st
      refine ⟨_, rfl, sz_and (by omega) (LetI.id (by omega) (by omega) ⟨_, by omega, j + 1, ?_, rfl, by omega, ?_, st⟩)⟩
      · rw [ht]
        simp [mk_append]
      · rw [List.take_succ_eq_append_getElem hjl]
        intro i hi'
        rcases List.mem_append.1 hi' with h | h
        · exact hg i h
        · rw [List.mem_singleton.1 h]; exact h4
    · exact hno (fun h => h4 (h.2.1 _ (List.getElem_mem hjl))) _ st.kp
  · obtain rfl : j = (numsF f.kind).length := by omega
    rw [List.take_length] at hg a1 ⊢
    have hnum : numOk f := hg
    refine ⟨_, _, _, _, _, _, _, _, _, _, _, _, _, _, _, _, _, _, _, _, _, _, _, _, _, _, _, _, _, _, _, st.rowAt 1 rfl rfl, ?_⟩
    obtain ⟨t, ht1, ht2, hp⟩ := frest_pw (k := k) (hM.no st.kp) hl
    have a5 : (mk t).size ≤ 2000000 := by rw [mk_size]; exact ht2
    refine Pw.go hp st ?_; clear st; intro w st
    refine ⟨_, _, rfl, Br.not (Br.dec (fun h4 => ?_) (fun h4 => ?_))⟩
    · have hm : mayF f := ⟨by omega, hnum, h4⟩
      have he : encF f = encI f.kind ++ flatF f (numsF f.kind) ++ t := by rw [ht1 h4]; rfl
      have hs : (mk (encI f.kind ++ flatF f (numsF f.kind))).size + (mk t).size = (encF f).length := by rw [he, List.length_append]; rfl
      refine LetI.id (by omega) (by omega) (Br.dec (fun h5 => ?_) (fun h5 => ?_))
      · have e : putF f = ([], 3) := by unfold putF; rw [if_neg (fun hh : ¬ mayF f => hh hm), if_pos (by omega)]
        rw [e]
        exact ⟨rfl, st.kp⟩
      · refine sz_and (by omega) ⟨?_, st.kp⟩
        rw [putF_eq hm (by omega), he, mk_append]
    · exact hno (fun h => h4 h.2.2) _ st.kp
end Go.Proofs.Ytbdhdjbdooccoaa

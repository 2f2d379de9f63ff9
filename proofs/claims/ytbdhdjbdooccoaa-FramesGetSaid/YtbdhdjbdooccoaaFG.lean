/- The document's answer for frames: Put: the contract. -/
import Derived.Test.YtbdhdjbdooccoaaFE
import Derived.Test.YtbdhdjbdooccoaaDF3
import Derived.Test.YtbdhdjbdooccoaaCT
namespace Go.Proofs.Ytbdhdjbdooccoaa
open Go.Vc Go.Codec

def letF (i : Nat) : UInt8 := [69, 67, 83, 84, 76, 68, 82, 73, 71, 72].getD i 0
theorem rhas_pu (k : Int) : Pu Try.prog 78 #[.int .i64 k] (.string (mk ((numsF k).map letF))) := by
  intro w0
  refine rhas_ok _ _ _ ?_
  unfold rhas
  repeat' refine Br.eqi (fun h => ?_) (fun h => ?_)
  all_goals try (exfalso; omega)
  all_goals refine ⟨?_, Kp.refl _ _⟩
  all_goals first
    | (subst h; rfl)
    | (have e : numsF k = [] := by
        unfold numsF
        repeat rw [if_neg (by omega)]
       rw [e]; rfl)
set_option maxRecDepth 100000 in
theorem rnumber_pu {i : Nat} (h : i < 10) (f : Frm) (p : Option Addr) (k : Nat) : Pu Try.prog 101 #[frmV f p k, .int .u8 ((letF i).toNat : Int)] (.int .i64 (f.nums i)) := by
  intro w0
  have st : St No w0 w0 [] := St.start w0
  refine rnumber_ok _ _ _ _ _ _ _ _ _ _ _ _ _ _ _ _ _ _ _ _ _ _ _ _ _ _ _ _ _ _ _ _ _ _ ?_
  unfold rnumber
  refine St.alloc st ?_; clear st; intro b1 w st
  match i, h with
  | 0, _ => exact Br.sure rfl (⟨_, st.cell 0 rfl rfl, rfl, st.kp⟩)
  | 1, _ => exact Br.nay rfl (Br.sure rfl (⟨_, st.cell 0 rfl rfl, rfl, st.kp⟩))
  | 2, _ => exact Br.nay rfl (Br.nay rfl (Br.sure rfl (⟨_, st.cell 0 rfl rfl, rfl, st.kp⟩)))
  | 3, _ => exact Br.nay rfl (Br.nay rfl (Br.nay rfl (Br.sure rfl (⟨_, st.cell 0 rfl rfl, rfl, st.kp⟩))))
  | 4, _ => exact Br.nay rfl (Br.nay rfl (Br.nay rfl (Br.nay rfl (Br.sure rfl (⟨_, st.cell 0 rfl rfl, rfl, st.kp⟩)))))
  | 5, _ => exact Br.nay rfl (Br.nay rfl (Br.nay rfl (Br.nay rfl (Br.nay rfl (Br.sure rfl (⟨_, st.cell 0 rfl rfl, rfl, st.kp⟩))))))
  | 6, _ => exact Br.nay rfl (Br.nay rfl (Br.nay rfl (Br.nay rfl (Br.nay rfl (Br.nay rfl (Br.sure rfl (⟨_, st.cell 0 rfl rfl, rfl, st.kp⟩)))))))
  | 7, _ => exact Br.nay rfl (Br.nay rfl (Br.nay rfl (Br.nay rfl (Br.nay rfl (Br.nay rfl (Br.nay rfl (Br.sure rfl (⟨_, st.cell 0 rfl rfl, rfl, st.kp⟩))))))))
  | 8, _ => exact Br.nay rfl (Br.nay rfl (Br.nay rfl (Br.nay rfl (Br.nay rfl (Br.nay rfl (Br.nay rfl (Br.nay rfl (Br.sure rfl (⟨_, st.cell 0 rfl rfl, rfl, st.kp⟩)))))))))
  | 9, _ => exact Br.nay rfl (Br.nay rfl (Br.nay rfl (Br.nay rfl (Br.nay rfl (Br.nay rfl (Br.nay rfl (Br.nay rfl (Br.nay rfl (⟨_, st.cell 0 rfl rfl, rfl, st.kp⟩)))))))))
set_option maxRecDepth 100000 in
set_option maxHeartbeats 4000000 in
theorem rwithf_pu {i : Nat} (h : i < 10) (f : Frm) (p : Option Addr) (k : Nat) (n : Int) : Pu Try.prog 79 #[frmV f p k, .int .u8 ((letF i).toNat : Int), .int .i64 n] (frmV (f.set i n) p k) := by
  intro w0
  have st : St No w0 w0 [] := St.start w0
  refine rwithf_ok _ _ _ _ _ _ _ _ _ _ _ _ _ _ _ _ _ _ _ _ _ _ _ _ _ _ _ _ _ _ _ _ _ _ _ ?_
  unfold rwithf
  refine St.alloc st ?_; clear st; intro b1 w st
  refine St.alloc st ?_; clear st; intro b2 w st
  match i, h with
  | 0, _ =>
    refine Br.sure rfl ?_
    refine ⟨st.wr 1 rfl rfl, ?_⟩
    refine St.store st 1 rfl ?_
    clear st
    intro w st
    replace st : St No w0 w [frmB b2 (.zero 0) none 0, .blk b1 58 ((frmL f p k).set (offF 0) (.int .i64 n))] := st
    rw [frm_set f p k (i := 0) (by omega)] at st
    refine ⟨_, _, _, _, _, _, _, _, _, _, _, _, _, _, _, _, _, _, _, _, _, _, _, _, _, _, _, _, _, _, _, st.rowAt 1 rfl rfl, st.wrRow 0 rfl rfl rfl, ?_⟩
    refine St.storeRow st 0 rfl ?_
    clear st
    intro w st
    replace st : St No w0 w [frmB b2 (f.set 0 n) p k, frmB b1 (f.set 0 n) p k] := by
      rw [setsL_all] at st
      · exact st
      · rfl
    refine ⟨_, _, _, _, _, _, _, _, _, _, _, _, _, _, _, _, _, _, _, _, _, _, _, _, _, _, _, _, _, _, _, st.rowAt 0 rfl rfl, ?_⟩
    exact ⟨rfl, st.kp⟩
  | 1, _ =>
    refine Br.nay rfl (Br.sure rfl ?_)
    refine ⟨st.wr 1 rfl rfl, ?_⟩
    refine St.store st 1 rfl ?_
    clear st
    intro w st
    replace st : St No w0 w [frmB b2 (.zero 0) none 0, .blk b1 58 ((frmL f p k).set (offF 1) (.int .i64 n))] := st
    rw [frm_set f p k (i := 1) (by omega)] at st
    refine ⟨_, _, _, _, _, _, _, _, _, _, _, _, _, _, _, _, _, _, _, _, _, _, _, _, _, _, _, _, _, _, _, st.rowAt 1 rfl rfl, st.wrRow 0 rfl rfl rfl, ?_⟩
    refine St.storeRow st 0 rfl ?_
    clear st
    intro w st
    replace st : St No w0 w [frmB b2 (f.set 1 n) p k, frmB b1 (f.set 1 n) p k] := by
      rw [setsL_all] at st
      · exact st
      · rfl
    refine ⟨_, _, _, _, _, _, _, _, _, _, _, _, _, _, _, _, _, _, _, _, _, _, _, _, _, _, _, _, _, _, _, st.rowAt 0 rfl rfl, ?_⟩
    exact ⟨rfl, st.kp⟩
  | 2, _ =>
    refine Br.nay rfl (Br.nay rfl (Br.sure rfl ?_))
    refine ⟨st.wr 1 rfl rfl, ?_⟩
    refine St.store st 1 rfl ?_
    clear st
    intro w st
    replace st : St No w0 w [frmB b2 (.zero 0) none 0, .blk b1 58 ((frmL f p k).set (offF 2) (.int .i64 n))] := st
    rw [frm_set f p k (i := 2) (by omega)] at st
    refine ⟨_, _, _, _, _, _, _, _, _, _, _, _, _, _, _, _, _, _, _, _, _, _, _, _, _, _, _, _, _, _, _, st.rowAt 1 rfl rfl, st.wrRow 0 rfl rfl rfl, ?_⟩
    refine St.storeRow st 0 rfl ?_
    clear st
    intro w st
    replace st : St No w0 w [frmB b2 (f.set 2 n) p k, frmB b1 (f.set 2 n) p k] := by
      rw [setsL_all] at st
      · exact st
      · rfl
    refine ⟨_, _, _, _, _, _, _, _, _, _, _, _, _, _, _, _, _, _, _, _, _, _, _, _, _, _, _, _, _, _, _, st.rowAt 0 rfl rfl, ?_⟩
    exact ⟨rfl, st.kp⟩
  | 3, _ =>
    refine Br.nay rfl (Br.nay rfl (Br.nay rfl (Br.sure rfl ?_)))
    refine ⟨st.wr 1 rfl rfl, ?_⟩
    refine St.store st 1 rfl ?_
    clear st
    intro w st
    replace st : St No w0 w [frmB b2 (.zero 0) none 0, .blk b1 58 ((frmL f p k).set (offF 3) (.int .i64 n))] := st
    rw [frm_set f p k (i := 3) (by omega)] at st
    refine ⟨_, _, _, _, _, _, _, _, _, _, _, _, _, _, _, _, _, _, _, _, _, _, _, _, _, _, _, _, _, _, _, st.rowAt 1 rfl rfl, st.wrRow 0 rfl rfl rfl, ?_⟩
    refine St.storeRow st 0 rfl ?_
    clear st
    intro w st
    replace st : St No w0 w [frmB b2 (f.set 3 n) p k, frmB b1 (f.set 3 n) p k] := by
      rw [setsL_all] at st
      · exact st
      · rfl
    refine ⟨_, _, _, _, _, _, _, _, _, _, _, _, _, _, _, _, _, _, _, _, _, _, _, _, _, _, _, _, _, _, _, st.rowAt 0 rfl rfl, ?_⟩
    exact ⟨rfl, st.kp⟩
  | 4, _ =>
    refine Br.nay rfl (Br.nay rfl (Br.nay rfl (Br.nay rfl (Br.sure rfl ?_))))
    refine ⟨st.wr 1 rfl rfl, ?_⟩
    refine St.store st 1 rfl ?_
    clear st
    intro w st
    replace st : St No w0 w [frmB b2 (.zero 0) none 0, .blk b1 58 ((frmL f p k).set (offF 4) (.int .i64 n))] := st
    rw [frm_set f p k (i := 4) (by omega)] at st
    refine ⟨_, _, _, _, _, _, _, _, _, _, _, _, _, _, _, _, _, _, _, _, _, _, _, _, _, _, _, _, _, _, _, st.rowAt 1 rfl rfl, st.wrRow 0 rfl rfl rfl, ?_⟩
    refine St.storeRow st 0 rfl ?_
    clear st
    intro w st
    replace st : St No w0 w [frmB b2 (f.set 4 n) p k, frmB b1 (f.set 4 n) p k] := by
      rw [setsL_all] at st
      · exact st
      · rfl
    refine ⟨_, _, _, _, _, _, _, _, _, _, _, _, _, _, _, _, _, _, _, _, _, _, _, _, _, _, _, _, _, _, _, st.rowAt 0 rfl rfl, ?_⟩
    exact ⟨rfl, st.kp⟩
  | 5, _ =>
    refine Br.nay rfl (Br.nay rfl (Br.nay rfl (Br.nay rfl (Br.nay rfl (Br.sure rfl ?_)))))
    refine ⟨st.wr 1 rfl rfl, ?_⟩
    refine St.store st 1 rfl ?_
    clear st
    intro w st
    replace st : St No w0 w [frmB b2 (.zero 0) none 0, .blk b1 58 ((frmL f p k).set (offF 5) (.int .i64 n))] := st
    rw [frm_set f p k (i := 5) (by omega)] at st
    refine ⟨_, _, _, _, _, _, _, _, _, _, _, _, _, _, _, _, _, _, _, _, _, _, _, _, _, _, _, _, _, _, _, st.rowAt 1 rfl rfl, st.wrRow 0 rfl rfl rfl, ?_⟩
    refine St.storeRow st 0 rfl ?_
    clear st
    intro w st
    replace st : St No w0 w [frmB b2 (f.set 5 n) p k, frmB b1 (f.set 5 n) p k] := by
      rw [setsL_all] at st
      · exact st
      · rfl
    refine ⟨_, _, _, _, _, _, _, _, _, _, _, _, _, _, _, _, _, _, _, _, _, _, _, _, _, _, _, _, _, _, _, st.rowAt 0 rfl rfl, ?_⟩
    exact ⟨rfl, st.kp⟩
  | 6, _ =>
    refine Br.nay rfl (Br.nay rfl (Br.nay rfl (Br.nay rfl (Br.nay rfl (Br.nay rfl (Br.sure rfl ?_))))))
    refine ⟨st.wr 1 rfl rfl, ?_⟩
    refine St.store st 1 rfl ?_
    clear st
    intro w st
    replace st : St No w0 w [frmB b2 (.zero 0) none 0, .blk b1 58 ((frmL f p k).set (offF 6) (.int .i64 n))] := st
    rw [frm_set f p k (i := 6) (by omega)] at st
    refine ⟨_, _, _, _, _, _, _, _, _, _, _, _, _, _, _, _, _, _, _, _, _, _, _, _, _, _, _, _, _, _, _, st.rowAt 1 rfl rfl, st.wrRow 0 rfl rfl rfl, ?_⟩
    refine St.storeRow st 0 rfl ?_
    clear st
    intro w st
    replace st : St No w0 w [frmB b2 (f.set 6 n) p k, frmB b1 (f.set 6 n) p k] := by
      rw [setsL_all] at st
      · exact st
      · rfl
    refine ⟨_, _, _, _, _, _, _, _, _, _, _, _, _, _, _, _, _, _, _, _, _, _, _, _, _, _, _, _, _, _, _, st.rowAt 0 rfl rfl, ?_⟩
    exact ⟨rfl, st.kp⟩
  | 7, _ =>
    refine Br.nay rfl (Br.nay rfl (Br.nay rfl (Br.nay rfl (Br.nay rfl (Br.nay rfl (Br.nay rfl (Br.sure rfl ?_)))))))
    refine ⟨st.wr 1 rfl rfl, ?_⟩
    refine St.store st 1 rfl ?_
    clear st
    intro w st
    replace st : St No w0 w [frmB b2 (.zero 0) none 0, .blk b1 58 ((frmL f p k).set (offF 7) (.int .i64 n))] := st
    rw [frm_set f p k (i := 7) (by omega)] at st
    refine ⟨_, _, _, _, _, _, _, _, _, _, _, _, _, _, _, _, _, _, _, _, _, _, _, _, _, _, _, _, _, _, _, st.rowAt 1 rfl rfl, st.wrRow 0 rfl rfl rfl, ?_⟩
    refine St.storeRow st 0 rfl ?_
    clear st
    intro w st
    replace st : St No w0 w [frmB b2 (f.set 7 n) p k, frmB b1 (f.set 7 n) p k] := by
      rw [setsL_all] at st
      · exact st
      · rfl
    refine ⟨_, _, _, _, _, _, _, _, _, _, _, _, _, _, _, _, _, _, _, _, _, _, _, _, _, _, _, _, _, _, _, st.rowAt 0 rfl rfl, ?_⟩
    exact ⟨rfl, st.kp⟩
  | 8, _ =>
    refine Br.nay rfl (Br.nay rfl (Br.nay rfl (Br.nay rfl (Br.nay rfl (Br.nay rfl (Br.nay rfl (Br.nay rfl (Br.sure rfl ?_))))))))
    refine ⟨st.wr 1 rfl rfl, ?_⟩
    refine St.store st 1 rfl ?_
    clear st
    intro w st
    replace st : St No w0 w [frmB b2 (.zero 0) none 0, .blk b1 58 ((frmL f p k).set (offF 8) (.int .i64 n))] := st
    rw [frm_set f p k (i := 8) (by omega)] at st
    refine ⟨_, _, _, _, _, _, _, _, _, _, _, _, _, _, _, _, _, _, _, _, _, _, _, _, _, _, _, _, _, _, _, st.rowAt 1 rfl rfl, st.wrRow 0 rfl rfl rfl, ?_⟩
    refine St.storeRow st 0 rfl ?_
    clear st
    intro w st
    replace st : St No w0 w [frmB b2 (f.set 8 n) p k, frmB b1 (f.set 8 n) p k] := by
      rw [setsL_all] at st
      · exact st
      · rfl
    refine ⟨_, _, _, _, _, _, _, _, _, _, _, _, _, _, _, _, _, _, _, _, _, _, _, _, _, _, _, _, _, _, _, st.rowAt 0 rfl rfl, ?_⟩
    exact ⟨rfl, st.kp⟩
  | 9, _ =>
    refine Br.nay rfl (Br.nay rfl (Br.nay rfl (Br.nay rfl (Br.nay rfl (Br.nay rfl (Br.nay rfl (Br.nay rfl (Br.nay rfl ?_))))))))
    refine ⟨st.wr 1 rfl rfl, ?_⟩
    refine St.store st 1 rfl ?_
    clear st
    intro w st
    replace st : St No w0 w [frmB b2 (.zero 0) none 0, .blk b1 58 ((frmL f p k).set (offF 9) (.int .i64 n))] := st
    rw [frm_set f p k (i := 9) (by omega)] at st
    refine ⟨_, _, _, _, _, _, _, _, _, _, _, _, _, _, _, _, _, _, _, _, _, _, _, _, _, _, _, _, _, _, _, st.rowAt 1 rfl rfl, st.wrRow 0 rfl rfl rfl, ?_⟩
    refine St.storeRow st 0 rfl ?_
    clear st
    intro w st
    replace st : St No w0 w [frmB b2 (f.set 9 n) p k, frmB b1 (f.set 9 n) p k] := by
      rw [setsL_all] at st
      · exact st
      · rfl
    refine ⟨_, _, _, _, _, _, _, _, _, _, _, _, _, _, _, _, _, _, _, _, _, _, _, _, _, _, _, _, _, _, _, st.rowAt 0 rfl rfl, ?_⟩
    exact ⟨rfl, st.kp⟩
theorem rgood3_pu (a b c : Int) : Pu Try.prog 102 #[.int .i64 a, .int .i64 b, .int .i64 c] (.bool (decide (goodN a ∧ goodN b ∧ goodN c))) := by
  intro w
  refine rgood3_ok _ _ _ _ _ ?_
  unfold rgood3
  repeat' refine Br.dec (fun h => ?_) (fun h => ?_)
  all_goals refine ⟨?_, Kp.refl _ _⟩
  all_goals refine congrArg (fun b => Ending.returned (Value.bool b)) ?_
  all_goals first
    | (rw [decide_eq_decide]; unfold goodN; omega)
    | (symm; rw [decide_eq_false_iff_not]; unfold goodN; omega)
set_option maxRecDepth 100000 in
set_option maxHeartbeats 4000000 in
theorem rbehind_pw {w0 : World} {f : Frm} {k : Nat} {p : Option Addr} (hM : MemAt w0 p f.ch.mem) (hl : f.res.val.length ≤ 1000000) :
    ∃ t : List UInt8, (restOk f → t = restF f) ∧ t.length ≤ 2000000 ∧ Pw Try.prog 100 #[frmV f p k] (.tuple #[.string (mk t), .bool (decide ((1 ≤ f.kind ∧ f.kind ≤ 12) ∧ restOk f))]) w0 := by
  refine ⟨if f.kind = 1 then (putO f.op).1 else if f.kind = 2 then (if okR f.res then encR f.res else []) else if f.kind = 4 then (if okE f.ent then encE f.ent else []) else if f.kind = 8 then (putC f.ch).1 else [], ?_, ?_, ?_⟩
  · rintro ⟨h1, h2, h4, h8⟩
    unfold restF
    split
    · rename_i hk; exact putO_of (h1 hk)
    · split
      · rename_i hk; rw [if_pos (h2 hk)]
      · split
        · rename_i hk; rw [if_pos (h4 hk)]
        · split
          · rename_i hk; exact putC_of (h8 hk)
          · rfl
  · have a1 := putO_le f.op
    have a3 := putC_le f.ch
    have b1 := encI_len f.ent.idx
    have b2 := encI_len f.ent.cl
    have b3 := encI_len f.ent.sq
    have c1 := encI_len f.res.code
    have c2 := encT_len (l := f.res.val) (by omega)
    have c3 := encI_len f.res.ver
    have c4 := encI_len f.res.at_
    split
    · omega
    · split
      · split
        · unfold encR; simp only [List.length_append]; omega
        · exact Nat.zero_le _
      · split
        · split
          · rename_i hk
            have a2 := encO_len hk.1
            unfold encE; simp only [List.length_append]; omega
          · exact Nat.zero_le _
        · split
          · omega
          · simp
  have st : St No w0 w0 [] := St.start w0
  refine rbehind_ok _ _ _ _ _ _ _ _ _ _ _ _ _ _ _ _ _ _ _ _ _ _ _ _ _ _ _ _ _ _ _ _ _ ?_
  unfold rbehind
  refine St.alloc st ?_; clear st; intro bf w st
  have e0 : mk [] = ⟨#[]⟩ := rfl
  refine ⟨_, st.cell 0 rfl rfl, Br.eqi (fun h1 => ?_) (fun h1 => ?_)⟩
  · refine ⟨_, _, _, _, st.rowAt 0 rfl rfl, ?_⟩
    refine Pu.go (roput_pu f.op) st ?_; clear st; intro w st
    refine ⟨_, _, rfl, ?_, st.kp⟩
    rw [if_pos h1]
    refine congrArg (fun b => Ending.returned (Value.tuple #[Value.string (mk (putO f.op).1), Value.bool b])) ?_
    show decide ((putO f.op).2 = 0) = _
    rw [decide_eq_decide, chk0]
    exact ⟨fun h => ⟨by omega, fun _ => h, fun _ => by omega, fun _ => by omega, fun _ => by omega⟩, fun h => h.2.1 h1⟩
  rw [if_neg h1]
  refine Br.eqi (fun h2 => ?_) (fun h2 => ?_)
  · rw [if_pos h2]
    have e5 : (mk f.res.val).size = f.res.val.length := rfl
    have hno : ¬ okR f.res → ∀ w, Kp No w0 w → Ending.returned (Value.tuple #[Value.string ⟨#[]⟩, Value.bool false]) = Ending.returned (Value.tuple #[Value.string (mk (if okR f.res then encR f.res else [])), Value.bool (decide ((1 ≤ f.kind ∧ f.kind ≤ 12) ∧ restOk f))]) ∧ Kp No w0 w := by
      intro h w hk
      rw [if_neg h, decide_eq_false (fun hh => h (hh.2.2.1 h2))]
      exact ⟨rfl, hk⟩
    refine ⟨_, _, _, _, st.rowAt 0 rfl rfl, ?_⟩
    refine St.alloc st ?_; clear st; intro br w st
    refine ⟨st.wrRow 0 rfl rfl rfl, ?_⟩
    refine St.storeRow st 0 rfl ?_; clear st; intro w st; simp only [List.set, setsL] at st
    refine ⟨_, st.cell 0 rfl rfl, Br.dec (fun h3 => hno (fun hh => by have := hh.1; omega) _ st.kp) (fun h3 => ?_)⟩
    refine ⟨_, st.cell 0 rfl rfl, Br.dec (fun h4 => hno (fun hh => by have := hh.2.1; omega) _ st.kp) (fun h4 => ?_)⟩
    refine ⟨_, st.cell 0 rfl rfl, Br.dec (fun h5 => hno (fun hh => by have := hh.2.2.1; omega) _ st.kp) (fun h5 => ?_)⟩
    refine ⟨_, st.cell 0 rfl rfl, _, st.cell 0 rfl rfl, ?_⟩
    refine Pu.go (rgood3_pu _ _ _) st ?_; clear st; intro w st
    refine ⟨_, rfl, Br.not (Br.dec (fun h6 => ?_) (fun h6 => hno (fun hh => h6 ⟨hh.2.2.2.1, hh.2.2.2.2, by unfold goodN; omega⟩) _ st.kp))⟩
    have hok : okR f.res := ⟨by omega, by omega, by omega, h6.1, h6.2.1⟩
    have a1 : (mk (encI f.res.code)).size ≤ 9 := encI_len _
    have a2 : (mk (encT f.res.val)).size ≤ 9 + f.res.val.length := encT_len (by omega)
    have a3 : (mk (encI f.res.ver)).size ≤ 9 := encI_len _
    have a4 : (mk (encI f.res.at_)).size ≤ 9 := encI_len _
    repeat' first
      | (with_reducible refine St.alloc st ?_; (try clear st); intro b w st)
      | with_reducible refine sz_and (by (repeat rw [ByteArray.size_append]); omega) ?_
      | (refine Pu.go (rint_pu _) st ?_; (try clear st); intro w st; refine ⟨_, rfl, ?_⟩)
      | (refine Pu.go (rtext_pu (l := f.res.val) (by omega)) st ?_; (try clear st); intro w st; refine ⟨_, rfl, ?_⟩)
      | (with_reducible apply ex0c; case h => first | exact St.cell st 0 rfl rfl | exact St.cell st 1 rfl rfl | exact St.cell st 2 rfl rfl | exact St.cell st 3 rfl rfl | fail)
      | (with_reducible apply ex1c; case h => first | exact St.cell st 0 rfl rfl | exact St.cell st 1 rfl rfl | exact St.cell st 2 rfl rfl | exact St.cell st 3 rfl rfl | fail)
      | (with_reducible apply ex3c; case h => first | exact St.cell st 0 rfl rfl | exact St.cell st 1 rfl rfl | exact St.cell st 2 rfl rfl | exact St.cell st 3 rfl rfl | fail)
      | (with_reducible apply ex0r; case h => first | exact St.rows st 0 rfl | exact St.rows st 1 rfl | exact St.rows st 2 rfl | exact St.rows st 3 rfl | fail)
      | (with_reducible apply exr2; case h => first | exact St.rows st 0 rfl | exact St.rows st 1 rfl | exact St.rows st 2 rfl | exact St.rows st 3 rfl | fail)
      | (with_reducible apply exr3; case h => first | exact St.rows st 0 rfl | exact St.rows st 1 rfl | exact St.rows st 2 rfl | exact St.rows st 3 rfl | fail)
      | (with_reducible apply exr4; case h => first | exact St.rows st 0 rfl | exact St.rows st 1 rfl | exact St.rows st 2 rfl | exact St.rows st 3 rfl | fail)
      | (with_reducible apply exr5; case h => first | exact St.rows st 0 rfl | exact St.rows st 1 rfl | exact St.rows st 2 rfl | exact St.rows st 3 rfl | fail)
      | (with_reducible apply exr6; case h => first | exact St.rows st 0 rfl | exact St.rows st 1 rfl | exact St.rows st 2 rfl | exact St.rows st 3 rfl | fail)
      | (with_reducible apply exWr; case h => first | exact St.wr st 0 rfl rfl | exact St.wr st 1 rfl rfl | exact St.wr st 2 rfl rfl | exact St.wr st 3 rfl rfl | fail)
      | (with_reducible apply exWrRow; case h => first | exact St.wrRow st 0 rfl rfl rfl | exact St.wrRow st 1 rfl rfl rfl | exact St.wrRow st 2 rfl rfl rfl | exact St.wrRow st 3 rfl rfl rfl | fail)
      | (with_reducible refine LetW.cell ?_; (first | refine St.store st 0 rfl ?_ | refine St.store st 1 rfl ?_ | refine St.store st 2 rfl ?_ | refine St.store st 3 rfl ?_ | fail); (try clear st); intro w st; simp only [List.set] at st)
      | (with_reducible refine LetW.rows ?_; (first | refine St.storeRow st 0 rfl ?_ | refine St.storeRow st 1 rfl ?_ | refine St.storeRow st 2 rfl ?_ | refine St.storeRow st 3 rfl ?_ | fail); (try clear st); intro w st; simp only [List.set, setsL] at st)
      | ((with_reducible apply exr4); case h => first | exact St.rowAt st 0 rfl rfl | exact St.rowAt st 1 rfl rfl | exact St.rowAt st 2 rfl rfl | exact St.rowAt st 3 rfl rfl | fail)
      | ((with_reducible apply exr5); case h => first | exact St.rowAt st 0 rfl rfl | exact St.rowAt st 1 rfl rfl | exact St.rowAt st 2 rfl rfl | exact St.rowAt st 3 rfl rfl | fail)
      | ((with_reducible apply exr6); case h => first | exact St.rowAt st 0 rfl rfl | exact St.rowAt st 1 rfl rfl | exact St.rowAt st 2 rfl rfl | exact St.rowAt st 3 rfl rfl | fail)
      | with_reducible refine LetI.id (by omega) (by omega) ?_
      | fail
    refine ⟨?_, st.kp⟩
    rw [if_pos hok, decide_eq_true (show (1 ≤ f.kind ∧ f.kind ≤ 12) ∧ restOk f from ⟨by omega, fun _ => by omega, fun _ => hok, fun _ => by omega, fun _ => by omega⟩)]
    simp only [mk_append, encR, List.append_assoc]
  rw [if_neg h2]
  refine Br.eqi (fun h4 => ?_) (fun h4 => ?_)
  · rw [if_pos h4]
    have hno : ¬ okE f.ent → ∀ w, Kp No w0 w → Ending.returned (Value.tuple #[Value.string ⟨#[]⟩, Value.bool false]) = Ending.returned (Value.tuple #[Value.string (mk (if okE f.ent then encE f.ent else [])), Value.bool (decide ((1 ≤ f.kind ∧ f.kind ≤ 12) ∧ restOk f))]) ∧ Kp No w0 w := by
      intro h w hk
      rw [if_neg h, decide_eq_false (fun hh => h (hh.2.2.2.1 h4))]
      exact ⟨rfl, hk⟩
    refine ⟨_, _, _, _, st.rowAt 0 rfl rfl, ?_⟩
    refine Pu.go (roput_pu f.ent.op) st ?_; clear st; intro w st
    refine ⟨_, _, rfl, Br.nei (fun h5 => hno (fun hh => h5 ((chk0 _).2 hh.1)) _ st.kp) (fun h5 => ?_)⟩
    refine ⟨_, st.cell 0 rfl rfl, _, st.cell 0 rfl rfl, _, st.cell 0 rfl rfl, ?_⟩
    refine Pu.go (rgood3_pu _ _ _) st ?_; clear st; intro w st
    refine ⟨_, rfl, Br.not (Br.dec (fun h6 => ?_) (fun h6 => hno (fun hh => h6 hh.2) _ st.kp))⟩
    have hc := (chk0 _).1 h5
    have hok : okE f.ent := ⟨hc, h6⟩
    have a1 : (mk (encI f.ent.idx)).size ≤ 9 := encI_len _
    have a2 : (mk (encI f.ent.cl)).size ≤ 9 := encI_len _
    have a3 : (mk (encI f.ent.sq)).size ≤ 9 := encI_len _
    have a4 : (mk (putO f.ent.op).1).size ≤ 116 := putO_le _
    repeat' first
      | (with_reducible refine St.alloc st ?_; (try clear st); intro b w st)
      | with_reducible refine sz_and (by (repeat rw [ByteArray.size_append]); omega) ?_
      | (refine Pu.go (rint_pu _) st ?_; (try clear st); intro w st; refine ⟨_, rfl, ?_⟩)
      | (with_reducible apply ex0c; case h => first | exact St.cell st 0 rfl rfl | exact St.cell st 1 rfl rfl | exact St.cell st 2 rfl rfl | exact St.cell st 3 rfl rfl | fail)
      | (with_reducible apply ex1c; case h => first | exact St.cell st 0 rfl rfl | exact St.cell st 1 rfl rfl | exact St.cell st 2 rfl rfl | exact St.cell st 3 rfl rfl | fail)
      | (with_reducible apply ex3c; case h => first | exact St.cell st 0 rfl rfl | exact St.cell st 1 rfl rfl | exact St.cell st 2 rfl rfl | exact St.cell st 3 rfl rfl | fail)
      | (with_reducible apply ex0r; case h => first | exact St.rows st 0 rfl | exact St.rows st 1 rfl | exact St.rows st 2 rfl | exact St.rows st 3 rfl | fail)
      | (with_reducible apply exr2; case h => first | exact St.rows st 0 rfl | exact St.rows st 1 rfl | exact St.rows st 2 rfl | exact St.rows st 3 rfl | fail)
      | (with_reducible apply exr3; case h => first | exact St.rows st 0 rfl | exact St.rows st 1 rfl | exact St.rows st 2 rfl | exact St.rows st 3 rfl | fail)
      | (with_reducible apply exr4; case h => first | exact St.rows st 0 rfl | exact St.rows st 1 rfl | exact St.rows st 2 rfl | exact St.rows st 3 rfl | fail)
      | (with_reducible apply exr5; case h => first | exact St.rows st 0 rfl | exact St.rows st 1 rfl | exact St.rows st 2 rfl | exact St.rows st 3 rfl | fail)
      | (with_reducible apply exr6; case h => first | exact St.rows st 0 rfl | exact St.rows st 1 rfl | exact St.rows st 2 rfl | exact St.rows st 3 rfl | fail)
      | (with_reducible apply exWr; case h => first | exact St.wr st 0 rfl rfl | exact St.wr st 1 rfl rfl | exact St.wr st 2 rfl rfl | exact St.wr st 3 rfl rfl | fail)
      | (with_reducible apply exWrRow; case h => first | exact St.wrRow st 0 rfl rfl rfl | exact St.wrRow st 1 rfl rfl rfl | exact St.wrRow st 2 rfl rfl rfl | exact St.wrRow st 3 rfl rfl rfl | fail)
      | (with_reducible refine LetW.cell ?_; (first | refine St.store st 0 rfl ?_ | refine St.store st 1 rfl ?_ | refine St.store st 2 rfl ?_ | refine St.store st 3 rfl ?_ | fail); (try clear st); intro w st; simp only [List.set] at st)
      | (with_reducible refine LetW.rows ?_; (first | refine St.storeRow st 0 rfl ?_ | refine St.storeRow st 1 rfl ?_ | refine St.storeRow st 2 rfl ?_ | refine St.storeRow st 3 rfl ?_ | fail); (try clear st); intro w st; simp only [List.set, setsL] at st)
      | ((with_reducible apply exr4); case h => first | exact St.rowAt st 0 rfl rfl | exact St.rowAt st 1 rfl rfl | exact St.rowAt st 2 rfl rfl | exact St.rowAt st 3 rfl rfl | fail)
      | ((with_reducible apply exr5); case h => first | exact St.rowAt st 0 rfl rfl | exact St.rowAt st 1 rfl rfl | exact St.rowAt st 2 rfl rfl | exact St.rowAt st 3 rfl rfl | fail)
      | ((with_reducible apply exr6); case h => first | exact St.rowAt st 0 rfl rfl | exact St.rowAt st 1 rfl rfl | exact St.rowAt st 2 rfl rfl | exact St.rowAt st 3 rfl rfl | fail)
      | with_reducible refine LetI.id (by omega) (by omega) ?_
      | fail
    refine ⟨?_, st.kp⟩
    rw [if_pos hok, decide_eq_true (show (1 ≤ f.kind ∧ f.kind ≤ 12) ∧ restOk f from ⟨by omega, fun _ => by omega, fun _ => by omega, fun _ => hok, fun _ => by omega⟩), putO_of hc]
    simp only [mk_append, encE, List.append_assoc]
  rw [if_neg h4]
  refine Br.eqi (fun h8 => ?_) (fun h8 => ?_)
  · refine ⟨_, _, _, _, _, st.rowAt 0 rfl rfl, ?_⟩
    refine Pw.go (rcput_pw (c := f.ch) (hM.no st.kp) rfl) st ?_; clear st; intro w st
    refine ⟨_, _, rfl, ?_, st.kp⟩
    rw [if_pos h8]
    refine congrArg (fun b => Ending.returned (Value.tuple #[Value.string (mk (putC f.ch).1), Value.bool b])) ?_
    show decide ((putC f.ch).2 = 0) = _
    rw [decide_eq_decide, chkc0]
    exact ⟨fun h => ⟨by omega, fun _ => by omega, fun _ => by omega, fun _ => by omega, fun _ => h⟩, fun h => h.2.2.2.2 h8⟩
  · rw [if_neg h8]
    have hro : restOk f := ⟨fun h => absurd h h1, fun h => absurd h h2, fun h => absurd h h4, fun h => absurd h h8⟩
    refine ⟨_, st.cell 0 rfl rfl, Br.dec (fun h9 => ?_) (fun h9 => ?_)⟩
    · refine ⟨_, st.cell 0 rfl rfl, ?_, st.kp⟩
      refine congrArg (fun b => Ending.returned (Value.tuple #[Value.string (mk []), Value.bool b])) ?_
      rw [decide_eq_decide]
      exact ⟨fun h => ⟨⟨h9, h⟩, hro⟩, fun h => h.1.2⟩
    · refine ⟨?_, st.kp⟩
      rw [decide_eq_false (fun hh => h9 hh.1.1)]
      rfl
set_option maxRecDepth 100000 in
set_option maxHeartbeats 2000000 in
theorem rfput_pw {w0 : World} {f : Frm} {k : Nat} {p : Option Addr} (hM : MemAt w0 p f.ch.mem) (hl : f.res.val.length ≤ 1000000) :
    Pw Try.prog 80 #[frmV f p k] (.tuple #[.string (mk (putF f).1), .int .i64 (putF f).2]) w0 := by
  have st : St No w0 w0 [] := St.start w0
  refine rfput_ok _ _ _ _ _ _ _ _ _ _ _ _ _ _ _ _ _ _ _ _ _ _ _ _ _ _ _ _ _ _ _ _ _ ?_
  unfold rfput
  have hno : ¬ mayF f → ∀ w, Kp No w0 w → (fun (e : Ending) w' => e = Ending.returned (Value.tuple #[Value.string (mk (putF f).1), Value.int IntKind.i64 (putF f).2]) ∧ Kp No w0 w') (Ending.returned (Value.tuple #[Value.string { data := #[] }, Value.int IntKind.i64 2])) w := by
    intro h w hk
    have e : putF f = ([], 2) := by unfold putF; rw [if_pos h]
    rw [e]
    exact ⟨rfl, hk⟩
  refine St.alloc st ?_; clear st; intro bf w st
  refine ⟨_, _, _, _, _, _, _, _, _, _, _, _, _, _, _, _, _, _, _, _, _, _, _, _, _, _, _, _, _, _, _, st.rowAt 0 rfl rfl, ?_⟩
  obtain ⟨t, ht1, ht2, hp⟩ := rbehind_pw (k := k) (hM.no st.kp) hl
  have a5 : (mk t).size ≤ 2000000 := by rw [mk_size]; exact ht2
  refine Pw.go hp st ?_; clear st hp; intro w st
  refine ⟨_, _, rfl, Br.not (Br.dec (fun h4 => ?_) (fun h4 => hno (fun h => h4 ⟨h.1, h.2.2⟩) _ st.kp))⟩
  refine ⟨_, st.cell 0 rfl rfl, ?_⟩
  refine Pu.go (rint_pu f.kind) st ?_; clear st; intro w st
  refine ⟨_, rfl, _, st.cell 0 rfl rfl, ?_⟩
  refine Pu.go (rhas_pu f.kind) st ?_; clear st; intro w st
  refine ⟨_, rfl, ?_⟩
  have hlen := numsF_len f.kind
  have esz : (mk ((numsF f.kind).map letF)).size = (numsF f.kind).length := by rw [mk_size, List.length_map]
  refine ⟨fun q v w' => ∃ j : Nat, v = [.string ⟨#[]⟩, .int .i64 0, .string (mk (encI f.kind ++ flatF f ((numsF f.kind).take j))), .int .i64 (j : Int)] ∧ q = (numsF f.kind).length - j ∧ j ≤ (numsF f.kind).length ∧ (∀ i ∈ (numsF f.kind).take j, goodN (f.nums i)) ∧ St No w0 w' [frmB bf f p k], ⟨_, 0, by simp [flatF], rfl, by omega, by simp, st⟩, ?_⟩
  clear st
  rintro _ _ _ _ _ w ⟨j, hv, rfl, hj, hg, st⟩
  obtain ⟨rfl, rfl, rfl, rfl⟩ : _ ∧ _ ∧ _ ∧ _ := by simpa using hv
  clear hv
  have a1 : (mk (encI f.kind ++ flatF f ((numsF f.kind).take j))).size ≤ 1000 := by
    have h1 := encI_len f.kind
    have h2 := flat_len f ((numsF f.kind).take j)
    rw [List.length_take] at h2
    rw [mk_size, List.length_append]; omega
  refine Br.dec (fun h3 => ?_) (fun h3 => ?_)
  · have hjl : j < (numsF f.kind).length := by omega
    have hi := numsF_lt (List.getElem_mem hjl)
    have ht := flat_take (f := f) hjl
    have hlet : (mk ((numsF f.kind).map letF)).data.getD (j : Int).toNat 0 = letF (numsF f.kind)[j] := by
      rw [mk_getD, Int.toNat_natCast, List.getD_eq_getElem?_getD, List.getElem?_map, List.getElem?_eq_getElem hjl]; rfl
    refine ⟨_, _, _, _, _, _, _, _, _, _, _, _, _, _, _, _, _, _, _, _, _, _, _, _, _, _, _, _, _, _, _, st.rowAt 0 rfl rfl, ⟨by omega, by omega⟩, ?_⟩
    rw [hlet]
    refine Pu.go (rnumber_pu hi f p k) st ?_; clear st; intro w st
    refine ⟨_, rfl, ?_⟩
    refine Pu.go (rgood3_pu _ _ _) st ?_; clear st; intro w st
    refine ⟨_, rfl, Br.not (Br.dec (fun h5 => ?_) (fun h5 => ?_))⟩
    · have a4 : (mk (encI (f.nums (numsF f.kind)[j]))).size ≤ 9 := encI_len _
      refine Pu.go (rint_pu _) st ?_; clear st; intro w st
      refine ⟨_, rfl, sz_and (by omega) (LetI.id (by omega) (by omega) ⟨_, by omega, j + 1, ?_, rfl, by omega, ?_, st⟩)⟩
      · rw [ht]
        simp [mk_append]
      · rw [List.take_succ_eq_append_getElem hjl]
        intro i hi'
        rcases List.mem_append.1 hi' with h | h
        · exact hg i h
        · rw [List.mem_singleton.1 h]; exact h5.1
    · exact hno (fun h => h5 ⟨h.2.1 _ (List.getElem_mem hjl), by unfold goodN; omega, by unfold goodN; omega⟩) _ st.kp
  · obtain rfl : j = (numsF f.kind).length := by omega
    rw [List.take_length] at hg a1 ⊢
    have hm : mayF f := ⟨h4.1, hg, h4.2⟩
    have he : encF f = encI f.kind ++ flatF f (numsF f.kind) ++ t := by rw [ht1 h4.2]; rfl
    have hs : (mk (encI f.kind ++ flatF f (numsF f.kind))).size + (mk t).size = (encF f).length := by rw [he, List.length_append]; rfl
    refine sz_and (by omega) (Br.dec (fun h5 => ?_) (fun h5 => ?_))
    · rw [ByteArray.size_append] at h5
      have e : putF f = ([], 3) := by unfold putF; rw [if_neg (fun hh : ¬ mayF f => hh hm), if_pos (by omega)]
      rw [e]
      exact ⟨rfl, st.kp⟩
    · rw [ByteArray.size_append] at h5
      refine sz_and (by omega) ⟨?_, st.kp⟩
      rw [putF_eq hm (by omega), he, mk_append]
end Go.Proofs.Ytbdhdjbdooccoaa

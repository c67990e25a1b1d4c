/- Several texts in one. -/
import Derived.Test.YtomhgoahhlnjpaaGreatDoorRfU
import Derived.Test.YtomhgoahhlnjpaaGreatDoorWnE
import Derived.Test.YtomhgoahhlnjpaaGreatDoorWals
/- The log on any disk: what begins a file, and the answers of the disk told as errors. -/
namespace Go.Proofs.YtomhgoahhlnjpaaGreatDoor.Pl
open Go.RowKit Go.Maps Go.Sort Go.Proofs.YtomhgoahhlnjpaaGreatDoorW.PrintWords Go.Proofs.YtomhgoahhlnjpaaGreatDoor.PRef Go.Proofs.YtomhgoahhlnjpaaGreatDoor.Dk Go.Proofs.YtomhgoahhlnjpaaGreatDoor.Rf Go.Proofs.YtomhgoahhlnjpaaGreatDoor.WalN

abbrev nLog : ByteArray := ⟨#[108, 111, 103]⟩
theorem Gl.low {p : Value} {B : Nat} {w w' : World} (h : Gl p w) (hb : Below B w w') (hB : 1 < B) : Gl p w' :=
  ⟨(hb.cell (p := ⟨0, 0, none⟩) (by show 0 < B; omega)).trans h.fine, (hb.cell (p := ⟨1, 0, none⟩) hB).trans h.et⟩
/-- an answer of the disk's as an error -/
def errV (p : Addr) (e : Int) : Value := if e = 0 then .iface 197 (.pointer (some p)) else .iface 125 (.agg #[.int .i64 e])
theorem asked_any {p : Addr} {w : World} (h : Gl (.pointer (some p)) w) (e : Int) : Calls Tryz.prog 33 #[.int .i64 e] w fun ev w' => ev = .returned (errV p e) ∧ w' = w := by
  unfold errV
  by_cases he : e = 0
  · subst he
    rw [if_pos rfl]
    exact asked_ok h
  · rw [if_neg he]
    exact asked_no he w
theorem code_any {p : Addr} {w : World} (h : Gl (.pointer (some p)) w) (e : Int) : Calls Tryz.prog 32 #[errV p e] w fun ev w' => ev = .returned (.int .i64 e) ∧ Below w.heap.size w w' := by
  unfold errV
  by_cases he : e = 0
  · subst he
    rw [if_pos rfl]
    exact code_fine h
  · rw [if_neg he]
    exact code_refused h e
def begunD (S : DS) : DS × ByteArray × Int :=
  if (S.read nLog).2 = 20 then
    (if (S.write nLog ⟨#[]⟩).2.2 = 0 then ((S.write nLog ⟨#[]⟩).1.syncNames.1, ⟨#[]⟩, (S.write nLog ⟨#[]⟩).1.syncNames.2) else ((S.write nLog ⟨#[]⟩).1, ⟨#[]⟩, (S.write nLog ⟨#[]⟩).2.2))
  else (S, (S.read nLog).1, (S.read nLog).2)
section
variable {X : List (Nat × Obj)} {B : Nat} {w w' : World} {d m : Nat} {S : DS} {R : RS} {φ : List Nat} {n : Nat} {p : Addr}


set_option maxRecDepth 100000 in
set_option maxHeartbeats 1000000 in
theorem begun_two (h : Two X B w d m S R) (hF : Fit S R φ n) (hn : n + 10 ≤ 8388608) (hG : Gl (.pointer (some p)) w) (h1 : 1 < B) :
    Calls Tryz.prog 31 #[.pointer (some ⟨d, 0, none⟩), .string nLog] w fun ev w' => ev = .returned (.tuple #[.string (begunD S).2.1, errV p (begunD S).2.2]) ∧ Two X B w' d m (begunD S).1 R ∧ Below B w w' := by
  have H := Aside0.mk h
  have HG := Aside0.mk hG
  have H1 := Aside0.mk h1
  have HR := Aside0.mk (read_two h nLog (by decide))
  unfold begunD
  obtain ⟨z, e1, hr⟩ : ∃ z e1, S.read nLog = (z, e1) := ⟨_, _, rfl⟩
  rw [hr] at HR ⊢
  have CA : Aside0 (∀ {w1 : World} (e : Int), Below B w w1 → Calls Tryz.prog 33 #[.int .i64 e] w1 fun ev w' => ev = .returned (errV p e) ∧ w' = w1) := ⟨fun e hb => asked_any (Gl.low HG.out hb H1.out) e⟩
  by_cases he : e1 = 20
  · subst he
    simp only [if_true]
    obtain ⟨φ', hs, hw⟩ := write_sim hF.sim nLog ⟨#[]⟩
    have hS : SmallS (S.write nLog ⟨#[]⟩).1 (n + 5) := (hF.s.write nLog ⟨#[]⟩).mono (by show n + 3 + 0 + 2 ≤ n + 5; omega)
    have hR : SmallR (R.writeR nLog ⟨#[]⟩).1 (n + 5) := (hF.r.write nLog ⟨#[]⟩).mono (by show n + 0 + 2 ≤ n + 5; omega)
    have hF2 : Fit (S.write nLog ⟨#[]⟩).1 (R.writeR nLog ⟨#[]⟩).1 φ' (n + 5) := ⟨hs, hS, hR, by omega⟩
    have HW := Aside0.mk (write_two h hF nLog ⟨#[]⟩ (by decide) (by decide))
    have CN : Aside0 (∀ {w1 : World}, Two X B w1 d m (S.write nLog ⟨#[]⟩).1 R → Calls Tryz.prog 52 #[.pointer (some ⟨d, 0, none⟩)] w1 fun e w' => e = .returned (.int .i64 (S.write nLog ⟨#[]⟩).1.syncNames.2) ∧ Two X B w' d m (S.write nLog ⟨#[]⟩).1.syncNames.1 R ∧ Below B w1 w') := ⟨fun h2 => syncNames_two h2 hF2⟩
    obtain ⟨S1, k1, we, hp⟩ : ∃ S1 k1 we, S.write nLog ⟨#[]⟩ = (S1, k1, we) := ⟨_, _, _, rfl⟩
    rw [hp] at HW CN ⊢
    clear h hF hn hG h1 hr hs hw hS hR hF2 hp
    by_cases hwe : we = 0
    · subst hwe
      simp only [if_true]
      go_enter Tryz.func31, Tryz.ntmps31
      go_wp2_with (first
        | (go_at_call 8; (with_reducible refine (HR.out).mono ?_); rintro e w1 ⟨rfl, rfl⟩)
        | (go_at_call 42; (with_reducible refine (HW.out).mono ?_); rintro e w2 ⟨rfl, hT, hB⟩; have H2 := Aside0.mk hT; have B2 := Aside0.mk hB; clear hT hB)
        | (go_at_call 52; (with_reducible refine (CN.out H2.out).mono ?_); rintro e w3 ⟨rfl, hT, hB⟩; have H3 := Aside0.mk hT; have B3 := Aside0.mk (B2.out.trans hB); clear hT hB)
        | (go_at_call 33; (with_reducible refine (CA.out _ B3.out).mono ?_); rintro e wx ⟨rfl, rfl⟩)
        | go_in)
      go_ret2
      exact ⟨rfl, H3.out, B3.out⟩
    · have hz : (we == 0) = false := by simpa using hwe
      simp only [if_neg hwe]
      go_enter Tryz.func31, Tryz.ntmps31
      go_wp2_with (first
        | (go_at_call 8; (with_reducible refine (HR.out).mono ?_); rintro e w1 ⟨rfl, rfl⟩)
        | (go_at_call 42; (with_reducible refine (HW.out).mono ?_); rintro e w2 ⟨rfl, hT, hB⟩; have H2 := Aside0.mk hT; have B2 := Aside0.mk hB; clear hT hB)
        | (go_at_call 33; (with_reducible refine (CA.out _ B2.out).mono ?_); rintro e wx ⟨rfl, rfl⟩)
        | go_in)
      go_ret2
      exact ⟨rfl, H2.out, B2.out⟩
  · have hz : (e1 == 20) = false := by simpa using he
    simp only [if_neg he]
    clear h hF hn hG h1 hr he
    go_enter Tryz.func31, Tryz.ntmps31
    go_wp2_with (first
      | (go_at_call 8; (with_reducible refine (HR.out).mono ?_); rintro e w1 ⟨rfl, rfl⟩)
      | (go_at_call 33; (with_reducible refine (CA.out _ (Below.refl _ _)).mono ?_); rintro e wx ⟨rfl, rfl⟩)
      | go_in)
    go_ret2
    exact ⟨rfl, H.out, Below.refl _ _⟩
end
end Go.Proofs.YtomhgoahhlnjpaaGreatDoor.Pl

/- Open of both logs, in plain Lean: what is alike. -/
namespace Go.Proofs.YtomhgoahhlnjpaaGreatDoor.Pl
open Go.RowKit Go.Maps Go.Sort Go.Proofs.YtomhgoahhlnjpaaGreatDoorW.PrintWords Go.Proofs.YtomhgoahhlnjpaaGreatDoor.PRef Go.Proofs.YtomhgoahhlnjpaaGreatDoor.Dk Go.Proofs.YtomhgoahhlnjpaaGreatDoor.Rf Go.Proofs.YtomhgoahhlnjpaaGreatDoor.WalN

/-- the document's: has, Write, SyncNames, Read -/
def begunR (R : RS) : RS × ByteArray × Int :=
  if findI R.now nLog < 0 then
    (if (R.writeR nLog ⟨#[]⟩).2.2 = 0 then
      (if (R.writeR nLog ⟨#[]⟩).1.syncNamesR.2 = 0 then ((R.writeR nLog ⟨#[]⟩).1.syncNamesR.1, ((R.writeR nLog ⟨#[]⟩).1.syncNamesR.1.readR nLog).1, ((R.writeR nLog ⟨#[]⟩).1.syncNamesR.1.readR nLog).2)
       else ((R.writeR nLog ⟨#[]⟩).1.syncNamesR.1, ⟨#[]⟩, (R.writeR nLog ⟨#[]⟩).1.syncNamesR.2))
     else ((R.writeR nLog ⟨#[]⟩).1, ⟨#[]⟩, (R.writeR nLog ⟨#[]⟩).2.2))
  else (R, (R.readR nLog).1, (R.readR nLog).2)
variable {S : DS} {R : RS} {φ : List Nat} {n : Nat}
theorem log_ne : nLog.toList.isEmpty = false := by rw [toList_data]; rfl
/-- what is read behind a Write of nothing to a name that was none -/
theorem write_read (h : Sim S R φ) (hf : S.find nLog = none) (he : (S.write nLog ⟨#[]⟩).2.2 = 0) : (S.write nLog ⟨#[]⟩).1.read nLog = (⟨#[]⟩, 0) := by
  obtain ⟨φ', hs, hw⟩ := write_sim h nLog ⟨#[]⟩
  have hf1 : S.step.1.find nLog = none := by rw [step_find]; exact hf
  have hstep : S.step.2.2 = 0 := by
    unfold DS.write at he
    rw [if_neg (by rw [log_ne]; decide)] at he
    by_cases q : S.step.2.2 = 0
    · exact q
    · rw [if_neg q] at he
      split at he
      · exact absurd he q
      · exact absurd he q
  have e : (S.write nLog ⟨#[]⟩).1 = { S.step.1 with D := S.step.1.D.put (keyL nLog) (refD (some S.step.1.fs.length)), puts := S.step.1.puts + 1, fs := S.step.1.fs ++ [((⟨#[]⟩ : ByteArray) ++ ⟨#[]⟩, 0)], opn := S.step.1.opn ++ [⟨⟨#[]⟩, nLog, none, 0⟩] } := by
    unfold DS.write
    rw [if_neg (by rw [log_ne]; decide), if_pos hstep]
    unfold DS.lay
    rw [hf1]
  have s1 := (step_sim h).1
  have hfind : (S.write nLog ⟨#[]⟩).1.find nLog = some S.step.1.fs.length := by
    rw [e]
    have := (s1.rep.put nLog S.step.1.fs.length).find nLog
    rw [upd_same] at this
    exact this
  have hk : (S.write nLog ⟨#[]⟩).1.known nLog = 0 := by
    unfold DS.known
    rw [if_neg (by rw [log_ne]; decide), hfind]
  unfold DS.read
  rw [if_pos hk, hfind]
  have hfs : (S.write nLog ⟨#[]⟩).1.fs = S.step.1.fs ++ [((⟨#[]⟩ : ByteArray) ++ ⟨#[]⟩, 0)] := by rw [e]
  show ((((S.write nLog ⟨#[]⟩).1.fs).getD S.step.1.fs.length (⟨#[]⟩, 0)).1, (0 : Int)) = _
  rw [hfs, List.getD_eq_getElem?_getD, List.getElem?_append_right (Nat.le_refl _), Nat.sub_self]
  rfl
theorem syncNames_read (T : DS) : T.syncNames.1.read nLog = T.read nLog := by
  have h1 : T.syncNames.1.D = T.D := by
    unfold DS.syncNames DS.step
    split <;> split <;> (try split) <;> rfl
  have h2 : T.syncNames.1.fs = T.fs := by
    unfold DS.syncNames DS.step
    split <;> split <;> (try split) <;> rfl
  unfold DS.read DS.known DS.find
  rw [h1, h2]
/-- both begin alike -/
theorem begun_sim (h : Sim S R φ) : ∃ φ', Sim (begunD S).1 (begunR R).1 φ' ∧ (begunD S).2 = (begunR R).2 := by
  obtain ⟨ha, hb⟩ := asked_sim h nLog
  have hrd := read_sim h nLog
  unfold begunD begunR
  by_cases hf : findI R.now nLog < 0
  · have hl : Rf.look R.now nLog = none := by
      rw [findI_look h.nowOk] at hf
      cases q : Rf.look R.now nLog with
      | none => rfl
      | some j => rw [q] at hf; exact absurd hf (by show ¬ (j : Int) < 0; omega)
    have hfn : S.find nLog = none := by rw [h.find, hl]; rfl
    have hr20 : (S.read nLog).2 = 20 := by
      unfold DS.read DS.known
      rw [if_neg (show ¬ (nLog.toList.isEmpty = true) by rw [log_ne]; decide), hfn]
      rfl
    rw [if_pos hr20, if_pos hf]
    obtain ⟨φ', hs, hw⟩ := write_sim h nLog ⟨#[]⟩
    have hw2 : (S.write nLog ⟨#[]⟩).2.2 = (R.writeR nLog ⟨#[]⟩).2.2 := by rw [hw]
    rw [hw2]
    by_cases he : (R.writeR nLog ⟨#[]⟩).2.2 = 0
    · rw [if_pos he, if_pos he]
      obtain ⟨hs2, hn2⟩ := syncNames_sim hs
      rw [hn2]
      by_cases he2 : (R.writeR nLog ⟨#[]⟩).1.syncNamesR.2 = 0
      · rw [if_pos he2]
        have hrr := read_sim hs2 nLog
        rw [syncNames_read, write_read h hfn (by rw [hw2]; exact he)] at hrr
        rw [← hrr]
        exact ⟨φ', hs2, by rw [he2]⟩
      · rw [if_neg he2]
        exact ⟨φ', hs2, rfl⟩
    · rw [if_neg he, if_neg he]
      exact ⟨φ', hs, rfl⟩
  · have hr20 : (S.read nLog).2 ≠ 20 := by
      rw [hrd]
      unfold RS.readR RS.askedR
      rw [if_neg (show ¬ (nLog.toList.isEmpty = true) by rw [log_ne]; decide), if_neg hf]
      show (0 : Int) ≠ 20
      decide
    rw [if_neg hr20, if_neg hf, hrd]
    exact ⟨φ, h, rfl⟩
end Go.Proofs.YtomhgoahhlnjpaaGreatDoor.Pl

/- Open of both logs, in plain Lean: the whole. -/
namespace Go.Proofs.YtomhgoahhlnjpaaGreatDoor.Pl
open Go.RowKit Go.Maps Go.Sort Go.Proofs.YtomhgoahhlnjpaaGreatDoorW.PrintWords Go.Proofs.YtomhgoahhlnjpaaGreatDoor.PRef Go.Proofs.YtomhgoahhlnjpaaGreatDoor.Dk Go.Proofs.YtomhgoahhlnjpaaGreatDoor.Rf Go.Proofs.YtomhgoahhlnjpaaGreatDoor.WalN Go.Proofs.YtomhgoahhlnjpaaGreatDoor.PWal Go.Proofs.YtomhgoahhlnjpaaGreatDoor.WalB

def cutD (S : DS) (s : List S61 × Int × Int) : DS × Int := if s.2.2 = 91 then S.cut nLog s.2.1 else (S, 0)
def cutR (R : RS) (s : List S61 × Int × Int) : RS × Int := if s.2.2 = 91 then R.cutR nLog s.2.1 else (R, 0)
def endD (C : DS × Int) (s : List S61 × Int × Int) : DS × Option (List S61 × Int) × Int :=
  if C.2 = 0 then (if (C.1.sync nLog).2 = 0 then ((C.1.sync nLog).1, some (s.1, s.2.1), 0) else ((C.1.sync nLog).1, none, (C.1.sync nLog).2)) else (C.1, none, C.2)
def endR (C : RS × Int) (s : List S61 × Int × Int) : RS × Option (List S61 × Int) × Int :=
  if C.2 = 0 then (if (C.1.syncR nLog).2 = 0 then ((C.1.syncR nLog).1, some (s.1, s.2.1), 0) else ((C.1.syncR nLog).1, none, (C.1.syncR nLog).2)) else (C.1, none, C.2)
def openD (S : DS) : DS × Option (List S61 × Int) × Int :=
  if (begunD S).2.2 = 0 then (if (SCAN (begunD S).2.1).2.2 = 90 then ((begunD S).1, none, 90) else endD (cutD (begunD S).1 (SCAN (begunD S).2.1)) (SCAN (begunD S).2.1)) else ((begunD S).1, none, (begunD S).2.2)
def openR (R : RS) : RS × Option (List S61 × Int) × Int :=
  if (begunR R).2.2 = 0 then (if (SCAN (begunR R).2.1).2.2 = 90 then ((begunR R).1, none, 90) else endR (cutR (begunR R).1 (SCAN (begunR R).2.1)) (SCAN (begunR R).2.1)) else ((begunR R).1, none, (begunR R).2.2)
variable {S : DS} {R : RS} {φ : List Nat} {n : Nat}
theorem cutD_sim (h : Sim S R φ) (s : List S61 × Int × Int) : Sim (cutD S s).1 (cutR R s).1 φ ∧ (cutD S s).2 = (cutR R s).2 := by
  unfold cutD cutR
  split
  · exact cut_sim h nLog s.2.1
  · exact ⟨h, rfl⟩
theorem endD_sim {C : DS × Int} {D : RS × Int} (h : Sim C.1 D.1 φ) (he : C.2 = D.2) (s : List S61 × Int × Int) : Sim (endD C s).1 (endR D s).1 φ ∧ (endD C s).2 = (endR D s).2 := by
  obtain ⟨h1, h2⟩ := sync_sim h nLog
  unfold endD endR
  rw [← he, ← h2]
  split
  · split
    · exact ⟨h1, rfl⟩
    · exact ⟨h1, rfl⟩
  · exact ⟨h, rfl⟩
/-- Open tells the same of both -/
theorem open_sim (h : Sim S R φ) : ∃ φ', Sim (openD S).1 (openR R).1 φ' ∧ (openD S).2 = (openR R).2 := by
  obtain ⟨φ', hs, hb⟩ := begun_sim h
  refine ⟨φ', ?_⟩
  unfold openD openR
  rw [← hb]
  split
  · split
    · exact ⟨hs, rfl⟩
    · obtain ⟨h1, h2⟩ := cutD_sim hs (SCAN (begunD S).2.1)
      exact endD_sim h1 h2 _
  · exact ⟨hs, rfl⟩
theorem begunD_small (h : SmallS S n) : SmallS (begunD S).1 (n + 6) := by
  have hw : SmallS (S.write nLog ⟨#[]⟩).1 (n + 5) := (h.write nLog ⟨#[]⟩).mono (by show n + 3 + 0 + 2 ≤ n + 5; omega)
  unfold begunD
  split
  · split
    · exact hw.syncNames
    · exact hw.mono (by omega)
  · exact h.mono (by omega)
theorem begunR_small (h : SmallR R n) : SmallR (begunR R).1 (n + 6) := by
  have hw : SmallR (R.writeR nLog ⟨#[]⟩).1 (n + 5) := (h.write nLog ⟨#[]⟩).mono (by show n + 0 + 2 ≤ n + 5; omega)
  unfold begunR
  split
  · split
    · split
      · exact hw.syncNames
      · exact hw.syncNames
    · exact hw.mono (by omega)
  · exact h.mono (by omega)
theorem cutD_small (h : SmallS S n) (s : List S61 × Int × Int) : SmallS (cutD S s).1 (n + 1) := by
  unfold cutD
  split
  · exact h.cut _ _
  · exact h.mono (Nat.le_succ _)
theorem cutR_small (h : SmallR R n) (s : List S61 × Int × Int) : SmallR (cutR R s).1 (n + 1) := by
  unfold cutR
  split
  · exact h.cut _ _
  · exact h.mono (Nat.le_succ _)
theorem openD_small (h : SmallS S n) : SmallS (openD S).1 (n + 8) := by
  have hb := begunD_small h
  have hc := cutD_small hb (SCAN (begunD S).2.1)
  unfold openD endD
  split
  · split
    · exact hb.mono (by omega)
    · split
      · split
        · exact hc.sync _
        · exact hc.sync _
      · exact hc.mono (by omega)
  · exact hb.mono (by omega)
theorem openR_small (h : SmallR R n) : SmallR (openR R).1 (n + 8) := by
  have hb := begunR_small h
  have hc := cutR_small hb (SCAN (begunR R).2.1)
  unfold openR endR
  split
  · split
    · exact hb.mono (by omega)
    · split
      · split
        · exact hc.sync _
        · exact hc.sync _
      · exact hc.mono (by omega)
  · exact hb.mono (by omega)
theorem open_fit (h : Fit S R φ n) (hn : n + 8 ≤ 8388608) : ∃ φ', Fit (openD S).1 (openR R).1 φ' (n + 8) ∧ (openD S).2 = (openR R).2 := by
  obtain ⟨φ', hs, he⟩ := open_sim h.sim
  exact ⟨φ', ⟨hs, openD_small h.s, openR_small h.r, hn⟩, he⟩
end Go.Proofs.YtomhgoahhlnjpaaGreatDoor.Pl

/- Rows of records in memory; a log's block. -/
namespace Go.Proofs.YtomhgoahhlnjpaaGreatDoor.Pl
open Go.RowKit Go.Maps Go.Sort Go.Proofs.YtomhgoahhlnjpaaGreatDoorW.PrintWords Go.Proofs.YtomhgoahhlnjpaaGreatDoor.PRef Go.Proofs.YtomhgoahhlnjpaaGreatDoor.Dk Go.Proofs.YtomhgoahhlnjpaaGreatDoor.Rf Go.Proofs.YtomhgoahhlnjpaaGreatDoor.WalN Go.Proofs.YtomhgoahhlnjpaaGreatDoor.PWal Go.Proofs.YtomhgoahhlnjpaaGreatDoor.WalB

/-- the program's log, in its block -/
def logO (d : Nat) (size last : Int) (broken : Bool) : Obj := .cells #[.pointer (some ⟨d, 0, none⟩), .string nLog, .int .i64 size, .int .i64 last, .bool broken] 85 (0, 0)
/-- the document's -/
def logR (m : Nat) (size last : Int) (broken : Bool) : Obj := .cells #[.pointer (some ⟨m, 0, none⟩), .string nLog, .int .i64 last, .int .i64 size, .bool broken] 53 (0, 0)
def lastOf (l : List S61) : Int := match l.getLast? with | none => 0 | some x => x.f0
theorem c61_move {w w' : World} {A : Option Addr} {n : Nat} {l : List S61} (h : Kd.C k61 w A n l) (hb : ∀ ad, A = some ad → w'.heap[ad.block]? = w.heap[ad.block]?) : Kd.C k61 w' A n l := by
  refine ⟨h.1, h.2.1, fun hn => ?_⟩
  obtain ⟨ad, hA, hc⟩ := h.2.2 hn
  refine ⟨ad, hA, fun j x hx => ?_⟩
  obtain ⟨c, h1, h2, h3⟩ := hc j x hx
  refine ⟨c, h1, ?_, fun i u hu => ?_⟩
  · obtain ⟨a, b, e1, e2, e3⟩ := h2
    exact ⟨a, b, e1, e2, e3⟩
  · have h4 := h3 i u hu
    rw [← h4]
    refine World.cell?_of_block ?_
    have hbk : (ad.add (j * k61.sz + i)).block = ad.block := by unfold Addr.add; split <;> rfl
    rw [hbk]
    exact hb ad hA
/-- the last record's number -/
theorem last_cell {w : World} {A : Option Addr} {l : List S61} {m : Nat} (h : Kd.C k61 w A l.length l) (hm : l.length = m + 1) : ∃ b o, A = some ⟨b, o, none⟩ ∧ w.cell? ⟨b, o + m * 2, none⟩ = some (.int .i64 (lastOf l)) := by
  obtain ⟨ad, hA, hc⟩ := h.2.2 (by omega)
  obtain ⟨x, hx⟩ : ∃ x, l[m]? = some x := ⟨_, List.getElem?_eq_getElem (by omega)⟩
  obtain ⟨c, _, h2, h3⟩ := hc m x hx
  have hc2 := k61_open h2
  have h4 := h3 0 (.int .i64 x.f0) (by rw [hc2]; rfl)
  obtain ⟨x0, hx0⟩ : ∃ x, l[0]? = some x := ⟨_, List.getElem?_eq_getElem (by omega)⟩
  obtain ⟨c0, _, h20, h30⟩ := hc 0 x0 hx0
  have hc0 := k61_open h20
  have h5 := h30 0 (.int .i64 x0.f0) (by rw [hc0]; rfl)
  have hsp : ad.spot = none := by
    have e : ad.add (0 * k61.sz + 0) = ad := by rw [Nat.zero_mul]; simp [Addr.add]
    rw [e] at h5
    cases hs : ad.spot with
    | none => rfl
    | some q =>
      unfold World.cell? at h5
      split at h5
      · rw [hs] at h5; simp at h5
      · cases h5
  obtain ⟨b, o, s⟩ := ad
  simp only at hsp
  subst hsp
  refine ⟨b, o, hA, ?_⟩
  have e2 : (⟨b, o, none⟩ : Addr).add (m * k61.sz + 0) = ⟨b, o + m * 2, none⟩ := by
    rw [Addr.add_lit]
    rfl
  rw [e2] at h4
  have hl : lastOf l = x.f0 := by
    unfold lastOf
    rw [List.getLast?_eq_getElem?, hm, Nat.add_sub_cancel, hx]
  rw [hl]
  exact h4

theorem rows_of {w : World} {base q c : Nat} {A : Option Addr} {l : List S61} (h : Kd.R k61 61 w base (fun _ => True) (.slice A l.length c) l) (hq : l.length = q + 1) : ∃ g cs, A = some ⟨g, 0, none⟩ ∧ base ≤ g ∧ w.heap[g]? = some (.cells cs 61 (0, 0)) := by
  obtain ⟨_, inner, ho, _⟩ := h
  rcases ho.2 with ⟨_, h0⟩ | ⟨g, cap, cur, hv, hb, hg, _⟩
  · omega
  · cases hv
    exact ⟨g, cur, rfl, hb, hg⟩
theorem last_cell' {w : World} {g q : Nat} {l : List S61} (h : Kd.C k61 w (some ⟨g, 0, none⟩) l.length l) (hm : l.length = q + 1) : w.cell? ⟨g, q * 2, none⟩ = some (.int .i64 (lastOf l)) := by
  obtain ⟨b, o, he, hc⟩ := last_cell h hm
  cases he
  rw [Nat.zero_add] at hc
  exact hc

end Go.Proofs.YtomhgoahhlnjpaaGreatDoor.Pl

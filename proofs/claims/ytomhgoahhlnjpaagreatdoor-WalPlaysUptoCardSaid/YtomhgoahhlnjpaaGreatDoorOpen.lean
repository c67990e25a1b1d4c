/- From data that come in (as the rows read them) to the print's words: a slice of structs, strings, numbers that lies in memory reads as a list; what it weighs is bounded by the bulk. -/
import Derived.Test.YtomhgoahhlnjpaaGreatDoorRows
import Derived.Test.YtomhgoahhlnjpaaGreatDoorKw
import Derived.ChangeSame
import Derived.Carry
namespace Go.Proofs.YtomhgoahhlnjpaaGreatDoor.Opens
open Go.RowKit Go.ChangeShapes Go.WideShapes Go.Proofs.YtomhgoahhlnjpaaGreatDoorW.PrintWords

/-- whatever reads as data of type t reads as a value of kind d, no heavier than its bulk, and good -/
structure Opn {α : Type} (P : Program) (t : TypeId) (d : Kd α) (m : α → Nat) (G : α → Prop) : Prop where
  ex : ∀ {H : Type} {enc : TypeId × Value → H} {w : World} {base : Nat} {spare : Nat → Bool} {held : Bool} {fuel : Nat} {cs : List Value} {y : DataW H × List MemPlace},
    DataW.trod enc P w base spare held fuel t cs = some y → ∃ x, d.K w x cs ∧ m x ≤ Rows.uptoBulk y.1 ∧ G x

variable {P : Program} {t : TypeId}
theorem opn_int {k : IntKind} (ht : P.underlying t = some (.int k)) : Opn P t (Kd.int k) (fun _ => 1) (fun x => (Lit.int k x).wf = true) := by
  constructor
  intro H enc w base spare held fuel cs y h
  obtain ⟨n, rfl, rfl, hw⟩ := DataW.trod_int ht h
  exact ⟨n, rfl, by simp [Rows.uptoBulk], hw⟩
theorem opn_bool (ht : P.underlying t = some .bool) : Opn P t Kd.bool (fun _ => 1) (fun _ => True) := by
  constructor
  intro H enc w base spare held fuel cs y h
  obtain ⟨b, rfl, rfl⟩ := DataW.trod_bool ht h
  exact ⟨b, rfl, by simp [Rows.uptoBulk], trivial⟩
theorem opn_string (ht : P.underlying t = some .string) : Opn P t Kd.string (fun s => s.size + 1) (fun _ => True) := by
  constructor
  intro H enc w base spare held fuel cs y h
  obtain ⟨s, rfl, rfl, hw⟩ := DataW.trod_string ht h
  exact ⟨s, rfl, by simp [Rows.uptoBulk], trivial⟩
theorem bulk_pos {H : Type} (d : DataW H) : 1 ≤ Rows.uptoBulk d := by
  cases d with
  | lit l => cases l <;> simp [Rows.uptoBulk]
  | nil => simp [Rows.uptoBulk]
  | ptr d => simp [Rows.uptoBulk]
  | slice elems spare => simp [Rows.uptoBulk]
  | agg parts => simp [Rows.uptoBulk]
  | iface t d => simp [Rows.uptoBulk]
  | map entries => simp [Rows.uptoBulk]
  | held h => simp [Rows.uptoBulk]
/-- the weight of a list -/
def Wt {α : Type} (m : α → Nat) : List α → Nat
  | [] => 0
  | x :: l => m x + Wt m l
theorem cells_get {w : World} {base : Nat} {a : Addr} {n : Nat} {c : List Value} (h : w.cells? base a n = some c) : c.length = n ∧ base ≤ a.block ∧ ∀ i u, c[i]? = some u → w.cell? (a.add i) = some u := by
  unfold World.cells? at h
  split at h
  · rename_i hb
    refine ⟨by simpa using mapM_some_length h, hb, fun i u hu => ?_⟩
    have hi : i < n := by
      have := (List.getElem?_eq_some_iff.1 hu).1
      have hl := mapM_some_length h
      simp at hl
      omega
    have hg := mapM_some_get h i i (by simp [hi])
    rw [hu] at hg
    exact hg
  · cases h
theorem cells_at {a : Addr} {k size : Nat} (i : Nat) : (a.add (k * size)).add i = a.add (k * size + i) := by
  unfold Addr.add
  by_cases h1 : k * size = 0 <;> by_cases h2 : i = 0 <;> simp [h1, h2, Nat.add_assoc]
theorem list_of {α : Type} {Q : Nat → α → Prop} : ∀ n : Nat, (∀ i, i < n → ∃ x, Q i x) → ∃ xs : List α, xs.length = n ∧ ∀ i x, xs[i]? = some x → Q i x
  | 0, _ => ⟨[], rfl, fun i x h => by simp at h⟩
  | n + 1, h => by
    obtain ⟨xs, hl, hq⟩ := list_of n (fun i hi => h i (by omega))
    obtain ⟨x, hx⟩ := h n (by omega)
    refine ⟨xs ++ [x], by simp [hl], fun i y hy => ?_⟩
    by_cases hi : i < n
    · rw [List.getElem?_append_left (by omega)] at hy
      exact hq i y hy
    · have hin : i = n := by
        have := (List.getElem?_eq_some_iff.1 hy).1
        simp [hl] at this
        omega
      subst hin
      rw [List.getElem?_append_right (by omega), hl] at hy
      simp at hy
      subst hy
      exact hx
theorem wt_le {α H : Type} {m : α → Nat} : ∀ (xs : List α) (es : List (DataW H × List MemPlace)), xs.length = es.length → (∀ (i : Nat) (x : α) (y : DataW H × List MemPlace), xs[i]? = some x → es[i]? = some y → m x ≤ Rows.uptoBulk y.1) → Wt m xs ≤ Rows.uptoBulkAll (es.map (·.1))
  | [], [], _, _ => by simp [Wt, Rows.uptoBulkAll]
  | [], _ :: _, h, _ => by simp at h
  | _ :: _, [], h, _ => by simp at h
  | x :: xs, y :: es, hl, h => by
    have h0 := h 0 x y rfl rfl
    have hr := wt_le (m := m) xs es (by simpa using hl) (fun i x' y' hx hy => h (i + 1) x' y' (by simpa using hx) (by simpa using hy))
    simp only [Wt, List.map_cons, Rows.uptoBulkAll]
    omega
theorem bulkAll_append {H : Type} (l r : List (DataW H)) : Rows.uptoBulkAll (l ++ r) = Rows.uptoBulkAll l + Rows.uptoBulkAll r := by
  induction l with
  | nil => simp [Rows.uptoBulkAll]
  | cons x l ih => simp only [List.cons_append, Rows.uptoBulkAll, ih]; omega
theorem opn_slice {α : Type} {e : TypeId} {d : Kd α} {m : α → Nat} {G : α → Prop} (ht : P.underlying t = some (.slice e)) (hd : Opn P e d m G) (hc : P.cellsOf e = d.sz) :
    Opn P t (Kd.slice e d) (fun xs => Wt m xs + 1) (fun xs => ∀ x ∈ xs, G x) := by
  constructor
  intro H enc w base spare held fuel cs y h
  rcases DataW.trod_slice ht h with ⟨rfl, rfl⟩ | ⟨a, len, cap, elems, rest, n, _, rfl, rfl, hb, hl, hm, hlen, hel, hsp, hns⟩
  · exact ⟨[], ⟨none, 0, rfl, by simp, ⟨by simp, by simp, fun h => absurd h (by simp)⟩⟩, by simp [Wt, Rows.uptoBulk], fun _ h => by cases h⟩
  · have each : ∀ i, i < len → ∃ x : α, (∃ c, c.length = d.sz ∧ d.K w x c ∧ ∀ j u, c[j]? = some u → w.cell? (a.add (i * d.sz + j)) = some u) ∧ (∀ y, elems[i]? = some y → m x ≤ Rows.uptoBulk y.1) ∧ G x := by
      intro i hi
      have hy := hel i hi
      obtain ⟨y, hyi⟩ : ∃ y, elems[i]? = some y := ⟨_, List.getElem?_eq_getElem (by omega)⟩
      rw [hyi] at hy
      obtain ⟨c, hcs, htr⟩ := Option.bind_eq_some_iff.1 hy
      obtain ⟨hcl, _, hcc⟩ := cells_get hcs
      obtain ⟨x, hK, hmx, hG⟩ := hd.ex htr
      rw [hc] at hcl hcc
      refine ⟨x, ⟨c, hcl, hK, fun j u hu => ?_⟩, fun y' hy' => ?_, hG⟩
      · rw [← cells_at]
        exact hcc j u hu
      · rw [hyi] at hy'
        injection hy' with hy'
        subst hy'
        exact hmx
    obtain ⟨xs, hxl, hx⟩ := list_of len each
    refine ⟨xs, ⟨some a, cap, by rw [hxl], by omega, ⟨rfl, ?_, fun _ => ⟨a, rfl, fun j p hp => (hx j p hp).1⟩⟩⟩, ?_, fun x hxm => ?_⟩
    · unfold maxLen at hm
      omega
    · have hw := wt_le (m := m) xs elems (by omega) (fun i x y hxi hyi => (hx i x hxi).2.1 y hyi)
      simp only [Rows.uptoBulk]
      omega
    · obtain ⟨i, hi⟩ := List.mem_iff_getElem?.1 hxm
      exact (hx i x hi).2.2

/-- fields one behind the other, from a place on -/
def Consec (P : Program) : Nat → List Field → Prop
  | _, [] => True
  | off, f :: fs => f.offset = off ∧ Consec P (off + P.cellsOf f.type) fs
structure OpnF {α : Type} (P : Program) (fs : List Field) (d : Kd α) (m : α → Nat) (G : α → Prop) : Prop where
  ex : ∀ {H : Type} {enc : TypeId × Value → H} {w : World} {base : Nat} {spare : Nat → Bool} {held : Bool} {n : Nat} {cs : List Value} (off : Nat) (xs : List (DataW H × List MemPlace)),
    xs.length = fs.length → Consec P off fs → (∀ (i : Nat) (f : Field), fs[i]? = some f → DataW.trod enc P w base spare held n f.type ((cs.drop f.offset).take (P.cellsOf f.type)) = xs[i]?) →
      ∃ x, d.K w x ((cs.drop off).take d.sz) ∧ m x ≤ Rows.uptoBulkAll (xs.map (·.1)) ∧ G x
theorem opnF_one {α : Type} {f : Field} {d : Kd α} {m : α → Nat} {G : α → Prop} (h : Opn P f.type d m G) (hc : P.cellsOf f.type = d.sz) : OpnF P [f] d m G := by
  constructor
  intro H enc w base spare held n cs off xs hl hco hf
  obtain ⟨ho, _⟩ := hco
  match xs, hl with
  | [y], _ =>
    have h0 := hf 0 f rfl
    rw [ho, hc] at h0
    obtain ⟨x, hK, hm, hG⟩ := h.ex h0
    exact ⟨x, hK, by simpa [Rows.uptoBulkAll] using hm, hG⟩
theorem opnF_cons {α β : Type} {f : Field} {fs : List Field} {d0 : Kd α} {m0 : α → Nat} {G0 : α → Prop} {d1 : Kd β} {m1 : β → Nat} {G1 : β → Prop} (h : Opn P f.type d0 m0 G0) (hc : P.cellsOf f.type = d0.sz) (hr : OpnF P fs d1 m1 G1) :
    OpnF P (f :: fs) (Kd.pair d0 d1) (fun x => m0 x.1 + m1 x.2) (fun x => G0 x.1 ∧ G1 x.2) := by
  constructor
  intro H enc w base spare held n cs off xs hl hco hf
  obtain ⟨ho, hco⟩ := hco
  match xs, hl with
  | y :: ys, hl =>
    have h0 := hf 0 f rfl
    rw [ho, hc] at h0
    obtain ⟨x0, hK0, hm0, hG0⟩ := h.ex h0
    obtain ⟨x1, hK1, hm1, hG1⟩ := hr.ex (off + P.cellsOf f.type) ys (by simpa using hl) hco (fun i g hg => by simpa using hf (i + 1) g (by simpa using hg))
    refine ⟨(x0, x1), ⟨_, _, ?_, hK0, hK1⟩, ?_, hG0, hG1⟩
    · rw [hc, ← List.drop_drop]
      show List.take (d0.sz + d1.sz) _ = _
      rw [List.take_add]
    · simp only [List.map_cons, Rows.uptoBulkAll]
      omega
theorem opn_struct {α β : Type} {fs : List Field} {d : Kd α} {m : α → Nat} {G : α → Prop} {f : β → α} (ht : P.underlying t = some (.struct fs.toArray)) (hF : OpnF P fs d m G) (hco : Consec P 0 fs) (hc : P.cellsOf t = d.sz) (hf : ∀ y, ∃ x, f x = y) :
    Opn P t (Kd.iso d f) (fun x => m (f x) + 1) (fun x => G (f x)) := by
  constructor
  intro H enc w base spare held fuel cs y h
  obtain ⟨xs, n, _, rfl, hl, hxl, hfi⟩ := DataW.trod_struct ht h
  obtain ⟨x, hK, hm, hG⟩ := hF.ex 0 xs (by simpa using hxl) hco (fun i g hg => hfi i g (by simpa using hg))
  obtain ⟨z, rfl⟩ := hf x
  refine ⟨z, ?_, ?_, hG⟩
  · have e : (cs.drop 0).take d.sz = cs := by rw [List.drop_zero, List.take_of_length_le (by omega)]
    rw [e] at hK
    exact hK
  · simp only [Rows.uptoBulk]
    omega
theorem Opn.weak {α : Type} {d : Kd α} {m m' : α → Nat} {G G' : α → Prop} (h : Opn P t d m G) (hm : ∀ x, m' x ≤ m x) (hG : ∀ x, G x → G' x) : Opn P t d m' G' := by
  constructor
  intro H enc w base spare held fuel cs y hy
  obtain ⟨x, hK, h1, h2⟩ := h.ex hy
  exact ⟨x, hK, Nat.le_trans (hm x) h1, hG x h2⟩
/-- an argument that is a slice, opened -/
theorem open_slice {α : Type} {e : TypeId} {d : Kd α} {m : α → Nat} {G : α → Prop} {H : Type} {enc : TypeId × Value → H} {w : World} {base b0 : Nat} {r : Reach} {spare : Nat → Bool} {held : Bool} {v : Value} {dd : DataW H} {ps : List MemPlace}
    (ht : P.underlying t = some (.slice e)) (hd : Opn P e d m G) (hc : P.cellsOf e = d.sz) (hv : Value.okWide P w r b0 t v) (h : DataW.Trod enc P w base spare held t v dd ps) :
    ∃ (A : Option Addr) (c : Nat) (xs : List α), v = .slice A xs.length c ∧ xs.length ≤ c ∧ d.C w A xs.length xs ∧ Wt m xs + 1 ≤ Rows.uptoBulk dd ∧ ∀ x ∈ xs, G x := by
  obtain ⟨A, len, cap, rfl⟩ := okWide_slice ht hv
  obtain ⟨fuel, hf⟩ := h
  obtain ⟨xs, ⟨A', c, hcs, hle, hC⟩, hm, hG⟩ := (opn_slice ht hd hc).ex hf
  simp [Value.cells] at hcs
  obtain ⟨rfl, rfl, rfl⟩ := hcs
  exact ⟨_, _, xs, rfl, hle, hC, hm, hG⟩
/-- an argument that is a struct, opened -/
theorem open_struct {α : Type} {d : Kd α} {m : α → Nat} {G : α → Prop} {H : Type} {enc : TypeId × Value → H} {w : World} {base b0 : Nat} {r : Reach} {spare : Nat → Bool} {held : Bool} {v : Value} {dd : DataW H} {ps : List MemPlace} {fs : Array Field}
    (ht : P.underlying t = some (.struct fs)) (hd : Opn P t d m G) (hv : Value.okWide P w r b0 t v) (h : DataW.Trod enc P w base spare held t v dd ps) :
    ∃ (cs : Array Value) (x : α), v = .agg cs ∧ d.K w x cs.toList ∧ m x ≤ Rows.uptoBulk dd ∧ G x := by
  obtain ⟨cs, rfl, _⟩ := okWide_struct ht hv
  obtain ⟨fuel, hf⟩ := h
  obtain ⟨x, hK, hm, hG⟩ := hd.ex hf
  exact ⟨cs, x, rfl, by simpa [Value.cells] using hK, hm, hG⟩
theorem bulk_le {H : Type} {l : List (DataW H)} (hk : Rows.uptoSmall H l = true) : Rows.uptoBulkAll l ≤ 1048576 := of_decide_eq_true hk
end Go.Proofs.YtomhgoahhlnjpaaGreatDoor.Opens

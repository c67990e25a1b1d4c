/- The program's Plan of a list of its own, walked: empty ones too. -/
import Derived.Test.YtomhgoahhlnjpaaGreatDoorRfHQ
import Derived.Test.YtomhgoahhlnjpaaGreatDoorRfPO
namespace Go.Proofs.YtomhgoahhlnjpaaGreatDoor.Rf
open Go.RowKit Go.Proofs.YtomhgoahhlnjpaaGreatDoorW.PrintWords Go.Proofs.YtomhgoahhlnjpaaGreatDoor.PRef Go.Proofs.YtomhgoahhlnjpaaGreatDoor.Dk

section
variable {own : Nat → Prop} {w w' : World} {d mb : Nat} {S : DS} {bs : List Nat} {vo vp : Value}
set_option maxHeartbeats 4000000 in
theorem plan_calls0 (h : At own w d S mb bs vo vp) (A : Option Addr) (c : Nat) :
    Calls Tryz.prog 22 #[.pointer (some ⟨d, 0, none⟩), .slice A 0 c] w fun e w' => e = .returned (.int .i64 0) ∧ (∃ vp', At (more own w w') w' d { S with plan := [] } mb bs vo vp') ∧ Kept own w w' := by
  obtain ⟨c0, c1, c2, c3⟩ := h.cells
  have H := Aside0.mk h
  clear h c0 c1 c3
  go_enter Tryz.func22, Tryz.ntmps22
  go_wp2
  go_loopw [5, 21] (fun vl vi wr => vi = .int .i64 0 ∧ Aside0 (Below w.heap.size w wr)) (fun _ _ _ => 0)
  case atStart => exact ⟨rfl, ⟨Below.refl _ _⟩⟩
  case round =>
    obtain ⟨rfl, hb⟩ := hrel
    have HA := Aside0.mk (H.out.below hb.out)
    obtain ⟨k0, k1, k2, k3⟩ := HA.out.cells
    clear k0 k1 k2 c2
    go_wp2_with (first
      | ((with_reducible refine gate_builtin (b := .append) (xs := #[.const (.slice none 0 0), .tmp 58]) rfl ?_); at_builtin; refine Kd.R_append_rows k40 (w0 := wr) wr.heap.size rfl (.const (.slice none 0 0)) (.tmp 58) 30 40 (.agg #[.int .i64 0, .int .i64 0, .int .i64 0]) 24 rfl Tryz.underlying30 info41y rfl (by decide) (by omega) (.slice none 0 0) ([] : List S40) ([] : List S40) _ _ _ (fun _ => True) (fun _ => False) rfl rfl ?aO ?aR (fun _ _ h => h) (fun _ h => h.elim) (fun _ _ => trivial) ?aB ?aS ?aL ?_; (case aR => exact (show Kd.C k40 wr A 0 [] from ⟨rfl, by simp, fun h => absurd h (Nat.lt_irrefl 0)⟩)); (case aB => exact Below.refl _ _); (case aO => exact Kd.R_nil _ _ _ _ _); (case aS => exact Nat.le_refl _); (case aL => decide); intro v5 w5 ho hbb hg hat; obtain ⟨A5, c5, rfl⟩ := Kd.R_slice ho; have R5 := Aside0.mk ho; have B5 := Aside0.mk hbb; have y3 := (HA.out.below hbb).cells.2.2.2; have yf3 := (HA.out.below hbb).frozen 3; clear ho hbb hg hat k3)
      | go_in)
    go_ret
    have hB : Below w.heap.size w w5 := hb.out.trans (B5.out.mono hb.out.size)
    have hA5 := HA.out.below B5.out
    have hmore : ∀ k, Dk.more own w w5 k → k < w5.heap.size := fun k hk => by
      rcases hk with hk | hk
      · exact hA5.bnd k hk
      · exact hk.2
    have h2 := (hA5.wider (own' := Dk.more own w w5) (fun k hk => .inl hk) hmore).setD 3 (.slice A5 ([] ++ [] : List S40).length c5) (n' := S.steps) (vo' := vo) (vp' := .slice A5 ([] ++ [] : List S40).length c5) (opn' := S.opn) (plan' := []) rfl hA5.opn hA5.old ⟨A5, c5, rfl, Nat.zero_le _, fun i f hf => by simp at hf⟩ (fun k hk => Kd.R_typed R5.out k hk) (fun k hk => .inl (hA5.owno k hk)) (fun k hk => .inr ⟨Nat.le_trans hb.out.size (Kd.R_base R5.out k hk), Kd.R_lt R5.out k hk⟩)
    have hK := (Dk.Kept.of_below (S := own) hB).trans (Dk.Kept.set (own := own) ⟨d, 3, none⟩ hA5.ownd (.slice A5 ([] ++ [] : List S40).length c5)) (fun _ hk => .inl hk)
    exact ⟨rfl, ⟨_, h2.wider (fun k hk => by
      rcases hk with hk | hk
      · exact .inl hk
      · exact .inr ⟨hk.1, by rw [size_set]; exact hk.2⟩) (fun k hk => by
      rw [size_set] at *
      rcases hk with hk | hk
      · exact hA5.bnd k hk
      · have := hk.2; rw [size_set] at this; exact this)⟩, hK⟩
/-- faults that `later` made -/
theorem planAt_of {base : Nat} {ok : Nat → Prop} {v : Value} {l : List S40} (h : Kd.R k40 40 w base ok v l) : PlanAt w v (l.map toF) := by
  obtain ⟨A, c, rfl, hc, hC⟩ := Kd.R_reads h
  refine ⟨A, c, by rw [List.length_map], by rw [List.length_map]; exact hc, fun i f hf => ?_⟩
  obtain ⟨x, hx, rfl⟩ := by
    rw [List.getElem?_map] at hf
    exact Option.map_eq_some_iff.1 hf
  obtain ⟨g, c2, cl, he, _, _, hcl, hce⟩ := row_at h hx
  cases he
  have hcl2 := k40_open hcl
  subst hcl2
  refine ⟨g, 0, rfl, fun j u hu => ?_⟩
  have := hce j u hu
  rw [show k40.sz = 3 from rfl] at this
  rw [Nat.zero_add, Nat.mul_comm]
  exact this
theorem plan_any (h : At own w d S mb bs vo vp) {base : Nat} {ok : Nat → Prop} {v : Value} {l : List S40} (hV : Kd.R k40 40 w base ok v l) :
    Calls Tryz.prog 22 #[.pointer (some ⟨d, 0, none⟩), v] w fun e w' => e = .returned (.int .i64 (S.planned (l.map toF)).2) ∧ (∃ vp', At (more own w w') w' d (S.planned (l.map toF)).1 mb bs vo vp') ∧ Kept own w w' := by
  cases l with
  | nil =>
    obtain ⟨A, c, rfl⟩ := Kd.R_slice hV
    exact plan_calls0 h A c
  | cons f l => exact plan_calls h (planAt_of hV) (by simp)
end
end Go.Proofs.YtomhgoahhlnjpaaGreatDoor.Rf

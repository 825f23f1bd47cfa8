/- New rings have heard nothing: the law. -/
import Derived.Test.YtlgnmloddedbaaaGreatAPDrawRings
set_option linter.unusedSimpArgs false
set_option linter.unusedVariables false
namespace Go.TM
open Go
def FewR (rs : List RingR) (n : Nat) : Prop := rs.length ≤ n ∧ ∀ r ∈ rs, r.2.1.length ≤ 6
theorem FewR.w {rs : List RingR} {n : Nat} (h : FewR rs n) : rs.length + wl W_iLiE rs ≤ 7 * n := by
 have h1 := wl_max W_iLiE 6 rs (fun x hx => by
   have := h.2 x hx; have e : W_iLiE x = x.2.1.length + wl W_i x.2.1 := rfl; rw [e, wl_zero W_i (fun _ => rfl)]; omega)
 have := h.1; omega
theorem FewR.snoc {rs : List RingR} {n : Nat} (h : FewR rs n) {r : RingR} (hr : r.2.1.length ≤ 6) : FewR (rs ++ [r]) (n + 1) := ⟨by rw [List.length_append, List.length_singleton]; have := h.1; omega, fun x hx => by
 rcases List.mem_append.1 hx with hx | hx
 · exact h.2 x hx
 · rw [List.mem_singleton] at hx; subst hx; exact hr⟩
theorem RngsV.few' {rs : List RingR} (h : RngsV rs) : FewR rs 5 := ⟨h.few, fun x hx => by
 obtain ⟨k, hk, rfl⟩ := List.mem_iff_getElem.1 hx; have := (h.each k hk).2.2.1; omega⟩
theorem anyring_ok (code : List (Int × Unit)) (a s : Int) (d : DrawAt code a) : ∃ c xs a' s', spec_l09AnyRing code a s = some (c, xs, code, a', s', ()) ∧ xs.length ≤ 6 ∧ DrawAt code a' := by
 obtain ⟨c, xs, a1, s1, e1, hv, _, _, d1⟩ := l09ring_ok code a s d; obtain ⟨v, a2, s2, e2, _, _, d2⟩ := below_ok code a1 s1 16 d1 (by omega); have hl := hv.len; unfold spec_l09AnyRing; simp only [e1, e2, Option.bind_some]
 cases decide (v = 0)
 · cases decide (v = 1)
   · cases decide (v = 2)
     · exact ⟨_, _, _, _, rfl, by omega, d2⟩
     · exact ⟨_, _, _, _, rfl, Nat.zero_le _, d2⟩
   · obtain ⟨y, a3, s3, e3, _, d3⟩ := pick_ok code a2 s2 [((0 : Int), ()), (1, ()), (5, ()), (6, ())] d2 (by simp); simp only [cond_false, cond_true, e3, Option.bind_some, ble_true (show (xs.length + 1) * 8 ≤ lim by unfold lim; omega)]; exact ⟨_, _, _, _, rfl, by rw [List.length_append, List.length_singleton]; omega, d3⟩
 · obtain ⟨y, a3, s3, e3, _, d3⟩ := pick_ok code a2 s2 [((0 : Int), ()), (9, ()), (10, ())] d2 (by simp); simp only [cond_true, e3, Option.bind_some]; exact ⟨_, _, _, _, rfl, by omega, d3⟩
theorem ringsok_draw (code : List (Int × Unit)) (hc : code.length ≤ 1048576) : ∃ rs, spec_DrawRingsOk code = some (rs, ()) ∧ FewR rs 11 := by
 obtain ⟨s0, e0⟩ := new_ok code hc; obtain ⟨rs, a1, s1, e1, hv, d1⟩ := drawrings_ok code 0 s0 ⟨by omega, by omega, hc⟩; obtain ⟨v, a2, s2, e2, _, _, d2⟩ := below_ok code a1 s1 8 d1 (by omega); have hf := hv.few'; have h1 := hv.some_; have h5 := hv.few; unfold spec_DrawRingsOk; simp only [e0, e1, e2, Option.bind_some]
 cases decide (v = 0)
 · cases decide (v = 1)
   · cases decide (v = 2)
     · exact ⟨_, rfl, by omega, hf.2⟩
     · obtain ⟨e, he, rs', rfl, hq⟩ := loop_inv (round := spec_DrawRingsOk_r1) (x := (code, a2, s2, rs, ())) 11
         (fun k x => ∃ (a s : Int) (rs : List RingR), x = (code, a, s, rs, ()) ∧ DrawAt code a ∧ FewR rs 11 ∧ k ≤ rs.length)
         (fun e => ∃ rs : List RingR, e = .inl (rs, ()) ∧ FewR rs 11) (by
           rintro x ⟨a, s, rs, rfl, da, hf, hk⟩
           obtain ⟨b, a3, s3, e3, b1, b2, d3⟩ := below_ok code a s 2 da (by omega); exact ⟨_, by simp only [spec_DrawRingsOk_r1, spec_DrawRingsOk_c1, e3, Option.bind_some, wrap_id (show -9223372036854775808 ≤ 9 + b by omega) (by omega), dec_false (show ¬ ((List.length rs : Nat) : Int) < 9 + b by omega), cond_false], rs, rfl, hf⟩) (by
           rintro k x hk ⟨a, s, rs, rfl, da, hf, hkl⟩
           obtain ⟨b, a3, s3, e3, b1, b2, d3⟩ := below_ok code a s 2 da (by omega); have h11 := hf.1; simp only [spec_DrawRingsOk_r1, spec_DrawRingsOk_c1, e3, Option.bind_some, wrap_id (show -9223372036854775808 ≤ 9 + b by omega) (by omega)]
           by_cases hb : ((List.length rs : Nat) : Int) < 9 + b
           · simp only [dec_true hb, cond_true, ble_true (show (rs.length + 1) * 32 ≤ lim by unfold lim; omega)]; refine .inr ⟨_, rfl, a3, s3, _, rfl, d3, ⟨by rw [List.length_append, List.length_singleton]; omega, fun x hx => ?_⟩, by rw [List.length_append, List.length_singleton]; omega⟩; rcases List.mem_append.1 hx with hx | hx
             · exact hf.2 x hx
             · rw [List.mem_singleton] at hx; subst hx; exact (by decide : 1 ≤ 6)
           · rw [dec_false hb]; exact .inl ⟨_, rfl, rs, rfl, hf⟩) ⟨a2, s2, rs, rfl, d2, ⟨by omega, hf.2⟩, Nat.zero_le _⟩
       simp only [cond_false, cond_true, he, outK]; exact ⟨_, rfl, hq⟩
   · have hlt : 0 < rs.length := h1; simp only [cond_false, cond_true, blt_true hlt, List.getElem?_eq_getElem hlt, Option.bind_some]; refine ⟨_, rfl, by rw [List.length_set]; omega, fun x hx => ?_⟩; rcases List.mem_or_eq_of_mem_set hx with hx | rfl
     · exact hf.2 x hx
     · exact hf.2 rs[0] (List.getElem_mem hlt)
 · obtain ⟨c, xs, a3, s3, e3, hx, _⟩ := anyring_ok code a2 s2 d2; simp only [cond_true, e3, Option.bind_some, ble_true (show (rs.length + 1) * 32 ≤ lim by unfold lim; omega)]; have := hf.snoc (r := (c, xs, ())) hx; exact ⟨_, rfl, by have := this.1; omega, this.2⟩
theorem runworld_none (rs : List RingR) (W : List RingR) (D : List DaeR) (b : Bool) (h : impl_WorldNew rs = some (W, D, [], [], b, ())) : impl_RunWorld rs [] = some (bif b then (W, D, [], [], [], true, ()) else ([], [], [], [], [], false, ())) := by
 have l1 : loopV impl_RunWorld_r0 ([], [], [], [], [], W, D, [], [], [], (0 : Int), (0 : Int), ()) = some (.inl ([], [], [], [], [], W, D, [], [], ())) := by
   rw [loopV_eq]; rfl
 have l2 : loopV impl_RunWorld_r2 ([], [], [], [], W, D, [], [], [], [], (0 : Int), (0 : Int), ()) = some (.inl ([], [], [], [], W, D, [], [], [], ())) := by
   rw [loopV_eq]; rfl
 unfold impl_RunWorld; simp only [h, Option.bind_some]
 cases b
 · rfl
 · have l1 : loopV impl_RunWorld_r0 ([], [], [], [], [], W, D, [], [], [], ((([] : List (Int × Int × Int × Int × ByteArray × Unit)).length : Nat) : Int), (0 : Int), ()) = _ := l1; have l2 : loopV impl_RunWorld_r2 ([], [], [], [], W, D, [], [], [], [], ((([] : List (Int × Int × Int × Int × ByteArray × Unit)).length : Nat) : Int), (0 : Int), ()) = _ := l2; rw [dec_false (show ¬ (90 : Int) < ((([] : List (Int × Int × Int × Int × ByteArray × Unit)).length : Nat) : Int) by decide)]; simp only [Bool.not_true, cond_false, l1, outK_inl, l2, cond_true]
theorem worldnew_law (code : List (Int × Unit)) : laws_FnWorldNew code = some (true, ()) := by
 unfold laws_FnWorldNew laws_big
 by_cases hb : (1048576 : Int) < ((List.length code : Nat) : Int)
 · rw [dec_true hb]; rfl
 rw [dec_false hb]; obtain ⟨rs, e1, hf⟩ := ringsok_draw code (by omega); have hw := hf.w; have hw : rs.length + wl W_iLiE rs ≤ 1048576 := by omega
 obtain ⟨b, r1, r2⟩ := rings_same rs hw; have n1 : spec_WorldNew rs = some (bif b then (rs, daesNew 5, [], [], true, ()) else ([], [], [], [], false, ())) := by
   unfold spec_WorldNew; rw [r1]
   cases b
   · rfl
   · simp only [Option.bind_some, Bool.not_true, cond_false, copyRings_spec _ hw, daes_spec, outK, cond_true]
 have n2 : impl_WorldNew rs = some (bif b then (rs, daesNew 5, [], [], true, ()) else ([], [], [], [], false, ())) := by
   unfold impl_WorldNew; rw [r2]
   cases b
   · rfl
   · simp only [Option.bind_some, Bool.not_true, cond_false, rings_impl _ hw, daes_impl, outK, cond_true]
 simp only [Option.bind_some, cond_false, e1, r2]
 cases b
 · have n3 := runworld_none rs [] [] false n2; simp only [cond_false] at n1 n2 n3; simp only [n1, n2, n3, Option.bind_some]; rfl
 · have n3 := runworld_none rs rs (daesNew 5) true n2; simp only [cond_true] at n1 n2 n3; simp only [n1, n2, n3, Option.bind_some]; rfl
end Go.TM

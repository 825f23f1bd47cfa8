/- A ring's life, drawn and played by the reference. -/
import Derived.Test.YtiljcjnnhkidbaaDPRingL
namespace Go.TM
open Go
theorem JU {v : Int} (h : (v, ()) ∈ [((1 : Int), ()), (1, ()), (1, ()), (2, ()), (2, ()), (2, ()), (2, ()), (2, ()), (2, ()), (3, ()), (3, ()), (4, ()), (5, ()), (6, ()), (7, ()), (7, ())]) : 1 ≤ v ∧ v ≤ 7 := by
 simp only [List.mem_cons, Prod.mk.injEq, and_true, List.not_mem_nil, or_false] at h; omega
theorem Oy (code : List (Int × Unit)) (at_ pV : Int) (h : dP code at_) : ∃ v FF s', ld code at_ pV = some (v, code, FF, s', ()) ∧ ByteArray.size v ≤ 3 ∧ dP code FF := by
 obtain ⟨v, a1, s1, e1, hv, d1⟩ := MX code at_ pV [((ByteArray.mk #[97, 110, 110]), ()), ((ByteArray.mk #[98, 111, 98]), ()), ((ByteArray.mk #[99, 121]), ()), ((ByteArray.mk #[100, 52]), ()), ((ByteArray.mk #[101, 118, 101]), ())] h (by decide); refine ⟨v, a1, s1, ?_, ?_, d1⟩
 · unfold ld; rw [e1]; rfl
 · simp only [List.mem_cons, Prod.mk.injEq, and_true, List.not_mem_nil, or_false] at hv; rcases hv with rfl | rfl | rfl | rfl | rfl <;> decide
theorem M6 (code : List (Int × Unit)) {n : Nat} {c : Int} {ms : dy} {w : cG} (h : eK n c ms w) (hn : n ≤ 1000) {v id b : Int} (hv : 1 ≤ v ∧ v ≤ 7) (yS : (id, ()) ∈ ms) (hb : 0 ≤ b) (a s : Int) (d : dP code a) :
   ∃ (e : DX) (a' s' : Int), iv code a s w.1 w.2.1 w.2.2.1 w.2.2.2.1 w.2.2.2.2.1 w.2.2.2.2.2.1 0 0 0 0 ByteArray.empty v id b 0 ByteArray.empty = some (e.1, e.2.1, e.2.2.1, e.2.2.2.1, e.2.2.2.2.1, code, a', s', w.1, w.2.1, w.2.2.1, w.2.2.2.1, w.2.2.2.2.1, w.2.2.2.2.2.1, ()) ∧ FK ms e ∧ dP code a' := by
 have hf := h.FE; unfold iv
 by_cases k2 : v = 2
 · obtain ⟨e, he, a', s', b', rfl, d', ka⟩ := ef (round := fI) (x := (code, a, s, w.1, w.2.1, w.2.2.1, w.2.2.2.1, w.2.2.2.2.1, w.2.2.2.2.2.1, (0 : Int), (0 : Int), (0 : Int), (0 : Int), ByteArray.empty, v, id, b, (0 : Int), ByteArray.empty, ((0 : Nat) : Int), ())) w.2.2.2.1.length
     (fun k x => ∃ a s b, x = (code, a, s, w.1, w.2.1, w.2.2.1, w.2.2.2.1, w.2.2.2.2.1, w.2.2.2.2.2.1, (0 : Int), (0 : Int), (0 : Int), (0 : Int), ByteArray.empty, v, id, b, (0 : Int), ByteArray.empty, ((k : Nat) : Int), ()) ∧ dP code a ∧ 0 ≤ b)
     (fun e => ∃ a s b, e = .inl (code, a, s, w.1, w.2.1, w.2.2.1, w.2.2.2.1, w.2.2.2.2.1, w.2.2.2.2.2.1, (0 : Int), (0 : Int), (0 : Int), (0 : Int), ByteArray.empty, v, id, b, (0 : Int), ByteArray.empty, ()) ∧ dP code a ∧ 0 ≤ b) (by
       rintro x ⟨a, s, b, rfl, d, hb⟩
       exact ⟨_, by simp only [fI, m7, aF, cond_false], a, s, b, rfl, d, hb⟩) (by
       rintro k x hk ⟨a, s, b, rfl, d, hb⟩
       simp only [fI, m7, az hk, aq, cond_true, aC, List.getElem?_eq_getElem hk, Option.bind_some, aJ (show k < 4611686018427387904 by omega)]
       cases (w.2.2.2.1[k]).2.1
       · exact .inr ⟨_, rfl, a, s, b, rfl, d, hb⟩
       · obtain ⟨o, a1, s1, e1, d1⟩ := DS code a s 4 d (by omega); simp only [e1, Option.bind_some, cond_true]
         cases o
         · exact .inr ⟨_, rfl, a1, s1, ((k : Nat) : Int), rfl, d1, by omega⟩
         · exact .inr ⟨_, rfl, a1, s1, b, rfl, d1, hb⟩) ⟨a, s, b, rfl, d, hb⟩
   have he : aE fI (code, a, s, w.1, w.2.1, w.2.2.1, w.2.2.2.1, w.2.2.2.2.1, w.2.2.2.2.2.1, (0 : Int), (0 : Int), (0 : Int), (0 : Int), ByteArray.empty, v, id, b, (0 : Int), ByteArray.empty, (0 : Int), ()) = _ := he; refine ⟨(v, id, b', 0, ByteArray.empty, ()), a', s', ?_, ⟨hv, yS, ka, fun h1 => ?_, fun _ => ⟨rfl, rfl⟩⟩, d'⟩
   · simp only [ah k2, cond_true, he, cj, Option.bind_some, ai (show ¬ v = 1 by omega), cond_false]
   · have h1 : v = 1 := h1; omega
 by_cases k1 : v = 1
 · obtain ⟨l, a1, s1, e1, l0, l1, d1⟩ := mP code a s 2 d (by omega); obtain ⟨t, a2, s2, e2, ht, d2⟩ := Oy code a1 s1 d1; refine ⟨(v, id, b, 1 + l, t, ()), a2, s2, ?_, ⟨hv, yS, hb, fun _ => ⟨by show 1 ≤ 1 + l ∧ 1 + l ≤ 2; omega, by show ByteArray.size t ≤ 60; omega⟩, fun h1 => absurd k1 h1⟩, d2⟩; simp only [ai k2, ah k1, cond_false, cond_true, e1, e2, Option.bind_some]; rw [eA (show -9223372036854775808 ≤ 1 + l by omega) (by omega)]
 · refine ⟨(v, id, b, 0, ByteArray.empty, ()), a, s, ?_, ⟨hv, yS, hb, fun h1 => absurd h1 k1, fun _ => ⟨rfl, rfl⟩⟩, d⟩; simp only [ai k2, ai k1, cond_false]
theorem Sr (code : List (Int × Unit)) (a s : Int) (d : dP code a) {n : Nat} {c : Int} {ms : dy} {w : cG} (h : eK n c ms w) (hn : n ≤ 1000) :
   ∃ (e : DX) (a' s' : Int), hZ code a s w.1 w.2.1 w.2.2.1 w.2.2.2.1 w.2.2.2.2.1 w.2.2.2.2.2.1 = some (e.1, e.2.1, e.2.2.1, e.2.2.2.1, e.2.2.2.2.1, code, a', s', w.1, w.2.1, w.2.2.1, w.2.2.2.1, w.2.2.2.2.1, w.2.2.2.2.2.1, ()) ∧ FK ms e ∧ dP code a' := by
 obtain ⟨q0, q1, q2⟩ := h.HH; have hr := h.ring.2.1.1; have XP := h.self.2; obtain ⟨v, a1, s1, e1, hv, d1⟩ := Ov code a s [((1 : Int), ()), (1, ()), (1, ()), (2, ()), (2, ()), (2, ()), (2, ()), (2, ()), (2, ()), (3, ()), (3, ()), (4, ()), (5, ()), (6, ()), (7, ()), (7, ())] d (by decide); obtain ⟨i, a2, s2, e2, i0, i1, d2⟩ := mP code a1 s1 ((List.length w.2.1 : Nat) : Int) d1 (by rw [XP]; omega); obtain ⟨b, a3, s3, e3, b0, b1, d3⟩ := mP code a2 s2 30 d2 (by omega); obtain ⟨i, rfl⟩ := Int.eq_ofNat_of_zero_le i0; have hi : i < w.2.1.length := by omega
 obtain ⟨e, a', s', e4, he, d'⟩ := M6 code h hn (JU hv) (show ((w.2.1[i]).1, ()) ∈ ms by rw [← XP]; exact List.getElem_mem hi) b0 a3 s3 d3; refine ⟨e, a', s', ?_, he, d'⟩; unfold hZ; simp only [e1, e2, e3, Option.bind_some, aq, cond_true, aC, List.getElem?_eq_getElem hi, dk]; exact e4
theorem CX {c : Int} {ms : dy} (h : FG c ms) : pF c ms := ⟨⟨h.xz, h.id2⟩, ⟨h.some_, h.len⟩, fun k hk _ => ⟨by have := h.rising.2.1 k hk; omega, fun h0 => h.rising.2.2 (k - 1) k (by omega) hk (by omega)⟩⟩
theorem HK {c : Int} {ms : dy} (h : pF c ms) {id : Int} (yS : (id, ()) ∈ ms) : sE (om c ms id) := {
 ring := h
 mem := yS
 items := fun k hk => by cases hk
 texts := ⟨Nat.zero_le _, rfl⟩
 Oj := fun j hj => by cases hj
 short := fun j hj => by cases hj
 round := ⟨Int.le_refl _, show (0 : Int) ≤ 1000000000 by decide⟩
 seen := ⟨Int.le_refl _, show (0 : Int) ≤ 60 by decide⟩
 line := ⟨Int.le_refl _, Int.natCast_nonneg _⟩
 heard := ⟨Int.le_refl _, Int.natCast_nonneg _⟩
 last := .inl ⟨rfl, rfl, rfl, rfl, rfl, rfl⟩ }
def xS (c : Int) : kt := (c, 1, 0, 0, 0, [], ())
theorem FL {c : Int} {ms : dy} (h : pF c ms) : Bp (xS c) := ⟨h.1, ⟨show (1 : Int) ≤ 1 by decide, show (1 : Int) ≤ 1000000000 by decide⟩, ⟨show (0 : Int) ≤ 0 by decide, show (0 : Int) ≤ 60 by decide⟩, ⟨show (0 : Int) ≤ 0 by decide, show (0 : Int) ≤ 0 by decide⟩, ⟨show (0 : Int) ≤ 0 by decide, show (0 : Int) ≤ 5 by decide⟩, Nat.zero_le _, fun k hk => by cases hk⟩
def eE (c : Int) (ms : dy) (a : Int) : cG := (c, ms, ms.map fun m => om c ms m.1, [ku a (xS c)], List.replicate ms.length ([], ()), [], ())
theorem zp {c : Int} {ms : dy} (hr : pF c ms) : fk c ms = some ((eE c ms (ms[0]'hr.2.1.1).1).1, (eE c ms (ms[0]'hr.2.1.1).1).2.1, (eE c ms (ms[0]'hr.2.1.1).1).2.2.1, (eE c ms (ms[0]'hr.2.1.1).1).2.2.2.1, (eE c ms (ms[0]'hr.2.1.1).1).2.2.2.2.1, (eE c ms (ms[0]'hr.2.1.1).1).2.2.2.2.2.1, true, ()) := by
 have hl := hr.2.1.2; have Nf := hr.2.1.1; have h : ms.length ≤ 1048576 := by omega
 have r1 := (qg c ms h).1; rw [(qg c ms h).2.2.2 hr] at r1; have l1 := ee (round := dV) (e := .inl (c, ms, (0 : Int), [], [], [], [], [], c, ms, ms.map fun m => om c ms m.1, [], List.replicate ms.length ([], ()), [], ())) ms.length (fun k => (c, ms, (0 : Int), [], [], [], [], [], c, ms, (ms.take k).map fun m => om c ms m.1, [], List.replicate k ([], ()), [], ((k : Nat) : Int), ())) (by
   simp only [dV, iu, aF, cond_false, List.take_length]) (fun k hk => by
   simp only [dV, iu, az hk, aq, cond_true, aC, List.getElem?_eq_getElem hk, Option.bind_some, DT c ms ms[k].1 h r1 (List.getElem_mem hk), List.length_map, List.length_take, List.length_replicate, Nat.min_eq_left (Nat.le_of_lt hk), aH (show (k + 1) * 208 ≤ lim by unfold lim; omega), aH (show (k + 1) * 24 ≤ lim by unfold lim; omega), aJ (show k < 4611686018427387904 by omega)]; rw [map_take _ _ hk, List.replicate_succ']; rfl)
 have l1 : aE dV (c, ms, (0 : Int), [], [], [], [], [], c, ms, [], [], [], [], (0 : Int), ()) = _ := l1; unfold fk j6; simp only [r1, Option.bind_some, Bool.not_true, cond_false, cond_true, aH (show (0 + ms.length) * 8 ≤ lim by unfold lim; omega), List.nil_append, l1, cj, List.getElem?_eq_getElem (show 0 < ms.length by omega)]; rfl
theorem BB {c : Int} {ms : dy} (hr : pF c ms) (a : Int) : eK 0 c ms (eE c ms a) := {
 ring := hr
 self := ⟨rfl, rfl⟩
 len := by show (ms.map _).length = _; rw [List.length_map]
 ids := fun k hk hm => by
   have hk : k < (ms.map fun m => om c ms m.1).length := hk; show ((ms.map fun m => om c ms m.1)[k]).1 = _; rw [List.getElem_map]; rfl
 B6 := fun m hm => by
   have hm : m ∈ ms.map fun m => om c ms m.1 := hm
   obtain ⟨x, hx, rfl⟩ := List.mem_map.1 hm; exact ⟨HK hr hx, rfl, rfl⟩
 zx := fun f hf => by
   have hf : f ∈ [ku a (xS c)] := hf; rw [List.mem_singleton] at hf; subst hf; exact Bz (FL hr)
 FE := by show 1 ≤ _; omega
 heard := by show (List.replicate _ _).length = _; rw [List.length_replicate]
 list := fun x hx => by
   have hx : x ∈ List.replicate ms.length (([], ()) : aM × Unit) := hx; rw [List.mem_replicate] at hx; rw [hx.2]; exact Nat.zero_le _
 said := ⟨fun x hx => (by cases hx), Nat.zero_le _⟩ }
theorem FM {c : Int} {ms : dy} (hr : pF c ms) : nL 1 0 ms (eE c ms (ms[0]'hr.2.1.1).1) := {
 zx := fun f hf => by
   have hf : f ∈ [ku (ms[0]'hr.2.1.1).1 (xS c)] := hf; rw [List.mem_singleton] at hf; subst hf; exact ⟨fun _ => ⟨1, Nat.le_refl _, Nat.le_refl _, rfl, ⟨ms[0]'hr.2.1.1, by rw [Nat.sub_self, Nat.zero_mod]; exact List.getElem?_eq_getElem hr.2.1.1, rfl⟩, fun _ => rfl⟩, fun e => (by cases e)⟩
 pW := fun k hk => by
   have hk : k < (ms.map fun m => om c ms m.1).length := hk; show uq 1 0 ms.length k (ms.map fun m => om c ms m.1)[k]; rw [List.getElem_map]; exact ⟨fun x hx => (by cases hx), 0, rfl, by omega, fun r _ _ => by omega, .inl ⟨rfl, rfl, rfl, rfl, rfl, rfl⟩⟩
 said := fun x hx => by cases hx }
theorem Oz (code : List (Int × Unit)) (h : code.length ≤ 1048576) : ∃ n : Nat, nY code = some (((n : Nat) : Int), ()) ∧ n ≤ 89 := by
 have e : Int.tdiv ((List.length code : Nat) : Int) 4 = ((code.length / 4 : Nat) : Int) := rfl; unfold nY; rw [e, eA (show -9223372036854775808 ≤ ((code.length / 4 : Nat) : Int) by omega) (by omega), eA (show -9223372036854775808 ≤ 24 + ((code.length / 4 : Nat) : Int) by omega) (by omega)]
 by_cases g : 89 < 24 + code.length / 4
 · rw [ah (show (89 : Int) < 24 + ((code.length / 4 : Nat) : Int) by omega)]; exact ⟨89, rfl, Nat.le_refl _⟩
 · rw [ai (show ¬ (89 : Int) < 24 + ((code.length / 4 : Nat) : Int) by omega)]; exact ⟨24 + code.length / 4, rfl, by omega⟩
theorem OA (code : List (Int × Unit)) (a s : Int) (d : dP code a) (hc : code.length ≤ 1048576) : ∃ (c : Int) (ms : dy) (sS : List DX) (a' s' : Int), ob code a s code = some (c, ms, sS, code, a', s', ()) ∧ FG c ms ∧ sS.length ≤ 89 ∧ (∀ e ∈ sS, FK ms e) ∧ dP code a' := by
 obtain ⟨c, ms, a1, s1, e1, hv, _, _, d1⟩ := HE code a s d; have hr := CX hv; obtain ⟨n, e2, hn⟩ := Oz code hc; obtain ⟨e, he, a', s', sS, rfl, q1, q2, d'⟩ := ef (round := fL) (x := (code, a1, s1, code, (0 : Int), [], [], c, ms, [], (eE c ms (ms[0]'hr.2.1.1).1).1, (eE c ms (ms[0]'hr.2.1.1).1).2.1, (eE c ms (ms[0]'hr.2.1.1).1).2.2.1, (eE c ms (ms[0]'hr.2.1.1).1).2.2.2.1, (eE c ms (ms[0]'hr.2.1.1).1).2.2.2.2.1, (eE c ms (ms[0]'hr.2.1.1).1).2.2.2.2.2.1, ((0 : Nat) : Int), ())) n
   (fun k x => ∃ (a s : Int) (sS : List DX) (w : cG), x = (code, a, s, code, (0 : Int), [], [], c, ms, sS, w.1, w.2.1, w.2.2.1, w.2.2.2.1, w.2.2.2.2.1, w.2.2.2.2.2.1, ((k : Nat) : Int), ()) ∧ eK k c ms w ∧ sS.length = k ∧ (∀ e ∈ sS, FK ms e) ∧ dP code a)
   (fun e => ∃ (a s : Int) (sS : List DX), e = .inl (code, a, s, (0 : Int), [], [], c, ms, sS, ()) ∧ sS.length = n ∧ (∀ e ∈ sS, FK ms e) ∧ dP code a) (by
     rintro x ⟨a, s, sS, w, rfl, hw, q1, q2, d⟩
     exact ⟨_, by simp only [fL, nu, e2, Option.bind_some, aF, cond_false], a, s, sS, rfl, q1, q2, d⟩) (by
     rintro k x hk ⟨a, s, sS, w, rfl, hw, q1, q2, d⟩
     obtain ⟨e, a1, s1, e3, he, d1⟩ := Sr code a s d hw (by omega); obtain ⟨b, w', e4, TL, _⟩ := Iz hw (by omega) he; refine .inr ⟨(code, a1, s1, code, (0 : Int), [], [], c, ms, sS ++ [e], w'.1, w'.2.1, w'.2.2.1, w'.2.2.2.1, w'.2.2.2.2.1, w'.2.2.2.2.2.1, ((k + 1 : Nat) : Int), ()), ?_, a1, s1, sS ++ [e], w', rfl, TL, by rw [List.length_append, q1]; rfl, fun x hx => ?_, d1⟩
     · simp only [fL, nu, e2, Option.bind_some, az hk, cond_true, e3, e4, aH (show (sS.length + 1) * 48 ≤ lim by rw [q1]; unfold lim; omega), aJ (show k < 4611686018427387904 by omega)]
     · rcases List.mem_append.1 hx with hx | hx
       · exact q2 x hx
       · rw [List.mem_singleton] at hx; subst hx; exact he) ⟨a1, s1, [], _, rfl, BB hr _, rfl, fun e he => (by cases he), d1⟩
 have he : aE fL (code, a1, s1, code, (0 : Int), [], [], c, ms, [], (eE c ms (ms[0]'hr.2.1.1).1).1, (eE c ms (ms[0]'hr.2.1.1).1).2.1, (eE c ms (ms[0]'hr.2.1.1).1).2.2.1, (eE c ms (ms[0]'hr.2.1.1).1).2.2.2.1, (eE c ms (ms[0]'hr.2.1.1).1).2.2.2.2.1, (eE c ms (ms[0]'hr.2.1.1).1).2.2.2.2.2.1, (0 : Int), ()) = _ := he; refine ⟨c, ms, sS, a', s', ?_, hv, by omega, q2, d'⟩; unfold ob; simp only [e1, Option.bind_some, zp hr, he, cj]
theorem M7 {n : Nat} {c : Int} {ms : dy} {w : cG} (h : eK n c ms w) (hn : n ≤ 1000) : ln w.1 w.2.1 w.2.2.1 w.2.2.2.1 w.2.2.2.2.1 w.2.2.2.2.2.1 = some (w.1, w.2.1, w.2.2.1, w.2.2.2.1, w.2.2.2.2.1, w.2.2.2.2.2.1, ()) := by
 obtain ⟨q0, q1, q2⟩ := h.HH; have hf := h.FE; have hs := h.said.2; have hh := h.heard; have Xc := h.list; have l1 := ee (round := fM) (e := .inl (w.1, w.2.1, w.2.2.1, w.2.2.2.1, w.2.2.2.2.1, w.2.2.2.2.2.1, (0 : Int), [], [], [], [], [], w.1, w.2.1, w.2.2.1, [], [], w.2.2.2.2.2.1, ())) w.2.2.1.length (fun k => (w.1, w.2.1, w.2.2.1, w.2.2.2.1, w.2.2.2.2.1, w.2.2.2.2.2.1, (0 : Int), [], [], [], [], [], w.1, w.2.1, w.2.2.1.take k, [], [], w.2.2.2.2.2.1, ((k : Nat) : Int), ())) (by
   simp only [fM, nv, aF, cond_false, List.take_length]) (fun k hk => by
   have hc := (kI (w.2.2.1[k]).1 (w.2.2.1[k]).2.1 (w.2.2.1[k]).2.2.1 (w.2.2.1[k]).2.2.2.1 (w.2.2.1[k]).2.2.2.2.1 (w.2.2.1[k]).2.2.2.2.2.1 (w.2.2.1[k]).2.2.2.2.2.2.1 (w.2.2.1[k]).2.2.2.2.2.2.2.1 (w.2.2.1[k]).2.2.2.2.2.2.2.2.1 (w.2.2.1[k]).2.2.2.2.2.2.2.2.2.1 (w.2.2.1[k]).2.2.2.2.2.2.2.2.2.2.1 (w.2.2.1[k]).2.2.2.2.2.2.2.2.2.2.2.1 (w.2.2.1[k]).2.2.2.2.2.2.2.2.2.2.2.2.1 (w.2.2.1[k]).2.2.2.2.2.2.2.2.2.2.2.2.2.1 (w.2.2.1[k]).2.2.2.2.2.2.2.2.2.2.2.2.2.2.1 (w.2.2.1[k]).2.2.2.2.2.2.2.2.2.2.2.2.2.2.2.1 (Nat.le_trans (h.B6 _ (List.getElem_mem hk)).1.small (by decide))).1; simp only [fM, nv, az hk, aq, cond_true, aC, List.getElem?_eq_getElem hk, Option.bind_some, hc, List.length_take, aH (show (min k w.2.2.1.length + 1) * 208 ≤ lim by unfold lim; omega), aJ (show k < 4611686018427387904 by omega)]; rw [List.take_succ_eq_append_getElem hk])
 have l1 : aE fM (w.1, w.2.1, w.2.2.1, w.2.2.2.1, w.2.2.2.2.1, w.2.2.2.2.2.1, (0 : Int), [], [], [], [], [], w.1, w.2.1, [], [], [], w.2.2.2.2.2.1, (0 : Int), ()) = _ := l1; have l2 := ee (round := fN) (e := .inl (w.1, w.2.1, w.2.2.1, w.2.2.2.1, w.2.2.2.2.1, w.2.2.2.2.2.1, (0 : Int), [], [], [], [], [], w.1, w.2.1, w.2.2.1, w.2.2.2.1, [], w.2.2.2.2.2.1, ())) w.2.2.2.1.length (fun k => (w.1, w.2.1, w.2.2.1, w.2.2.2.1, w.2.2.2.2.1, w.2.2.2.2.2.1, (0 : Int), [], [], [], [], [], w.1, w.2.1, w.2.2.1, w.2.2.2.1.take k, [], w.2.2.2.2.2.1, ((k : Nat) : Int), ())) (by
   simp only [fN, nA, aF, cond_false, List.take_length]) (fun k hk => by
   have hc := (ig (w.2.2.2.1[k]).2.2.1 (w.2.2.2.1[k]).2.2.2.1 (w.2.2.2.1[k]).2.2.2.2.1 (w.2.2.2.1[k]).2.2.2.2.2.1 (w.2.2.2.1[k]).2.2.2.2.2.2.1 (w.2.2.2.1[k]).2.2.2.2.2.2.2.1 (Nat.le_trans (h.zx _ (List.getElem_mem hk)).FE (by decide))).1; simp only [fN, nA, az hk, aq, cond_true, aC, List.getElem?_eq_getElem hk, Option.bind_some, hc, List.length_take, aH (show (min k w.2.2.2.1.length + 1) * 120 ≤ lim by unfold lim; omega), aJ (show k < 4611686018427387904 by omega)]; rw [List.take_succ_eq_append_getElem hk])
 have l2 : aE fN (w.1, w.2.1, w.2.2.1, w.2.2.2.1, w.2.2.2.2.1, w.2.2.2.2.2.1, (0 : Int), [], [], [], [], [], w.1, w.2.1, w.2.2.1, [], [], w.2.2.2.2.2.1, (0 : Int), ()) = _ := l2; have l3 := ee (round := fa) (e := .inl ((0 : Int), [], [], [], [], [], w.1, w.2.1, w.2.2.1, w.2.2.2.1, w.2.2.2.2.1, w.2.2.2.2.2.1, ())) w.2.2.2.2.1.length (fun k => (w.1, w.2.1, w.2.2.1, w.2.2.2.1, w.2.2.2.2.1, w.2.2.2.2.2.1, (0 : Int), [], [], [], [], [], w.1, w.2.1, w.2.2.1, w.2.2.2.1, w.2.2.2.2.1.take k, w.2.2.2.2.2.1, ((k : Nat) : Int), ())) (by
   simp only [fa, iB, aF, cond_false, List.take_length]) (fun k hk => by
   have hx := Xc _ (List.getElem_mem hk); simp only [fa, iB, az hk, aq, cond_true, aC, List.getElem?_eq_getElem hk, Option.bind_some, List.length_take, List.nil_append, aH (show (0 + (w.2.2.2.2.1[k]).1.length) * 40 ≤ lim by unfold lim; omega), aH (show (min k w.2.2.2.2.1.length + 1) * 24 ≤ lim by unfold lim; omega), aJ (show k < 4611686018427387904 by omega)]; rw [List.take_succ_eq_append_getElem hk])
 have l3 : aE fa (w.1, w.2.1, w.2.2.1, w.2.2.2.1, w.2.2.2.2.1, w.2.2.2.2.2.1, (0 : Int), [], [], [], [], [], w.1, w.2.1, w.2.2.1, w.2.2.2.1, [], w.2.2.2.2.2.1, (0 : Int), ()) = _ := l3; unfold ln; simp only [aH (show (0 + w.2.1.length) * 8 ≤ lim by unfold lim; omega), aH (show (0 + w.2.2.2.2.2.1.length) * 40 ≤ lim by unfold lim; omega), cond_true, List.nil_append, l1, l2, l3, cj, Option.bind_some]
theorem Ss {c : Int} {ms : dy} (hr : pF c ms) (sS : List DX) (hl : sS.length ≤ 89) (he : ∀ e ∈ sS, FK ms e) : ∃ (w : cG) (qj : dy), oc c ms sS = some (w.1, w.2.1, w.2.2.1, w.2.2.2.1, w.2.2.2.2.1, w.2.2.2.2.2.1, qj, true, ()) ∧ eK sS.length c ms w ∧ ∃ R S, nL R S ms w := by
 generalize hw0 : eE c ms (ms[0]'hr.2.1.1).1 = w0; have hW0 : eK 0 c ms w0 := by rw [← hw0]; exact BB hr _
 have hR0 : nL 1 0 ms w0 := by rw [← hw0]; exact FM hr
 have e0 : fk c ms = some (w0.1, w0.2.1, w0.2.2.1, w0.2.2.2.1, w0.2.2.2.2.1, w0.2.2.2.2.2.1, true, ()) := by rw [← hw0]; exact zp hr
 have l1 := ee (round := fO) (e := .inl (sS, (0 : Int), [], [], [], [], [], w0.1, w0.2.1, w0.2.2.1, w0.2.2.2.1, w0.2.2.2.2.1, w0.2.2.2.2.2.1, true, ())) sS.length (fun k => (sS, c, ms, (0 : Int), [], [], [], [], [], w0.1, w0.2.1, w0.2.2.1, w0.2.2.2.1, w0.2.2.2.2.1, w0.2.2.2.2.2.1, true, ((k : Nat) : Int), ())) (by
   simp only [fO, nC, aF, cond_false]) (fun k hk => by
   simp only [fO, nC, az hk, cond_true, ah (show ((List.length sS : Nat) : Int) ≤ 90 by omega), aq, aC, List.getElem?_eq_getElem hk, Option.bind_some, jZ hr (he _ (List.getElem_mem hk)), aJ (show k < 4611686018427387904 by omega)])
 have l1 : aE fO (sS, c, ms, (0 : Int), [], [], [], [], [], w0.1, w0.2.1, w0.2.2.1, w0.2.2.2.1, w0.2.2.2.2.1, w0.2.2.2.2.2.1, true, (0 : Int), ()) = _ := l1; obtain ⟨e, l2, w, qj, rfl, hw, hR⟩ := ef (round := fP) (x := (sS, (0 : Int), [], [], [], [], [], w0.1, w0.2.1, w0.2.2.1, w0.2.2.2.1, w0.2.2.2.2.1, w0.2.2.2.2.2.1, [], ((0 : Nat) : Int), ())) sS.length
   (fun k x => ∃ (w : cG) (qj : dy), x = (sS, (0 : Int), [], [], [], [], [], w.1, w.2.1, w.2.2.1, w.2.2.2.1, w.2.2.2.2.1, w.2.2.2.2.2.1, qj, ((k : Nat) : Int), ()) ∧ eK k c ms w ∧ qj.length = k ∧ ∃ R S, nL R S ms w)
   (fun e => ∃ (w : cG) (qj : dy), e = .inl ((0 : Int), [], [], [], [], [], w.1, w.2.1, w.2.2.1, w.2.2.2.1, w.2.2.2.2.1, w.2.2.2.2.2.1, qj, ()) ∧ eK sS.length c ms w ∧ ∃ R S, nL R S ms w) (by
     rintro x ⟨w, qj, rfl, hw, q, hR⟩
     exact ⟨_, by simp only [fP, nD, aF, cond_false], w, qj, rfl, hw, hR⟩) (by
     rintro k x hk ⟨w, qj, rfl, hw, q, R, S, hR⟩
     obtain ⟨b, w', e1, TL, yC⟩ := Iz hw (by omega) (he _ (List.getElem_mem hk)); refine .inr ⟨(sS, (0 : Int), [], [], [], [], [], w'.1, w'.2.1, w'.2.2.1, w'.2.2.2.1, w'.2.2.2.2.1, w'.2.2.2.2.2.1, qj ++ [(b, ())], ((k + 1 : Nat) : Int), ()), ?_, w', _, rfl, TL, by rw [List.length_append, q]; rfl, yC R S hR⟩; simp only [fP, nD, az hk, cond_true, aq, aC, List.getElem?_eq_getElem hk, Option.bind_some, e1, aH (show (qj.length + 1) * 8 ≤ lim by rw [q]; unfold lim; omega), aJ (show k < 4611686018427387904 by omega)]) ⟨w0, [], rfl, hW0, rfl, 1, 0, hR0⟩
 have l2 : aE fP (sS, (0 : Int), [], [], [], [], [], w0.1, w0.2.1, w0.2.2.1, w0.2.2.2.1, w0.2.2.2.2.1, w0.2.2.2.2.2.1, [], (0 : Int), ()) = _ := l2; refine ⟨w, qj, ?_, hw, hR⟩; unfold oc; simp only [e0, Option.bind_some, l1, cj, Bool.not_true, cond_false, l2, M7 hw (by omega)]
theorem M8 (code : List (Int × Unit)) (a s : Int) (d : dP code a) (hc : code.length ≤ 1048576) : ∃ (w : cG) (a' s' : Int) (n : Nat) (c : Int) (ms : dy), jW code a s code = some (w.1, w.2.1, w.2.2.1, w.2.2.2.1, w.2.2.2.2.1, w.2.2.2.2.2.1, code, a', s', ()) ∧ eK n c ms w ∧ n ≤ 89 ∧ dP code a' ∧ ∃ R S, nL R S ms w := by
 obtain ⟨c, ms, sS, a', s', e1, hv, hl, he, d'⟩ := OA code a s d hc; obtain ⟨w, qj, e2, hw, hR⟩ := Ss (CX hv) sS hl he; refine ⟨w, a', s', sS.length, c, ms, ?_, hw, hl, d', hR⟩; unfold jW; simp only [e1, Option.bind_some, e2]
def eP : kt := (0, 0, 0, 0, 0, [], ())
theorem FN (code : List (Int × Unit)) (hc : code.length ≤ 1048576) : ∃ (w : cG) (n : Nat) (c : Int) (ms : dy) (m : ew) (t : kt), gz code = some (m.1, m.2.1, m.2.2.1, m.2.2.2.1, m.2.2.2.2.1, m.2.2.2.2.2.1, m.2.2.2.2.2.2.1, m.2.2.2.2.2.2.2.1, m.2.2.2.2.2.2.2.2.1, m.2.2.2.2.2.2.2.2.2.1, m.2.2.2.2.2.2.2.2.2.2.1, m.2.2.2.2.2.2.2.2.2.2.2.1, m.2.2.2.2.2.2.2.2.2.2.2.2.1, m.2.2.2.2.2.2.2.2.2.2.2.2.2.1, m.2.2.2.2.2.2.2.2.2.2.2.2.2.2.1, m.2.2.2.2.2.2.2.2.2.2.2.2.2.2.2.1, t.1, t.2.1, t.2.2.1, t.2.2.2.1, t.2.2.2.2.1, t.2.2.2.2.2.1, ()) ∧ eK n c ms w ∧ n ≤ 89 ∧ m ∈ w.2.2.1 ∧ ((∃ f ∈ w.2.2.2.1, f.2.1 = true ∧ f.1 = m.1 ∧ t = (f.2.2.1, f.2.2.2.1, f.2.2.2.2.1, f.2.2.2.2.2.1, f.2.2.2.2.2.2.1, f.2.2.2.2.2.2.2.1, ())) ∨ t = eP) ∧ ∃ R S, nL R S ms w := by
 obtain ⟨s0, e0⟩ := Sp code hc; obtain ⟨w, a, s, n, c, ms, e1, hw, hn, d, hR⟩ := M8 code 0 s0 ⟨by omega, by omega, hc⟩ hc; obtain ⟨q0, q1, q2⟩ := hw.HH; have hf := hw.FE; have h1 : 1 ≤ w.2.2.1.length := by rw [hw.len]; exact hw.ring.2.1.1
 obtain ⟨e, he, hq⟩ := ef (round := dw) (x := (aW.1, aW.2.1, aW.2.2.1, aW.2.2.2.1, aW.2.2.2.2.1, aW.2.2.2.2.2.1, aW.2.2.2.2.2.2.1, aW.2.2.2.2.2.2.2.1, aW.2.2.2.2.2.2.2.2.1, aW.2.2.2.2.2.2.2.2.2.1, aW.2.2.2.2.2.2.2.2.2.2.1, aW.2.2.2.2.2.2.2.2.2.2.2.1, aW.2.2.2.2.2.2.2.2.2.2.2.2.1, aW.2.2.2.2.2.2.2.2.2.2.2.2.2.1, aW.2.2.2.2.2.2.2.2.2.2.2.2.2.2.1, aW.2.2.2.2.2.2.2.2.2.2.2.2.2.2.2.1, eP.1, eP.2.1, eP.2.2.1, eP.2.2.2.1, eP.2.2.2.2.1, eP.2.2.2.2.2.1, code, a, s, w.1, w.2.1, w.2.2.1, w.2.2.2.1, w.2.2.2.2.1, w.2.2.2.2.2.1, ((0 : Nat) : Int), ())) w.2.2.2.1.length
   (fun k x => ∃ a s, x = (aW.1, aW.2.1, aW.2.2.1, aW.2.2.2.1, aW.2.2.2.2.1, aW.2.2.2.2.2.1, aW.2.2.2.2.2.2.1, aW.2.2.2.2.2.2.2.1, aW.2.2.2.2.2.2.2.2.1, aW.2.2.2.2.2.2.2.2.2.1, aW.2.2.2.2.2.2.2.2.2.2.1, aW.2.2.2.2.2.2.2.2.2.2.2.1, aW.2.2.2.2.2.2.2.2.2.2.2.2.1, aW.2.2.2.2.2.2.2.2.2.2.2.2.2.1, aW.2.2.2.2.2.2.2.2.2.2.2.2.2.2.1, aW.2.2.2.2.2.2.2.2.2.2.2.2.2.2.2.1, eP.1, eP.2.1, eP.2.2.1, eP.2.2.2.1, eP.2.2.2.2.1, eP.2.2.2.2.2.1, code, a, s, w.1, w.2.1, w.2.2.1, w.2.2.2.1, w.2.2.2.2.1, w.2.2.2.2.2.1, ((k : Nat) : Int), ()) ∧ dP code a)
   (fun e => (∃ a s, e = .inl (aW.1, aW.2.1, aW.2.2.1, aW.2.2.2.1, aW.2.2.2.2.1, aW.2.2.2.2.2.1, aW.2.2.2.2.2.2.1, aW.2.2.2.2.2.2.2.1, aW.2.2.2.2.2.2.2.2.1, aW.2.2.2.2.2.2.2.2.2.1, aW.2.2.2.2.2.2.2.2.2.2.1, aW.2.2.2.2.2.2.2.2.2.2.2.1, aW.2.2.2.2.2.2.2.2.2.2.2.2.1, aW.2.2.2.2.2.2.2.2.2.2.2.2.2.1, aW.2.2.2.2.2.2.2.2.2.2.2.2.2.2.1, aW.2.2.2.2.2.2.2.2.2.2.2.2.2.2.2.1, eP.1, eP.2.1, eP.2.2.1, eP.2.2.2.1, eP.2.2.2.2.1, eP.2.2.2.2.2.1, code, a, s, w.1, w.2.1, w.2.2.1, w.2.2.2.1, w.2.2.2.2.1, w.2.2.2.2.2.1, ()) ∧ dP code a) ∨ (∃ (m : ew) (t : kt), e = .inr (m.1, m.2.1, m.2.2.1, m.2.2.2.1, m.2.2.2.2.1, m.2.2.2.2.2.1, m.2.2.2.2.2.2.1, m.2.2.2.2.2.2.2.1, m.2.2.2.2.2.2.2.2.1, m.2.2.2.2.2.2.2.2.2.1, m.2.2.2.2.2.2.2.2.2.2.1, m.2.2.2.2.2.2.2.2.2.2.2.1, m.2.2.2.2.2.2.2.2.2.2.2.2.1, m.2.2.2.2.2.2.2.2.2.2.2.2.2.1, m.2.2.2.2.2.2.2.2.2.2.2.2.2.2.1, m.2.2.2.2.2.2.2.2.2.2.2.2.2.2.2.1, t.1, t.2.1, t.2.2.1, t.2.2.2.1, t.2.2.2.2.1, t.2.2.2.2.2.1, ()) ∧ m ∈ w.2.2.1 ∧ ∃ f ∈ w.2.2.2.1, f.2.1 = true ∧ f.1 = m.1 ∧ t = (f.2.2.1, f.2.2.2.1, f.2.2.2.2.1, f.2.2.2.2.2.1, f.2.2.2.2.2.2.1, f.2.2.2.2.2.2.2.1, ()))) (by
     rintro x ⟨a, s, rfl, d⟩
     exact ⟨_, by simp only [dw, gS, aF, cond_false], .inl ⟨a, s, rfl, d⟩⟩) (by
     rintro k x hk ⟨a, s, rfl, d⟩
     obtain ⟨i, e2, hi⟩ := HF w (by omega) (w.2.2.2.1[k]).1; simp only [dw, gS, az hk, aq, cond_true, aC, List.getElem?_eq_getElem hk, Option.bind_some, e2, aJ (show k < 4611686018427387904 by omega)]
     cases ht : (w.2.2.2.1[k]).2.1
     · exact .inr ⟨_, rfl, a, s, rfl, d⟩
     · rcases hi with ⟨rfl, _⟩ | ⟨j, hj, rfl, yS⟩
       · exact .inr ⟨_, rfl, a, s, rfl, d⟩
       · obtain ⟨o, a2, s2, e3, d2⟩ := DS code a s 3 d (by omega); rw [cond_true, aq, cond_true, e3, Option.bind_some, cond_true, aC, List.getElem?_eq_getElem hj, Option.bind_some]
         cases o
         · exact .inl ⟨_, rfl, .inr ⟨w.2.2.1[j], ((w.2.2.2.1[k]).2.2.1, (w.2.2.2.1[k]).2.2.2.1, (w.2.2.2.1[k]).2.2.2.2.1, (w.2.2.2.1[k]).2.2.2.2.2.1, (w.2.2.2.1[k]).2.2.2.2.2.2.1, (w.2.2.2.1[k]).2.2.2.2.2.2.2.1, ()), rfl, List.getElem_mem hj, w.2.2.2.1[k], List.getElem_mem hk, ht, yS.symm, rfl⟩⟩
         · exact .inr ⟨_, rfl, a2, s2, rfl, d2⟩) ⟨a, s, rfl, d⟩
 have he : aE dw ((0 : Int), (0 : Int), [], [], [], [], (0 : Int), (0 : Int), (0 : Int), (0 : Int), (0 : Int), (0 : Int), (0 : Int), (0 : Int), (0 : Int), [], (0 : Int), (0 : Int), (0 : Int), (0 : Int), (0 : Int), [], code, a, s, w.1, w.2.1, w.2.2.1, w.2.2.2.1, w.2.2.2.2.1, w.2.2.2.2.2.1, (0 : Int), ()) = some e := he; unfold gz; simp only [e0, e1, Option.bind_some, he, cj]; rcases hq with ⟨a', s', rfl, d'⟩ | ⟨m, t, rfl, hm, ht⟩
 · obtain ⟨i, a2, s2, e2, i0, i1, d2⟩ := mP code a' s' ((List.length w.2.2.1 : Nat) : Int) d' (by omega); obtain ⟨i, rfl⟩ := Int.eq_ofNat_of_zero_le i0; have hi : i < w.2.2.1.length := by omega
   refine ⟨w, n, c, ms, w.2.2.1[i], eP, ?_, hw, hn, List.getElem_mem hi, .inr rfl, hR⟩; simp only [e2, Option.bind_some, aq, cond_true, aC, List.getElem?_eq_getElem hi]; rfl
 · exact ⟨w, n, c, ms, m, t, rfl, hw, hn, hm, .inl ht, hR⟩
theorem FO {xs : aM} (h : xs.length ≤ 1048576) {s : Int} (h1 : 1 ≤ s) (h2 : s ≤ ((cF xs : Nat) : Int)) : (qh xs s).1 = s := by
 obtain ⟨_, a1, _⟩ := (uj xs h).2.2; obtain ⟨k, rfl⟩ := Int.eq_ofNat_of_zero_le (show 0 ≤ s by omega); have := a1 (k - 1) (by omega); rw [show k - 1 + 1 = k by omega] at this; obtain ⟨r, hr⟩ := Option.isSome_iff_exists.1 this; unfold qh; rw [hr]; exact (Bk hr).2
theorem HL (xs : aM) (h : Int) {k j : Nat} (hj : j < (fF xs h k).length) : (fF xs h k)[j] = qh xs (h + ((j + 1 : Nat) : Int)) := by
 simp [fF]
theorem HM (l : aM) (h : l.length ≤ 1048576) : lu l l = some (true, ()) := by
 have hl := ee (round := eO) (e := .inl ()) l.length (fun k => (l, l, ((k : Nat) : Int), ())) (by
     simp only [eO, lr, aF, cond_false]) (fun k hk => by
     simp only [eO, lr, az hk, aq, cond_true, cond_false, aC, List.getElem?_eq_getElem hk, Option.bind_some, decide_true, AS, Bool.and_self, Bool.not_true, aJ (show k < 4611686018427387904 by omega)])
 have hl : aE eO (l, l, (0 : Int), ()) = _ := hl; unfold lu; simp only [decide_true, Bool.not_true, cond_false, hl, ir]
theorem JV (code : List (Int × Unit)) : sn code = some (true, ()) := by
 unfold sn AZ
 by_cases hb : (1048576 : Int) < ((List.length code : Nat) : Int)
 · rw [ah hb]; rfl
 rw [ai hb]; obtain ⟨w, nn, c, ms, m, t, e1, hw, _, wU, _, _⟩ := FN code (by omega); have hm := (hw.B6 m wU).1; have hi := (cA _ hm.items).1; obtain ⟨k, n, en, e2, e3, hn, g1, g2, g3⟩ := DR hm; obtain ⟨k2, n2, en2, e4, _, _, j1, j2, j3⟩ := DR hn; have ha := (uj m.2.2.2.1 (by omega)).2.2.1; have hh := hm.heard; have f1 : n.2.2.2.1 = m.2.2.2.1 := by rw [en]; rfl
 have f2 : n.2.2.2.2.2.2.2.2.1 = m.2.2.2.2.2.2.2.2.1 := by rw [en]; rfl
 have f3 : n.2.2.2.2.2.2.2.2.2.1 = m.2.2.2.2.2.2.2.2.2.1 + ((k : Nat) : Int) := by rw [en]; rfl
 have q8 : k2 = 0 := by
   by_cases h : k2 = 0
   · exact h
   · exfalso
     rw [f1, f3] at j1; have h1 := j2 0 (by omega); have h2 := g3 (by omega); rw [f1, f2, f3, show m.2.2.2.2.2.2.2.2.2.1 + ((k : Nat) : Int) + ((0 + 1 : Nat) : Int) = m.2.2.2.2.2.2.2.2.2.1 + ((k + 1 : Nat) : Int) by omega] at h1; exact h1 h2
 have hq := (sF _ (Nat.le_trans hn.small (by decide))).2.1; rw [(sF _ (Nat.le_trans hn.small (by decide))).2.2.2 hn] at hq; have hlen := sG m.2.2.2.1 m.2.2.2.2.2.2.2.2.2.1 k; have BI := fun j (hj : j < (fF m.2.2.2.1 m.2.2.2.2.2.2.2.2.2.1 k).length) => HL m.2.2.2.1 m.2.2.2.2.2.2.2.2.2.1 (k := k) hj
 generalize hl : fF m.2.2.2.1 m.2.2.2.2.2.2.2.2.2.1 k = l at *; have l1 := ee (round := fQ) (e := .inl (m.1, m.2.1, m.2.2.1, m.2.2.2.1, m.2.2.2.2.1, m.2.2.2.2.2.1, m.2.2.2.2.2.2.1, m.2.2.2.2.2.2.2.1, m.2.2.2.2.2.2.2.2.1, m.2.2.2.2.2.2.2.2.2.1, m.2.2.2.2.2.2.2.2.2.2.1, m.2.2.2.2.2.2.2.2.2.2.2.1, m.2.2.2.2.2.2.2.2.2.2.2.2.1, m.2.2.2.2.2.2.2.2.2.2.2.2.2.1, m.2.2.2.2.2.2.2.2.2.2.2.2.2.2.1, m.2.2.2.2.2.2.2.2.2.2.2.2.2.2.2.1, n.1, n.2.1, n.2.2.1, n.2.2.2.1, n.2.2.2.2.1, n.2.2.2.2.2.1, n.2.2.2.2.2.2.1, n.2.2.2.2.2.2.2.1, n.2.2.2.2.2.2.2.2.1, n.2.2.2.2.2.2.2.2.2.1, n.2.2.2.2.2.2.2.2.2.2.1, n.2.2.2.2.2.2.2.2.2.2.2.1, n.2.2.2.2.2.2.2.2.2.2.2.2.1, n.2.2.2.2.2.2.2.2.2.2.2.2.2.1, n.2.2.2.2.2.2.2.2.2.2.2.2.2.2.1, n.2.2.2.2.2.2.2.2.2.2.2.2.2.2.2.1, l, ())) l.length (fun k => (m.1, m.2.1, m.2.2.1, m.2.2.2.1, m.2.2.2.2.1, m.2.2.2.2.2.1, m.2.2.2.2.2.2.1, m.2.2.2.2.2.2.2.1, m.2.2.2.2.2.2.2.2.1, m.2.2.2.2.2.2.2.2.2.1, m.2.2.2.2.2.2.2.2.2.2.1, m.2.2.2.2.2.2.2.2.2.2.2.1, m.2.2.2.2.2.2.2.2.2.2.2.2.1, m.2.2.2.2.2.2.2.2.2.2.2.2.2.1, m.2.2.2.2.2.2.2.2.2.2.2.2.2.2.1, m.2.2.2.2.2.2.2.2.2.2.2.2.2.2.2.1, n.1, n.2.1, n.2.2.1, n.2.2.2.1, n.2.2.2.2.1, n.2.2.2.2.2.1, n.2.2.2.2.2.2.1, n.2.2.2.2.2.2.2.1, n.2.2.2.2.2.2.2.2.1, n.2.2.2.2.2.2.2.2.2.1, n.2.2.2.2.2.2.2.2.2.2.1, n.2.2.2.2.2.2.2.2.2.2.2.1, n.2.2.2.2.2.2.2.2.2.2.2.2.1, n.2.2.2.2.2.2.2.2.2.2.2.2.2.1, n.2.2.2.2.2.2.2.2.2.2.2.2.2.2.1, n.2.2.2.2.2.2.2.2.2.2.2.2.2.2.2.1, l, ((k : Nat) : Int), ())) (by
   simp only [fQ, nH, aF, cond_false]) (fun j hj => by
   have h1 := BI j hj; have h2 := FO (xs := m.2.2.2.1) (by omega) (s := m.2.2.2.2.2.2.2.2.2.1 + ((j + 1 : Nat) : Int)) (by omega) (by omega); have h3 := g2 j (by omega); simp only [fQ, nH, az hj, my hj, aq, cond_true, aC, List.getElem?_eq_getElem hj, Option.bind_some, aJ (show j < 4611686018427387904 by omega), h1, h2]; rw [eA (show -9223372036854775808 ≤ m.2.2.2.2.2.2.2.2.2.1 + ((j : Nat) : Int) by omega) (by omega), eA (show -9223372036854775808 ≤ m.2.2.2.2.2.2.2.2.2.1 + ((j : Nat) : Int) + 1 by omega) (by omega), ah (show m.2.2.2.2.2.2.2.2.2.1 + ((j + 1 : Nat) : Int) = m.2.2.2.2.2.2.2.2.2.1 + ((j : Nat) : Int) + 1 by omega)]; simp only [Bool.not_true, cond_false]
   by_cases h4 : (qh m.2.2.2.1 (m.2.2.2.2.2.2.2.2.2.1 + ((j + 1 : Nat) : Int))).2.2.1 = 2
   · have h5 : ¬ m.2.2.2.2.2.2.2.2.1 < m.2.2.2.2.2.2.2.2.2.1 + ((j + 1 : Nat) : Int) := fun h => h3 ⟨h4, by rw [h2]; exact h⟩
     rw [ah h4, ai h5]; rfl
   · rw [ai h4]; rfl)
 have l1 : aE fQ (m.1, m.2.1, m.2.2.1, m.2.2.2.1, m.2.2.2.2.1, m.2.2.2.2.2.1, m.2.2.2.2.2.2.1, m.2.2.2.2.2.2.2.1, m.2.2.2.2.2.2.2.2.1, m.2.2.2.2.2.2.2.2.2.1, m.2.2.2.2.2.2.2.2.2.2.1, m.2.2.2.2.2.2.2.2.2.2.2.1, m.2.2.2.2.2.2.2.2.2.2.2.2.1, m.2.2.2.2.2.2.2.2.2.2.2.2.2.1, m.2.2.2.2.2.2.2.2.2.2.2.2.2.2.1, m.2.2.2.2.2.2.2.2.2.2.2.2.2.2.2.1, n.1, n.2.1, n.2.2.1, n.2.2.2.1, n.2.2.2.2.1, n.2.2.2.2.2.1, n.2.2.2.2.2.2.1, n.2.2.2.2.2.2.2.1, n.2.2.2.2.2.2.2.2.1, n.2.2.2.2.2.2.2.2.2.1, n.2.2.2.2.2.2.2.2.2.2.1, n.2.2.2.2.2.2.2.2.2.2.2.1, n.2.2.2.2.2.2.2.2.2.2.2.2.1, n.2.2.2.2.2.2.2.2.2.2.2.2.2.1, n.2.2.2.2.2.2.2.2.2.2.2.2.2.2.1, n.2.2.2.2.2.2.2.2.2.2.2.2.2.2.2.1, l, (0 : Int), ()) = _ := l1; have e9 := HM l (by omega); subst q8; have e4 : l6 n.1 n.2.1 n.2.2.1 n.2.2.2.1 n.2.2.2.2.1 n.2.2.2.2.2.1 n.2.2.2.2.2.2.1 n.2.2.2.2.2.2.2.1 n.2.2.2.2.2.2.2.2.1 n.2.2.2.2.2.2.2.2.2.1 n.2.2.2.2.2.2.2.2.2.2.1 n.2.2.2.2.2.2.2.2.2.2.2.1 n.2.2.2.2.2.2.2.2.2.2.2.2.1 n.2.2.2.2.2.2.2.2.2.2.2.2.2.1 n.2.2.2.2.2.2.2.2.2.2.2.2.2.2.1 n.2.2.2.2.2.2.2.2.2.2.2.2.2.2.2.1 = some (n2.1, n2.2.1, n2.2.2.1, n2.2.2.2.1, n2.2.2.2.2.1, n2.2.2.2.2.2.1, n2.2.2.2.2.2.2.1, n2.2.2.2.2.2.2.2.1, n2.2.2.2.2.2.2.2.2.1, n2.2.2.2.2.2.2.2.2.2.1, n2.2.2.2.2.2.2.2.2.2.2.1, n2.2.2.2.2.2.2.2.2.2.2.2.1, n2.2.2.2.2.2.2.2.2.2.2.2.2.1, n2.2.2.2.2.2.2.2.2.2.2.2.2.2.1, n2.2.2.2.2.2.2.2.2.2.2.2.2.2.2.1, n2.2.2.2.2.2.2.2.2.2.2.2.2.2.2.2.1, [], ()) := e4; simp only [Option.bind_some, cond_false, e1]; rw [e2]; simp only [Option.bind_some]; rw [l1]; simp only [cj, Option.bind_some, e4, e3, hq, cond_true, e9, hlen]; rw [f3, eA (show -9223372036854775808 ≤ m.2.2.2.2.2.2.2.2.2.1 + ((k : Nat) : Int) by omega) (by omega), ah (rfl : m.2.2.2.2.2.2.2.2.2.1 + ((k : Nat) : Int) = m.2.2.2.2.2.2.2.2.2.1 + ((k : Nat) : Int))]; rfl
end Go.TM

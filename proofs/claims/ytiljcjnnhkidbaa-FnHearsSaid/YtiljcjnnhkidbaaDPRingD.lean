/- A ring's life, drawn and played by the reference. -/
import Derived.Test.YtiljcjnnhkidbaaDPRingL
namespace Go.TM
open Go
theorem J2 {v : Int} (h : (v, ()) ∈ [((1 : Int), ()), (1, ()), (1, ()), (2, ()), (2, ()), (2, ()), (2, ()), (2, ()), (2, ()), (3, ()), (3, ()), (4, ()), (5, ()), (6, ()), (7, ()), (7, ())]) : 1 ≤ v ∧ v ≤ 7 := by
 simp only [List.mem_cons, Prod.mk.injEq, and_true, List.not_mem_nil, or_false] at h; omega
theorem OJ (code : List (Int × Unit)) (at_ pW : Int) (h : dS code at_) : ∃ v FM s', lk code at_ pW = some (v, code, FM, s', ()) ∧ ByteArray.size v ≤ 3 ∧ dS code FM := by
 obtain ⟨v, a1, s1, e1, hv, d1⟩ := M8 code at_ pW [((ByteArray.mk #[97, 110, 110]), ()), ((ByteArray.mk #[98, 111, 98]), ()), ((ByteArray.mk #[99, 121]), ()), ((ByteArray.mk #[100, 52]), ()), ((ByteArray.mk #[101, 118, 101]), ())] h (by decide); refine ⟨v, a1, s1, ?_, ?_, d1⟩
 · unfold lk; rw [e1]; rfl
 · simp only [List.mem_cons, Prod.mk.injEq, and_true, List.not_mem_nil, or_false] at hv; rcases hv with rfl | rfl | rfl | rfl | rfl <;> decide
theorem Nh (code : List (Int × Unit)) {n : Nat} {c : Int} {ms : dA} {w : cH} (h : eN n c ms w) (hn : n ≤ 1000) {v id b : Int} (hv : 1 ≤ v ∧ v ≤ 7) (yW : (id, ()) ∈ ms) (hb : 0 ≤ b) (a s : Int) (d : dS code a) :
   ∃ (e : D3) (a' s' : Int), iz code a s w.1 w.2.1 w.2.2.1 w.2.2.2.1 w.2.2.2.2.1 w.2.2.2.2.2.1 0 0 0 0 ByteArray.empty v id b 0 ByteArray.empty = some (e.1, e.2.1, e.2.2.1, e.2.2.2.1, e.2.2.2.2.1, code, a', s', w.1, w.2.1, w.2.2.1, w.2.2.2.1, w.2.2.2.2.1, w.2.2.2.2.2.1, ()) ∧ FR ms e ∧ dS code a' := by
 have hf := h.FL; unfold iz
 by_cases k2 : v = 2
 · obtain ⟨e, he, a', s', b', rfl, d', kj⟩ := eg (round := fP) (x := (code, a, s, w.1, w.2.1, w.2.2.1, w.2.2.2.1, w.2.2.2.2.1, w.2.2.2.2.2.1, (0 : Int), (0 : Int), (0 : Int), (0 : Int), ByteArray.empty, v, id, b, (0 : Int), ByteArray.empty, ((0 : Nat) : Int), ())) w.2.2.2.1.length
     (fun k x => ∃ a s b, x = (code, a, s, w.1, w.2.1, w.2.2.1, w.2.2.2.1, w.2.2.2.2.1, w.2.2.2.2.2.1, (0 : Int), (0 : Int), (0 : Int), (0 : Int), ByteArray.empty, v, id, b, (0 : Int), ByteArray.empty, ((k : Nat) : Int), ()) ∧ dS code a ∧ 0 ≤ b)
     (fun e => ∃ a s b, e = .inl (code, a, s, w.1, w.2.1, w.2.2.1, w.2.2.2.1, w.2.2.2.2.1, w.2.2.2.2.2.1, (0 : Int), (0 : Int), (0 : Int), (0 : Int), ByteArray.empty, v, id, b, (0 : Int), ByteArray.empty, ()) ∧ dS code a ∧ 0 ≤ b) (by
       rintro x ⟨a, s, b, rfl, d, hb⟩
       exact ⟨_, by simp only [fP, nc, aF, cond_false], a, s, b, rfl, d, hb⟩) (by
       rintro k x hk ⟨a, s, b, rfl, d, hb⟩
       simp only [fP, nc, az hk, aq, cond_true, aC, List.getElem?_eq_getElem hk, Option.bind_some, aJ (show k < 4611686018427387904 by omega)]
       cases (w.2.2.2.1[k]).2.1
       · exact .inr ⟨_, rfl, a, s, b, rfl, d, hb⟩
       · obtain ⟨o, a1, s1, e1, d1⟩ := DY code a s 4 d (by omega); simp only [e1, Option.bind_some, cond_true]
         cases o
         · exact .inr ⟨_, rfl, a1, s1, ((k : Nat) : Int), rfl, d1, by omega⟩
         · exact .inr ⟨_, rfl, a1, s1, b, rfl, d1, hb⟩) ⟨a, s, b, rfl, d, hb⟩
   have he : aE fP (code, a, s, w.1, w.2.1, w.2.2.1, w.2.2.2.1, w.2.2.2.2.1, w.2.2.2.2.2.1, (0 : Int), (0 : Int), (0 : Int), (0 : Int), ByteArray.empty, v, id, b, (0 : Int), ByteArray.empty, (0 : Int), ()) = _ := he; refine ⟨(v, id, b', 0, ByteArray.empty, ()), a', s', ?_, ⟨hv, yW, kj, fun h1 => ?_, fun _ => ⟨rfl, rfl⟩⟩, d'⟩
   · simp only [ah k2, cond_true, he, cj, Option.bind_some, ai (show ¬ v = 1 by omega), cond_false]
   · have h1 : v = 1 := h1; omega
 by_cases k1 : v = 1
 · obtain ⟨l, a1, s1, e1, l0, l1, d1⟩ := mU code a s 2 d (by omega); obtain ⟨t, a2, s2, e2, ht, d2⟩ := OJ code a1 s1 d1; refine ⟨(v, id, b, 1 + l, t, ()), a2, s2, ?_, ⟨hv, yW, hb, fun _ => ⟨by show 1 ≤ 1 + l ∧ 1 + l ≤ 2; omega, by show ByteArray.size t ≤ 60; omega⟩, fun h1 => absurd k1 h1⟩, d2⟩; simp only [ai k2, ah k1, cond_false, cond_true, e1, e2, Option.bind_some]; rw [eB (show -9223372036854775808 ≤ 1 + l by omega) (by omega)]
 · refine ⟨(v, id, b, 0, ByteArray.empty, ()), a, s, ?_, ⟨hv, yW, hb, fun h1 => absurd h1 k1, fun _ => ⟨rfl, rfl⟩⟩, d⟩; simp only [ai k2, ai k1, cond_false]
theorem SF (code : List (Int × Unit)) (a s : Int) (d : dS code a) {n : Nat} {c : Int} {ms : dA} {w : cH} (h : eN n c ms w) (hn : n ≤ 1000) :
   ∃ (e : D3) (a' s' : Int), ic code a s w.1 w.2.1 w.2.2.1 w.2.2.2.1 w.2.2.2.2.1 w.2.2.2.2.2.1 = some (e.1, e.2.1, e.2.2.1, e.2.2.2.1, e.2.2.2.2.1, code, a', s', w.1, w.2.1, w.2.2.1, w.2.2.2.1, w.2.2.2.2.1, w.2.2.2.2.2.1, ()) ∧ FR ms e ∧ dS code a' := by
 obtain ⟨q0, q1, q2⟩ := h.HS; have hr := h.ring.2.1.1; have X2 := h.self.2; obtain ⟨v, a1, s1, e1, hv, d1⟩ := OG code a s [((1 : Int), ()), (1, ()), (1, ()), (2, ()), (2, ()), (2, ()), (2, ()), (2, ()), (2, ()), (3, ()), (3, ()), (4, ()), (5, ()), (6, ()), (7, ()), (7, ())] d (by decide); obtain ⟨i, a2, s2, e2, i0, i1, d2⟩ := mU code a1 s1 ((List.length w.2.1 : Nat) : Int) d1 (by rw [X2]; omega); obtain ⟨b, a3, s3, e3, b0, b1, d3⟩ := mU code a2 s2 30 d2 (by omega); obtain ⟨i, rfl⟩ := Int.eq_ofNat_of_zero_le i0; have hi : i < w.2.1.length := by omega
 obtain ⟨e, a', s', e4, he, d'⟩ := Nh code h hn (J2 hv) (show ((w.2.1[i]).1, ()) ∈ ms by rw [← X2]; exact List.getElem_mem hi) b0 a3 s3 d3; refine ⟨e, a', s', ?_, he, d'⟩; unfold ic; simp only [e1, e2, e3, Option.bind_some, aq, cond_true, aC, List.getElem?_eq_getElem hi, dq]; exact e4
theorem C2 {c : Int} {ms : dA} (h : FN c ms) : pH c ms := ⟨⟨h.xE, h.id2⟩, ⟨h.some_, h.len⟩, fun k hk _ => ⟨by have := h.rising.2.1 k hk; omega, fun h0 => h.rising.2.2 (k - 1) k (by omega) hk (by omega)⟩⟩
theorem HV {c : Int} {ms : dA} (h : pH c ms) {id : Int} (yW : (id, ()) ∈ ms) : sI (ow c ms id) := {
 ring := h
 mem := yW
 items := fun k hk => by cases hk
 texts := ⟨Nat.zero_le _, rfl⟩
 Oy := fun j hj => by cases hj
 short := fun j hj => by cases hj
 round := ⟨Int.le_refl _, show (0 : Int) ≤ 1000000000 by decide⟩
 seen := ⟨Int.le_refl _, show (0 : Int) ≤ 60 by decide⟩
 line := ⟨Int.le_refl _, Int.natCast_nonneg _⟩
 heard := ⟨Int.le_refl _, Int.natCast_nonneg _⟩
 last := .inl ⟨rfl, rfl, rfl, rfl, rfl, rfl⟩ }
def xX (c : Int) : kz := (c, 1, 0, 0, 0, [], ())
theorem FT {c : Int} {ms : dA} (h : pH c ms) : Bu (xX c) := ⟨h.1, ⟨show (1 : Int) ≤ 1 by decide, show (1 : Int) ≤ 1000000000 by decide⟩, ⟨show (0 : Int) ≤ 0 by decide, show (0 : Int) ≤ 60 by decide⟩, ⟨show (0 : Int) ≤ 0 by decide, show (0 : Int) ≤ 0 by decide⟩, ⟨show (0 : Int) ≤ 0 by decide, show (0 : Int) ≤ 5 by decide⟩, Nat.zero_le _, fun k hk => by cases hk⟩
def eF (c : Int) (ms : dA) (a : Int) : cH := (c, ms, ms.map fun m => ow c ms m.1, [kC a (xX c)], List.replicate ms.length ([], ()), [], ())
theorem zu {c : Int} {ms : dA} (hr : pH c ms) : ft c ms = some ((eF c ms (ms[0]'hr.2.1.1).1).1, (eF c ms (ms[0]'hr.2.1.1).1).2.1, (eF c ms (ms[0]'hr.2.1.1).1).2.2.1, (eF c ms (ms[0]'hr.2.1.1).1).2.2.2.1, (eF c ms (ms[0]'hr.2.1.1).1).2.2.2.2.1, (eF c ms (ms[0]'hr.2.1.1).1).2.2.2.2.2.1, true, ()) := by
 have hl := hr.2.1.2; have No := hr.2.1.1; have h : ms.length ≤ 1048576 := by omega
 have r1 := (qh c ms h).1; rw [(qh c ms h).2.2.2 hr] at r1; have l1 := ef (round := dX) (e := .inl (c, ms, (0 : Int), [], [], [], [], [], c, ms, ms.map fun m => ow c ms m.1, [], List.replicate ms.length ([], ()), [], ())) ms.length (fun k => (c, ms, (0 : Int), [], [], [], [], [], c, ms, (ms.take k).map fun m => ow c ms m.1, [], List.replicate k ([], ()), [], ((k : Nat) : Int), ())) (by
   simp only [dX, iy, aF, cond_false, List.take_length]) (fun k hk => by
   simp only [dX, iy, az hk, aq, cond_true, aC, List.getElem?_eq_getElem hk, Option.bind_some, DZ c ms ms[k].1 h r1 (List.getElem_mem hk), List.length_map, List.length_take, List.length_replicate, Nat.min_eq_left (Nat.le_of_lt hk), aH (show (k + 1) * 208 ≤ lim by unfold lim; omega), aH (show (k + 1) * 24 ≤ lim by unfold lim; omega), aJ (show k < 4611686018427387904 by omega)]; rw [map_take _ _ hk, List.replicate_succ']; rfl)
 have l1 : aE dX (c, ms, (0 : Int), [], [], [], [], [], c, ms, [], [], [], [], (0 : Int), ()) = _ := l1; unfold ft kc; simp only [r1, Option.bind_some, Bool.not_true, cond_false, cond_true, aH (show (0 + ms.length) * 8 ≤ lim by unfold lim; omega), List.nil_append, l1, cj, List.getElem?_eq_getElem (show 0 < ms.length by omega)]; rfl
theorem BG {c : Int} {ms : dA} (hr : pH c ms) (a : Int) : eN 0 c ms (eF c ms a) := {
 ring := hr
 self := ⟨rfl, rfl⟩
 len := by show (ms.map _).length = _; rw [List.length_map]
 ids := fun k hk hm => by
   have hk : k < (ms.map fun m => ow c ms m.1).length := hk; show ((ms.map fun m => ow c ms m.1)[k]).1 = _; rw [List.getElem_map]; rfl
 Cb := fun m hm => by
   have hm : m ∈ ms.map fun m => ow c ms m.1 := hm
   obtain ⟨x, hx, rfl⟩ := List.mem_map.1 hm; exact ⟨HV hr hx, rfl, rfl⟩
 zD := fun f hf => by
   have hf : f ∈ [kC a (xX c)] := hf; rw [List.mem_singleton] at hf; subst hf; exact BE (FT hr)
 FL := by show 1 ≤ _; omega
 heard := by show (List.replicate _ _).length = _; rw [List.length_replicate]
 list := fun x hx => by
   have hx : x ∈ List.replicate ms.length (([], ()) : aM × Unit) := hx; rw [List.mem_replicate] at hx; rw [hx.2]; exact Nat.zero_le _
 said := ⟨fun x hx => (by cases hx), Nat.zero_le _⟩ }
theorem FU {c : Int} {ms : dA} (hr : pH c ms) : nQ 1 0 ms (eF c ms (ms[0]'hr.2.1.1).1) := {
 zD := fun f hf => by
   have hf : f ∈ [kC (ms[0]'hr.2.1.1).1 (xX c)] := hf; rw [List.mem_singleton] at hf; subst hf; exact ⟨fun _ => ⟨1, Nat.le_refl _, Nat.le_refl _, rfl, ⟨ms[0]'hr.2.1.1, by rw [Nat.sub_self, Nat.zero_mod]; exact List.getElem?_eq_getElem hr.2.1.1, rfl⟩, fun _ => rfl⟩, fun e => (by cases e)⟩
 pX := fun k hk => by
   have hk : k < (ms.map fun m => ow c ms m.1).length := hk; show uB 1 0 ms.length k (ms.map fun m => ow c ms m.1)[k]; rw [List.getElem_map]; exact ⟨fun x hx => (by cases hx), 0, rfl, by omega, fun r _ _ => by omega, .inl ⟨rfl, rfl, rfl, rfl, rfl, rfl⟩⟩
 said := fun x hx => by cases hx }
theorem OK (code : List (Int × Unit)) (h : code.length ≤ 1048576) : ∃ n : Nat, n6 code = some (((n : Nat) : Int), ()) ∧ n ≤ 89 := by
 have e : Int.tdiv ((List.length code : Nat) : Int) 4 = ((code.length / 4 : Nat) : Int) := rfl; unfold n6; rw [e, eB (show -9223372036854775808 ≤ ((code.length / 4 : Nat) : Int) by omega) (by omega), eB (show -9223372036854775808 ≤ 24 + ((code.length / 4 : Nat) : Int) by omega) (by omega)]
 by_cases g : 89 < 24 + code.length / 4
 · rw [ah (show (89 : Int) < 24 + ((code.length / 4 : Nat) : Int) by omega)]; exact ⟨89, rfl, Nat.le_refl _⟩
 · rw [ai (show ¬ (89 : Int) < 24 + ((code.length / 4 : Nat) : Int) by omega)]; exact ⟨24 + code.length / 4, rfl, by omega⟩
theorem OL (code : List (Int × Unit)) (a s : Int) (d : dS code a) (hc : code.length ≤ 1048576) : ∃ (c : Int) (ms : dA) (sX : List D3) (a' s' : Int), og code a s code = some (c, ms, sX, code, a', s', ()) ∧ FN c ms ∧ sX.length ≤ 89 ∧ (∀ e ∈ sX, FR ms e) ∧ dS code a' := by
 obtain ⟨c, ms, a1, s1, e1, hv, _, _, d1⟩ := HP code a s d; have hr := C2 hv; obtain ⟨n, e2, hn⟩ := OK code hc; obtain ⟨e, he, a', s', sX, rfl, q1, q2, d'⟩ := eg (round := fS) (x := (code, a1, s1, code, (0 : Int), [], [], c, ms, [], (eF c ms (ms[0]'hr.2.1.1).1).1, (eF c ms (ms[0]'hr.2.1.1).1).2.1, (eF c ms (ms[0]'hr.2.1.1).1).2.2.1, (eF c ms (ms[0]'hr.2.1.1).1).2.2.2.1, (eF c ms (ms[0]'hr.2.1.1).1).2.2.2.2.1, (eF c ms (ms[0]'hr.2.1.1).1).2.2.2.2.2.1, ((0 : Nat) : Int), ())) n
   (fun k x => ∃ (a s : Int) (sX : List D3) (w : cH), x = (code, a, s, code, (0 : Int), [], [], c, ms, sX, w.1, w.2.1, w.2.2.1, w.2.2.2.1, w.2.2.2.2.1, w.2.2.2.2.2.1, ((k : Nat) : Int), ()) ∧ eN k c ms w ∧ sX.length = k ∧ (∀ e ∈ sX, FR ms e) ∧ dS code a)
   (fun e => ∃ (a s : Int) (sX : List D3), e = .inl (code, a, s, (0 : Int), [], [], c, ms, sX, ()) ∧ sX.length = n ∧ (∀ e ∈ sX, FR ms e) ∧ dS code a) (by
     rintro x ⟨a, s, sX, w, rfl, hw, q1, q2, d⟩
     exact ⟨_, by simp only [fS, nB, e2, Option.bind_some, aF, cond_false], a, s, sX, rfl, q1, q2, d⟩) (by
     rintro k x hk ⟨a, s, sX, w, rfl, hw, q1, q2, d⟩
     obtain ⟨e, a1, s1, e3, he, d1⟩ := SF code a s d hw (by omega); obtain ⟨b, w', e4, TW, _⟩ := II hw (by omega) he; refine .inr ⟨(code, a1, s1, code, (0 : Int), [], [], c, ms, sX ++ [e], w'.1, w'.2.1, w'.2.2.1, w'.2.2.2.1, w'.2.2.2.2.1, w'.2.2.2.2.2.1, ((k + 1 : Nat) : Int), ()), ?_, a1, s1, sX ++ [e], w', rfl, TW, by rw [List.length_append, q1]; rfl, fun x hx => ?_, d1⟩
     · simp only [fS, nB, e2, Option.bind_some, az hk, cond_true, e3, e4, aH (show (sX.length + 1) * 48 ≤ lim by rw [q1]; unfold lim; omega), aJ (show k < 4611686018427387904 by omega)]
     · rcases List.mem_append.1 hx with hx | hx
       · exact q2 x hx
       · rw [List.mem_singleton] at hx; subst hx; exact he) ⟨a1, s1, [], _, rfl, BG hr _, rfl, fun e he => (by cases he), d1⟩
 have he : aE fS (code, a1, s1, code, (0 : Int), [], [], c, ms, [], (eF c ms (ms[0]'hr.2.1.1).1).1, (eF c ms (ms[0]'hr.2.1.1).1).2.1, (eF c ms (ms[0]'hr.2.1.1).1).2.2.1, (eF c ms (ms[0]'hr.2.1.1).1).2.2.2.1, (eF c ms (ms[0]'hr.2.1.1).1).2.2.2.2.1, (eF c ms (ms[0]'hr.2.1.1).1).2.2.2.2.2.1, (0 : Int), ()) = _ := he; refine ⟨c, ms, sX, a', s', ?_, hv, by omega, q2, d'⟩; unfold og; simp only [e1, Option.bind_some, zu hr, he, cj]
theorem Ni {n : Nat} {c : Int} {ms : dA} {w : cH} (h : eN n c ms w) (hn : n ≤ 1000) : ly w.1 w.2.1 w.2.2.1 w.2.2.2.1 w.2.2.2.2.1 w.2.2.2.2.2.1 = some (w.1, w.2.1, w.2.2.1, w.2.2.2.1, w.2.2.2.2.1, w.2.2.2.2.2.1, ()) := by
 obtain ⟨q0, q1, q2⟩ := h.HS; have hf := h.FL; have hs := h.said.2; have hh := h.heard; have Xm := h.list; have l1 := ef (round := fT) (e := .inl (w.1, w.2.1, w.2.2.1, w.2.2.2.1, w.2.2.2.2.1, w.2.2.2.2.2.1, (0 : Int), [], [], [], [], [], w.1, w.2.1, w.2.2.1, [], [], w.2.2.2.2.2.1, ())) w.2.2.1.length (fun k => (w.1, w.2.1, w.2.2.1, w.2.2.2.1, w.2.2.2.2.1, w.2.2.2.2.2.1, (0 : Int), [], [], [], [], [], w.1, w.2.1, w.2.2.1.take k, [], [], w.2.2.2.2.2.1, ((k : Nat) : Int), ())) (by
   simp only [fT, nC, aF, cond_false, List.take_length]) (fun k hk => by
   have hc := (kN (w.2.2.1[k]).1 (w.2.2.1[k]).2.1 (w.2.2.1[k]).2.2.1 (w.2.2.1[k]).2.2.2.1 (w.2.2.1[k]).2.2.2.2.1 (w.2.2.1[k]).2.2.2.2.2.1 (w.2.2.1[k]).2.2.2.2.2.2.1 (w.2.2.1[k]).2.2.2.2.2.2.2.1 (w.2.2.1[k]).2.2.2.2.2.2.2.2.1 (w.2.2.1[k]).2.2.2.2.2.2.2.2.2.1 (w.2.2.1[k]).2.2.2.2.2.2.2.2.2.2.1 (w.2.2.1[k]).2.2.2.2.2.2.2.2.2.2.2.1 (w.2.2.1[k]).2.2.2.2.2.2.2.2.2.2.2.2.1 (w.2.2.1[k]).2.2.2.2.2.2.2.2.2.2.2.2.2.1 (w.2.2.1[k]).2.2.2.2.2.2.2.2.2.2.2.2.2.2.1 (w.2.2.1[k]).2.2.2.2.2.2.2.2.2.2.2.2.2.2.2.1 (Nat.le_trans (h.Cb _ (List.getElem_mem hk)).1.small (by decide))).1; simp only [fT, nC, az hk, aq, cond_true, aC, List.getElem?_eq_getElem hk, Option.bind_some, hc, List.length_take, aH (show (min k w.2.2.1.length + 1) * 208 ≤ lim by unfold lim; omega), aJ (show k < 4611686018427387904 by omega)]; rw [List.take_succ_eq_append_getElem hk])
 have l1 : aE fT (w.1, w.2.1, w.2.2.1, w.2.2.2.1, w.2.2.2.2.1, w.2.2.2.2.2.1, (0 : Int), [], [], [], [], [], w.1, w.2.1, [], [], [], w.2.2.2.2.2.1, (0 : Int), ()) = _ := l1; have l2 := ef (round := fU) (e := .inl (w.1, w.2.1, w.2.2.1, w.2.2.2.1, w.2.2.2.2.1, w.2.2.2.2.2.1, (0 : Int), [], [], [], [], [], w.1, w.2.1, w.2.2.1, w.2.2.2.1, [], w.2.2.2.2.2.1, ())) w.2.2.2.1.length (fun k => (w.1, w.2.1, w.2.2.1, w.2.2.2.1, w.2.2.2.2.1, w.2.2.2.2.2.1, (0 : Int), [], [], [], [], [], w.1, w.2.1, w.2.2.1, w.2.2.2.1.take k, [], w.2.2.2.2.2.1, ((k : Nat) : Int), ())) (by
   simp only [fU, nF, aF, cond_false, List.take_length]) (fun k hk => by
   have hc := (il (w.2.2.2.1[k]).2.2.1 (w.2.2.2.1[k]).2.2.2.1 (w.2.2.2.1[k]).2.2.2.2.1 (w.2.2.2.1[k]).2.2.2.2.2.1 (w.2.2.2.1[k]).2.2.2.2.2.2.1 (w.2.2.2.1[k]).2.2.2.2.2.2.2.1 (Nat.le_trans (h.zD _ (List.getElem_mem hk)).FL (by decide))).1; simp only [fU, nF, az hk, aq, cond_true, aC, List.getElem?_eq_getElem hk, Option.bind_some, hc, List.length_take, aH (show (min k w.2.2.2.1.length + 1) * 120 ≤ lim by unfold lim; omega), aJ (show k < 4611686018427387904 by omega)]; rw [List.take_succ_eq_append_getElem hk])
 have l2 : aE fU (w.1, w.2.1, w.2.2.1, w.2.2.2.1, w.2.2.2.2.1, w.2.2.2.2.2.1, (0 : Int), [], [], [], [], [], w.1, w.2.1, w.2.2.1, [], [], w.2.2.2.2.2.1, (0 : Int), ()) = _ := l2; have l3 := ef (round := fe) (e := .inl ((0 : Int), [], [], [], [], [], w.1, w.2.1, w.2.2.1, w.2.2.2.1, w.2.2.2.2.1, w.2.2.2.2.2.1, ())) w.2.2.2.2.1.length (fun k => (w.1, w.2.1, w.2.2.1, w.2.2.2.1, w.2.2.2.2.1, w.2.2.2.2.2.1, (0 : Int), [], [], [], [], [], w.1, w.2.1, w.2.2.1, w.2.2.2.1, w.2.2.2.2.1.take k, w.2.2.2.2.2.1, ((k : Nat) : Int), ())) (by
   simp only [fe, iE, aF, cond_false, List.take_length]) (fun k hk => by
   have hx := Xm _ (List.getElem_mem hk); simp only [fe, iE, az hk, aq, cond_true, aC, List.getElem?_eq_getElem hk, Option.bind_some, List.length_take, List.nil_append, aH (show (0 + (w.2.2.2.2.1[k]).1.length) * 40 ≤ lim by unfold lim; omega), aH (show (min k w.2.2.2.2.1.length + 1) * 24 ≤ lim by unfold lim; omega), aJ (show k < 4611686018427387904 by omega)]; rw [List.take_succ_eq_append_getElem hk])
 have l3 : aE fe (w.1, w.2.1, w.2.2.1, w.2.2.2.1, w.2.2.2.2.1, w.2.2.2.2.2.1, (0 : Int), [], [], [], [], [], w.1, w.2.1, w.2.2.1, w.2.2.2.1, [], w.2.2.2.2.2.1, (0 : Int), ()) = _ := l3; unfold ly; simp only [aH (show (0 + w.2.1.length) * 8 ≤ lim by unfold lim; omega), aH (show (0 + w.2.2.2.2.2.1.length) * 40 ≤ lim by unfold lim; omega), cond_true, List.nil_append, l1, l2, l3, cj, Option.bind_some]
theorem SG {c : Int} {ms : dA} (hr : pH c ms) (sX : List D3) (hl : sX.length ≤ 89) (he : ∀ e ∈ sX, FR ms e) : ∃ (w : cH) (qk : dA), oh c ms sX = some (w.1, w.2.1, w.2.2.1, w.2.2.2.1, w.2.2.2.2.1, w.2.2.2.2.2.1, qk, true, ()) ∧ eN sX.length c ms w ∧ ∃ R S, nQ R S ms w := by
 generalize hw0 : eF c ms (ms[0]'hr.2.1.1).1 = w0; have hW0 : eN 0 c ms w0 := by rw [← hw0]; exact BG hr _
 have hR0 : nQ 1 0 ms w0 := by rw [← hw0]; exact FU hr
 have e0 : ft c ms = some (w0.1, w0.2.1, w0.2.2.1, w0.2.2.2.1, w0.2.2.2.2.1, w0.2.2.2.2.2.1, true, ()) := by rw [← hw0]; exact zu hr
 have l1 := ef (round := fV) (e := .inl (sX, (0 : Int), [], [], [], [], [], w0.1, w0.2.1, w0.2.2.1, w0.2.2.2.1, w0.2.2.2.2.1, w0.2.2.2.2.2.1, true, ())) sX.length (fun k => (sX, c, ms, (0 : Int), [], [], [], [], [], w0.1, w0.2.1, w0.2.2.1, w0.2.2.2.1, w0.2.2.2.2.1, w0.2.2.2.2.2.1, true, ((k : Nat) : Int), ())) (by
   simp only [fV, nH, aF, cond_false]) (fun k hk => by
   simp only [fV, nH, az hk, cond_true, ah (show ((List.length sX : Nat) : Int) ≤ 90 by omega), aq, aC, List.getElem?_eq_getElem hk, Option.bind_some, j8 hr (he _ (List.getElem_mem hk)), aJ (show k < 4611686018427387904 by omega)])
 have l1 : aE fV (sX, c, ms, (0 : Int), [], [], [], [], [], w0.1, w0.2.1, w0.2.2.1, w0.2.2.2.1, w0.2.2.2.2.1, w0.2.2.2.2.2.1, true, (0 : Int), ()) = _ := l1; obtain ⟨e, l2, w, qk, rfl, hw, hR⟩ := eg (round := fW) (x := (sX, (0 : Int), [], [], [], [], [], w0.1, w0.2.1, w0.2.2.1, w0.2.2.2.1, w0.2.2.2.2.1, w0.2.2.2.2.2.1, [], ((0 : Nat) : Int), ())) sX.length
   (fun k x => ∃ (w : cH) (qk : dA), x = (sX, (0 : Int), [], [], [], [], [], w.1, w.2.1, w.2.2.1, w.2.2.2.1, w.2.2.2.2.1, w.2.2.2.2.2.1, qk, ((k : Nat) : Int), ()) ∧ eN k c ms w ∧ qk.length = k ∧ ∃ R S, nQ R S ms w)
   (fun e => ∃ (w : cH) (qk : dA), e = .inl ((0 : Int), [], [], [], [], [], w.1, w.2.1, w.2.2.1, w.2.2.2.1, w.2.2.2.2.1, w.2.2.2.2.2.1, qk, ()) ∧ eN sX.length c ms w ∧ ∃ R S, nQ R S ms w) (by
     rintro x ⟨w, qk, rfl, hw, q, hR⟩
     exact ⟨_, by simp only [fW, nI, aF, cond_false], w, qk, rfl, hw, hR⟩) (by
     rintro k x hk ⟨w, qk, rfl, hw, q, R, S, hR⟩
     obtain ⟨b, w', e1, TW, yG⟩ := II hw (by omega) (he _ (List.getElem_mem hk)); refine .inr ⟨(sX, (0 : Int), [], [], [], [], [], w'.1, w'.2.1, w'.2.2.1, w'.2.2.2.1, w'.2.2.2.2.1, w'.2.2.2.2.2.1, qk ++ [(b, ())], ((k + 1 : Nat) : Int), ()), ?_, w', _, rfl, TW, by rw [List.length_append, q]; rfl, yG R S hR⟩; simp only [fW, nI, az hk, cond_true, aq, aC, List.getElem?_eq_getElem hk, Option.bind_some, e1, aH (show (qk.length + 1) * 8 ≤ lim by rw [q]; unfold lim; omega), aJ (show k < 4611686018427387904 by omega)]) ⟨w0, [], rfl, hW0, rfl, 1, 0, hR0⟩
 have l2 : aE fW (sX, (0 : Int), [], [], [], [], [], w0.1, w0.2.1, w0.2.2.1, w0.2.2.2.1, w0.2.2.2.2.1, w0.2.2.2.2.2.1, [], (0 : Int), ()) = _ := l2; refine ⟨w, qk, ?_, hw, hR⟩; unfold oh; simp only [e0, Option.bind_some, l1, cj, Bool.not_true, cond_false, l2, Ni hw (by omega)]
theorem Nj (code : List (Int × Unit)) (a s : Int) (d : dS code a) (hc : code.length ≤ 1048576) : ∃ (w : cH) (a' s' : Int) (n : Nat) (c : Int) (ms : dA), j4 code a s code = some (w.1, w.2.1, w.2.2.1, w.2.2.2.1, w.2.2.2.2.1, w.2.2.2.2.2.1, code, a', s', ()) ∧ eN n c ms w ∧ n ≤ 89 ∧ dS code a' ∧ ∃ R S, nQ R S ms w := by
 obtain ⟨c, ms, sX, a', s', e1, hv, hl, he, d'⟩ := OL code a s d hc; obtain ⟨w, qk, e2, hw, hR⟩ := SG (C2 hv) sX hl he; refine ⟨w, a', s', sX.length, c, ms, ?_, hw, hl, d', hR⟩; unfold j4; simp only [e1, Option.bind_some, e2]
def eS : kz := (0, 0, 0, 0, 0, [], ())
theorem FV (code : List (Int × Unit)) (hc : code.length ≤ 1048576) : ∃ (w : cH) (n : Nat) (c : Int) (ms : dA) (m : ey) (t : kz), gC code = some (m.1, m.2.1, m.2.2.1, m.2.2.2.1, m.2.2.2.2.1, m.2.2.2.2.2.1, m.2.2.2.2.2.2.1, m.2.2.2.2.2.2.2.1, m.2.2.2.2.2.2.2.2.1, m.2.2.2.2.2.2.2.2.2.1, m.2.2.2.2.2.2.2.2.2.2.1, m.2.2.2.2.2.2.2.2.2.2.2.1, m.2.2.2.2.2.2.2.2.2.2.2.2.1, m.2.2.2.2.2.2.2.2.2.2.2.2.2.1, m.2.2.2.2.2.2.2.2.2.2.2.2.2.2.1, m.2.2.2.2.2.2.2.2.2.2.2.2.2.2.2.1, t.1, t.2.1, t.2.2.1, t.2.2.2.1, t.2.2.2.2.1, t.2.2.2.2.2.1, ()) ∧ eN n c ms w ∧ n ≤ 89 ∧ m ∈ w.2.2.1 ∧ ((∃ f ∈ w.2.2.2.1, f.2.1 = true ∧ f.1 = m.1 ∧ t = (f.2.2.1, f.2.2.2.1, f.2.2.2.2.1, f.2.2.2.2.2.1, f.2.2.2.2.2.2.1, f.2.2.2.2.2.2.2.1, ())) ∨ t = eS) ∧ ∃ R S, nQ R S ms w := by
 obtain ⟨s0, e0⟩ := SD code hc; obtain ⟨w, a, s, n, c, ms, e1, hw, hn, d, hR⟩ := Nj code 0 s0 ⟨by omega, by omega, hc⟩ hc; obtain ⟨q0, q1, q2⟩ := hw.HS; have hf := hw.FL; have h1 : 1 ≤ w.2.2.1.length := by rw [hw.len]; exact hw.ring.2.1.1
 obtain ⟨e, he, hq⟩ := eg (round := dy) (x := (aW.1, aW.2.1, aW.2.2.1, aW.2.2.2.1, aW.2.2.2.2.1, aW.2.2.2.2.2.1, aW.2.2.2.2.2.2.1, aW.2.2.2.2.2.2.2.1, aW.2.2.2.2.2.2.2.2.1, aW.2.2.2.2.2.2.2.2.2.1, aW.2.2.2.2.2.2.2.2.2.2.1, aW.2.2.2.2.2.2.2.2.2.2.2.1, aW.2.2.2.2.2.2.2.2.2.2.2.2.1, aW.2.2.2.2.2.2.2.2.2.2.2.2.2.1, aW.2.2.2.2.2.2.2.2.2.2.2.2.2.2.1, aW.2.2.2.2.2.2.2.2.2.2.2.2.2.2.2.1, eS.1, eS.2.1, eS.2.2.1, eS.2.2.2.1, eS.2.2.2.2.1, eS.2.2.2.2.2.1, code, a, s, w.1, w.2.1, w.2.2.1, w.2.2.2.1, w.2.2.2.2.1, w.2.2.2.2.2.1, ((0 : Nat) : Int), ())) w.2.2.2.1.length
   (fun k x => ∃ a s, x = (aW.1, aW.2.1, aW.2.2.1, aW.2.2.2.1, aW.2.2.2.2.1, aW.2.2.2.2.2.1, aW.2.2.2.2.2.2.1, aW.2.2.2.2.2.2.2.1, aW.2.2.2.2.2.2.2.2.1, aW.2.2.2.2.2.2.2.2.2.1, aW.2.2.2.2.2.2.2.2.2.2.1, aW.2.2.2.2.2.2.2.2.2.2.2.1, aW.2.2.2.2.2.2.2.2.2.2.2.2.1, aW.2.2.2.2.2.2.2.2.2.2.2.2.2.1, aW.2.2.2.2.2.2.2.2.2.2.2.2.2.2.1, aW.2.2.2.2.2.2.2.2.2.2.2.2.2.2.2.1, eS.1, eS.2.1, eS.2.2.1, eS.2.2.2.1, eS.2.2.2.2.1, eS.2.2.2.2.2.1, code, a, s, w.1, w.2.1, w.2.2.1, w.2.2.2.1, w.2.2.2.2.1, w.2.2.2.2.2.1, ((k : Nat) : Int), ()) ∧ dS code a)
   (fun e => (∃ a s, e = .inl (aW.1, aW.2.1, aW.2.2.1, aW.2.2.2.1, aW.2.2.2.2.1, aW.2.2.2.2.2.1, aW.2.2.2.2.2.2.1, aW.2.2.2.2.2.2.2.1, aW.2.2.2.2.2.2.2.2.1, aW.2.2.2.2.2.2.2.2.2.1, aW.2.2.2.2.2.2.2.2.2.2.1, aW.2.2.2.2.2.2.2.2.2.2.2.1, aW.2.2.2.2.2.2.2.2.2.2.2.2.1, aW.2.2.2.2.2.2.2.2.2.2.2.2.2.1, aW.2.2.2.2.2.2.2.2.2.2.2.2.2.2.1, aW.2.2.2.2.2.2.2.2.2.2.2.2.2.2.2.1, eS.1, eS.2.1, eS.2.2.1, eS.2.2.2.1, eS.2.2.2.2.1, eS.2.2.2.2.2.1, code, a, s, w.1, w.2.1, w.2.2.1, w.2.2.2.1, w.2.2.2.2.1, w.2.2.2.2.2.1, ()) ∧ dS code a) ∨ (∃ (m : ey) (t : kz), e = .inr (m.1, m.2.1, m.2.2.1, m.2.2.2.1, m.2.2.2.2.1, m.2.2.2.2.2.1, m.2.2.2.2.2.2.1, m.2.2.2.2.2.2.2.1, m.2.2.2.2.2.2.2.2.1, m.2.2.2.2.2.2.2.2.2.1, m.2.2.2.2.2.2.2.2.2.2.1, m.2.2.2.2.2.2.2.2.2.2.2.1, m.2.2.2.2.2.2.2.2.2.2.2.2.1, m.2.2.2.2.2.2.2.2.2.2.2.2.2.1, m.2.2.2.2.2.2.2.2.2.2.2.2.2.2.1, m.2.2.2.2.2.2.2.2.2.2.2.2.2.2.2.1, t.1, t.2.1, t.2.2.1, t.2.2.2.1, t.2.2.2.2.1, t.2.2.2.2.2.1, ()) ∧ m ∈ w.2.2.1 ∧ ∃ f ∈ w.2.2.2.1, f.2.1 = true ∧ f.1 = m.1 ∧ t = (f.2.2.1, f.2.2.2.1, f.2.2.2.2.1, f.2.2.2.2.2.1, f.2.2.2.2.2.2.1, f.2.2.2.2.2.2.2.1, ()))) (by
     rintro x ⟨a, s, rfl, d⟩
     exact ⟨_, by simp only [dy, gU, aF, cond_false], .inl ⟨a, s, rfl, d⟩⟩) (by
     rintro k x hk ⟨a, s, rfl, d⟩
     obtain ⟨i, e2, hi⟩ := HQ w (by omega) (w.2.2.2.1[k]).1; simp only [dy, gU, az hk, aq, cond_true, aC, List.getElem?_eq_getElem hk, Option.bind_some, e2, aJ (show k < 4611686018427387904 by omega)]
     cases ht : (w.2.2.2.1[k]).2.1
     · exact .inr ⟨_, rfl, a, s, rfl, d⟩
     · rcases hi with ⟨rfl, _⟩ | ⟨j, hj, rfl, yW⟩
       · exact .inr ⟨_, rfl, a, s, rfl, d⟩
       · obtain ⟨o, a2, s2, e3, d2⟩ := DY code a s 3 d (by omega); rw [cond_true, aq, cond_true, e3, Option.bind_some, cond_true, aC, List.getElem?_eq_getElem hj, Option.bind_some]
         cases o
         · exact .inl ⟨_, rfl, .inr ⟨w.2.2.1[j], ((w.2.2.2.1[k]).2.2.1, (w.2.2.2.1[k]).2.2.2.1, (w.2.2.2.1[k]).2.2.2.2.1, (w.2.2.2.1[k]).2.2.2.2.2.1, (w.2.2.2.1[k]).2.2.2.2.2.2.1, (w.2.2.2.1[k]).2.2.2.2.2.2.2.1, ()), rfl, List.getElem_mem hj, w.2.2.2.1[k], List.getElem_mem hk, ht, yW.symm, rfl⟩⟩
         · exact .inr ⟨_, rfl, a2, s2, rfl, d2⟩) ⟨a, s, rfl, d⟩
 have he : aE dy ((0 : Int), (0 : Int), [], [], [], [], (0 : Int), (0 : Int), (0 : Int), (0 : Int), (0 : Int), (0 : Int), (0 : Int), (0 : Int), (0 : Int), [], (0 : Int), (0 : Int), (0 : Int), (0 : Int), (0 : Int), [], code, a, s, w.1, w.2.1, w.2.2.1, w.2.2.2.1, w.2.2.2.2.1, w.2.2.2.2.2.1, (0 : Int), ()) = some e := he; unfold gC; simp only [e0, e1, Option.bind_some, he, cj]; rcases hq with ⟨a', s', rfl, d'⟩ | ⟨m, t, rfl, hm, ht⟩
 · obtain ⟨i, a2, s2, e2, i0, i1, d2⟩ := mU code a' s' ((List.length w.2.2.1 : Nat) : Int) d' (by omega); obtain ⟨i, rfl⟩ := Int.eq_ofNat_of_zero_le i0; have hi : i < w.2.2.1.length := by omega
   refine ⟨w, n, c, ms, w.2.2.1[i], eS, ?_, hw, hn, List.getElem_mem hi, .inr rfl, hR⟩; simp only [e2, Option.bind_some, aq, cond_true, aC, List.getElem?_eq_getElem hi]; rfl
 · exact ⟨w, n, c, ms, m, t, rfl, hw, hn, hm, .inl ht, hR⟩
theorem FW {xs : aM} (h : xs.length ≤ 1048576) {s : Int} (h1 : 1 ≤ s) (h2 : s ≤ ((cG xs : Nat) : Int)) : (qi xs s).1 = s := by
 obtain ⟨_, a1, _⟩ := (uu xs h).2.2; obtain ⟨k, rfl⟩ := Int.eq_ofNat_of_zero_le (show 0 ≤ s by omega); have := a1 (k - 1) (by omega); rw [show k - 1 + 1 = k by omega] at this; obtain ⟨r, hr⟩ := Option.isSome_iff_exists.1 this; unfold qi; rw [hr]; exact (Bp hr).2
theorem HW (xs : aM) (h : Int) {k j : Nat} (hj : j < (fJ xs h k).length) : (fJ xs h k)[j] = qi xs (h + ((j + 1 : Nat) : Int)) := by
 simp [fJ]
theorem HX (l : aM) (h : l.length ≤ 1048576) : lB l l = some (true, ()) := by
 have hl := ef (round := eR) (e := .inl ()) l.length (fun k => (l, l, ((k : Nat) : Int), ())) (by
     simp only [eR, lA, aF, cond_false]) (fun k hk => by
     simp only [eR, lA, az hk, aq, cond_true, cond_false, aC, List.getElem?_eq_getElem hk, Option.bind_some, decide_true, AY, Bool.and_self, Bool.not_true, aJ (show k < 4611686018427387904 by omega)])
 have hl : aE eR (l, l, (0 : Int), ()) = _ := hl; unfold lB; simp only [decide_true, Bool.not_true, cond_false, hl, iw]
theorem J3 (code : List (Int × Unit)) : ss code = some (true, ()) := by
 unfold ss A7
 by_cases hb : (1048576 : Int) < ((List.length code : Nat) : Int)
 · rw [ah hb]; rfl
 rw [ai hb]; obtain ⟨w, nn, c, ms, m, t, e1, hw, _, uW, _, _⟩ := FV code (by omega); have hm := (hw.Cb m uW).1; have hi := (cA _ hm.items).1; obtain ⟨k, n, en, e2, e3, hn, g1, g2, g3⟩ := DX hm; obtain ⟨k2, n2, en2, e4, _, _, j1, j2, j3⟩ := DX hn; have ha := (uu m.2.2.2.1 (by omega)).2.2.1; have hh := hm.heard; have f1 : n.2.2.2.1 = m.2.2.2.1 := by rw [en]; rfl
 have f2 : n.2.2.2.2.2.2.2.2.1 = m.2.2.2.2.2.2.2.2.1 := by rw [en]; rfl
 have f3 : n.2.2.2.2.2.2.2.2.2.1 = m.2.2.2.2.2.2.2.2.2.1 + ((k : Nat) : Int) := by rw [en]; rfl
 have qC : k2 = 0 := by
   by_cases h : k2 = 0
   · exact h
   · exfalso
     rw [f1, f3] at j1; have h1 := j2 0 (by omega); have h2 := g3 (by omega); rw [f1, f2, f3, show m.2.2.2.2.2.2.2.2.2.1 + ((k : Nat) : Int) + ((0 + 1 : Nat) : Int) = m.2.2.2.2.2.2.2.2.2.1 + ((k + 1 : Nat) : Int) by omega] at h1; exact h1 h2
 have hq := (sJ _ (Nat.le_trans hn.small (by decide))).2.1; rw [(sJ _ (Nat.le_trans hn.small (by decide))).2.2.2 hn] at hq; have hlen := sK m.2.2.2.1 m.2.2.2.2.2.2.2.2.2.1 k; have BP := fun j (hj : j < (fJ m.2.2.2.1 m.2.2.2.2.2.2.2.2.2.1 k).length) => HW m.2.2.2.1 m.2.2.2.2.2.2.2.2.2.1 (k := k) hj
 generalize hl : fJ m.2.2.2.1 m.2.2.2.2.2.2.2.2.2.1 k = l at *; have l1 := ef (round := fX) (e := .inl (m.1, m.2.1, m.2.2.1, m.2.2.2.1, m.2.2.2.2.1, m.2.2.2.2.2.1, m.2.2.2.2.2.2.1, m.2.2.2.2.2.2.2.1, m.2.2.2.2.2.2.2.2.1, m.2.2.2.2.2.2.2.2.2.1, m.2.2.2.2.2.2.2.2.2.2.1, m.2.2.2.2.2.2.2.2.2.2.2.1, m.2.2.2.2.2.2.2.2.2.2.2.2.1, m.2.2.2.2.2.2.2.2.2.2.2.2.2.1, m.2.2.2.2.2.2.2.2.2.2.2.2.2.2.1, m.2.2.2.2.2.2.2.2.2.2.2.2.2.2.2.1, n.1, n.2.1, n.2.2.1, n.2.2.2.1, n.2.2.2.2.1, n.2.2.2.2.2.1, n.2.2.2.2.2.2.1, n.2.2.2.2.2.2.2.1, n.2.2.2.2.2.2.2.2.1, n.2.2.2.2.2.2.2.2.2.1, n.2.2.2.2.2.2.2.2.2.2.1, n.2.2.2.2.2.2.2.2.2.2.2.1, n.2.2.2.2.2.2.2.2.2.2.2.2.1, n.2.2.2.2.2.2.2.2.2.2.2.2.2.1, n.2.2.2.2.2.2.2.2.2.2.2.2.2.2.1, n.2.2.2.2.2.2.2.2.2.2.2.2.2.2.2.1, l, ())) l.length (fun k => (m.1, m.2.1, m.2.2.1, m.2.2.2.1, m.2.2.2.2.1, m.2.2.2.2.2.1, m.2.2.2.2.2.2.1, m.2.2.2.2.2.2.2.1, m.2.2.2.2.2.2.2.2.1, m.2.2.2.2.2.2.2.2.2.1, m.2.2.2.2.2.2.2.2.2.2.1, m.2.2.2.2.2.2.2.2.2.2.2.1, m.2.2.2.2.2.2.2.2.2.2.2.2.1, m.2.2.2.2.2.2.2.2.2.2.2.2.2.1, m.2.2.2.2.2.2.2.2.2.2.2.2.2.2.1, m.2.2.2.2.2.2.2.2.2.2.2.2.2.2.2.1, n.1, n.2.1, n.2.2.1, n.2.2.2.1, n.2.2.2.2.1, n.2.2.2.2.2.1, n.2.2.2.2.2.2.1, n.2.2.2.2.2.2.2.1, n.2.2.2.2.2.2.2.2.1, n.2.2.2.2.2.2.2.2.2.1, n.2.2.2.2.2.2.2.2.2.2.1, n.2.2.2.2.2.2.2.2.2.2.2.1, n.2.2.2.2.2.2.2.2.2.2.2.2.1, n.2.2.2.2.2.2.2.2.2.2.2.2.2.1, n.2.2.2.2.2.2.2.2.2.2.2.2.2.2.1, n.2.2.2.2.2.2.2.2.2.2.2.2.2.2.2.1, l, ((k : Nat) : Int), ())) (by
   simp only [fX, nM, aF, cond_false]) (fun j hj => by
   have h1 := BP j hj; have h2 := FW (xs := m.2.2.2.1) (by omega) (s := m.2.2.2.2.2.2.2.2.2.1 + ((j + 1 : Nat) : Int)) (by omega) (by omega); have h3 := g2 j (by omega); simp only [fX, nM, az hj, mD hj, aq, cond_true, aC, List.getElem?_eq_getElem hj, Option.bind_some, aJ (show j < 4611686018427387904 by omega), h1, h2]; rw [eB (show -9223372036854775808 ≤ m.2.2.2.2.2.2.2.2.2.1 + ((j : Nat) : Int) by omega) (by omega), eB (show -9223372036854775808 ≤ m.2.2.2.2.2.2.2.2.2.1 + ((j : Nat) : Int) + 1 by omega) (by omega), ah (show m.2.2.2.2.2.2.2.2.2.1 + ((j + 1 : Nat) : Int) = m.2.2.2.2.2.2.2.2.2.1 + ((j : Nat) : Int) + 1 by omega)]; simp only [Bool.not_true, cond_false]
   by_cases h4 : (qi m.2.2.2.1 (m.2.2.2.2.2.2.2.2.2.1 + ((j + 1 : Nat) : Int))).2.2.1 = 2
   · have h5 : ¬ m.2.2.2.2.2.2.2.2.1 < m.2.2.2.2.2.2.2.2.2.1 + ((j + 1 : Nat) : Int) := fun h => h3 ⟨h4, by rw [h2]; exact h⟩
     rw [ah h4, ai h5]; rfl
   · rw [ai h4]; rfl)
 have l1 : aE fX (m.1, m.2.1, m.2.2.1, m.2.2.2.1, m.2.2.2.2.1, m.2.2.2.2.2.1, m.2.2.2.2.2.2.1, m.2.2.2.2.2.2.2.1, m.2.2.2.2.2.2.2.2.1, m.2.2.2.2.2.2.2.2.2.1, m.2.2.2.2.2.2.2.2.2.2.1, m.2.2.2.2.2.2.2.2.2.2.2.1, m.2.2.2.2.2.2.2.2.2.2.2.2.1, m.2.2.2.2.2.2.2.2.2.2.2.2.2.1, m.2.2.2.2.2.2.2.2.2.2.2.2.2.2.1, m.2.2.2.2.2.2.2.2.2.2.2.2.2.2.2.1, n.1, n.2.1, n.2.2.1, n.2.2.2.1, n.2.2.2.2.1, n.2.2.2.2.2.1, n.2.2.2.2.2.2.1, n.2.2.2.2.2.2.2.1, n.2.2.2.2.2.2.2.2.1, n.2.2.2.2.2.2.2.2.2.1, n.2.2.2.2.2.2.2.2.2.2.1, n.2.2.2.2.2.2.2.2.2.2.2.1, n.2.2.2.2.2.2.2.2.2.2.2.2.1, n.2.2.2.2.2.2.2.2.2.2.2.2.2.1, n.2.2.2.2.2.2.2.2.2.2.2.2.2.2.1, n.2.2.2.2.2.2.2.2.2.2.2.2.2.2.2.1, l, (0 : Int), ()) = _ := l1; have e9 := HX l (by omega); subst qC; have e4 : mf n.1 n.2.1 n.2.2.1 n.2.2.2.1 n.2.2.2.2.1 n.2.2.2.2.2.1 n.2.2.2.2.2.2.1 n.2.2.2.2.2.2.2.1 n.2.2.2.2.2.2.2.2.1 n.2.2.2.2.2.2.2.2.2.1 n.2.2.2.2.2.2.2.2.2.2.1 n.2.2.2.2.2.2.2.2.2.2.2.1 n.2.2.2.2.2.2.2.2.2.2.2.2.1 n.2.2.2.2.2.2.2.2.2.2.2.2.2.1 n.2.2.2.2.2.2.2.2.2.2.2.2.2.2.1 n.2.2.2.2.2.2.2.2.2.2.2.2.2.2.2.1 = some (n2.1, n2.2.1, n2.2.2.1, n2.2.2.2.1, n2.2.2.2.2.1, n2.2.2.2.2.2.1, n2.2.2.2.2.2.2.1, n2.2.2.2.2.2.2.2.1, n2.2.2.2.2.2.2.2.2.1, n2.2.2.2.2.2.2.2.2.2.1, n2.2.2.2.2.2.2.2.2.2.2.1, n2.2.2.2.2.2.2.2.2.2.2.2.1, n2.2.2.2.2.2.2.2.2.2.2.2.2.1, n2.2.2.2.2.2.2.2.2.2.2.2.2.2.1, n2.2.2.2.2.2.2.2.2.2.2.2.2.2.2.1, n2.2.2.2.2.2.2.2.2.2.2.2.2.2.2.2.1, [], ()) := e4; simp only [Option.bind_some, cond_false, e1]; rw [e2]; simp only [Option.bind_some]; rw [l1]; simp only [cj, Option.bind_some, e4, e3, hq, cond_true, e9, hlen]; rw [f3, eB (show -9223372036854775808 ≤ m.2.2.2.2.2.2.2.2.2.1 + ((k : Nat) : Int) by omega) (by omega), ah (rfl : m.2.2.2.2.2.2.2.2.2.1 + ((k : Nat) : Int) = m.2.2.2.2.2.2.2.2.2.1 + ((k : Nat) : Int))]; rfl
end Go.TM

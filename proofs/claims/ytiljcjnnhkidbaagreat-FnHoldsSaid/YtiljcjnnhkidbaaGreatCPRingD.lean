/- A ring's life, drawn and played by the reference. -/
import Derived.Test.YtiljcjnnhkidbaaGreatCPRingL
namespace Go.TM
open Go
theorem KN {v : Int} (h : (v, ()) ∈ [((1 : Int), ()), (1, ()), (1, ()), (2, ()), (2, ()), (2, ()), (2, ()), (2, ()), (2, ()), (3, ()), (3, ()), (4, ()), (5, ()), (6, ()), (7, ()), (7, ())]) : 1 ≤ v ∧ v ≤ 7 := by
 simp only [List.mem_cons, Prod.mk.injEq, and_true, List.not_mem_nil, or_false] at h; omega
theorem Px (code : List (Int × Unit)) (at_ pW : Int) (h : dY code at_) : ∃ v Gd s', ln code at_ pW = some (v, code, Gd, s', ()) ∧ ByteArray.size v ≤ 3 ∧ dY code Gd := by
 obtain ⟨v, a1, s1, e1, hv, d1⟩ := NR code at_ pW [((ByteArray.mk #[97, 110, 110]), ()), ((ByteArray.mk #[98, 111, 98]), ()), ((ByteArray.mk #[99, 121]), ()), ((ByteArray.mk #[100, 52]), ()), ((ByteArray.mk #[101, 118, 101]), ())] h (by decide); refine ⟨v, a1, s1, ?_, ?_, d1⟩
 · unfold ln; rw [e1]; rfl
 · simp only [List.mem_cons, Prod.mk.injEq, and_true, List.not_mem_nil, or_false] at hv; rcases hv with rfl | rfl | rfl | rfl | rfl <;> decide
theorem NZ (code : List (Int × Unit)) {n : Nat} {c : Int} {ms : dn} {w : cG} (h : eD n c ms w) (hn : n ≤ 1000) {v id b : Int} (hv : 1 ≤ v ∧ v ≤ 7) (zb : (id, ()) ∈ ms) (hb : 0 ≤ b) (a s : Int) (d : dY code a) :
   ∃ (e : Em) (a' s' : Int), iC code a s w.1 w.2.1 w.2.2.1 w.2.2.2.1 w.2.2.2.2.1 w.2.2.2.2.2.1 0 0 0 0 ByteArray.empty v id b 0 ByteArray.empty = some (e.1, e.2.1, e.2.2.1, e.2.2.2.1, e.2.2.2.2.1, code, a', s', w.1, w.2.1, w.2.2.1, w.2.2.2.1, w.2.2.2.2.1, w.2.2.2.2.2.1, ()) ∧ Gi ms e ∧ dY code a' := by
 have hf := h.Ef; unfold iC
 by_cases k2 : v = 2
 · obtain ⟨e, he, a', s', b', rfl, d', kt⟩ := eo (round := fQ) (x := (code, a, s, w.1, w.2.1, w.2.2.1, w.2.2.2.1, w.2.2.2.2.1, w.2.2.2.2.2.1, (0 : Int), (0 : Int), (0 : Int), (0 : Int), ByteArray.empty, v, id, b, (0 : Int), ByteArray.empty, ((0 : Nat) : Int), ())) w.2.2.2.1.length
     (fun k x => ∃ a s b, x = (code, a, s, w.1, w.2.1, w.2.2.1, w.2.2.2.1, w.2.2.2.2.1, w.2.2.2.2.2.1, (0 : Int), (0 : Int), (0 : Int), (0 : Int), ByteArray.empty, v, id, b, (0 : Int), ByteArray.empty, ((k : Nat) : Int), ()) ∧ dY code a ∧ 0 ≤ b)
     (fun e => ∃ a s b, e = .inl (code, a, s, w.1, w.2.1, w.2.2.1, w.2.2.2.1, w.2.2.2.2.1, w.2.2.2.2.2.1, (0 : Int), (0 : Int), (0 : Int), (0 : Int), ByteArray.empty, v, id, b, (0 : Int), ByteArray.empty, ()) ∧ dY code a ∧ 0 ≤ b) (by
       rintro x ⟨a, s, b, rfl, d, hb⟩
       exact ⟨_, by simp only [fQ, nc, aF, cond_false], a, s, b, rfl, d, hb⟩) (by
       rintro k x hk ⟨a, s, b, rfl, d, hb⟩
       simp only [fQ, nc, az hk, aq, cond_true, aA, List.getElem?_eq_getElem hk, Option.bind_some, aK (show k < 4611686018427387904 by omega)]
       cases (w.2.2.2.1[k]).2.1
       · exact .inr ⟨_, rfl, a, s, b, rfl, d, hb⟩
       · obtain ⟨o, a1, s1, e1, d1⟩ := Eh code a s 4 d (by omega); simp only [e1, Option.bind_some, cond_true]
         cases o
         · exact .inr ⟨_, rfl, a1, s1, ((k : Nat) : Int), rfl, d1, by omega⟩
         · exact .inr ⟨_, rfl, a1, s1, b, rfl, d1, hb⟩) ⟨a, s, b, rfl, d, hb⟩
   have he : aE fQ (code, a, s, w.1, w.2.1, w.2.2.1, w.2.2.2.1, w.2.2.2.2.1, w.2.2.2.2.2.1, (0 : Int), (0 : Int), (0 : Int), (0 : Int), ByteArray.empty, v, id, b, (0 : Int), ByteArray.empty, (0 : Int), ()) = _ := he; refine ⟨(v, id, b', 0, ByteArray.empty, ()), a', s', ?_, ⟨hv, zb, kt, fun h1 => ?_, fun _ => ⟨rfl, rfl⟩⟩, d'⟩
   · simp only [ah k2, cond_true, he, cq, Option.bind_some, ai (show ¬ v = 1 by omega), cond_false]
   · have h1 : v = 1 := h1; omega
 by_cases k1 : v = 1
 · obtain ⟨l, a1, s1, e1, l0, l1, d1⟩ := mU code a s 2 d (by omega); obtain ⟨t, a2, s2, e2, ht, d2⟩ := Px code a1 s1 d1; refine ⟨(v, id, b, 1 + l, t, ()), a2, s2, ?_, ⟨hv, zb, hb, fun _ => ⟨by show 1 ≤ 1 + l ∧ 1 + l ≤ 2; omega, by show ByteArray.size t ≤ 60; omega⟩, fun h1 => absurd k1 h1⟩, d2⟩; simp only [ai k2, ah k1, cond_false, cond_true, e1, e2, Option.bind_some]; rw [ft (show -9223372036854775808 ≤ 1 + l by omega) (by omega)]
 · refine ⟨(v, id, b, 0, ByteArray.empty, ()), a, s, ?_, ⟨hv, zb, hb, fun h1 => absurd h1 k1, fun _ => ⟨rfl, rfl⟩⟩, d⟩; simp only [ai k2, ai k1, cond_false]
theorem Uf (code : List (Int × Unit)) (a s : Int) (d : dY code a) {n : Nat} {c : Int} {ms : dn} {w : cG} (h : eD n c ms w) (hn : n ≤ 1000) :
   ∃ (e : Em) (a' s' : Int), ig code a s w.1 w.2.1 w.2.2.1 w.2.2.2.1 w.2.2.2.2.1 w.2.2.2.2.2.1 = some (e.1, e.2.1, e.2.2.1, e.2.2.2.1, e.2.2.2.2.1, code, a', s', w.1, w.2.1, w.2.2.1, w.2.2.2.1, w.2.2.2.2.1, w.2.2.2.2.2.1, ()) ∧ Gi ms e ∧ dY code a' := by
 obtain ⟨q0, q1, q2⟩ := h.Il; have hr := h.ring.2.1.1; have Yw := h.self.2; obtain ⟨v, a1, s1, e1, hv, d1⟩ := Pt code a s [((1 : Int), ()), (1, ()), (1, ()), (2, ()), (2, ()), (2, ()), (2, ()), (2, ()), (2, ()), (3, ()), (3, ()), (4, ()), (5, ()), (6, ()), (7, ()), (7, ())] d (by decide); obtain ⟨i, a2, s2, e2, i0, i1, d2⟩ := mU code a1 s1 ((List.length w.2.1 : Nat) : Int) d1 (by rw [Yw]; omega); obtain ⟨b, a3, s3, e3, b0, b1, d3⟩ := mU code a2 s2 30 d2 (by omega); obtain ⟨i, rfl⟩ := Int.eq_ofNat_of_zero_le i0; have hi : i < w.2.1.length := by omega
 obtain ⟨e, a', s', e4, he, d'⟩ := NZ code h hn (KN hv) (show ((w.2.1[i]).1, ()) ∈ ms by rw [← Yw]; exact List.getElem_mem hi) b0 a3 s3 d3; refine ⟨e, a', s', ?_, he, d'⟩; unfold ig; simp only [e1, e2, e3, Option.bind_some, aq, cond_true, aA, List.getElem?_eq_getElem hi, cH]; exact e4
theorem Dh {c : Int} {ms : dn} (h : Ge c ms) : pG c ms := ⟨⟨h.xJ, h.id2⟩, ⟨h.some_, h.len⟩, fun k hk _ => ⟨by have := h.rising.2.1 k hk; omega, fun h0 => h.rising.2.2 (k - 1) k (by omega) hk (by omega)⟩⟩
theorem Ip {c : Int} {ms : dn} (h : pG c ms) {id : Int} (zb : (id, ()) ∈ ms) : sJ (ow c ms id) := {
 ring := h
 mem := zb
 items := fun k hk => by cases hk
 texts := ⟨Nat.zero_le _, rfl⟩
 Pj := fun j hj => by cases hj
 short := fun j hj => by cases hj
 round := ⟨Int.le_refl _, show (0 : Int) ≤ 1000000000 by decide⟩
 seen := ⟨Int.le_refl _, show (0 : Int) ≤ 60 by decide⟩
 line := ⟨Int.le_refl _, Int.natCast_nonneg _⟩
 heard := ⟨Int.le_refl _, Int.natCast_nonneg _⟩
 last := .inl ⟨rfl, rfl, rfl, rfl, rfl, rfl⟩ }
def x3 (c : Int) : jU := (c, 1, 0, 0, 0, [], ())
theorem Gj {c : Int} {ms : dn} (h : pG c ms) : zK (x3 c) := ⟨h.1, ⟨show (1 : Int) ≤ 1 by decide, show (1 : Int) ≤ 1000000000 by decide⟩, ⟨show (0 : Int) ≤ 0 by decide, show (0 : Int) ≤ 60 by decide⟩, ⟨show (0 : Int) ≤ 0 by decide, show (0 : Int) ≤ 0 by decide⟩, ⟨show (0 : Int) ≤ 0 by decide, show (0 : Int) ≤ 5 by decide⟩, Nat.zero_le _, fun k hk => by cases hk⟩
def eH (c : Int) (ms : dn) (a : Int) : cG := (c, ms, ms.map fun m => ow c ms m.1, [kG a (x3 c)], List.replicate ms.length ([], ()), [], ())
theorem zC {c : Int} {ms : dn} (hr : pG c ms) : fv c ms = some ((eH c ms (ms[0]'hr.2.1.1).1).1, (eH c ms (ms[0]'hr.2.1.1).1).2.1, (eH c ms (ms[0]'hr.2.1.1).1).2.2.1, (eH c ms (ms[0]'hr.2.1.1).1).2.2.2.1, (eH c ms (ms[0]'hr.2.1.1).1).2.2.2.2.1, (eH c ms (ms[0]'hr.2.1.1).1).2.2.2.2.2.1, true, ()) := by
 have hl := hr.2.1.2; have N6 := hr.2.1.1; have h : ms.length ≤ 1048576 := by omega
 have r1 := (qf c ms h).1; rw [(qf c ms h).2.2.2 hr] at r1; have l1 := ek (round := eb) (e := .inl (c, ms, (0 : Int), [], [], [], [], [], c, ms, ms.map fun m => ow c ms m.1, [], List.replicate ms.length ([], ()), [], ())) ms.length (fun k => (c, ms, (0 : Int), [], [], [], [], [], c, ms, (ms.take k).map fun m => ow c ms m.1, [], List.replicate k ([], ()), [], ((k : Nat) : Int), ())) (by
   simp only [eb, iB, aF, cond_false, List.take_length]) (fun k hk => by
   simp only [eb, iB, az hk, aq, cond_true, aA, List.getElem?_eq_getElem hk, Option.bind_some, Ei c ms ms[k].1 h r1 (List.getElem_mem hk), List.length_map, List.length_take, List.length_replicate, Nat.min_eq_left (Nat.le_of_lt hk), aH (show (k + 1) * 208 ≤ lim by unfold lim; omega), aH (show (k + 1) * 24 ≤ lim by unfold lim; omega), aK (show k < 4611686018427387904 by omega)]; rw [map_take _ _ hk, List.replicate_succ']; rfl)
 have l1 : aE eb (c, ms, (0 : Int), [], [], [], [], [], c, ms, [], [], [], [], (0 : Int), ()) = _ := l1; unfold fv km; simp only [r1, Option.bind_some, Bool.not_true, cond_false, cond_true, aH (show (0 + ms.length) * 8 ≤ lim by unfold lim; omega), List.nil_append, l1, cq, List.getElem?_eq_getElem (show 0 < ms.length by omega)]; rfl
theorem BO {c : Int} {ms : dn} (hr : pG c ms) (a : Int) : eD 0 c ms (eH c ms a) := {
 ring := hr
 self := ⟨rfl, rfl⟩
 len := by show (ms.map _).length = _; rw [List.length_map]
 ids := fun k hk hm => by
   have hk : k < (ms.map fun m => ow c ms m.1).length := hk; show ((ms.map fun m => ow c ms m.1)[k]).1 = _; rw [List.getElem_map]; rfl
 Co := fun m hm => by
   have hm : m ∈ ms.map fun m => ow c ms m.1 := hm
   obtain ⟨x, hx, rfl⟩ := List.mem_map.1 hm; exact ⟨Ip hr hx, rfl, rfl⟩
 yD := fun f hf => by
   have hf : f ∈ [kG a (x3 c)] := hf; rw [List.mem_singleton] at hf; subst hf; exact BM (Gj hr)
 Ef := by show 1 ≤ _; omega
 heard := by show (List.replicate _ _).length = _; rw [List.length_replicate]
 list := fun x hx => by
   have hx : x ∈ List.replicate ms.length (([], ()) : aI × Unit) := hx; rw [List.mem_replicate] at hx; rw [hx.2]; exact Nat.zero_le _
 said := ⟨fun x hx => (by cases hx), Nat.zero_le _⟩ }
theorem Gk {c : Int} {ms : dn} (hr : pG c ms) : mW 1 0 ms (eH c ms (ms[0]'hr.2.1.1).1) := {
 yD := fun f hf => by
   have hf : f ∈ [kG (ms[0]'hr.2.1.1).1 (x3 c)] := hf; rw [List.mem_singleton] at hf; subst hf; exact ⟨fun _ => ⟨1, Nat.le_refl _, Nat.le_refl _, rfl, ⟨ms[0]'hr.2.1.1, by rw [Nat.sub_self, Nat.zero_mod]; exact List.getElem?_eq_getElem hr.2.1.1, rfl⟩, fun _ => rfl⟩, fun e => (by cases e)⟩
 pK := fun k hk => by
   have hk : k < (ms.map fun m => ow c ms m.1).length := hk; show uE 1 0 ms.length k (ms.map fun m => ow c ms m.1)[k]; rw [List.getElem_map]; exact ⟨fun x hx => (by cases hx), 0, rfl, by omega, fun r _ _ => by omega, .inl ⟨rfl, rfl, rfl, rfl, rfl, rfl⟩⟩
 said := fun x hx => by cases hx }
theorem Py (code : List (Int × Unit)) (h : code.length ≤ 1048576) : ∃ n : Nat, n6 code = some (((n : Nat) : Int), ()) ∧ n ≤ 89 := by
 have e : Int.tdiv ((List.length code : Nat) : Int) 4 = ((code.length / 4 : Nat) : Int) := rfl; unfold n6; rw [e, ft (show -9223372036854775808 ≤ ((code.length / 4 : Nat) : Int) by omega) (by omega), ft (show -9223372036854775808 ≤ 24 + ((code.length / 4 : Nat) : Int) by omega) (by omega)]
 by_cases g : 89 < 24 + code.length / 4
 · rw [ah (show (89 : Int) < 24 + ((code.length / 4 : Nat) : Int) by omega)]; exact ⟨89, rfl, Nat.le_refl _⟩
 · rw [ai (show ¬ (89 : Int) < 24 + ((code.length / 4 : Nat) : Int) by omega)]; exact ⟨24 + code.length / 4, rfl, by omega⟩
theorem Pz (code : List (Int × Unit)) (a s : Int) (d : dY code a) (hc : code.length ≤ 1048576) : ∃ (c : Int) (ms : dn) (sZ : List Em) (a' s' : Int), og code a s code = some (c, ms, sZ, code, a', s', ()) ∧ Ge c ms ∧ sZ.length ≤ 89 ∧ (∀ e ∈ sZ, Gi ms e) ∧ dY code a' := by
 obtain ⟨c, ms, a1, s1, e1, hv, _, _, d1⟩ := Ii code a s d; have hr := Dh hv; obtain ⟨n, e2, hn⟩ := Py code hc; obtain ⟨e, he, a', s', sZ, rfl, q1, q2, d'⟩ := eo (round := fT) (x := (code, a1, s1, code, (0 : Int), [], [], c, ms, [], (eH c ms (ms[0]'hr.2.1.1).1).1, (eH c ms (ms[0]'hr.2.1.1).1).2.1, (eH c ms (ms[0]'hr.2.1.1).1).2.2.1, (eH c ms (ms[0]'hr.2.1.1).1).2.2.2.1, (eH c ms (ms[0]'hr.2.1.1).1).2.2.2.2.1, (eH c ms (ms[0]'hr.2.1.1).1).2.2.2.2.2.1, ((0 : Nat) : Int), ())) n
   (fun k x => ∃ (a s : Int) (sZ : List Em) (w : cG), x = (code, a, s, code, (0 : Int), [], [], c, ms, sZ, w.1, w.2.1, w.2.2.1, w.2.2.2.1, w.2.2.2.2.1, w.2.2.2.2.2.1, ((k : Nat) : Int), ()) ∧ eD k c ms w ∧ sZ.length = k ∧ (∀ e ∈ sZ, Gi ms e) ∧ dY code a)
   (fun e => ∃ (a s : Int) (sZ : List Em), e = .inl (code, a, s, (0 : Int), [], [], c, ms, sZ, ()) ∧ sZ.length = n ∧ (∀ e ∈ sZ, Gi ms e) ∧ dY code a) (by
     rintro x ⟨a, s, sZ, w, rfl, hw, q1, q2, d⟩
     exact ⟨_, by simp only [fT, nB, e2, Option.bind_some, aF, cond_false], a, s, sZ, rfl, q1, q2, d⟩) (by
     rintro k x hk ⟨a, s, sZ, w, rfl, hw, q1, q2, d⟩
     obtain ⟨e, a1, s1, e3, he, d1⟩ := Uf code a s d hw (by omega); obtain ⟨b, w', e4, Vh, _⟩ := I8 hw (by omega) he; refine .inr ⟨(code, a1, s1, code, (0 : Int), [], [], c, ms, sZ ++ [e], w'.1, w'.2.1, w'.2.2.1, w'.2.2.2.1, w'.2.2.2.2.1, w'.2.2.2.2.2.1, ((k + 1 : Nat) : Int), ()), ?_, a1, s1, sZ ++ [e], w', rfl, Vh, by rw [List.length_append, q1]; rfl, fun x hx => ?_, d1⟩
     · simp only [fT, nB, e2, Option.bind_some, az hk, cond_true, e3, e4, aH (show (sZ.length + 1) * 48 ≤ lim by rw [q1]; unfold lim; omega), aK (show k < 4611686018427387904 by omega)]
     · rcases List.mem_append.1 hx with hx | hx
       · exact q2 x hx
       · rw [List.mem_singleton] at hx; subst hx; exact he) ⟨a1, s1, [], _, rfl, BO hr _, rfl, fun e he => (by cases he), d1⟩
 have he : aE fT (code, a1, s1, code, (0 : Int), [], [], c, ms, [], (eH c ms (ms[0]'hr.2.1.1).1).1, (eH c ms (ms[0]'hr.2.1.1).1).2.1, (eH c ms (ms[0]'hr.2.1.1).1).2.2.1, (eH c ms (ms[0]'hr.2.1.1).1).2.2.2.1, (eH c ms (ms[0]'hr.2.1.1).1).2.2.2.2.1, (eH c ms (ms[0]'hr.2.1.1).1).2.2.2.2.2.1, (0 : Int), ()) = _ := he; refine ⟨c, ms, sZ, a', s', ?_, hv, by omega, q2, d'⟩; unfold og; simp only [e1, Option.bind_some, zC hr, he, cq]
theorem N0 {n : Nat} {c : Int} {ms : dn} {w : cG} (h : eD n c ms w) (hn : n ≤ 1000) : lA w.1 w.2.1 w.2.2.1 w.2.2.2.1 w.2.2.2.2.1 w.2.2.2.2.2.1 = some (w.1, w.2.1, w.2.2.1, w.2.2.2.1, w.2.2.2.2.1, w.2.2.2.2.2.1, ()) := by
 obtain ⟨q0, q1, q2⟩ := h.Il; have hf := h.Ef; have hs := h.said.2; have hh := h.heard; have XY := h.list; have l1 := ek (round := fU) (e := .inl (w.1, w.2.1, w.2.2.1, w.2.2.2.1, w.2.2.2.2.1, w.2.2.2.2.2.1, (0 : Int), [], [], [], [], [], w.1, w.2.1, w.2.2.1, [], [], w.2.2.2.2.2.1, ())) w.2.2.1.length (fun k => (w.1, w.2.1, w.2.2.1, w.2.2.2.1, w.2.2.2.2.1, w.2.2.2.2.2.1, (0 : Int), [], [], [], [], [], w.1, w.2.1, w.2.2.1.take k, [], [], w.2.2.2.2.2.1, ((k : Nat) : Int), ())) (by
   simp only [fU, nC, aF, cond_false, List.take_length]) (fun k hk => by
   have hc := (kQ (w.2.2.1[k]).1 (w.2.2.1[k]).2.1 (w.2.2.1[k]).2.2.1 (w.2.2.1[k]).2.2.2.1 (w.2.2.1[k]).2.2.2.2.1 (w.2.2.1[k]).2.2.2.2.2.1 (w.2.2.1[k]).2.2.2.2.2.2.1 (w.2.2.1[k]).2.2.2.2.2.2.2.1 (w.2.2.1[k]).2.2.2.2.2.2.2.2.1 (w.2.2.1[k]).2.2.2.2.2.2.2.2.2.1 (w.2.2.1[k]).2.2.2.2.2.2.2.2.2.2.1 (w.2.2.1[k]).2.2.2.2.2.2.2.2.2.2.2.1 (w.2.2.1[k]).2.2.2.2.2.2.2.2.2.2.2.2.1 (w.2.2.1[k]).2.2.2.2.2.2.2.2.2.2.2.2.2.1 (w.2.2.1[k]).2.2.2.2.2.2.2.2.2.2.2.2.2.2.1 (w.2.2.1[k]).2.2.2.2.2.2.2.2.2.2.2.2.2.2.2.1 (Nat.le_trans (h.Co _ (List.getElem_mem hk)).1.small (by decide))).1; simp only [fU, nC, az hk, aq, cond_true, aA, List.getElem?_eq_getElem hk, Option.bind_some, hc, List.length_take, aH (show (min k w.2.2.1.length + 1) * 208 ≤ lim by unfold lim; omega), aK (show k < 4611686018427387904 by omega)]; rw [List.take_succ_eq_append_getElem hk])
 have l1 : aE fU (w.1, w.2.1, w.2.2.1, w.2.2.2.1, w.2.2.2.2.1, w.2.2.2.2.2.1, (0 : Int), [], [], [], [], [], w.1, w.2.1, [], [], [], w.2.2.2.2.2.1, (0 : Int), ()) = _ := l1; have l2 := ek (round := fV) (e := .inl (w.1, w.2.1, w.2.2.1, w.2.2.2.1, w.2.2.2.2.1, w.2.2.2.2.2.1, (0 : Int), [], [], [], [], [], w.1, w.2.1, w.2.2.1, w.2.2.2.1, [], w.2.2.2.2.2.1, ())) w.2.2.2.1.length (fun k => (w.1, w.2.1, w.2.2.1, w.2.2.2.1, w.2.2.2.2.1, w.2.2.2.2.2.1, (0 : Int), [], [], [], [], [], w.1, w.2.1, w.2.2.1, w.2.2.2.1.take k, [], w.2.2.2.2.2.1, ((k : Nat) : Int), ())) (by
   simp only [fV, nF, aF, cond_false, List.take_length]) (fun k hk => by
   have hc := (iq (w.2.2.2.1[k]).2.2.1 (w.2.2.2.1[k]).2.2.2.1 (w.2.2.2.1[k]).2.2.2.2.1 (w.2.2.2.1[k]).2.2.2.2.2.1 (w.2.2.2.1[k]).2.2.2.2.2.2.1 (w.2.2.2.1[k]).2.2.2.2.2.2.2.1 (Nat.le_trans (h.yD _ (List.getElem_mem hk)).Ef (by decide))).1; simp only [fV, nF, az hk, aq, cond_true, aA, List.getElem?_eq_getElem hk, Option.bind_some, hc, List.length_take, aH (show (min k w.2.2.2.1.length + 1) * 120 ≤ lim by unfold lim; omega), aK (show k < 4611686018427387904 by omega)]; rw [List.take_succ_eq_append_getElem hk])
 have l2 : aE fV (w.1, w.2.1, w.2.2.1, w.2.2.2.1, w.2.2.2.2.1, w.2.2.2.2.2.1, (0 : Int), [], [], [], [], [], w.1, w.2.1, w.2.2.1, [], [], w.2.2.2.2.2.1, (0 : Int), ()) = _ := l2; have l3 := ek (round := fe) (e := .inl ((0 : Int), [], [], [], [], [], w.1, w.2.1, w.2.2.1, w.2.2.2.1, w.2.2.2.2.1, w.2.2.2.2.2.1, ())) w.2.2.2.2.1.length (fun k => (w.1, w.2.1, w.2.2.1, w.2.2.2.1, w.2.2.2.2.1, w.2.2.2.2.2.1, (0 : Int), [], [], [], [], [], w.1, w.2.1, w.2.2.1, w.2.2.2.1, w.2.2.2.2.1.take k, w.2.2.2.2.2.1, ((k : Nat) : Int), ())) (by
   simp only [fe, iI, aF, cond_false, List.take_length]) (fun k hk => by
   have hx := XY _ (List.getElem_mem hk); simp only [fe, iI, az hk, aq, cond_true, aA, List.getElem?_eq_getElem hk, Option.bind_some, List.length_take, List.nil_append, aH (show (0 + (w.2.2.2.2.1[k]).1.length) * 40 ≤ lim by unfold lim; omega), aH (show (min k w.2.2.2.2.1.length + 1) * 24 ≤ lim by unfold lim; omega), aK (show k < 4611686018427387904 by omega)]; rw [List.take_succ_eq_append_getElem hk])
 have l3 : aE fe (w.1, w.2.1, w.2.2.1, w.2.2.2.1, w.2.2.2.2.1, w.2.2.2.2.2.1, (0 : Int), [], [], [], [], [], w.1, w.2.1, w.2.2.1, w.2.2.2.1, [], w.2.2.2.2.2.1, (0 : Int), ()) = _ := l3; unfold lA; simp only [aH (show (0 + w.2.1.length) * 8 ≤ lim by unfold lim; omega), aH (show (0 + w.2.2.2.2.2.1.length) * 40 ≤ lim by unfold lim; omega), cond_true, List.nil_append, l1, l2, l3, cq, Option.bind_some]
theorem Ug {c : Int} {ms : dn} (hr : pG c ms) (sZ : List Em) (hl : sZ.length ≤ 89) (he : ∀ e ∈ sZ, Gi ms e) : ∃ (w : cG) (qh : dn), oh c ms sZ = some (w.1, w.2.1, w.2.2.1, w.2.2.2.1, w.2.2.2.2.1, w.2.2.2.2.2.1, qh, true, ()) ∧ eD sZ.length c ms w ∧ ∃ R S, mW R S ms w := by
 generalize hw0 : eH c ms (ms[0]'hr.2.1.1).1 = w0; have hW0 : eD 0 c ms w0 := by rw [← hw0]; exact BO hr _
 have hR0 : mW 1 0 ms w0 := by rw [← hw0]; exact Gk hr
 have e0 : fv c ms = some (w0.1, w0.2.1, w0.2.2.1, w0.2.2.2.1, w0.2.2.2.2.1, w0.2.2.2.2.2.1, true, ()) := by rw [← hw0]; exact zC hr
 have l1 := ek (round := fW) (e := .inl (sZ, (0 : Int), [], [], [], [], [], w0.1, w0.2.1, w0.2.2.1, w0.2.2.2.1, w0.2.2.2.2.1, w0.2.2.2.2.2.1, true, ())) sZ.length (fun k => (sZ, c, ms, (0 : Int), [], [], [], [], [], w0.1, w0.2.1, w0.2.2.1, w0.2.2.2.1, w0.2.2.2.2.1, w0.2.2.2.2.2.1, true, ((k : Nat) : Int), ())) (by
   simp only [fW, nH, aF, cond_false]) (fun k hk => by
   simp only [fW, nH, az hk, cond_true, ah (show ((List.length sZ : Nat) : Int) ≤ 90 by omega), aq, aA, List.getElem?_eq_getElem hk, Option.bind_some, kh hr (he _ (List.getElem_mem hk)), aK (show k < 4611686018427387904 by omega)])
 have l1 : aE fW (sZ, c, ms, (0 : Int), [], [], [], [], [], w0.1, w0.2.1, w0.2.2.1, w0.2.2.2.1, w0.2.2.2.2.1, w0.2.2.2.2.2.1, true, (0 : Int), ()) = _ := l1; obtain ⟨e, l2, w, qh, rfl, hw, hR⟩ := eo (round := fX) (x := (sZ, (0 : Int), [], [], [], [], [], w0.1, w0.2.1, w0.2.2.1, w0.2.2.2.1, w0.2.2.2.2.1, w0.2.2.2.2.2.1, [], ((0 : Nat) : Int), ())) sZ.length
   (fun k x => ∃ (w : cG) (qh : dn), x = (sZ, (0 : Int), [], [], [], [], [], w.1, w.2.1, w.2.2.1, w.2.2.2.1, w.2.2.2.2.1, w.2.2.2.2.2.1, qh, ((k : Nat) : Int), ()) ∧ eD k c ms w ∧ qh.length = k ∧ ∃ R S, mW R S ms w)
   (fun e => ∃ (w : cG) (qh : dn), e = .inl ((0 : Int), [], [], [], [], [], w.1, w.2.1, w.2.2.1, w.2.2.2.1, w.2.2.2.2.1, w.2.2.2.2.2.1, qh, ()) ∧ eD sZ.length c ms w ∧ ∃ R S, mW R S ms w) (by
     rintro x ⟨w, qh, rfl, hw, q, hR⟩
     exact ⟨_, by simp only [fX, nI, aF, cond_false], w, qh, rfl, hw, hR⟩) (by
     rintro k x hk ⟨w, qh, rfl, hw, q, R, S, hR⟩
     obtain ⟨b, w', e1, Vh, yL⟩ := I8 hw (by omega) (he _ (List.getElem_mem hk)); refine .inr ⟨(sZ, (0 : Int), [], [], [], [], [], w'.1, w'.2.1, w'.2.2.1, w'.2.2.2.1, w'.2.2.2.2.1, w'.2.2.2.2.2.1, qh ++ [(b, ())], ((k + 1 : Nat) : Int), ()), ?_, w', _, rfl, Vh, by rw [List.length_append, q]; rfl, yL R S hR⟩; simp only [fX, nI, az hk, cond_true, aq, aA, List.getElem?_eq_getElem hk, Option.bind_some, e1, aH (show (qh.length + 1) * 8 ≤ lim by rw [q]; unfold lim; omega), aK (show k < 4611686018427387904 by omega)]) ⟨w0, [], rfl, hW0, rfl, 1, 0, hR0⟩
 have l2 : aE fX (sZ, (0 : Int), [], [], [], [], [], w0.1, w0.2.1, w0.2.2.1, w0.2.2.2.1, w0.2.2.2.2.1, w0.2.2.2.2.2.1, [], (0 : Int), ()) = _ := l2; refine ⟨w, qh, ?_, hw, hR⟩; unfold oh; simp only [e0, Option.bind_some, l1, cq, Bool.not_true, cond_false, l2, N0 hw (by omega)]
theorem N1 (code : List (Int × Unit)) (a s : Int) (d : dY code a) (hc : code.length ≤ 1048576) : ∃ (w : cG) (a' s' : Int) (n : Nat) (c : Int) (ms : dn), ka code a s code = some (w.1, w.2.1, w.2.2.1, w.2.2.2.1, w.2.2.2.2.1, w.2.2.2.2.2.1, code, a', s', ()) ∧ eD n c ms w ∧ n ≤ 89 ∧ dY code a' ∧ ∃ R S, mW R S ms w := by
 obtain ⟨c, ms, sZ, a', s', e1, hv, hl, he, d'⟩ := Pz code a s d hc; obtain ⟨w, qh, e2, hw, hR⟩ := Ug (Dh hv) sZ hl he; refine ⟨w, a', s', sZ.length, c, ms, ?_, hw, hl, d', hR⟩; unfold ka; simp only [e1, Option.bind_some, e2]
def eI : jU := (0, 0, 0, 0, 0, [], ())
theorem Gl (code : List (Int × Unit)) (hc : code.length ≤ 1048576) : ∃ (w : cG) (n : Nat) (c : Int) (ms : dn) (m : ee) (t : jU), gD code = some (m.1, m.2.1, m.2.2.1, m.2.2.2.1, m.2.2.2.2.1, m.2.2.2.2.2.1, m.2.2.2.2.2.2.1, m.2.2.2.2.2.2.2.1, m.2.2.2.2.2.2.2.2.1, m.2.2.2.2.2.2.2.2.2.1, m.2.2.2.2.2.2.2.2.2.2.1, m.2.2.2.2.2.2.2.2.2.2.2.1, m.2.2.2.2.2.2.2.2.2.2.2.2.1, m.2.2.2.2.2.2.2.2.2.2.2.2.2.1, m.2.2.2.2.2.2.2.2.2.2.2.2.2.2.1, m.2.2.2.2.2.2.2.2.2.2.2.2.2.2.2.1, t.1, t.2.1, t.2.2.1, t.2.2.2.1, t.2.2.2.2.1, t.2.2.2.2.2.1, ()) ∧ eD n c ms w ∧ n ≤ 89 ∧ m ∈ w.2.2.1 ∧ ((∃ f ∈ w.2.2.2.1, f.2.1 = true ∧ f.1 = m.1 ∧ t = (f.2.2.1, f.2.2.2.1, f.2.2.2.2.1, f.2.2.2.2.2.1, f.2.2.2.2.2.2.1, f.2.2.2.2.2.2.2.1, ())) ∨ t = eI) ∧ ∃ R S, mW R S ms w := by
 obtain ⟨s0, e0⟩ := Ue code hc; obtain ⟨w, a, s, n, c, ms, e1, hw, hn, d, hR⟩ := N1 code 0 s0 ⟨by omega, by omega, hc⟩ hc; obtain ⟨q0, q1, q2⟩ := hw.Il; have hf := hw.Ef; have h1 : 1 ≤ w.2.2.1.length := by rw [hw.len]; exact hw.ring.2.1.1
 obtain ⟨e, he, hq⟩ := eo (round := dC) (x := (aW.1, aW.2.1, aW.2.2.1, aW.2.2.2.1, aW.2.2.2.2.1, aW.2.2.2.2.2.1, aW.2.2.2.2.2.2.1, aW.2.2.2.2.2.2.2.1, aW.2.2.2.2.2.2.2.2.1, aW.2.2.2.2.2.2.2.2.2.1, aW.2.2.2.2.2.2.2.2.2.2.1, aW.2.2.2.2.2.2.2.2.2.2.2.1, aW.2.2.2.2.2.2.2.2.2.2.2.2.1, aW.2.2.2.2.2.2.2.2.2.2.2.2.2.1, aW.2.2.2.2.2.2.2.2.2.2.2.2.2.2.1, aW.2.2.2.2.2.2.2.2.2.2.2.2.2.2.2.1, eI.1, eI.2.1, eI.2.2.1, eI.2.2.2.1, eI.2.2.2.2.1, eI.2.2.2.2.2.1, code, a, s, w.1, w.2.1, w.2.2.1, w.2.2.2.1, w.2.2.2.2.1, w.2.2.2.2.2.1, ((0 : Nat) : Int), ())) w.2.2.2.1.length
   (fun k x => ∃ a s, x = (aW.1, aW.2.1, aW.2.2.1, aW.2.2.2.1, aW.2.2.2.2.1, aW.2.2.2.2.2.1, aW.2.2.2.2.2.2.1, aW.2.2.2.2.2.2.2.1, aW.2.2.2.2.2.2.2.2.1, aW.2.2.2.2.2.2.2.2.2.1, aW.2.2.2.2.2.2.2.2.2.2.1, aW.2.2.2.2.2.2.2.2.2.2.2.1, aW.2.2.2.2.2.2.2.2.2.2.2.2.1, aW.2.2.2.2.2.2.2.2.2.2.2.2.2.1, aW.2.2.2.2.2.2.2.2.2.2.2.2.2.2.1, aW.2.2.2.2.2.2.2.2.2.2.2.2.2.2.2.1, eI.1, eI.2.1, eI.2.2.1, eI.2.2.2.1, eI.2.2.2.2.1, eI.2.2.2.2.2.1, code, a, s, w.1, w.2.1, w.2.2.1, w.2.2.2.1, w.2.2.2.2.1, w.2.2.2.2.2.1, ((k : Nat) : Int), ()) ∧ dY code a)
   (fun e => (∃ a s, e = .inl (aW.1, aW.2.1, aW.2.2.1, aW.2.2.2.1, aW.2.2.2.2.1, aW.2.2.2.2.2.1, aW.2.2.2.2.2.2.1, aW.2.2.2.2.2.2.2.1, aW.2.2.2.2.2.2.2.2.1, aW.2.2.2.2.2.2.2.2.2.1, aW.2.2.2.2.2.2.2.2.2.2.1, aW.2.2.2.2.2.2.2.2.2.2.2.1, aW.2.2.2.2.2.2.2.2.2.2.2.2.1, aW.2.2.2.2.2.2.2.2.2.2.2.2.2.1, aW.2.2.2.2.2.2.2.2.2.2.2.2.2.2.1, aW.2.2.2.2.2.2.2.2.2.2.2.2.2.2.2.1, eI.1, eI.2.1, eI.2.2.1, eI.2.2.2.1, eI.2.2.2.2.1, eI.2.2.2.2.2.1, code, a, s, w.1, w.2.1, w.2.2.1, w.2.2.2.1, w.2.2.2.2.1, w.2.2.2.2.2.1, ()) ∧ dY code a) ∨ (∃ (m : ee) (t : jU), e = .inr (m.1, m.2.1, m.2.2.1, m.2.2.2.1, m.2.2.2.2.1, m.2.2.2.2.2.1, m.2.2.2.2.2.2.1, m.2.2.2.2.2.2.2.1, m.2.2.2.2.2.2.2.2.1, m.2.2.2.2.2.2.2.2.2.1, m.2.2.2.2.2.2.2.2.2.2.1, m.2.2.2.2.2.2.2.2.2.2.2.1, m.2.2.2.2.2.2.2.2.2.2.2.2.1, m.2.2.2.2.2.2.2.2.2.2.2.2.2.1, m.2.2.2.2.2.2.2.2.2.2.2.2.2.2.1, m.2.2.2.2.2.2.2.2.2.2.2.2.2.2.2.1, t.1, t.2.1, t.2.2.1, t.2.2.2.1, t.2.2.2.2.1, t.2.2.2.2.2.1, ()) ∧ m ∈ w.2.2.1 ∧ ∃ f ∈ w.2.2.2.1, f.2.1 = true ∧ f.1 = m.1 ∧ t = (f.2.2.1, f.2.2.2.1, f.2.2.2.2.1, f.2.2.2.2.2.1, f.2.2.2.2.2.2.1, f.2.2.2.2.2.2.2.1, ()))) (by
     rintro x ⟨a, s, rfl, d⟩
     exact ⟨_, by simp only [dC, gV, aF, cond_false], .inl ⟨a, s, rfl, d⟩⟩) (by
     rintro k x hk ⟨a, s, rfl, d⟩
     obtain ⟨i, e2, hi⟩ := Ij w (by omega) (w.2.2.2.1[k]).1; simp only [dC, gV, az hk, aq, cond_true, aA, List.getElem?_eq_getElem hk, Option.bind_some, e2, aK (show k < 4611686018427387904 by omega)]
     cases ht : (w.2.2.2.1[k]).2.1
     · exact .inr ⟨_, rfl, a, s, rfl, d⟩
     · rcases hi with ⟨rfl, _⟩ | ⟨j, hj, rfl, zb⟩
       · exact .inr ⟨_, rfl, a, s, rfl, d⟩
       · obtain ⟨o, a2, s2, e3, d2⟩ := Eh code a s 3 d (by omega); rw [cond_true, aq, cond_true, e3, Option.bind_some, cond_true, aA, List.getElem?_eq_getElem hj, Option.bind_some]
         cases o
         · exact .inl ⟨_, rfl, .inr ⟨w.2.2.1[j], ((w.2.2.2.1[k]).2.2.1, (w.2.2.2.1[k]).2.2.2.1, (w.2.2.2.1[k]).2.2.2.2.1, (w.2.2.2.1[k]).2.2.2.2.2.1, (w.2.2.2.1[k]).2.2.2.2.2.2.1, (w.2.2.2.1[k]).2.2.2.2.2.2.2.1, ()), rfl, List.getElem_mem hj, w.2.2.2.1[k], List.getElem_mem hk, ht, zb.symm, rfl⟩⟩
         · exact .inr ⟨_, rfl, a2, s2, rfl, d2⟩) ⟨a, s, rfl, d⟩
 have he : aE dC ((0 : Int), (0 : Int), [], [], [], [], (0 : Int), (0 : Int), (0 : Int), (0 : Int), (0 : Int), (0 : Int), (0 : Int), (0 : Int), (0 : Int), [], (0 : Int), (0 : Int), (0 : Int), (0 : Int), (0 : Int), [], code, a, s, w.1, w.2.1, w.2.2.1, w.2.2.2.1, w.2.2.2.2.1, w.2.2.2.2.2.1, (0 : Int), ()) = some e := he; unfold gD; simp only [e0, e1, Option.bind_some, he, cq]; rcases hq with ⟨a', s', rfl, d'⟩ | ⟨m, t, rfl, hm, ht⟩
 · obtain ⟨i, a2, s2, e2, i0, i1, d2⟩ := mU code a' s' ((List.length w.2.2.1 : Nat) : Int) d' (by omega); obtain ⟨i, rfl⟩ := Int.eq_ofNat_of_zero_le i0; have hi : i < w.2.2.1.length := by omega
   refine ⟨w, n, c, ms, w.2.2.1[i], eI, ?_, hw, hn, List.getElem_mem hi, .inr rfl, hR⟩; simp only [e2, Option.bind_some, aq, cond_true, aA, List.getElem?_eq_getElem hi]; rfl
 · exact ⟨w, n, c, ms, m, t, rfl, hw, hn, hm, .inl ht, hR⟩
theorem BP (l : aI) (h : l.length ≤ 1048576) : lE l l = some (true, ()) := by
 have hl := ek (round := eU) (e := .inl ()) l.length (fun k => (l, l, ((k : Nat) : Int), ())) (by
     simp only [eU, lD, aF, cond_false]) (fun k hk => by
     simp only [eU, lD, az hk, aq, cond_true, cond_false, aA, List.getElem?_eq_getElem hk, Option.bind_some, decide_true, vP, Bool.and_self, Bool.not_true, aK (show k < 4611686018427387904 by omega)])
 have hl : aE eU (l, l, (0 : Int), ()) = _ := hl; unfold lE; simp only [decide_true, Bool.not_true, cond_false, hl, iz]
theorem Di {x : db} : {xs : aI} → H7 xs → x ∈ xs → cE xs x.1 = some x
 | [], _, h => by cases h
 | r :: xs, hs, h => by
   unfold H7 at hs; rw [List.pairwise_cons] at hs; unfold cE; rw [List.find?_cons]; rcases List.mem_cons.1 h with rfl | h
   · rw [ah rfl]
   · have := hs.1 x h; rw [ai (show ¬ r.1 = x.1 by omega)]; exact Di hs.2 h
theorem N2 {n : Nat} {R : Nat} {S : Int} {c : Int} {ms : dn} {w : cG} (h : eD n c ms w) (hR : mW R S ms w) {m : ee} (rF : m ∈ w.2.2.1) {t : jU} (PA : (∃ f ∈ w.2.2.2.1, f.2.1 = true ∧ f.1 = m.1 ∧ t = (f.2.2.1, f.2.2.2.1, f.2.2.2.2.1, f.2.2.2.2.2.1, f.2.2.2.2.2.2.1, f.2.2.2.2.2.2.2.1, ())) ∨ t = eI) (hT : zK t) {m' : ee} {said : aI} {j : Nat} {nx : jU} (H : Ub m t m' said j nx) (hr : m.2.2.2.2.2.2.1 < t.2.1) : ∀ x ∈ said, cE m'.2.2.2.1 x.1 = some x := by
 intro x hx; refine Di (H8 H.nq.items) ?_; rcases PA with ⟨f, hf, ht, Pv, rfl⟩ | rfl
 · obtain ⟨k, hk, rfl⟩ := List.mem_iff_getElem.1 rF; obtain ⟨_, _, _, r4⟩ := Dg h hR (hR.yD f hf) ht hk Pv.symm hr; rw [H.items]; rw [H.said] at hx; rcases List.mem_append.1 hx with hx | hx
   · exact uC _ (BH hx)
   · rw [BL _ (fun g hg y hy => ?_) (Cn j)]
     · exact List.mem_append_right _ hx
     · obtain ⟨i, hi, rfl⟩ := sL hg; have := (hR.pK k hk).items y hy; show y.1 < f.2.2.2.2.1 + ((i + 1 : Nat) : Int); omega
 · have := hT.1.1; have : (1 : Int) ≤ 0 := this; omega
theorem KO (code : List (Int × Unit)) : sD code = some (true, ()) := by
 unfold sD Bf
 by_cases hb : (1048576 : Int) < ((List.length code : Nat) : Int)
 · rw [ah hb]; rfl
 rw [ai hb]; obtain ⟨w, nn, c, ms, m, t, e1, hw, _, rF, PA, R, S, hR⟩ := Gl code (by omega); have hm := (hw.Co m rF).1; have hW : xR m ≤ 1048576 := Nat.le_trans hm.small (by decide); have Pc : t.2.2.2.2.2.1.length ≤ 1048576 := by
   rcases PA with ⟨f, hf, _, _, rfl⟩ | rfl
   · exact Nat.le_trans (hw.yD f hf).Ef (by decide)
   · exact Nat.zero_le _
 have q1 := (pI m hW).2.1; rw [(pI m hW).2.2.2 hm] at q1; simp only [Option.bind_some, cond_false, e1]
 cases hh : zA m t
 · obtain ⟨e2, e3⟩ := Eg m t hW Pc hh; have e4 := BP [] (Nat.zero_le _); unfold gZ; rw [e2, e3]; simp only [Option.bind_some, beq_self_eq_true, Bool.not_true, cond_false, e4, q1, Bool.not_false, cond_true]; rfl
 · have Uh := hh; unfold zA at Uh; simp only [Bool.and_eq_true, decide_eq_true_eq] at Uh; have hT := (uz t Pc).2.2.1 Uh.2.1; obtain ⟨n, said, k, nx, H, e2, e3⟩ := I5 m t hm hT Uh.2.2.1 Uh.2.2.2.1 Uh.2.2.2.2; have ac0 := N2 hw hR rF PA hT H Uh.2.2.2.1; have UY : xR n ≤ 1048576 := Nat.le_trans H.nq.small (by decide); have hni := (cf _ H.nq.items).1; have Oz : zA n t = false := by
     unfold zA; rw [H.round.1, ai (show ¬ t.2.1 < t.2.1 by omega)]; simp
   obtain ⟨f2, _⟩ := Eg n t UY Pc Oz; have q2 := (pI n UY).2.1; rw [(pI n UY).2.2.2 H.nq] at q2; have XZ : nx.2.2.2.2.2.1.length ≤ 1048576 := Nat.le_trans H.tq.2.2.2.2.2.1 (by decide); have q3 := (uz nx XZ).2.1; rw [(uz nx XZ).2.2.2 H.tq] at q3; have hs : said.length ≤ 63 := by
     rw [H.said, List.length_append, lG]; have h1 := BI t m.2.2.2.1; have h2 := (cf _ hm.items).1; have h3 := H.Ef.1; omega
   have e4 := BP said (by omega); have YL : m.2.2.2.1.length ≤ n.2.2.2.1.length := by rw [H.items]; exact Dc _ _
   have hr := hT.2.1; have ha := (wO n.2.2.2.1 (by omega)).1; have l1 := ek (round := ff) (e := .inl (t.1, t.2.1, t.2.2.1, t.2.2.2.1, t.2.2.2.2.1, t.2.2.2.2.2.1, n.1, n.2.1, n.2.2.1, n.2.2.2.1, n.2.2.2.2.1, n.2.2.2.2.2.1, n.2.2.2.2.2.2.1, n.2.2.2.2.2.2.2.1, n.2.2.2.2.2.2.2.2.1, n.2.2.2.2.2.2.2.2.2.1, n.2.2.2.2.2.2.2.2.2.2.1, n.2.2.2.2.2.2.2.2.2.2.2.1, n.2.2.2.2.2.2.2.2.2.2.2.2.1, n.2.2.2.2.2.2.2.2.2.2.2.2.2.1, n.2.2.2.2.2.2.2.2.2.2.2.2.2.2.1, n.2.2.2.2.2.2.2.2.2.2.2.2.2.2.2.1, ())) said.length (fun j => (t.1, t.2.1, t.2.2.1, t.2.2.2.1, t.2.2.2.2.1, t.2.2.2.2.2.1, n.1, n.2.1, n.2.2.1, n.2.2.2.1, n.2.2.2.2.1, n.2.2.2.2.2.1, n.2.2.2.2.2.2.1, n.2.2.2.2.2.2.2.1, n.2.2.2.2.2.2.2.2.1, n.2.2.2.2.2.2.2.2.2.1, n.2.2.2.2.2.2.2.2.2.2.1, n.2.2.2.2.2.2.2.2.2.2.2.1, n.2.2.2.2.2.2.2.2.2.2.2.2.1, n.2.2.2.2.2.2.2.2.2.2.2.2.2.1, n.2.2.2.2.2.2.2.2.2.2.2.2.2.2.1, n.2.2.2.2.2.2.2.2.2.2.2.2.2.2.2.1, said, ((j : Nat) : Int), ())) (by
     simp only [ff, iL, aF, cond_false]) (fun j hj => by
     have h1 := mT n.2.2.2.1 (said[j]).1 (by omega); rw [ac0 _ (List.getElem_mem hj)] at h1; simp only [ff, iL, az hj, mE hj, aq, cond_true, aA, List.getElem?_eq_getElem hj, Option.bind_some, h1, lF, decide_true, vP, Bool.and_self, Bool.not_true, cond_false, aK (show j < 4611686018427387904 by omega)])
   have l1 : aE ff (t.1, t.2.1, t.2.2.1, t.2.2.2.1, t.2.2.2.2.1, t.2.2.2.2.2.1, n.1, n.2.1, n.2.2.1, n.2.2.2.1, n.2.2.2.2.1, n.2.2.2.2.2.1, n.2.2.2.2.2.2.1, n.2.2.2.2.2.2.2.1, n.2.2.2.2.2.2.2.2.1, n.2.2.2.2.2.2.2.2.2.1, n.2.2.2.2.2.2.2.2.2.2.1, n.2.2.2.2.2.2.2.2.2.2.2.1, n.2.2.2.2.2.2.2.2.2.2.2.2.1, n.2.2.2.2.2.2.2.2.2.2.2.2.2.1, n.2.2.2.2.2.2.2.2.2.2.2.2.2.2.1, n.2.2.2.2.2.2.2.2.2.2.2.2.2.2.2.1, said, (0 : Int), ()) = _ := l1; have g1 : gZ m.1 m.2.1 m.2.2.1 m.2.2.2.1 m.2.2.2.2.1 m.2.2.2.2.2.1 m.2.2.2.2.2.2.1 m.2.2.2.2.2.2.2.1 m.2.2.2.2.2.2.2.2.1 m.2.2.2.2.2.2.2.2.2.1 m.2.2.2.2.2.2.2.2.2.2.1 m.2.2.2.2.2.2.2.2.2.2.2.1 m.2.2.2.2.2.2.2.2.2.2.2.2.1 m.2.2.2.2.2.2.2.2.2.2.2.2.2.1 m.2.2.2.2.2.2.2.2.2.2.2.2.2.2.1 m.2.2.2.2.2.2.2.2.2.2.2.2.2.2.2.1 t.1 t.2.1 t.2.2.1 t.2.2.2.1 t.2.2.2.2.1 t.2.2.2.2.2.1 = some (n.1, n.2.1, n.2.2.1, n.2.2.2.1, n.2.2.2.2.1, n.2.2.2.2.2.1, n.2.2.2.2.2.2.1, n.2.2.2.2.2.2.2.1, n.2.2.2.2.2.2.2.2.1, n.2.2.2.2.2.2.2.2.2.1, n.2.2.2.2.2.2.2.2.2.2.1, n.2.2.2.2.2.2.2.2.2.2.2.1, n.2.2.2.2.2.2.2.2.2.2.2.2.1, n.2.2.2.2.2.2.2.2.2.2.2.2.2.1, n.2.2.2.2.2.2.2.2.2.2.2.2.2.2.1, n.2.2.2.2.2.2.2.2.2.2.2.2.2.2.2.1, said, nx.1, nx.2.1, nx.2.2.1, nx.2.2.2.1, nx.2.2.2.2.1, nx.2.2.2.2.2.1, true, ()) := by
     unfold gZ; rw [e2]; rfl
   rw [g1, e3]; have g2 : ∃ z, gZ n.1 n.2.1 n.2.2.1 n.2.2.2.1 n.2.2.2.2.1 n.2.2.2.2.2.1 n.2.2.2.2.2.2.1 n.2.2.2.2.2.2.2.1 n.2.2.2.2.2.2.2.2.1 n.2.2.2.2.2.2.2.2.2.1 n.2.2.2.2.2.2.2.2.2.2.1 n.2.2.2.2.2.2.2.2.2.2.2.1 n.2.2.2.2.2.2.2.2.2.2.2.2.1 n.2.2.2.2.2.2.2.2.2.2.2.2.2.1 n.2.2.2.2.2.2.2.2.2.2.2.2.2.2.1 n.2.2.2.2.2.2.2.2.2.2.2.2.2.2.2.1 t.1 t.2.1 t.2.2.1 t.2.2.2.1 t.2.2.2.2.1 t.2.2.2.2.2.1 = some z ∧ z.2.2.2.2.2.2.2.2.2.2.2.2.2.2.2.2.2.2.2.2.2.2.2.1 = false := by
     unfold gZ; rw [f2]; exact ⟨_, rfl, rfl⟩
   obtain ⟨z, g2, g3⟩ := g2; simp only [Option.bind_some, beq_self_eq_true, Bool.not_true, cond_false, e4, q1, g2, g3, q2, q3, l1, cq, ha]; rw [ai (show ¬ n.2.2.2.2.2.2.2.2.1 < m.2.2.2.2.2.2.2.2.1 by have := H.round.2.2.1; omega), ai (show ¬ nx.2.2.1 < t.2.2.1 by have := H.next.2.2; omega), ft (show -9223372036854775808 ≤ t.2.1 + 1 by omega) (by omega), ah H.next.2.1, ah H.next.1, ai (show ¬ ((List.length n.2.2.2.1 : Nat) : Int) < ((List.length m.2.2.2.1 : Nat) : Int) by omega), ah H.nq.line.2, ah H.round.1]; rfl
end Go.TM
